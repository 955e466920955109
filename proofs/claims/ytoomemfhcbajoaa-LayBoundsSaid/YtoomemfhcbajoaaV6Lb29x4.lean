/- Lay: plan: a turn is a step. -/
import Derived.Test.YtoomemfhcbajoaaV6Lb27x2
set_option linter.unusedVariables false
set_option linter.unusedSimpArgs false
set_option maxRecDepth 100000
section
namespace Go.Eng
open Go.Proofs
theorem Dz:∀ b,(4,b) ∈ aI (part Try.f85 [1,1,1,1,1,1,1,0,0])→b=.loop (part Try.f85 [1,1,1,1,1,1,1,0,0,1,0,1,0,0,0]):=ep (by kernel_rfl)
theorem Ht:∀ b,(6,b) ∈ aI (part Try.f85 [1,1,1,1,1,1,1,0,0])→b=.loop (part Try.f85 [1,1,1,1,1,1,1,0,0,1,0,1,1,0,1,0,0]):=ep (by kernel_rfl)
section
variable (n s l k:Nat) (t d g z f:Nat→Int) (h T:Int) (w:Nat→Bool) (G G2:aa)
theorem No (q:Nat) (o:Nat→Int) (he:dD (ay (fp l z w (q+1))) 0=o) (hq:q<1000) (hh:h=((q+1:Nat):Int)) (hc:0<cn w l) (hr:∀ j,j<q+1→∃ i,kK z (bx l z w j).2 l=some i) (hl:l≤30) (ho:∀ j,j<q+1→0≤o j∧o j<l) (ht:∀ i,i<l→t i<l) (hz:∀ i,i<l→1≤z i) (hf:∀ j,j<q+1→∀ i,i<l→-900≤(cX t o (f,(bx l z w (q+1)).2) j).1 i∧(cX t o (f,(bx l z w (q+1)).2) j).1 i≤900) (hv:∀ j,j<q+1→∀ i,i<l→(cX t o (f,(bx l z w (q+1)).2) j).2 i=true→(cX t o (f,(bx l z w (q+1)).2) j).1 i≤0) (hy:∀ L:aT,L.lock=false→cd (n+2) (.round 1 2) [b6 (q+1) o false] (L::G)=some (.bool true,L::G2)) :
 ∃ x,exec (bn (n+2) 85 118) (part Try.f85 [1,1,1,1,1,1,1,0,0]) (fZ 2 s l t k d g h) (bW (s+1) l t k d g T z f (hW l z w) (gW l z w) (cn w l)::G)=some x∧(x.1=.normal∧tidy (al (bW (s+1) l t k d g T z f (hW l z w) (gW l z w) (cn w l)::G)) x.2.1 x.2.2=(fZ 2 s l t k d g h++[(117,.bool false)],bW (s+1) l t k d g T z (cX t o (f,(bx l z w (q+1)).2) (q+1)).1 (hW l z (cX t o (f,(bx l z w (q+1)).2) (q+1)).2) (gW l z (cX t o (f,(bx l z w (q+1)).2) (q+1)).2) (cn (cX t o (f,(bx l z w (q+1)).2) (q+1)).2 l)::G2)):=by
 have h4:=Jt n 2 s l k t d g z f h T w G q hq hh hr
 have h6:=Jr (n+2) 2 s l k t d g z f h T (bx l z w (q+1)).2 G q (q+1) o (by omega) hl ho ht hz hf hv
 subst he
 refine aB (Lq (n+2) s l k t d g z f (cX t (dD (ay (fp l z w (q+1))) 0) (f,(bx l z w (q+1)).2) (q+1)).1 (hW l z w) (hW l z (bx l z w (q+1)).2) (hW l z (cX t (dD (ay (fp l z w (q+1))) 0) (f,(bx l z w (q+1)).2) (q+1)).2) (gW l z w) (gW l z (bx l z w (q+1)).2) (gW l z (cX t (dD (ay (fp l z w (q+1))) 0) (f,(bx l z w (q+1)).2) (q+1)).2) (cn w l) (cn (bx l z w (q+1)).2 l) (cn (cX t (dD (ay (fp l z w (q+1))) 0) (f,(bx l z w (q+1)).2) (q+1)).2 l) h T q (q+1) (ay (fp l z w (q+1))) G G2 true) (tV (ao _) (fun x hx=>by rw[← Tr.ab hx];exact hy _ rfl)) (aA (aA (af _ _) Ht (fun x hx=>bN hx h6)) Dz (fun x hx=>bN hx h4)) (ag _ _) ?_
 clear h4 h6 hf hv ho hy hr
 generalize (cX t (dD (ay (fp l z w (q+1))) 0) (f,(bx l z w (q+1)).2) (q+1))=M at *
 generalize cn w l=C at hc ⊢
 generalize hW l z w=A at *
 generalize gW l z w=B at *
 exact wF
theorem Np (q:Nat) (o:Nat→Int) (he:dD (ay (fp l z w (q+1))) 0=o) (hq:q<1000) (hh:h=((q+1:Nat):Int)) (hc:0<cn w l) (hr:∀ j,j<q+1→∃ i,kK z (bx l z w j).2 l=some i) (hl:l≤30) (ho:∀ j,j<q+1→0≤o j∧o j<l) (ht:∀ i,i<l→t i<l) (hz:∀ i,i<l→1≤z i) (hf:∀ j,j<q+1→∀ i,i<l→-900≤(cX t o (f,(bx l z w (q+1)).2) j).1 i∧(cX t o (f,(bx l z w (q+1)).2) j).1 i≤900) (hv:∀ j,j<q+1→∀ i,i<l→(cX t o (f,(bx l z w (q+1)).2) j).2 i=true→(cX t o (f,(bx l z w (q+1)).2) j).1 i≤0) (hy:∀ L:aT,L.lock=false→cd (n+2) (.round 1 2) [b6 (q+1) o false] (L::G)=some (.bool true,L::G2)) :
 ∃ x,exec (bn (n+2) 85 118) (part Try.f85 [1,1,1,1,1,1,1,0,0]) (fZ 2 s l t k d g h++[(117,.bool false)]) (bW (s+1) l t k d g T z f (hW l z w) (gW l z w) (cn w l)::G)=some x∧(x.1=.normal∧tidy (al (bW (s+1) l t k d g T z f (hW l z w) (gW l z w) (cn w l)::G)) x.2.1 x.2.2=(fZ 2 s l t k d g h++[(117,.bool false)],bW (s+1) l t k d g T z (cX t o (f,(bx l z w (q+1)).2) (q+1)).1 (hW l z (cX t o (f,(bx l z w (q+1)).2) (q+1)).2) (gW l z (cX t o (f,(bx l z w (q+1)).2) (q+1)).2) (cn (cX t o (f,(bx l z w (q+1)).2) (q+1)).2 l)::G2)):=by
 have h4:=Jt n 2 s l k t d g z f h T w G q hq hh hr
 have h6:=Jr (n+2) 2 s l k t d g z f h T (bx l z w (q+1)).2 G q (q+1) o (by omega) hl ho ht hz hf hv
 subst he
 refine aB (Lr (n+2) s l k t d g z f (cX t (dD (ay (fp l z w (q+1))) 0) (f,(bx l z w (q+1)).2) (q+1)).1 (hW l z w) (hW l z (bx l z w (q+1)).2) (hW l z (cX t (dD (ay (fp l z w (q+1))) 0) (f,(bx l z w (q+1)).2) (q+1)).2) (gW l z w) (gW l z (bx l z w (q+1)).2) (gW l z (cX t (dD (ay (fp l z w (q+1))) 0) (f,(bx l z w (q+1)).2) (q+1)).2) (cn w l) (cn (bx l z w (q+1)).2 l) (cn (cX t (dD (ay (fp l z w (q+1))) 0) (f,(bx l z w (q+1)).2) (q+1)).2 l) h T q (q+1) (ay (fp l z w (q+1))) G G2 true) (tV (ao _) (fun x hx=>by rw[← Tr.ab hx];exact hy _ rfl)) (aA (aA (af _ _) Ht (fun x hx=>bN hx h6)) Dz (fun x hx=>bN hx h4)) (ag _ _) ?_
 clear h4 h6 hf hv ho hy hr
 generalize (cX t (dD (ay (fp l z w (q+1))) 0) (f,(bx l z w (q+1)).2) (q+1))=M at *
 generalize cn w l=C at hc ⊢
 generalize hW l z w=A at *
 generalize gW l z w=B at *
 exact wF
theorem Nq (q:Nat) (o:Nat→Int) (he:dD (ay (fp l z w (q+1))) 0=o) (hq:q<1000) (hh:((q+1:Nat):Int)<h) (hn:kK z (bx l z w (q+1)).2 l=none) (hc:0<cn w l) (hr:∀ j,j<q+1→∃ i,kK z (bx l z w j).2 l=some i) (hl:l≤30) (ho:∀ j,j<q+1→0≤o j∧o j<l) (ht:∀ i,i<l→t i<l) (hz:∀ i,i<l→1≤z i) (hf:∀ j,j<q+1→∀ i,i<l→-900≤(cX t o (f,(bx l z w (q+1)).2) j).1 i∧(cX t o (f,(bx l z w (q+1)).2) j).1 i≤900) (hv:∀ j,j<q+1→∀ i,i<l→(cX t o (f,(bx l z w (q+1)).2) j).2 i=true→(cX t o (f,(bx l z w (q+1)).2) j).1 i≤0) (hy:∀ L:aT,L.lock=false→cd (n+2) (.round 1 2) [b6 (q+1) o false] (L::G)=some (.bool true,L::G2)) :
 ∃ x,exec (bn (n+2) 85 118) (part Try.f85 [1,1,1,1,1,1,1,0,0]) (fZ 2 s l t k d g h) (bW (s+1) l t k d g T z f (hW l z w) (gW l z w) (cn w l)::G)=some x∧(x.1=.normal∧tidy (al (bW (s+1) l t k d g T z f (hW l z w) (gW l z w) (cn w l)::G)) x.2.1 x.2.2=(fZ 2 s l t k d g h++[(117,.bool false)],bW (s+1) l t k d g T z (cX t o (f,(bx l z w (q+1)).2) (q+1)).1 (hW l z (cX t o (f,(bx l z w (q+1)).2) (q+1)).2) (gW l z (cX t o (f,(bx l z w (q+1)).2) (q+1)).2) (cn (cX t o (f,(bx l z w (q+1)).2) (q+1)).2 l)::G2)):=by
 have h4:=Ju n 2 s l k t d g z f h T w G q hq hh hn hr
 have h6:=Js (n+2) 2 s l k t d g z f h T (bx l z w (q+1)).2 G q (q+1) o (by omega) hl ho ht hz hf hv
 subst he
 refine aB (Ls (n+2) s l k t d g z f (cX t (dD (ay (fp l z w (q+1))) 0) (f,(bx l z w (q+1)).2) (q+1)).1 (hW l z w) (hW l z (bx l z w (q+1)).2) (hW l z (cX t (dD (ay (fp l z w (q+1))) 0) (f,(bx l z w (q+1)).2) (q+1)).2) (gW l z w) (gW l z (bx l z w (q+1)).2) (gW l z (cX t (dD (ay (fp l z w (q+1))) 0) (f,(bx l z w (q+1)).2) (q+1)).2) (cn w l) (cn (bx l z w (q+1)).2 l) (cn (cX t (dD (ay (fp l z w (q+1))) 0) (f,(bx l z w (q+1)).2) (q+1)).2 l) h T q (q+1) (ay (fp l z w (q+1))) G G2 true) (tV (ao _) (fun x hx=>by rw[← Tr.ab hx];exact hy _ rfl)) (aA (aA (af _ _) Ht (fun x hx=>bN hx h6)) Dz (fun x hx=>bN hx h4)) (ag _ _) ?_
 clear h4 h6 hf hv ho hy hr
 generalize (cX t (dD (ay (fp l z w (q+1))) 0) (f,(bx l z w (q+1)).2) (q+1))=M at *
 generalize cn w l=C at hc ⊢
 generalize hW l z w=A at *
 generalize gW l z w=B at *
 exact wF
theorem Nr (q:Nat) (o:Nat→Int) (he:dD (ay (fp l z w (q+1))) 0=o) (hq:q<1000) (hh:((q+1:Nat):Int)<h) (hn:kK z (bx l z w (q+1)).2 l=none) (hc:0<cn w l) (hr:∀ j,j<q+1→∃ i,kK z (bx l z w j).2 l=some i) (hl:l≤30) (ho:∀ j,j<q+1→0≤o j∧o j<l) (ht:∀ i,i<l→t i<l) (hz:∀ i,i<l→1≤z i) (hf:∀ j,j<q+1→∀ i,i<l→-900≤(cX t o (f,(bx l z w (q+1)).2) j).1 i∧(cX t o (f,(bx l z w (q+1)).2) j).1 i≤900) (hv:∀ j,j<q+1→∀ i,i<l→(cX t o (f,(bx l z w (q+1)).2) j).2 i=true→(cX t o (f,(bx l z w (q+1)).2) j).1 i≤0) (hy:∀ L:aT,L.lock=false→cd (n+2) (.round 1 2) [b6 (q+1) o false] (L::G)=some (.bool true,L::G2)) :
 ∃ x,exec (bn (n+2) 85 118) (part Try.f85 [1,1,1,1,1,1,1,0,0]) (fZ 2 s l t k d g h++[(117,.bool false)]) (bW (s+1) l t k d g T z f (hW l z w) (gW l z w) (cn w l)::G)=some x∧(x.1=.normal∧tidy (al (bW (s+1) l t k d g T z f (hW l z w) (gW l z w) (cn w l)::G)) x.2.1 x.2.2=(fZ 2 s l t k d g h++[(117,.bool false)],bW (s+1) l t k d g T z (cX t o (f,(bx l z w (q+1)).2) (q+1)).1 (hW l z (cX t o (f,(bx l z w (q+1)).2) (q+1)).2) (gW l z (cX t o (f,(bx l z w (q+1)).2) (q+1)).2) (cn (cX t o (f,(bx l z w (q+1)).2) (q+1)).2 l)::G2)):=by
 have h4:=Ju n 2 s l k t d g z f h T w G q hq hh hn hr
 have h6:=Js (n+2) 2 s l k t d g z f h T (bx l z w (q+1)).2 G q (q+1) o (by omega) hl ho ht hz hf hv
 subst he
 refine aB (Lt (n+2) s l k t d g z f (cX t (dD (ay (fp l z w (q+1))) 0) (f,(bx l z w (q+1)).2) (q+1)).1 (hW l z w) (hW l z (bx l z w (q+1)).2) (hW l z (cX t (dD (ay (fp l z w (q+1))) 0) (f,(bx l z w (q+1)).2) (q+1)).2) (gW l z w) (gW l z (bx l z w (q+1)).2) (gW l z (cX t (dD (ay (fp l z w (q+1))) 0) (f,(bx l z w (q+1)).2) (q+1)).2) (cn w l) (cn (bx l z w (q+1)).2 l) (cn (cX t (dD (ay (fp l z w (q+1))) 0) (f,(bx l z w (q+1)).2) (q+1)).2 l) h T q (q+1) (ay (fp l z w (q+1))) G G2 true) (tV (ao _) (fun x hx=>by rw[← Tr.ab hx];exact hy _ rfl)) (aA (aA (af _ _) Ht (fun x hx=>bN hx h6)) Dz (fun x hx=>bN hx h4)) (ag _ _) ?_
 clear h4 h6 hf hv ho hy hr
 generalize (cX t (dD (ay (fp l z w (q+1))) 0) (f,(bx l z w (q+1)).2) (q+1))=M at *
 generalize cn w l=C at hc ⊢
 generalize hW l z w=A at *
 generalize gW l z w=B at *
 exact wF
end
end Go.Eng
end
section
namespace Go.Eng
def Nn (l:Nat) (f:Nat→Int):Nat:=cn (fun i=>decide (0<f i)) l
theorem Fj {p q:Nat→Bool} (h:∀ i,p i=true→q i=true→False):∀ l,cn p l+cn q l≤l
 | 0=>Nat.le_refl _
 | l + 1=>by
   have ih:=Fj h l
   show (cn p l+(p l).toNat)+(cn q l+(q l).toNat)≤l+1
   cases a:p l with
   | true =>
     cases b:q l with
     | true=>exact (h l a b).elim
     | false=>show cn p l+1+(cn q l+0)≤l+1;omega
   | false =>
     cases b:q l with
     | true=>show cn p l+0+(cn q l+1)≤l+1;omega
     | false=>show cn p l+0+(cn q l+0)≤l+1;omega
structure yl (l P:Nat) (b:Int) (st:(Nat→Int)×(Nat→Bool)):Prop where
 pot:Nn l st.1+cn st.2 l≤P
 off:∀ i,i<l→st.2 i=true→st.1 i≤0
 bd:∀ i,i<l→b≤st.1 i∧st.1 i≤30
theorem KI {l P:Nat} {b:Int} {t:Nat→Int} {st:(Nat→Int)×(Nat→Bool)} {c:Nat} (ht:t c<l) (h:yl l P b st):yl l P (b-1) (r6 t st c):=by
 obtain ⟨f,w⟩:=st
 unfold r6
 by_cases e:t c<0
 · rw[if_pos e]
   exact ⟨h.pot,h.off,fun i hi=>by have:=h.bd i hi;omega⟩
 · rw [if_neg e]
   obtain ⟨x,hx⟩:∃ x:Nat,t c=x:=⟨(t c).toNat,by omega⟩
   rw[hx,Int.toNat_natCast]
   have hxl:x<l:=by omega
   have hb:∀ i,i<l→b-1≤uI f x (f x-1) i∧uI f x (f x-1) i≤30:=fun i hi=>by
    have h1:=h.bd i hi
    have h2:=h.bd x hxl
    unfold uI
    dsimp only at h1 h2
    by_cases c:i=x
    · rw[if_pos c];omega
    · rw[if_neg c];omega
   by_cases e0:f x-1=0
   · have hw:w x=false:=by
      cases hw:w x with
      | false=>rfl
      | true=>have:=h.off x hxl hw;dsimp only at this;omega
     dsimp only
     rw[if_pos e0]
     refine ⟨?_,fun i hi hw=>?_,hb⟩
     · have h1:cn (jA w x) l=cn w l+1:=gT (p:=w) (q:=jA w x) (i:=x) hw (by unfold jA;rw[if_pos rfl]) (fun j _ hj=>by unfold jA;rw[if_neg hj]) hxl
       have h2:Nn l f=Nn l (uI f x (f x-1))+1:=gT (i:=x) (by show decide (0<uI f x (f x-1) x)=false;unfold uI;rw[if_pos rfl];exact decide_eq_false (by omega)) (by exact decide_eq_true (by omega)) (fun j _ hj=>by show decide (0<f j)=decide (0<uI f x (f x-1) j);unfold uI;rw[if_neg hj]) hxl
       have:=h.pot
       dsimp only at this ⊢
       omega
     · dsimp only at hw ⊢
       unfold uI
       by_cases c:i=x
       · rw[if_pos c];omega
       · rw[if_neg c]
         unfold jA at hw
         rw[if_neg c] at hw
         exact h.off i hi hw
   · dsimp only
     rw[if_neg e0]
     refine ⟨?_,fun i hi hw=>?_,hb⟩
     · have h2:Nn l (uI f x (f x-1))=Nn l f:=eT (fun j hj=>by
        unfold uI
        by_cases c:j=x
        · subst c;rw[if_pos rfl]
          exact decide_eq_decide.2 (by omega)
        · rw[if_neg c])
       have:=h.pot
       dsimp only at this ⊢
       omega
     · have:=h.off i hi hw
       dsimp only at this ⊢
       unfold uI
       by_cases c:i=x
       · subst c;rw[if_pos rfl];omega
       · rw[if_neg c];exact this
theorem F6 {l P:Nat} {b:Int} {t o:Nat→Int} {st:(Nat→Int)×(Nat→Bool)} (h:yl l P b st):∀ m,(∀ j,j<m→t (o j).toNat<l)→yl l P (b-m) (cX t o st m)
 | 0,_=>by
   refine ⟨h.pot,h.off,fun i hi=>?_⟩
   have:=h.bd i hi
   show b-((0:Nat):Int)≤st.1 i∧st.1 i≤30
   omega
 | m+1,hm=>by
   have:=KI (c:=(o m).toNat) (hm m (by omega)) (F6 h m (fun j hj=>hm j (by omega)))
   have e:b-((m+1:Nat):Int)=b-(m:Nat)-1:=by omega
   rw[e];exact this
theorem Kl {l P:Nat} {b:Int} {f:Nat→Int} {w:Nat→Bool} {i:Nat} (hi:i<l) (hw:w i=true) (h:yl l (P+1) b (f,w)):yl l P b (f,nz w i):=by
 refine ⟨?_,fun j hj hw=>?_,h.bd⟩
 · have:=gT (p:=nz w i) (q:=w) (i:=i) (n:=l) (by unfold nz;rw[if_pos rfl]) hw (fun j _ hj=>by unfold nz;rw[if_neg hj]) hi
   have h2:=h.pot
   dsimp only at h2 ⊢
   omega
 · dsimp only at hw ⊢
   unfold nz at hw
   by_cases c:j=i
   · rw[if_pos c] at hw;cases hw
   · rw[if_neg c] at hw
     exact h.off j hj hw
theorem JA {l P:Nat} {b:Int} {f z:Nat→Int} {w:Nat→Bool}:∀ r,(∀ j,j<r→∃ i,kK z (bx l z w j).2 l=some i)→yl l (P+r) b (f,w)→yl l P b (f,(bx l z w r).2)∧∀ i ∈ (bx l z w r).1,i<l
 | 0,_,h=>⟨h,fun i hi=>by cases hi⟩
 | r+1,hr,h=>by
   obtain ⟨i,hi⟩:=hr r (by omega)
   obtain ⟨h1,h2⟩:=m8 hi
   obtain ⟨h3,h4⟩:=JA (P:=P+1) r (fun j hj=>hr j (by omega)) (by rw[show P+1+r=P+(r+1) by omega];exact h)
   rw[fG hi]
   refine ⟨Kl h1 h2 h3,fun x hx=>?_⟩
   dsimp only at hx
   rcases List.mem_append.1 hx with hx | hx
   · exact h4 x hx
   · rw[List.mem_singleton.1 hx];exact h1
noncomputable def I2 (l:Nat) (t z:Nat→Int) (H:Nat) (st:(Nat→Int)×(Nat→Bool)):(Nat→Int)×(Nat→Bool):=cX t (ay (fp l z st.2 H)) (st.1,(bx l z st.2 H).2) (fp l z st.2 H).length
noncomputable def eQ (l:Nat) (t z:Nat→Int) (H:Nat) (f0:Nat→Int):Nat→(Nat→Int)×(Nat→Bool)
 | 0=>(f0,w0 f0 l)
 | m+1=>I2 l t z H (eQ l t z H f0 m)
noncomputable def Lj (l:Nat) (t z:Nat→Int) (H:Nat) (f0:Nat→Int) (m:Nat):List Int:=fp l z (eQ l t z H f0 m).2 H
theorem Ie (L:List Int) {j:Nat} (h:j<L.length):ay L j ∈ L:=by
 rw[iV]
 show L.getD j 0 ∈ L
 rw[List.getD_eq_getElem?_getD,List.getElem?_eq_getElem h]
 exact List.getElem_mem h
theorem K8 {l:Nat} {z:Nat→Int} {w:Nat→Bool} {r:Nat} (h:∀ i ∈ (bx l z w r).1,i<l) {j:Nat} (hj:j<(fp l z w r).length):0≤ay (fp l z w r) j∧ay (fp l z w r) j<l:=by
 have:=Ie _ hj
 obtain ⟨i,h1,h2⟩:=List.mem_map.1 this
 have:=h i h1
 rw[← h2];omega
theorem G5 {l P H:Nat} {t z:Nat→Int} {st:(Nat→Int)×(Nat→Bool)} (hl:l≤30) (ht:∀ i,i<l→t i<l) (hH:0<H) (hc:0<cn st.2 l) (h:yl l P ((P:Int)-l) st):∃ q,q+1≤H∧q+1≤P∧(∀ j,j<q+1→∃ i,kK z (bx l z st.2 j).2 l=some i)∧(q+1=H∨(q+1<H∧kK z (bx l z st.2 (q+1)).2 l=none))∧fp l z st.2 H=fp l z st.2 (q+1)∧(fp l z st.2 (q+1)).length=q+1∧I2 l t z H st=cX t (ay (fp l z st.2 (q+1))) (st.1,(bx l z st.2 (q+1)).2) (q+1)∧(∀ j,j<q+1→0≤ay (fp l z st.2 (q+1)) j∧ay (fp l z st.2 (q+1)) j<l)∧(∀ j,j≤q+1→yl l (P-(q+1)) (-l) (cX t (ay (fp l z st.2 (q+1))) (st.1,(bx l z st.2 (q+1)).2) j))∧yl l (P-(q+1)) (((P-(q+1):Nat):Int)-l) (I2 l t z H st):=by
 obtain ⟨r,h1,h2,h3,h4⟩:=mJ (l:=l) (z:=z) (w:=st.2) H
 have hr0:r≠0:=by
  rintro rfl
  rcases h4 with h4 | h4
  · omega
  · have hs:=ky z st.2 l
    have h4':kK z st.2 l=none:=h4
    rw[h4'] at hs
    have:=mW hs
    omega
 obtain ⟨q,rfl⟩:∃ q,r=q+1:=⟨r-1,by omega⟩
 have hlen:=tP (q+1) h2
 have hI:fp l z st.2 H=fp l z st.2 (q+1):=by unfold fp;rw[h3]
 have hcnt:∀ r,(∀ j,j<r→∃ i,kK z (bx l z st.2 j).2 l=some i)→cn (bx l z st.2 r).2 l+r=cn st.2 l:=by
  intro r
  induction r with
  | zero=>intro _;rfl
  | succ r ih =>
    intro hr
    obtain ⟨i,hi⟩:=hr r (by omega)
    obtain ⟨a1,a2⟩:=m8 hi
    have:=ih (fun j hj=>hr j (by omega))
    rw[fG hi]
    have:=gT (p:=nz (bx l z st.2 r).2 i) (q:=(bx l z st.2 r).2) (i:=i) (n:=l) (by unfold nz;rw[if_pos rfl]) a2 (fun j _ hj=>by unfold nz;rw[if_neg hj]) a1
    dsimp only
    omega
 have hqP:q+1≤P:=by
  have:=hcnt (q+1) h2
  have:=h.pot
  omega
 have hpk:=JA (P:=P-(q+1)) (f:=st.1) (b:=(P:Int)-l) (q+1) h2 (by rw[show P-(q+1)+(q+1)=P by omega];exact h)
 obtain ⟨k1,k2⟩:=hpk
 have ho:∀ j,j<q+1→0≤ay (fp l z st.2 (q+1)) j∧ay (fp l z st.2 (q+1)) j<l:=fun j hj=>K8 k2 (by omega)
 have hS:∀ j,j≤q+1→yl l (P-(q+1)) ((P:Int)-l-j) (cX t (ay (fp l z st.2 (q+1))) (st.1,(bx l z st.2 (q+1)).2) j):=fun j hj=>F6 k1 j (fun i hi=>ht _ (by have:=ho i (by omega);omega))
 have htu:I2 l t z H st=cX t (ay (fp l z st.2 (q+1))) (st.1,(bx l z st.2 (q+1)).2) (q+1):=by
  unfold I2
  rw[hI,hlen,h3]
 refine ⟨q,h1,hqP,h2,?_,hI,hlen,htu,ho,fun j hj=>?_,?_⟩
 · rcases h4 with h4 | h4
   · exact .inl h4
   · by_cases e:q+1=H
     · exact .inl e
     · exact .inr ⟨by omega,h4⟩
 · obtain ⟨a,b,c⟩:=hS j hj
   exact ⟨a,b,fun i hi=>by have:=c i hi;omega⟩
 · rw[htu]
   obtain ⟨a,b,c⟩:=hS (q+1) (by omega)
   exact ⟨a,b,fun i hi=>by have:=c i hi;omega⟩
theorem GV {l H:Nat} {t z f0:Nat→Int} (hl:l≤30) (ht:∀ i,i<l→t i<l) (hH:0<H) (h0:∀ i,i<l→0≤f0 i∧f0 i≤30):∃ M,M≤l∧(∀ m,m<M→0<cn (eQ l t z H f0 m).2 l)∧cn (eQ l t z H f0 M).2 l=0∧∀ m,m≤M→∃ P,P+m≤l∧yl l P ((P:Int)-l) (eQ l t z H f0 m):=by
 have hi0:yl l l ((l:Int)-l) (eQ l t z H f0 0):=by
  refine ⟨Fj (fun i a b=>?_) l,fun i hi hw=>?_,fun i hi=>?_⟩
  · have a:=of_decide_eq_true a
    have b:(decide (i<l) && decide (f0 i=0))=true:=b
    simp only[Bool.and_eq_true,decide_eq_true_eq] at b
    have:0<f0 i:=a
    omega
  · have b:(decide (i<l) && decide (f0 i=0))=true:=hw
    simp only[Bool.and_eq_true,decide_eq_true_eq] at b
    show f0 i≤0
    omega
  · have:=h0 i hi
    show (l:Int)-l≤f0 i∧f0 i≤30
    omega
 have key:∀ m,(∀ j,j<m→0<cn (eQ l t z H f0 j).2 l)→∃ P,P+m≤l∧yl l P ((P:Int)-l) (eQ l t z H f0 m):=by
  intro m
  induction m with
  | zero=>intro _;exact ⟨l,by omega,hi0⟩
  | succ m ih =>
    intro hm
    obtain ⟨P,p1,p2⟩:=ih (fun j hj=>hm j (by omega))
    obtain ⟨q,_,a2,_,_,_,_,_,_,_,a10⟩:=G5 (z:=z) hl ht hH (hm m (by omega)) p2
    exact ⟨P-(q+1),by omega,a10⟩
 have hex:∃ M,M≤l∧cn (eQ l t z H f0 M).2 l=0:=by
  apply Classical.byContradiction
  intro hno
  have hall:∀ m,m≤l→0<cn (eQ l t z H f0 m).2 l:=fun m hm=>by
   apply Classical.byContradiction
   intro hc
   exact hno ⟨m,hm,by omega⟩
  obtain ⟨P,p1,p2⟩:=key l (fun j hj=>hall j (by omega))
  have:=p2.pot
  have:=hall l (Nat.le_refl _)
  omega
 have hfind:∀ n,(∃ M,M≤n∧cn (eQ l t z H f0 M).2 l=0)→∃ M,M≤n∧(∀ m,m<M→0<cn (eQ l t z H f0 m).2 l)∧cn (eQ l t z H f0 M).2 l=0:=by
  intro n
  induction n with
  | zero =>
    rintro ⟨M,hM,hz⟩
    obtain rfl:M=0:=by omega
    exact ⟨0,by omega,fun m hm=>by omega,hz⟩
  | succ n ih =>
    rintro ⟨M,hM,hz⟩
    by_cases c:∃ M,M≤n∧cn (eQ l t z H f0 M).2 l=0
    · obtain ⟨M,a,b⟩:=ih c
      exact ⟨M,by omega,b⟩
    · have e:M=n+1:=by
       apply Classical.byContradiction
       intro hne
       exact c ⟨M,by omega,hz⟩
      subst e
      refine ⟨n+1,by omega,fun m hm=>?_,hz⟩
      apply Classical.byContradiction
      intro hc
      exact c ⟨m,by omega,by omega⟩
 obtain ⟨M,a,b,c⟩:=hfind l hex
 exact ⟨M,a,b,c,fun m hm=>key m (fun j hj=>b j (by omega))⟩
end Go.Eng
end
section
namespace Go.Eng
structure ED (l:Nat) (t:Nat→Int) (d e:Nat→Bool) (f:Nat→Int) (w:Nat→Bool):Prop where
 q1:∀ i,i<l→f i=(cn (fun x=>decide (t x=(i:Int)) && !e x) l:Nat)
 q2:∀ i,i<l→(w i=true↔d i=false∧f i=0)
 q3:∀ i,i<l→d i=true→f i=0
 q4:∀ i,e i=true→d i=true
theorem K7 {l:Nat} {t f:Nat→Int} {d e w:Nat→Bool} {i:Nat} (h:ED l t d e f w) (hi:i<l) (hw:w i=true):ED l t (jA d i) e f (nz w i):=by
 refine ⟨h.q1,fun j hj=>?_,fun j hj hd=>?_,fun j hj=>?_⟩
 · unfold jA nz
   by_cases c:j=i
   · rw[if_pos c,if_pos c];simp
   · rw[if_neg c,if_neg c];exact h.q2 j hj
 · unfold jA at hd
   by_cases c:j=i
   · subst c;exact ((h.q2 j hj).1 hw).2
   · rw[if_neg c] at hd;exact h.q3 j hj hd
 · unfold jA
   by_cases c:j=i
   · rw[if_pos c]
   · rw[if_neg c];exact h.q4 j hj
theorem MR {l:Nat} {t f:Nat→Int} {d e w:Nat→Bool} {c:Nat} (h:ED l t d e f w) (hc:c<l) (ht:t c<l) (hd:d c=true) (he:e c=false):ED l t d (jA e c) (r6 t (f,w) c).1 (r6 t (f,w) c).2:=by
 have h4:∀ i,jA e c i=true→d i=true:=fun i hi=>by
  unfold jA at hi
  by_cases k:i=c
  · rw[k];exact hd
  · rw[if_neg k] at hi;exact h.q4 i hi
 have hoff:∀ i:Nat,t c≠(i:Int)→cn (fun x=>decide (t x=(i:Int)) && !jA e c x) l=cn (fun x=>decide (t x=(i:Int)) && !e x) l:=fun i hi=>by
  refine eT (fun x hx=>?_)
  unfold jA
  by_cases k:x=c
  · subst k;rw[decide_eq_false hi];rfl
  · rw[if_neg k]
 unfold r6
 by_cases c0:t c<0
 · rw[if_pos c0]
   exact ⟨fun i hi=>by rw[hoff i (by omega)];exact h.q1 i hi,h.q2,h.q3,h4⟩
 · rw [if_neg c0]
   obtain ⟨x,hx⟩:∃ x:Nat,t c=x:=⟨(t c).toNat,by omega⟩
   have hxl:x<l:=by omega
   rw[hx,Int.toNat_natCast]
   have hset:cn (fun y=>decide (t y=(x:Int)) && !e y) l=cn (fun y=>decide (t y=(x:Int)) && !jA e c y) l+1:=gT (i:=c) (by unfold jA;rw[if_pos rfl];simp) (by rw[he,decide_eq_true hx];rfl) (fun j _ hj=>by unfold jA;rw[if_neg hj]) hc
   have hf:=h.q1 x hxl
   have hdx:d x=false:=by
    cases hdx:d x with
    | false=>rfl
    | true=>have:=h.q3 x hxl hdx;omega
   have hwx:w x=false:=by
    cases hw:w x with
    | false=>rfl
    | true=>have:=((h.q2 x hxl).1 hw).2;omega
   have h1:∀ i,i<l→uI f x (f x-1) i=(cn (fun y=>decide (t y=(i:Int)) && !jA e c y) l:Nat):=fun i hi=>by
    unfold uI
    by_cases k:i=x
    · subst k;rw[if_pos rfl];omega
    · rw[if_neg k,hoff i (by omega)];exact h.q1 i hi
   have h3:∀ i,i<l→d i=true→uI f x (f x-1) i=0:=fun i hi hdi=>by
    unfold uI
    by_cases k:i=x
    · subst k;rw[hdx] at hdi;cases hdi
    · rw[if_neg k];exact h.q3 i hi hdi
   refine ⟨h1,fun i hi=>?_,h3,h4⟩
   dsimp only
   by_cases k:i=x
   · subst k
     have e1:uI f i (f i-1) i=f i-1:=by unfold uI;rw[if_pos rfl]
     rw[e1]
     by_cases e0:f i-1=0
     · rw[if_pos e0]
       unfold jA
       rw[if_pos rfl]
       exact ⟨fun _=>⟨hdx,e0⟩,fun _=>rfl⟩
     · rw[if_neg e0,hwx]
       exact ⟨fun q=>absurd q (by decide),fun q=>absurd q.2 e0⟩
   · have e1:uI f x (f x-1) i=f i:=by unfold uI;rw[if_neg k]
     have e2:(if f x-1=0 then jA w x else w) i=w i:=by
      by_cases e0:f x-1=0
      · rw[if_pos e0];unfold jA;rw[if_neg k]
      · rw[if_neg e0]
     rw[e1,e2];exact h.q2 i hi
def yj (d:Nat→Bool) (L:List Nat):Nat→Bool:=fun i=>d i || decide (i ∈ L)
theorem CV (d:Nat→Bool):yj d []=d:=by funext i;unfold yj;simp
theorem CU (d:Nat→Bool) (L:List Nat) (i:Nat):jA (yj d L) i=yj d (L++[i]):=by
 funext j
 unfold jA yj
 by_cases c:j=i
 · rw[if_pos c];simp[c]
 · rw[if_neg c];simp[c]
theorem zY {l:Nat} {t f z:Nat→Int} {d w:Nat→Bool} (h:ED l t d d f w):∀ r,(∀ j,j<r→∃ i,kK z (bx l z w j).2 l=some i)→ED l t (yj d (bx l z w r).1) d f (bx l z w r).2∧(bx l z w r).1.Nodup∧∀ i ∈ (bx l z w r).1,i<l∧d i=false
 | 0,_=>⟨by show ED l t (yj d []) d f w;rw[CV];exact h,List.nodup_nil,fun i hi=>by cases hi⟩
 | r + 1,hr=>by
   obtain ⟨i,hi⟩:=hr r (by omega)
   obtain ⟨a1,a2⟩:=m8 hi
   obtain ⟨b1,b2,b3⟩:=zY h r (fun j hj=>hr j (by omega))
   rw[fG hi]
   dsimp only
   have hn:=((b1.q2 i a1).1 a2).1
   unfold yj at hn
   simp only[Bool.or_eq_false_iff,decide_eq_false_iff_not] at hn
   refine ⟨?_,?_,fun x hx=>?_⟩
   · rw[← CU];exact K7 b1 a1 a2
   · rw[List.nodup_append]
     refine ⟨b2,by simp,fun a ha b hb=>?_⟩
     rw[List.mem_singleton.1 hb]
     rintro rfl
     exact hn.2 ha
   · rcases List.mem_append.1 hx with hx | hx
     · exact b3 x hx
     · rw[List.mem_singleton.1 hx];exact ⟨a1,hn.1⟩
theorem F9 {l:Nat} {t f:Nat→Int} {d w:Nat→Bool} {L:List Nat} (ht:∀ i,i<l→t i<l) (h:ED l t (yj d L) d f w) (hn:L.Nodup) (hL:∀ i ∈ L,i<l∧d i=false):∀ j,j≤L.length→ED l t (yj d L) (yj d (L.take j)) (cX t (ay (L.map fun (i:Nat)=>(i:Int))) (f,w) j).1 (cX t (ay (L.map fun (i:Nat)=>(i:Int))) (f,w) j).2
 | 0,_=>by rw[List.take_zero,CV];exact h
 | j+1,hj=>by
   have ih:=F9 ht h hn hL j (by omega)
   have hj:j<L.length:=by omega
   have ho:(ay (L.map fun (i:Nat)=>(i:Int)) j).toNat=L[j]:=by
    rw[iV]
    show ((L.map fun (i:Nat)=>(i:Int)).getD j 0).toNat=_
    rw[List.getD_eq_getElem?_getD,List.getElem?_map,List.getElem?_eq_getElem hj]
    rfl
   have hm:L[j] ∈ L:=List.getElem_mem hj
   obtain ⟨c1,c2⟩:=hL _ hm
   have hnot:L[j] ∉ L.take j:=by
    intro hmem
    obtain ⟨k,hk,he⟩:=List.mem_iff_getElem.1 hmem
    rw[List.getElem_take] at he
    have hkj:k<j:=by rw[List.length_take] at hk;omega
    have:=(List.getElem_inj hn (h₀:=by omega) (h₁:=hj)).1 he
    omega
   have:=MR (c:=L[j]) ih c1 (ht _ c1) (by unfold yj;rw[decide_eq_true hm,Bool.or_true]) (by unfold yj;rw[c2,decide_eq_false hnot];rfl)
   rw[CU,show L.take j++[L[j]]=L.take (j+1) from (List.take_append_getElem hj)] at this
   show ED l t (yj d L) (yj d (L.take (j+1))) (r6 t (cX t _ (f,w) j) (ay (L.map fun (i:Nat)=>(i:Int)) j).toNat).1 (r6 t (cX t _ (f,w) j) (ay (L.map fun (i:Nat)=>(i:Int)) j).toNat).2
   rw[ho]
   exact this
noncomputable def dS (l:Nat) (t z:Nat→Int) (H:Nat) (f0:Nat→Int):Nat→Nat→Bool
 | 0=>fun _=>false
 | m+1=>yj (dS l t z H f0 m) (bx l z (eQ l t z H f0 m).2 H).1
theorem BI {l H:Nat} {t z f0:Nat→Int} (hl:l≤30) (ht:∀ i,i<l→t i<l) (h0:∀ i,i<l→f0 i=(cn (fun x=>decide (t x=(i:Int))) l:Nat)):∀ m,ED l t (dS l t z H f0 m) (dS l t z H f0 m) (eQ l t z H f0 m).1 (eQ l t z H f0 m).2
 | 0 => by
   refine ⟨fun i hi=>?_,fun i hi=>?_,fun i hi hd=>absurd hd (by show ¬ false=true;decide),fun i hi=>hi⟩
   · show f0 i=_
     rw[h0 i hi]
     exact congrArg _ (eT (fun x hx=>by show _=(decide (t x=(i:Int)) && !false);simp))
   · show (decide (i<l) && decide (f0 i=0))=true↔false=false∧f0 i=0
     simp only[Bool.and_eq_true,decide_eq_true_eq,true_and]
     exact ⟨fun h=>h.2,fun h=>⟨hi,h⟩⟩
 | m+1=>by
   have ih:=BI (z:=z) (H:=H) hl ht h0 m
   obtain ⟨r,h1,h2,h3,h4⟩:=mJ (l:=l) (z:=z) (w:=(eQ l t z H f0 m).2) H
   obtain ⟨a1,a2,a3⟩:=zY ih r h2
   have:=F9 ht a1 a2 a3 (bx l z (eQ l t z H f0 m).2 r).1.length (Nat.le_refl _)
   rw[List.take_length] at this
   show ED l t (yj _ (bx l z (eQ l t z H f0 m).2 H).1) (yj _ (bx l z (eQ l t z H f0 m).2 H).1) (I2 l t z H (eQ l t z H f0 m)).1 (I2 l t z H (eQ l t z H f0 m)).2
   unfold I2 fp
   rw[h3,List.length_map]
   exact this
end Go.Eng
end
section
namespace Go.Eng
theorem vC {p q:Nat→Bool} {n i:Nat} (h:∀ j,j<n→p j=true→q j=true) (hi:i<n) (h1:p i=false) (h2:q i=true):cn p n+1≤cn q n:=by
 have e:=gT (p:=p) (q:=jA p i) (i:=i) (n:=n) h1 (by unfold jA;rw[if_pos rfl]) (fun j _ hj=>by unfold jA;rw[if_neg hj]) hi
 rw[← e]
 refine kU (fun j hj hp=>?_)
 unfold jA at hp
 by_cases c:j=i
 · rw[c];exact h2
 · rw[if_neg c] at hp;exact h j hj hp
theorem Fl {l:Nat} {t:Nat→Int} {p q:Nat→Bool} (h:∀ c,c<l→p c=true→∃ y,y<l∧q y=true∧t y=(c:Int)):∀ n,n≤l→cn p n≤cn (fun y=>q y && decide (t y<(n:Int))) l
 | 0,_=>Nat.zero_le _
 | n + 1,hn=>by
   have ih:=Fl h n (by omega)
   have hm:cn (fun y=>q y && decide (t y<(n:Int))) l≤cn (fun y=>q y && decide (t y<((n+1:Nat):Int))) l:=kU (fun j hj hp=>by
    simp only[Bool.and_eq_true,decide_eq_true_eq] at hp ⊢
    exact ⟨hp.1,by omega⟩)
   show cn p n+(p n).toNat≤_
   cases hp:p n with
   | false=>show cn p n+0≤_;omega
   | true =>
     obtain ⟨y,y1,y2,y3⟩:=h n (by omega) hp
     have:=vC (p:=fun y=>q y && decide (t y<(n:Int))) (q:=fun y=>q y && decide (t y<((n+1:Nat):Int))) (n:=l) (i:=y) (fun j hj hp=>by
      simp only[Bool.and_eq_true,decide_eq_true_eq] at hp ⊢
      exact ⟨hp.1,by omega⟩) y1 (by rw[y2,decide_eq_false (by omega)];rfl) (by rw[y2,decide_eq_true (by omega)];rfl)
     show cn p n+1≤_
     omega
theorem A7 {l:Nat}:∀ {L:List Nat},L.Nodup→(∀ i ∈ L,i<l)→cn (fun i=>decide (i ∈ L)) l=L.length
 | [],_,_=>mW (fun j _=>by simp)
 | a::L,hn,hL=>by
   have hn2:=List.nodup_cons.1 hn
   have ih:=A7 hn2.2 (fun i hi=>hL i (List.mem_cons_of_mem _ hi))
   rw[gT (p:=fun i=>decide (i ∈ L)) (q:=fun i=>decide (i ∈ a::L)) (i:=a) (decide_eq_false hn2.1) (by simp) (fun j _ hj=>by simp[hj]) (hL a (by simp)),ih]
   rfl
section
variable {l H:Nat} {t z f0:Nat→Int}
noncomputable def rH (l:Nat) (t z:Nat→Int) (H:Nat) (f0:Nat→Int) (m:Nat):List Nat:=(bx l z (eQ l t z H f0 m).2 H).1
theorem se {w:Nat→Bool} (x:Nat):∀ r,(bx l z w r).2 x=true↔w x=true∧x ∉ (bx l z w r).1
 | 0=>by show w x=true↔w x=true∧x ∉ [];simp
 | r + 1=>by
   have ih:=se (w:=w) x r
   cases hm:kK z (bx l z w r).2 l with
   | none=>rw[pD hm];exact ih
   | some i =>
     rw[fG hm]
     dsimp only
     unfold nz
     by_cases c:x=i
     · rw[if_pos c];simp[c]
     · rw[if_neg c,ih];simp[c]
theorem pE {w:Nat→Bool}:∀ r,∀ i ∈ (bx l z w r).1,w i=true
 | 0,i,hi=>by cases hi
 | r + 1,i,hi=>by
   cases hm:kK z (bx l z w r).2 l with
   | none=>rw[pD hm] at hi;exact pE r i hi
   | some k =>
     rw[fG hm] at hi
     rcases List.mem_append.1 hi with hi | hi
     · exact pE r i hi
     · rw[List.mem_singleton.1 hi]
       exact ((se k r).1 (m8 hm).2).1
theorem Gz {w:Nat→Bool} {x:Nat} (hx:x<l) (hw:w x=true):∀ r,x ∉ (bx l z w r).1→∀ i ∈ (bx l z w r).1,z i≤z x
 | 0,_,i,hi=>by cases hi
 | r + 1,hn,i,hi=>by
   cases hm:kK z (bx l z w r).2 l with
   | none=>rw[pD hm] at hi hn;exact Gz hx hw r hn i hi
   | some k =>
     rw[fG hm] at hi hn
     dsimp only at hi hn
     have hn1:x ∉ (bx l z w r).1:=fun h=>hn (List.mem_append.2 (.inl h))
     rcases List.mem_append.1 hi with hi | hi
     · exact Gz hx hw r hn1 i hi
     · rw[List.mem_singleton.1 hi]
       have:=ky z (bx l z w r).2 l
       rw[hm] at this
       rcases this.2.2 x hx ((se x r).2 ⟨hw,hn1⟩) with h | h
       · omega
       · omega
theorem IC {w:Nat→Bool} {x:Nat} (hx:x<l) (hw:w x=true) (hn:x ∉ (bx l z w H).1):(bx l z w H).1.length=H:=by
 obtain ⟨r,h1,h2,h3,h4⟩:=mJ (l:=l) (z:=z) (w:=w) H
 rcases h4 with rfl | h4
 · have:=tP r h2
   unfold fp at this
   rw[List.length_map] at this
   exact this
 · have hs:=ky z (bx l z w r).2 l
   rw[h4] at hs
   rw[h3] at hn
   have:=hs x hx
   rw[(se x r).2 ⟨hw,hn⟩] at this
   cases this
theorem h9 {i:Nat} {m q:Nat} (h:m≤q) (hd:dS l t z H f0 m i=true):dS l t z H f0 q i=true:=by
 induction h with
 | refl=>exact hd
 | step _ ih=>show (dS l t z H f0 _ i || _)=true;rw[ih];rfl
theorem Gr (hl:l≤30) (ht:∀ i,i<l→t i<l) (h0:∀ i,i<l→f0 i=(cn (fun x=>decide (t x=(i:Int))) l:Nat)) (hz:∀ i,i<l→1≤z i) (hzt:∀ y i:Nat,y<l→i<l→t y=(i:Int)→z y≤z i-1)
 (hcr:∀ L:Nat,(∃ i,i<l∧z i=L)→cn (fun i=>decide (z i≤L)) l≤H*L):∀ (L:Nat) (x:Nat),x<l→z x=L→dS l t z H f0 L x=true:=by
 intro L
 induction L using Nat.strongRecOn with
 | ind L ihL =>
   intro x hx hzx
   cases hlate:dS l t z H f0 L x with
   | true=>rfl
   | false =>
     exfalso
     have hL1:1≤L:=by have:=hz x hx;omega
     have hq:=fun m=>BI (z:=z) (H:=H) (f0:=f0) hl ht h0 m
     have hrow:∀ m,(rH l t z H f0 m).Nodup∧∀ i ∈ rH l t z H f0 m,i<l∧dS l t z H f0 m i=false:=fun m=>by
      obtain ⟨r,h1,h2,h3,h4⟩:=mJ (l:=l) (z:=z) (w:=(eQ l t z H f0 m).2) H
      obtain ⟨_,a2,a3⟩:=zY (hq m) r h2
      unfold rH
      rw[h3]
      exact ⟨a2,a3⟩
     -- a turn with fewer takes all that wait
     have htake:∀ m,cn (fun i=>decide (i ∈ rH l t z H f0 m) && decide (z i≤L)) l<H→∀ c,c<l→z c≤L→(eQ l t z H f0 m).2 c=true→c ∈ rH l t z H f0 m:=by
      intro m hm c hc hzc hw
      apply Classical.byContradiction
      intro hn
      have hf:=IC (z:=z) (H:=H) hc hw hn
      have hle:=Gz (z:=z) hc hw H hn
      have e:cn (fun i=>decide (i ∈ rH l t z H f0 m) && decide (z i≤L)) l=cn (fun i=>decide (i ∈ rH l t z H f0 m)) l:=eT (fun j hj=>by
       by_cases k:j ∈ rH l t z H f0 m
       · have:=hle j k
         rw[decide_eq_true k,decide_eq_true (by omega)];rfl
       · rw[decide_eq_false k];rfl)
      rw[e,A7 (hrow m).1 (fun i hi=>((hrow m).2 i hi).1)] at hm
      unfold rH at hm
      omega
     have hwait:∀ m c,c<l→dS l t z H f0 m c=false→(eQ l t z H f0 m).2 c≠true→∃ y,y<l∧t y=(c:Int)∧dS l t z H f0 m y=false:=by
      intro m c hc hd hw
      have h1:(eQ l t z H f0 m).1 c≠0:=fun h=>hw (((hq m).q2 c hc).2 ⟨hd,h⟩)
      rw[(hq m).q1 c hc] at h1
      obtain ⟨y,y1,y2⟩:=qa (p:=fun x=>decide (t x=(c:Int)) && !dS l t z H f0 m x) (n:=l) (by omega)
      simp only[Bool.and_eq_true,decide_eq_true_eq,Bool.not_eq_true'] at y2
      exact ⟨y,y1,y2.1,y2.2⟩
     -- the last turn is full
     have hlast:H≤cn (fun i=>decide (i ∈ rH l t z H f0 (L-1)) && decide (z i≤L)) l:=by
      apply Classical.byContradiction
      intro hc
      have hdx:dS l t z H f0 (L-1) x=false:=by
       cases hd:dS l t z H f0 (L-1) x with
       | false=>rfl
       | true=>rw[h9 (show L-1≤L by omega) hd] at hlate;cases hlate
      have hnw:(eQ l t z H f0 (L-1)).2 x≠true:=by
       intro hw
       have hin:=htake (L-1) (by omega) x hx (by omega) hw
       have:dS l t z H f0 (L-1+1) x=true:=by
        show (dS l t z H f0 (L-1) x || decide (x ∈ rH l t z H f0 (L-1)))=true
        rw[decide_eq_true hin,Bool.or_true]
       rw[show L-1+1=L by omega,hlate] at this
       cases this
      obtain ⟨y,y1,y2,y3⟩:=hwait (L-1) x hx hdx hnw
      have hzy:=hzt y x y1 hx y2
      have hzy1:=hz y y1
      have:=ihL (z y).toNat (by omega) y y1 (by omega)
      rw[h9 (show (z y).toNat≤L-1 by omega) this] at y3
      cases y3
     -- and so are those before
     have hall:∀ k,k<L→H≤cn (fun i=>decide (i ∈ rH l t z H f0 (L-1-k)) && decide (z i≤L)) l:=by
      intro k
      induction k with
      | zero=>intro _;exact hlast
      | succ k ih =>
        intro hk
        have ih:=ih (by omega)
        obtain ⟨r,hr⟩:∃ r,L-1-k=r+1:=⟨L-1-k-1,by omega⟩
        rw[hr] at ih
        rw[show L-1-(k+1)=r by omega]
        apply Classical.byContradiction
        intro hc
        have hin:=Fl (l:=l) (t:=t) (p:=fun i=>decide (i ∈ rH l t z H f0 (r+1)) && decide (z i≤L)) (q:=fun i=>decide (i ∈ rH l t z H f0 r) && decide (z i≤L)) (fun c hc' hp=>by
         simp only[Bool.and_eq_true,decide_eq_true_eq] at hp
         obtain ⟨hp1,hp2⟩:=hp
         have hd1:=((hrow (r+1)).2 c hp1).2
         have hd0:dS l t z H f0 r c=false:=by
          cases hd:dS l t z H f0 r c with
          | false=>rfl
          | true=>rw[h9 (show r≤r+1 by omega) hd] at hd1;cases hd1
         have hnw:(eQ l t z H f0 r).2 c≠true:=by
          intro hw
          have hin:=htake r (by omega) c hc' hp2 hw
          have:dS l t z H f0 (r+1) c=true:=by
           show (dS l t z H f0 r c || decide (c ∈ rH l t z H f0 r))=true
           rw[decide_eq_true hin,Bool.or_true]
          rw[hd1] at this;cases this
         obtain ⟨y,y1,y2,y3⟩:=hwait r c hc' hd0 hnw
         have hw1:=pE H c hp1
         have hf1:=(((hq (r+1)).q2 c hc').1 hw1).2
         rw[(hq (r+1)).q1 c hc'] at hf1
         have hz1:=kV (p:=fun x=>decide (t x=(c:Int)) && !dS l t z H f0 (r+1) x) (n:=l) (by omega) y y1
         rw[decide_eq_true y2,Bool.true_and,Bool.not_eq_false'] at hz1
         have hz1:(dS l t z H f0 r y || decide (y ∈ rH l t z H f0 r))=true:=hz1
         rw[y3,Bool.false_or] at hz1
         have hzy:=hzt y c y1 hc' y2
         exact ⟨y,y1,by rw[hz1,decide_eq_true (by omega)];rfl,y2⟩) l (Nat.le_refl _)
        have hle:cn (fun y=>(decide (y ∈ rH l t z H f0 r) && decide (z y≤L)) && decide (t y<(l:Int))) l≤cn (fun i=>decide (i ∈ rH l t z H f0 r) && decide (z i≤L)) l:=kU (fun j hj hp=>by
         simp only[Bool.and_eq_true] at hp ⊢;exact hp.1)
        omega
     -- so there are too many
     have hsum : ∀ m,m≤L→H*m≤cn (fun i=>dS l t z H f0 m i && decide (z i≤L)) l:=by
      intro m
      induction m with
      | zero=>intro _;omega
      | succ m ih =>
        intro hm
        have ih:=ih (by omega)
        have ha:=hall (L-1-m) (by omega)
        rw[show L-1-(L-1-m)=m by omega] at ha
        have hadd:cn (fun i=>dS l t z H f0 (m+1) i && decide (z i≤L)) l=cn (fun i=>dS l t z H f0 m i && decide (z i≤L)) l+cn (fun i=>decide (i ∈ rH l t z H f0 m) && decide (z i≤L)) l:=by
         have key:∀ n,cn (fun i=>dS l t z H f0 (m+1) i && decide (z i≤L)) n=cn (fun i=>dS l t z H f0 m i && decide (z i≤L)) n+cn (fun i=>decide (i ∈ rH l t z H f0 m) && decide (z i≤L)) n:=by
          intro n
          induction n with
          | zero=>rfl
          | succ n ihn =>
            show cn _ n+(((dS l t z H f0 m n || decide (n ∈ rH l t z H f0 m)) && decide (z n≤L))).toNat=(cn _ n+(dS l t z H f0 m n && decide (z n≤L)).toNat)+(cn _ n+(decide (n ∈ rH l t z H f0 m) && decide (z n≤L)).toNat)
            rw[ihn]
            cases hd:dS l t z H f0 m n with
            | false=>simp;omega
            | true =>
              have hni:¬ n ∈ rH l t z H f0 m:=fun h=>by
               have:=((hrow m).2 n h).2
               rw[hd] at this;cases this
              rw[decide_eq_false hni]
              simp;omega
         exact key l
        rw[hadd,Nat.mul_succ]
        omega
     have h1:=hsum L (Nat.le_refl _)
     have h2:=vC (p:=fun i=>dS l t z H f0 L i && decide (z i≤L)) (q:=fun i=>decide (z i≤L)) (n:=l) (i:=x) (fun j hj hp=>by
      simp only[Bool.and_eq_true] at hp;exact hp.2) hx (by rw[hlate];rfl) (decide_eq_true (by omega))
     have h3:=hcr L ⟨x,hx,hzx⟩
     omega
end
end Go.Eng
end
