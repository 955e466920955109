/- Bath: prices are made less at a birth (plain law). -/
import Derived.Test.YtigmfpmabgekoaaGreatV9Bqmx7
import Derived.Test.YtigmfpmabgekoaaGreatV9EngPostx6
set_option linter.unusedVariables false
set_option linter.unusedSimpArgs false
set_option maxRecDepth 100000
section
namespace Go.Eng
theorem xZ {f g:Nat→Int} {q:Nat} {c:Int} (h:∀ i,i≠q→f i=g i) (hq:f q=g q-c):∀ n,gG f n=if q<n then gG g n-c else gG g n
 | 0=>by rw[if_neg (by omega)];rfl
 | n + 1=>by
   have ih:=xZ h hq n
   have e1:gG f (n+1)=gG f n+f n:=rfl
   have e2:gG g (n+1)=gG g n+g n:=rfl
   rw[e1,e2,ih]
   by_cases c1:q<n
   · rw[if_pos c1,if_pos (by omega),h n (by omega)];omega
   · rw[if_neg c1]
     by_cases c2:q=n
     · subst c2;rw[if_pos (by omega),hq];omega
     · rw[if_neg (by omega),h n (by omega)]
theorem CO {f:Nat→Int}:∀ n,0<gG f n→∃ i,i<n∧0<f i
 | 0,h=>absurd h (by show ¬ (0:Int)<0;omega)
 | n + 1,h=>by
   have e1:gG f (n+1)=gG f n+f n:=rfl
   by_cases c:0<f n
   · exact ⟨n,by omega,c⟩
   · obtain ⟨i,h1,h2⟩:=CO (f:=f) n (by omega)
     exact ⟨i,by omega,h2⟩
theorem CN {f:Nat→Int} (hf:∀ i,0≤f i):∀ n i,i<n→f i≤gG f n
 | 0,i,h=>by omega
 | n + 1,i,h=>by
   have e1:gG f (n+1)=gG f n+f n:=rfl
   have hn:=xY (f:=f) n (fun i _=>hf i)
   by_cases c:i=n
   · subst c;omega
   · have:=CN hf n i (by omega)
     have:=hf n
     omega
section
variable (l:Nat) (z:Nat→Int) (lam y:Int) (m:Nat→Int) (g:Nat→Int) (k:Nat)
noncomputable def p9 (s:(Nat→Int)×Int):(Nat→Int)×Int :=
 (fz s.1 (rK (nB z m s.1) g k).toNat (s.1 (rK (nB z m s.1) g k).toNat-min (s.1 (rK (nB z m s.1) g k).toNat) (s.2-lam)),s.2-min (s.1 (rK (nB z m s.1) g k).toNat) (s.2-lam))
noncomputable def im (s:(Nat→Int)×Int):Nat→(Nat→Int)×Int
 | 0=>s
 | j+1=>if (im s j).2≤lam then im s j else p9 z lam m g k (im s j)
structure wS (o0:Nat→Int) (s:(Nat→Int)×Int):Prop where
 sum:s.2=fG l (bE z) (bG z) s.1 y
 rg:∀ i,i<l→0≤s.1 i∧s.1 i≤o0 i
 out:∀ i,i<l→bH (bE z) (bG z) y i=false→s.1 i=o0 i
 cut:∀ i,i<l→s.1 i<o0 i→lam≤s.2∧∀ k,k<l→bH (bE z) (bG z) y k=true→bG z i<bG z k→s.1 k=0
noncomputable def yu (o:Nat→Int):Int:=gG (fun i=>if bH (bE z) (bG z) y i=true∧0<o i then 1 else 0) l
variable {l z lam y m g k}
theorem sm (hh:∀ i,i<l→-10000≤bG z i) (hm:∀ i,i<l→(m i=0↔bH (bE z) (bG z) y i=false)) (hg:∀ j,j≤k→0≤g j∧g j<l) (hg2:∀ i,i<l→bH (bE z) (bG z) y i=true→∃ j,j≤k∧g j=i) (hl:0≤lam) {o0:Nat→Int} {s:(Nat→Int)×Int} (hI:wS l z lam y o0 s) (ha:lam<s.2) :
 ∃ q:Nat,rK (nB z m s.1) g k=(q:Int)∧q<l∧bH (bE z) (bG z) y q=true∧0<s.1 q∧∀ i,i<l→bH (bE z) (bG z) y i=true→0<s.1 i→bG z i≤bG z q:=by
 obtain ⟨j,j1,j2⟩:=AW (nB z m s.1) g k
 have hj:=hg j j1
 have hle:=Fx (nB z m s.1) g k
 rw[j2] at hle ⊢
 have hkey:∀ i,i<l→bH (bE z) (bG z) y i=true→0<s.1 i→nB z m s.1 (g j)≤- bG z i:=fun i hi h1 h2=>by
  obtain ⟨j',e1,e2⟩:=hg2 i hi h1
  have:=hle j' e1
  rw[e2] at this
  have e3:nB z m s.1 (i:Int)=- bG z i:=by
   unfold nB
   rw[Int.toNat_natCast,if_neg]
   rintro (h3 | h3)
   · have:=(hm i hi).1 h3;rw[h1] at this;cases this
   · omega
  rw[e3] at this;exact this
 have hpos:∃ i,i<l∧bH (bE z) (bG z) y i=true∧0<s.1 i:=by
  have h1:=hI.sum
  unfold fG at h1
  obtain ⟨i,h2,h3⟩:=CO l (by rw[← h1];omega)
  by_cases c:bH (bE z) (bG z) y i=true
  · rw[if_pos c] at h3;exact ⟨i,h2,c,h3⟩
  · rw[if_neg c] at h3;omega
 obtain ⟨i,i1,i2,i3⟩:=hpos
 have hk:=hkey i i1 i2 i3
 have h10:=hh i i1
 have hq:g j=((g j).toNat:Int):=by omega
 have hql:(g j).toNat<l:=by omega
 have hk2:nB z m s.1 (g j)=- bG z (g j).toNat∧m (g j).toNat≠0∧s.1 (g j).toNat≠0:=by
  unfold nB at hk ⊢
  by_cases c:m (g j).toNat=0∨s.1 (g j).toNat=0
  · rw[if_pos c] at hk;omega
  · rw[if_neg c]
    exact ⟨rfl,fun h=>c (.inl h),fun h=>c (.inr h)⟩
 obtain ⟨k1,k2,k3⟩:=hk2
 refine ⟨(g j).toNat,hq,hql,?_,?_,fun i' a1 a2 a3=>?_⟩
 · cases c:bH (bE z) (bG z) y (g j).toNat with
   | true=>rfl
   | false=>exact absurd ((hm _ hql).2 c) k2
 · have:=hI.rg _ hql;omega
 · have:=hkey i' a1 a2 a3
   rw[k1] at this;omega
theorem ux {s:(Nat→Int)×Int} {q:Nat} (h:rK (nB z m s.1) g k=(q:Int)):p9 z lam m g k s=(fz s.1 q (s.1 q-min (s.1 q) (s.2-lam)),s.2-min (s.1 q) (s.2-lam)):=by
 unfold p9;rw[h,Int.toNat_natCast]
theorem Gg (hh:∀ i,i<l→-10000≤bG z i) (hm:∀ i,i<l→(m i=0↔bH (bE z) (bG z) y i=false)) (hg:∀ j,j≤k→0≤g j∧g j<l) (hg2:∀ i,i<l→bH (bE z) (bG z) y i=true→∃ j,j≤k∧g j=i) (hl:0≤lam) {o0:Nat→Int} {s:(Nat→Int)×Int} (hI:wS l z lam y o0 s) (ha:lam<s.2) :
 wS l z lam y o0 (p9 z lam m g k s)∧((p9 z lam m g k s).2≤lam∨yu l z y (p9 z lam m g k s).1≤yu l z y s.1-1):=by
 obtain ⟨q,q1,q2,q3,q4,q5⟩:=sm hh hm hg hg2 hl hI ha
 rw[ux q1]
 have hc:0<min (s.1 q) (s.2-lam)∧min (s.1 q) (s.2-lam)≤s.1 q∧min (s.1 q) (s.2-lam)≤s.2-lam:=by omega
 have hc2:min (s.1 q) (s.2-lam)=s.1 q∨min (s.1 q) (s.2-lam)=s.2-lam:=by omega
 generalize min (s.1 q) (s.2-lam)=c at *
 have u1:fz s.1 q (s.1 q-c) q=s.1 q-c:=by rw[qf];exact if_pos rfl
 have u2:∀ i,i≠q→fz s.1 q (s.1 q-c) i=s.1 i:=fun i hi=>by rw[qf];exact if_neg hi
 generalize fz s.1 q (s.1 q-c)=o2 at *
 refine ⟨⟨?_,fun i hi=>?_,fun i hi hn=>?_,fun i hi hlt=>?_⟩,?_⟩
 · show s.2-c=fG l (bE z) (bG z) o2 y
   have:=xZ (f:=fun i=>if bH (bE z) (bG z) y i=true then o2 i else 0) (g:=fun i=>if bH (bE z) (bG z) y i=true then s.1 i else 0) (q:=q) (c:=c) (fun i hi=>by rw[u2 i hi]) (by rw[if_pos q3,if_pos q3,u1]) l
   rw[if_pos q2] at this
   have h1:=hI.sum
   unfold fG at h1 ⊢
   omega
 · have:=hI.rg i hi
   by_cases e:i=q
   · subst e;show 0≤o2 i∧o2 i≤o0 i;rw[u1];omega
   · show 0≤o2 i∧o2 i≤o0 i;rw[u2 i e];exact this
 · have e:i≠q:=fun h=>by subst h;rw[q3] at hn;cases hn
   show o2 i=o0 i
   rw[u2 i e];exact hI.out i hi hn
 · refine ⟨by show lam≤s.2-c;omega,fun k' hk hk2 hk3=>?_⟩
   have hz:s.1 k'=0:=by
    by_cases e:i=q
    · subst e
      have:=hI.rg k' hk
      by_cases c0:0<s.1 k'
      · have:=q5 k' hk hk2 c0;omega
      · omega
    · have hlt:o2 i<o0 i:=hlt
      rw[u2 i e] at hlt
      exact (hI.cut i hi hlt).2 k' hk hk2 hk3
   have e2:k'≠q:=fun h=>by subst h;omega
   show o2 k'=0
   rw[u2 k' e2];exact hz
 · rcases hc2 with e | e
   · right
     show yu l z y o2≤_
     have:=xZ (f:=fun i=>if bH (bE z) (bG z) y i=true∧0<o2 i then 1 else 0) (g:=fun i=>if bH (bE z) (bG z) y i=true∧0<s.1 i then 1 else 0) (q:=q) (c:=1) (fun i hi=>by rw[u2 i hi]) (by rw[if_neg (by rw[u1];omega),if_pos ⟨q3,q4⟩];rfl) l
     rw[if_pos q2] at this
     unfold yu
     omega
   · left
     show s.2-c≤lam
     omega
theorem s5 (hh:∀ i,i<l→-10000≤bG z i) (hm:∀ i,i<l→(m i=0↔bH (bE z) (bG z) y i=false)) (hg:∀ j,j≤k→0≤g j∧g j<l) (hg2:∀ i,i<l→bH (bE z) (bG z) y i=true→∃ j,j≤k∧g j=i) (hl:0≤lam) {o0:Nat→Int} {s:(Nat→Int)×Int} (hI:wS l z lam y o0 s):∀ j,wS l z lam y o0 (im z lam m g k s j)∧((im z lam m g k s j).2≤lam∨yu l z y (im z lam m g k s j).1≤(l:Int)-j)
 | 0=>⟨hI,.inr (by
   show yu l z y s.1≤_
   have:=kd (f:=fun i=>if bH (bE z) (bG z) y i=true∧0<s.1 i then 1 else 0) (g:=fun _=>1) l (fun i _=>by split<;>omega)
   have h1:∀ n,gG (fun _=>1) n=(n:Int):=fun n=>by
    induction n with
    | zero=>rfl
    | succ n ih=>show gG (fun _=>1) n+1=_;rw[ih];omega
   rw[h1] at this
   unfold yu
   omega)⟩
 | j + 1=>by
   obtain ⟨i1,i2⟩:=s5 hh hm hg hg2 hl hI j
   have e:im z lam m g k s (j+1)=if (im z lam m g k s j).2≤lam then im z lam m g k s j else p9 z lam m g k (im z lam m g k s j):=rfl
   rw[e]
   by_cases c:(im z lam m g k s j).2≤lam
   · rw[if_pos c];exact ⟨i1,.inl c⟩
   · rw[if_neg c]
     obtain ⟨s1,s2⟩:=Gg hh hm hg hg2 hl i1 (by omega)
     refine ⟨s1,?_⟩
     rcases s2 with s2 | s2
     · exact .inl s2
     · right
       rcases i2 with i2 | i2
       · exact absurd i2 c
       · omega
theorem EK (hh:∀ i,i<l→-10000≤bG z i) (hm:∀ i,i<l→(m i=0↔bH (bE z) (bG z) y i=false)) (hg:∀ j,j≤k→0≤g j∧g j<l) (hg2:∀ i,i<l→bH (bE z) (bG z) y i=true→∃ j,j≤k∧g j=i) (hl:0≤lam) {o0:Nat→Int} {s:(Nat→Int)×Int} (hI:wS l z lam y o0 s) :
 ∃ N,N≤l∧(∀ j,j<N→lam<(im z lam m g k s j).2)∧(im z lam m g k s N).2≤lam:=by
 have hend:(im z lam m g k s l).2≤lam:=by
  obtain ⟨i1,i2⟩:=s5 hh hm hg hg2 hl hI l
  rcases i2 with i2 | i2
  · exact i2
  · apply Classical.byContradiction
    intro hc
    obtain ⟨q,q1,q2,q3,q4,q5⟩:=sm hh hm hg hg2 hl i1 (by omega)
    have:=CN (f:=fun i=>if bH (bE z) (bG z) y i=true∧0<(im z lam m g k s l).1 i then 1 else 0) (fun i=>by split<;>omega) l q q2
    rw[if_pos ⟨q3,q4⟩] at this
    unfold yu at i2
    omega
 have go : ∀ n,(im z lam m g k s n).2≤lam→∃ N,N≤n∧(∀ j,j<N→lam<(im z lam m g k s j).2)∧(im z lam m g k s N).2≤lam:=by
  intro n
  induction n with
  | zero=>intro h;exact ⟨0,by omega,fun j hj=>by omega,h⟩
  | succ n ih =>
    intro h
    by_cases c:(im z lam m g k s n).2≤lam
    · obtain ⟨N,a,b⟩:=ih c
      exact ⟨N,by omega,b⟩
    · by_cases c2:∃ j,j≤n∧(im z lam m g k s j).2≤lam
      · obtain ⟨j,j1,j2⟩:=c2
        exfalso
        have stay:∀ d,im z lam m g k s (j+d)=im z lam m g k s j:=fun d=>by
         induction d with
         | zero=>rfl
         | succ d ih2 =>
           show (if (im z lam m g k s (j+d)).2≤lam then im z lam m g k s (j+d) else _)=_
           rw[ih2,if_pos j2]
        have:=stay (n-j)
        rw[show j+(n-j)=n by omega] at this
        rw[this] at c;exact c j2
      · exact ⟨n+1,by omega,fun j hj=>by
         apply Classical.byContradiction
         intro hc
         exact c2 ⟨j,by omega,by omega⟩,h⟩
 exact go l hend
theorem JG {o0:Nat→Int} {s:(Nat→Int)×Int} (hI:wS l z lam y o0 s) (he:s.2≤lam):Jk l (bE z) (bG z) lam y o0 s.1 :=
 ⟨fun i hi h=>hI.out i hi h,fun i hi=>hI.rg i hi,by rw[← hI.sum];exact he,fun i hi h=>by
   obtain ⟨a,b⟩:=hI.cut i hi h
   exact ⟨by rw[← hI.sum];omega,b⟩⟩
end
end Go.Eng
end
section
namespace Go.Eng
open Go.Proofs
noncomputable def UC (Q:Nat→(Nat→Int)→Prop) (R:Nat→(Nat→Int)→AV):List AV→Option (Prop×AV)
 | [.slcT none (.M [.arr .i64 z N]) 5 l false]=>some (N=aH l 5∧Q l z,R l z)
 | _=>none
noncomputable def UD (Q:Nat→(Nat→Int)→Int→Prop) (R:Nat→(Nat→Int)→Int→AV):List AV→Option (Prop×AV)
 | [.slcT none (.M [.arr .i64 z N]) 5 l false,.int .i64 q]=>some (N=aH l 5∧Q l z q,R l z q)
 | _=>none
noncomputable def OB (Q:Nat→(Nat→Int)→Int→Prop) (M:Nat→(Nat→Int)→Int→Int) (W:Nat→(Nat→Int)→Int→AV) (args:List AV) (H:aa):Tr (AV×aa) :=
 match args with
 | [.slcT none (.M [.arr .i64 z N]) 5 l false,.int .i64 q]=>match H with
   | [⟨_,_⟩,⟨_,_⟩]=>.reqP (N=aH l 5∧Q l z q) (.ok (.tup [.int .i64 (M l z q),W l z q,.int .i64 0],H))
   | _=>.bad
 | _=>.bad
end Go.Eng
end
section
namespace Go.Eng
open Go.Proofs
theorem Uj (n l:Nat) (z:Nat→Int) (e:Int) (H:aa):bt Tryz.prog (cd (n+1)) 100000 41 Tryz.f41 (KtB.kt 41) (il (tX aI 21 [ay 5 l z] (.int .i64 e)) n 1) aP aQ [(ay 5 l z,none)] H =
 Tr.ite (bL (cn (Int.ofNat 20) (Int.ofNat l))) (Tr.reqP ([ay 5 l z]=[ay 5 l z]) (Tr.ok ((AV.bool (c5 e (Int.ofNat 0)),none),H))) (Tr.ok ((AV.bool false,some 1),H)):=by kernel_rfl
def xl (l:Nat) (z:Nat→Int):Bool:=decide (bD l z=0)
theorem Rm (n l:Nat) (z:Nat→Int) (H:aa):cd (n+5) (.fn 41) [ay 5 l z] H=some (.bool (xl l z),H):=by
 refine aX (n:=n+4) Tryz.func41 rfl rfl rfl (Uj (n+3) l z (bD l z) H) (eP _ (n+3) 1 (fun k=>bZ (aO _) (fun H=>by rw[show n+3+k=n+k+3 by omega];exact Rk _ l z H))) (af _ _) (ag _ _) ?_
 have hl:=fun h=>(bI (l:=l) (z:=z) h).1
 unfold xl
 rw[b8]
 by_cases h:bD l z=0
 · have:=hl h
   rw[show (bD l z == Int.ofNat 0)=true from beq_iff_eq.2 h,decide_eq_true h]
   exact wF
 · rw[show (bD l z == Int.ofNat 0)=false from beq_eq_false_iff_ne.2 h,decide_eq_false h]
   exact wF
end Go.Eng
end
section
namespace Go.Eng
open Go.Proofs
section
variable (n l:Nat) (z:Nat→Int) (a b c d e w b0 b1 b2 b3 q:Int) (H:aa)
theorem I3 (x y:Int):vk x y=min x y:=by rw[xD];split<;>omega
end
end Go.Eng
end
section
namespace Go.Eng
open Go.Proofs
theorem N0:∀ b,(4,b) ∈ aV (part Tryz.f80 [1,1,1,1,0,1,0,1])→b=.loop (part Tryz.f80 [1,1,1,1,0,1,0,1,0,0,1,1,0,1,0,0]):=fM (by kernel_rfl)
theorem N1:∀ b,(6,b) ∈ aV (part Tryz.f80 [1,1,1,1,0,1,0,1])→b=.loop (part Tryz.f80 [1,1,1,1,0,1,0,1,0,0,1,1,1,1,0,0]):=fM (by kernel_rfl)
theorem lg {n f nt d i:Nat} {c:Code} {callR:bJ} {bl:gH} {rg:r7} {fr:av} {H:aa} {T:Tr dG} {Q:Ex×av×aa→Prop} (e:aK (jy n f nt d i) callR bl rg c (hints fr) H=T) (hC:callR.Ok (cd n)) (hB:bl.Ok (jy n f nt d i) c) (hR:rg.Ok (jy n f nt d i) c) (h:T.all fun x=>Q x.st):∃ y,exec (jy n f nt d i) c fr H=some y∧Q y:=qv e hC hB hR h
def nR (m o:Nat→Int):Nat→Int
 | 0=>0
 | i+1=>if m i=1 then nR m o i+o i else nR m o i
theorem x7 {m o:Nat→Int} {l:Nat} (hm:∀ i,m i=1→i<l) (ho:∀ i,i<l→0≤o i∧o i≤100000):∀ i:Nat,0≤nR m o i∧nR m o i≤(i:Int)*100000
 | 0=>by show (0:Int)≤0∧(0:Int)≤((0:Nat):Int)*100000;omega
 | i + 1=>by
   have ih:=x7 hm ho i
   unfold nR
   split
   · rename_i h
     have:=ho i (hm i h)
     omega
   · omega
noncomputable def gP (s l:Nat) (z:Nat→Int) (lam:Int) (m o:Nat→Int) (L:dF) (H:aa):aa:=jc m::an::ke s l (oY z l) lam l o [oP s l (oY z l),(0,.loop L)]::H
noncomputable def LI (m:Nat→Int) (a:Int):Nat→av
 | 0=>lT m a (Int.ofNat 14)++[(49,.bool false)]
 | _+1=>Fe a
section
variable (n s l:Nat) (z m o:Nat→Int) (lam:Int) (L:dF) (H:aa)
theorem PL (hm:∀ i,m i=1→i<l) (ho:∀ i,i<l→0≤o i∧o i≤100000) (hl:l≤14):exec (jy n 80 91 2 5) (.block 4 (.loop (part Tryz.f80 [1,1,1,1,0,1,0,1,0,0,1,1,0,1,0,0]))) (lT m (Int.ofNat 0) (Int.ofNat 0)) (gP s l z lam m o L H)=some (.normal,lT m (nR m o 14) (Int.ofNat 14)++[(49,.bool false)],gP s l z lam m o L H):=by
 refine Fb 4 (fun j=>lT m (nR m o j) (j:Nat)) (fun _=>gP s l z lam m o L H) 14 (lT m (nR m o 14) (Int.ofNat 14)++[(49,.bool false)],gP s l z lam m o L H) (by omega) (fun j hj=>?_) ?_
 · have ej:aS .i64 (j:Int) (Int.ofNat 1)=((j+1:Nat):Int):=iu (by omega)
   have e1:aw 0 (j:Int) 1=j:=by rw[bA];omega
   have hs:nR m o (j+1)=if m j=1 then nR m o j+o j else nR m o j:=rfl
   have hr:=x7 hm ho j
   refine lg (M7 n s l l (oY z l) m o lam (nR m o j) (j:Nat) L H) (aC n) (af _ _) (ag _ _) ?_
   rw[ej,e1,hs]
   by_cases c:m j=1
   · have hjl:=hm j c
     have hoj:=ho j hjl
     have ea:aS .i64 (nR m o j) (o j)=nR m o j+o j:=by rw[cD,cq (by omega) (by omega)]
     rw[if_pos c,c,ea]
     exact wF
   · rw[if_neg c]
     have c2:c5 (m j) (Int.ofNat 1)=false:=by rw[b8];exact beq_eq_false_iff_ne.2 c
     rw[c2]
     exact wF
 · exact ml (M7 n s l l (oY z l) m o lam (nR m o 14) (Int.ofNat 14) L H) (aC n) (af _ _) (ag _ _) (by
    refine Tr.al (fun hc=>?_) (fun hc=>Tr.ao rfl)
    simp (disch:=omega) only[nV,nW] at hc;omega)
end
end Go.Eng
end
section
namespace Go.Eng
open Go.Proofs
theorem J2 {c f:Nat} {t:l9} {A:List AV} {V:AV} {G:aa} (ht:t.Ok (cd c)) (h:cd c (.fn f) A G=some (V,G)):(dI t f (LL A V G)).Ok (cd c):=by
 refine gh ht (fun args H x hx=>?_)
 unfold LL at hx
 obtain ⟨⟨rfl,rfl⟩,h2⟩:=Tr.cW hx
 rw[← Tr.ab h2]
 exact h
section
variable (n s l k:Nat) (z m g:Nat→Int) (lam y:Int) (L:dF) (H:aa)
theorem PM (h:bD l z=0) (hd:dA (dl (fw z) l)=bc (k+1) g false) (hl0:0≤lam) (hlam:lam≤2000000) (hk:k≤1000) (hm:∀ i,i<l→(m i=0↔bH (bE z) (bG z) y i=false)) (hg:∀ j,j≤k→0≤g j∧g j<l) (hg2:∀ i,i<l→bH (bE z) (bG z) y i=true→∃ j,j≤k∧g j=i) {o0:Nat→Int} {s0:(Nat→Int)×Int} (hw:∀ i,i<l→o0 i≤100000) (ha0:s0.2≤2000000) (hI:wS l z lam y o0 s0) {N:Nat} (hN:N≤l) (hgo:∀ j,j<N→lam<(im z lam m g k s0 j).2) (hend:(im z lam m g k s0 N).2≤lam) :
 exec (jy (n+4) 80 91 2 5) (.block 6 (.loop (part Tryz.f80 [1,1,1,1,0,1,0,1,0,0,1,1,1,1,0,0]))) (lT m s0.2 (Int.ofNat 14)++[(49,.bool false)]) (gP s l z lam m s0.1 L H)=some (.normal,[(2,.ptr 2 0 0 0),(3,.ptr 2 1 0 0),(5,.ptr 2 3 0 0),(10,.ptr 0 0 0 0),(11,.int .i64 (im z lam m g k s0 N).2),(63,.bool false)],gP s l z lam m (im z lam m g k s0 N).1 L H):=by
 obtain ⟨hl,hz⟩:=bI h
 have hh:∀ i,i<l→-10000≤bG z i:=fun i hi=>by have:=hz i hi;unfold bG;omega
 have hsum:∀ j,(im z lam m g k s0 j).2≤s0.2:=fun j=>by
  induction j with
  | zero=>exact Int.le_refl _
  | succ j ih =>
    obtain ⟨i1,_⟩:=s5 hh hm hg hg2 hl0 hI j
    show (if (im z lam m g k s0 j).2≤lam then im z lam m g k s0 j else p9 z lam m g k (im z lam m g k s0 j)).2≤_
    by_cases c:(im z lam m g k s0 j).2≤lam
    · rw[if_pos c];exact ih
    · rw[if_neg c]
      obtain ⟨q,q1,q2,q3,q4,q5⟩:=sm hh hm hg hg2 hl0 i1 (by omega)
      rw[ux q1]
      show _-min _ _≤_
      omega
 refine Fb 6 (fun j=>LI m (im z lam m g k s0 j).2 j) (fun j=>gP s l z lam m (im z lam m g k s0 j).1 L H) N ([(2,.ptr 2 0 0 0),(3,.ptr 2 1 0 0),(5,.ptr 2 3 0 0),(10,.ptr 0 0 0 0),(11,.int .i64 (im z lam m g k s0 N).2),(63,.bool false)],gP s l z lam m (im z lam m g k s0 N).1 L H) (by omega) (fun j hj=>?_) ?_
 · have hlt:=hgo j hj
   have hs2:=hsum j
   obtain ⟨i1,_⟩:=s5 hh hm hg hg2 hl0 hI j
   have e:im z lam m g k s0 (j+1)=p9 z lam m g k (im z lam m g k s0 j):=if_neg (by omega)
   rw[e]
   obtain ⟨q,q1,q2,q3,q4,q5⟩:=sm hh hm hg hg2 hl0 i1 hlt
   rw[ux q1]
   have hrg:=i1.rg q q2
   have hwq:=hw q q2
   have hmq:m q≠0:=fun h0=>by have:=(hm q q2).1 h0;rw[q3] at this;cases this
   have h64:=fun H=>JD n (s+3) l z H h
   rw[hd] at h64
   have h85:=Om (n+3) k g (nB z m (im z lam m g k s0 j).1) (fun q=>0≤q∧q<l) (gP s l z lam m (im z lam m g k s0 j).1 L H) hk (fun j hj=>hg j (by omega)) (fun q hq=>R6 (n+2) s l z m (im z lam m g k s0 j).1 q lam [oP s l (oY z l),(0,.loop L)] H h hq.1 hq.2)
   rw[q1] at h85
   generalize im z lam m g k s0 j=S at *
   have e1:aw 0 (q:Int) 1=q:=by rw[bA];omega
   have v1:bQ .i64 S.2 lam=S.2-lam:=by rw[cG,cq (by omega) (by omega)]
   have hmin:0<min (S.1 q) (S.2-lam)∧min (S.1 q) (S.2-lam)≤S.1 q∧min (S.1 q) (S.2-lam)≤S.2-lam:=by omega
   have v2:bQ .i64 S.2 (min (S.1 q) (S.2-lam))=S.2-min (S.1 q) (S.2-lam):=by rw[cG,cq (by omega) (by omega)]
   have v3:bQ .i64 (S.1 q) (min (S.1 q) (S.2-lam))=S.1 q-min (S.1 q) (S.2-lam):=by rw[cG,cq (by omega) (by omega)]
   have v4:c5 (m q) (Int.ofNat 0)=false:=by rw[b8];exact beq_eq_false_iff_ne.2 hmq
   have hC:(il (dI (tX aI 64 [fT (s+3) l (oY z l)] (bc (k+1) g false)) 85 (LL [bc (k+1) g false,Df 0] (.int .i64 (q:Int)) (gP s l z lam m S.1 L H))) (n+4) 0).Ok (cd (n+4)):=cg _ _ (J2 (bZ (aO _) h64) h85)
   cases j with
   | zero =>
     refine lg (M8 (n+4) s l l (k+1) (oY z l) m S.1 g lam S.2 (q:Int) L H) hC (af _ _) (ag _ _) ?_
     rw[e1,v4,v1,I3,v2,v3]
     clear v1 v2 v3 v4 h85 h64 hC
     generalize min (S.1 q) (S.2-lam)=c at *
     generalize fz S.1 q (S.1 q-c)=o2 at *
     repeat' first | (refine Tr.al (fun hc=>?_) (fun hc=>?_)<;>(try simp (disch:=omega) only[nV,nW] at hc)<;>(try (exfalso;omega))) | (refine Tr.bj ?_ ?_;· ((try simp (disch:=omega) only[nV,nW]);try omega)) | (refine Tr.aB ?_ ?_;· first | exact trivial | rfl | exact ⟨rfl,rfl⟩ | exact ⟨trivial,rfl⟩ | exact ⟨rfl,by assumption⟩ | exact ⟨trivial,by assumption⟩ | exact ⟨rfl,rfl,rfl⟩ | (simp (disch:=omega) only[nV,nW];done) | ((try simp (disch:=omega) only[nV,nW]);omega)) | fail
     all_goals first
      | (refine Tr.ao ⟨rfl,?_⟩
         kernel_rfl)
      | fail
   | succ j =>
     refine lg (Qy (n+4) s l l (k+1) (oY z l) m S.1 g lam S.2 (q:Int) L H) hC (af _ _) (ag _ _) ?_
     rw[e1,v4,v1,I3,v2,v3]
     clear v1 v2 v3 v4 h85 h64 hC
     generalize min (S.1 q) (S.2-lam)=c at *
     generalize fz S.1 q (S.1 q-c)=o2 at *
     repeat' first | (refine Tr.al (fun hc=>?_) (fun hc=>?_)<;>(try simp (disch:=omega) only[nV,nW] at hc)<;>(try (exfalso;omega))) | (refine Tr.bj ?_ ?_;· ((try simp (disch:=omega) only[nV,nW]);try omega)) | (refine Tr.aB ?_ ?_;· first | exact trivial | rfl | exact ⟨rfl,rfl⟩ | exact ⟨trivial,rfl⟩ | exact ⟨rfl,by assumption⟩ | exact ⟨trivial,by assumption⟩ | exact ⟨rfl,rfl,rfl⟩ | (simp (disch:=omega) only[nV,nW];done) | ((try simp (disch:=omega) only[nV,nW]);omega)) | fail
     all_goals first
      | (refine Tr.ao ⟨rfl,?_⟩
         kernel_rfl)
      | fail
 · generalize im z lam m g k s0 N=S at *
   cases N with
   | zero =>
     exact ml (KX (n+4) s l l (oY z l) m S.1 lam S.2 L H) (aC _) (af _ _) (ag _ _) (by
      refine Tr.al (fun hc=>?_) (fun hc=>Tr.ao rfl)
      simp (disch:=omega) only[nV,nW] at hc;omega)
   | succ N =>
     exact ml (M9 (n+4) s l l (oY z l) m S.1 lam S.2 L H) (aC _) (af _ _) (ag _ _) (by
      refine Tr.al (fun hc=>?_) (fun hc=>Tr.ao rfl)
      simp (disch:=omega) only[nV,nW] at hc;omega)
end
end Go.Eng
end
section
namespace Go.Eng
open Go.Proofs
noncomputable def iU (k:Nat) (P:Nat→Int) (j:Int):av:=[(0,.yld 1 5),(5,bc k P false),(6,.int .i64 (Int.ofNat k)),(7,.int .i64 j)]
noncomputable def vP (k:Nat) (P:Nat→Int):av:=[(2,.ptr 0 0 0 0),(3,.ptr 0 1 0 0),(5,.ptr 0 3 0 0),(8,.ptr 0 4 0 0),(42,qi 0 (bc k P false))]
noncomputable def qz:av:=[(2,.ptr 0 0 0 0),(3,.ptr 0 1 0 0),(5,.ptr 0 3 0 0),(8,.ptr 0 4 0 0),(42,qi 0 .nils)]
theorem MF (n k:Nat) (P:Nat→Int) (b:Bool) (G G':aa) (j x:Int):aK (bu n 112 16) (Mw (il aI n 0) 1 5 [.int .i64 x] (an::G) (.ok (.bool b,an::G'))) aP aQ (part Tryz.f112 [1,0,0]) (hints (iU k P j)) (an::G) =
 (fun (Z0:Nat×AV×Option Nat)=>Tr.ite (cn j (Int.ofNat k)) (Tr.req (cU j k) (Tr.req (bB (aw 0 j 1) k) (Tr.reqP ([AV.int .i64 (P (aw 0 j 1))]=[AV.int .i64 x]∧an::G=an::G) (Tr.ite (bL b) (Tr.ok (Ex.ret,[(0,AV.yld 1 5,none),Z0,(6,AV.int .i64 (Int.ofNat k),none),(7,AV.int .i64 j,none),(14,AV.bool true,some 1)],an::G')) (Tr.ok (Ex.normal,[(0,AV.yld 1 5,none),Z0,(6,AV.int .i64 (Int.ofNat k),none),(7,AV.int .i64 (aS .i64 j (Int.ofNat 1)),none)],an::G')))))) (Tr.ok (Ex.exit 0,[(0,AV.yld 1 5,none),Z0,(6,AV.int .i64 (Int.ofNat k),none),(7,AV.int .i64 j,none),(8,AV.bool false,some 1)],an::G))) (5,AV.slcT none (Row.M [aM.arr .i64 P k]) 1 k false,none):=by kernel_rfl
theorem KW (n k:Nat) (P:Nat→Int) (G:aa) (j:Int):aK (bu n 112 16) (il aI n 0) aP aQ (part Tryz.f112 [1,0,0]) (hints (iU k P j)) (an::G) =
 Tr.ite (cn j (Int.ofNat k)) (Tr.req (cU j k) (Tr.req (bB (aw 0 j 1) k) Tr.bad)) (Tr.ok (Ex.exit 0,[(0,AV.yld 1 5,none),(5,AV.slcT none (Row.M [aM.arr .i64 P k]) 1 k false,none),(6,AV.int .i64 (Int.ofNat k),none),(7,AV.int .i64 j,none),(8,AV.bool false,some 1)],an::G)):=by kernel_rfl
theorem Jg (n s k:Nat) (P:Nat→Int) (b:Bool) (x:Int) (G G':aa):bt Tryz.prog (cd n) 100000 112 Tryz.f112 (KtB.kt 112) (il aI n 0) (dJ aP 0 (iU k P (Int.ofNat 0)) (an::G) (.ite b (.ok (.ret,hints (iU k P x++[(14,.bool true)]),an::G')) (.ok (.normal,hints (iU k P (Int.ofNat k)++[(8,.bool false)]),an::G')))) aQ [(.yld 0 5,none),(.ptrT (some s) (.G [bc k P false]) 0,none)] G =
 (fun (Z0:av)=>Tr.reqP (Z0=Z0∧an::G=an::G) (Tr.ite b (Tr.ok ((AV.tup [],none),G')) (Tr.ok ((AV.tup [],none),G')))) [(0,AV.yld 1 5),(5,AV.slcT none (Row.M [aM.arr .i64 P k]) 1 k false),(6,AV.int .i64 (Int.ofNat k)),(7,AV.int .i64 (Int.ofNat 0))]:=by kernel_rfl
theorem K1 (n s:Nat) (G:aa):bt Tryz.prog (cd n) 100000 112 Tryz.f112 (KtB.kt 112) (il aI n 0) aP aQ [(.yld 0 5,none),(.ptrT (some s) (.G [.nils]) 0,none)] G =
 Tr.ok ((AV.tup [],none),G):=by kernel_rfl
theorem Ur (n s l k:Nat) (y o o2:Nat→Int) (lam:Int) (P:Nat→Int) (H:aa):bt Tryz.prog (cd n) 100000 80 Tryz.f80 (KtB.kt 80) (il (tX aI 81 [fT (s+1) l y] (qi 0 (bc k P false))) n 0) (dJ aP 0 (u9 l y (Int.ofNat 0)) (ke s l y lam (fc (Int.ofNat l)) (fun x=>Int.ofNat 0) []::H) (.ok (.normal,hints (u9 l y (Int.ofNat l)++[(28,.bool false)]),ke s l y lam (fc (Int.ofNat l)) o []::H))) (I6 aQ (fun _=>true) (vP k P) (ke s l y lam (fc (Int.ofNat l)) o [oP s l y]::H) (.ok (.normal,hints (vP k P),ke s l y lam (fc (Int.ofNat l)) o2 [oP s l y,(0,.dead)]::H))) [(fT s l y,none),(.int .i64 lam,none)] H =
 (fun (Z0:bx)=>((fun (Z1:bx)=>((fun (Z2:av)=>((fun (Z3:av)=>Tr.req (I1 (Int.ofNat l) (Int.ofNat l) 8) (Tr.reqP (Z3=Z3∧Z1::H=Z1::H) (Tr.reqP ([AV.ptrT (some (Nat.succ s)) (Row.G [ay 7 l y]) 0]=[AV.ptrT (some (Nat.succ s)) (Row.G [ay 7 l y]) 0]) (Tr.reqP (Z2=Z2∧Z0::H=Z0::H) (Tr.req (dS 0 0) (Tr.req (rF 0 (fc (Int.ofNat l)) 0 (fc (Int.ofNat l))) (Tr.ok ((AV.slcT none (Row.M [aM.arr .i64 (nQ o2 0) (fc (Int.ofNat l))]) 1 (fc (Int.ofNat l)) (dS (fc (Int.ofNat l)) (fc (Int.ofNat l))),none),H)))))))) [(2,AV.ptr 0 0 0 0),(3,AV.ptr 0 1 0 0),(5,AV.ptr 0 3 0 0),(25,ay 7 l y),(26,AV.int .i64 (Int.ofNat l)),(27,AV.int .i64 (Int.ofNat 0))])) [(2,AV.ptr 0 0 0 0),(3,AV.ptr 0 1 0 0),(5,AV.ptr 0 3 0 0),(8,AV.ptr 0 4 0 0),(42,AV.fn (Fn.func 112) [] [AV.ptrT (some 0) (Row.G [AV.slcT none (Row.M [aM.arr .i64 P k]) 1 k false]) 0])])) { lock:=false,bs:=[(0,aj.row (Row.G [AV.ptrT (some (Nat.succ s)) (Row.G [ay 7 l y]) 0])),(0,aj.row (Row.I .i64 [lam])),(0,aj.row (Row.M [aM.arr .i64 (fun x=>Int.ofNat 0) (fc (Int.ofNat l))])),(0,aj.row (Row.G [AV.slc 0 2 0 0 1 (fc (Int.ofNat l)) (some (fc (Int.ofNat l)))]))] })) { lock:=false,bs:=[(0,aj.row (Row.G [AV.ptrT (some (Nat.succ s)) (Row.G [ay 7 l y]) 0])),(0,aj.row (Row.I .i64 [lam])),(0,aj.row (Row.M [aM.arr .i64 o (fc (Int.ofNat l))])),(0,aj.row (Row.G [AV.slc 0 2 0 0 1 (fc (Int.ofNat l)) (some (fc (Int.ofNat l)))])),(0,aj.row (Row.G [AV.fn (Fn.func 56) [AV.ptrT (some (Nat.succ s)) (Row.G [ay 7 l y]) 0] []]))] }:=by kernel_rfl
theorem QX (n s l:Nat) (y o:Nat→Int) (lam:Int) (H:aa):bt Tryz.prog (cd n) 100000 80 Tryz.f80 (KtB.kt 80) (il (tX aI 81 [fT (s+1) l y] (qi 0 .nils)) n 0) (dJ aP 0 (u9 l y (Int.ofNat 0)) (ke s l y lam (fc (Int.ofNat l)) (fun x=>Int.ofNat 0) []::H) (.ok (.normal,hints (u9 l y (Int.ofNat l)++[(28,.bool false)]),ke s l y lam (fc (Int.ofNat l)) o []::H))) (I6 aQ (fun _=>true) qz (ke s l y lam (fc (Int.ofNat l)) o [oP s l y]::H) (.ok (.normal,hints qz,ke s l y lam (fc (Int.ofNat l)) o [oP s l y,(0,.dead)]::H))) [(fT s l y,none),(.int .i64 lam,none)] H =
 (fun (Z0:bx)=>((fun (Z1:bx)=>((fun (Z2:av)=>((fun (Z3:av)=>Tr.req (I1 (Int.ofNat l) (Int.ofNat l) 8) (Tr.reqP (Z3=Z3∧Z1::H=Z1::H) (Tr.reqP ([AV.ptrT (some (Nat.succ s)) (Row.G [ay 7 l y]) 0]=[AV.ptrT (some (Nat.succ s)) (Row.G [ay 7 l y]) 0]) (Tr.reqP (Z2=Z2∧Z0::H=Z0::H) (Tr.req (dS 0 0) (Tr.req (rF 0 (fc (Int.ofNat l)) 0 (fc (Int.ofNat l))) (Tr.ok ((AV.slcT none (Row.M [aM.arr .i64 (nQ o 0) (fc (Int.ofNat l))]) 1 (fc (Int.ofNat l)) (dS (fc (Int.ofNat l)) (fc (Int.ofNat l))),none),H)))))))) [(2,AV.ptr 0 0 0 0),(3,AV.ptr 0 1 0 0),(5,AV.ptr 0 3 0 0),(25,ay 7 l y),(26,AV.int .i64 (Int.ofNat l)),(27,AV.int .i64 (Int.ofNat 0))])) [(2,AV.ptr 0 0 0 0),(3,AV.ptr 0 1 0 0),(5,AV.ptr 0 3 0 0),(8,AV.ptr 0 4 0 0),(42,AV.fn (Fn.func 112) [] [AV.ptrT (some 0) (Row.G [AV.nils]) 0])])) { lock:=false,bs:=[(0,aj.row (Row.G [AV.ptrT (some (Nat.succ s)) (Row.G [ay 7 l y]) 0])),(0,aj.row (Row.I .i64 [lam])),(0,aj.row (Row.M [aM.arr .i64 (fun x=>Int.ofNat 0) (fc (Int.ofNat l))])),(0,aj.row (Row.G [AV.slc 0 2 0 0 1 (fc (Int.ofNat l)) (some (fc (Int.ofNat l)))]))] })) { lock:=false,bs:=[(0,aj.row (Row.G [AV.ptrT (some (Nat.succ s)) (Row.G [ay 7 l y]) 0])),(0,aj.row (Row.I .i64 [lam])),(0,aj.row (Row.M [aM.arr .i64 o (fc (Int.ofNat l))])),(0,aj.row (Row.G [AV.slc 0 2 0 0 1 (fc (Int.ofNat l)) (some (fc (Int.ofNat l)))])),(0,aj.row (Row.G [AV.fn (Fn.func 56) [AV.ptrT (some (Nat.succ s)) (Row.G [ay 7 l y]) 0] []]))] }:=by kernel_rfl
end Go.Eng
end
section
namespace Go.Eng
open Go.Proofs
section
variable (n s k:Nat) (P:Nat→Int)
theorem Lj (St:Nat→aa) (p:Nat→Bool) (hk:k≤1000) (hr:∀ j,j<k→cd n (.round 1 5) [.int .i64 (P j)] (an::St j)=some (.bool (!p j),an::St (j+1))) :
 cd (n+1) (.fn 112) [.yld 0 5,.ptrT (some s) (.G [bc k P false]) 0] (St 0)=some (.tup [],St (if gB p k=true then fN p k 0+1 else k)):=by
 have hx:=rn (n:=n) (f:=112) (nt:=16) (c:=part Tryz.f112 [1,0,0]) 0 (fun j=>iU k P (j:Int)) (fun j=>an::St j) k p (fun j=>(iU k P (j:Int)++[(14,.bool true)],an::St (j+1))) (iU k P (Int.ofNat k)++[(8,.bool false)],an::St k) (by omega) (fun j hj=>?_) ?_
 · cases c:gB p k with
   | true =>
     rw[c] at hx
     rw[if_pos rfl]
     refine aX (n:=n) Tryz.func112 rfl rfl rfl (Jg n s k P true ((fN p k 0:Nat):Int) (St 0) (St (fN p k 0+1))) (aC _) (bg (af _ _) Eu (fun x h=>by
      have h:(Tr.ok (Ex.ret,hints (iU k P ((fN p k 0:Nat):Int)++[(14,.bool true)]),an::St (fN p k 0+1)):Tr dG).run=some x:=h
      rw[← Tr.ab h];simp only[dG.st,aF];exact hx)) (ag _ _) ?_
     exact Tr.aB ⟨rfl,rfl⟩ (Tr.ao ⟨rfl,rfl⟩)
   | false =>
     rw[c] at hx
     rw[if_neg (by simp)]
     refine aX (n:=n) Tryz.func112 rfl rfl rfl (Jg n s k P false 0 (St 0) (St k)) (aC _) (bg (af _ _) Eu (fun x h=>by
      have h:(Tr.ok (Ex.normal,hints (iU k P (Int.ofNat k)++[(8,.bool false)]),an::St k):Tr dG).run=some x:=h
      rw[← Tr.ab h];simp only[dG.st,aF];exact hx)) (ag _ _) ?_
     exact Tr.aB ⟨rfl,rfl⟩ (Tr.ao ⟨rfl,rfl⟩)
 · refine aE (MF n k P (!p j) (St j) (St (j+1)) (j:Int) (P j)) (Bf (aC n) (fun x hy=>by rw[← Tr.ab hy];exact hr j hj)) (af _ _) (ag _ _) ?_
   rw[DG,iu (by omega)]
   generalize St (j+1)=G' at *
   generalize St j=G at *
   cases p j with
   | true =>
     simp only[if_true,Bool.not_true]
     exact wF
   | false =>
     simp only[Bool.false_eq_true,if_false,Bool.not_false]
     exact wF
 · obtain ⟨x,h1,rfl⟩:=aE (Q:=fun x=>x=(.exit 0,iU k P (Int.ofNat k)++[(8,.bool false)],an::St k)) (KW n k P (St k) (Int.ofNat k)) (aC n) (af _ _) (ag _ _) (by
    refine Tr.al (fun hc=>?_) (fun hc=>Tr.ao rfl)
    simp (disch:=omega) only[nV,nW] at hc;omega)
   exact h1
theorem JB (H:aa):cd (n+1) (.fn 112) [.yld 0 5,.ptrT (some s) (.G [.nils]) 0] H=some (.tup [],H):=by
 refine aX (n:=n) Tryz.func112 rfl rfl rfl (K1 n s H) (aC _) (af _ _) (ag _ _) ?_
 exact wF
end
noncomputable def vY:Code:=part Tryz.f80 [1,1,1,1,0,1,0,0]
noncomputable def zh:Code:=part Tryz.f80 [1,1,1,1,0,1,0,1]
theorem Ry:dO (bM Tryz.f80)=[(.tmp 42,#[43],vY,zh)]:=by kernel_rfl
noncomputable def lW (k:Nat) (P:Nat→Int):dF:={ state:=.ready,pending:=none,fn:=80,nt:=91,fr:=vP k P,params:=[43],assign:=vY,body:=zh }
noncomputable def KC:dF:={ state:=.ready,pending:=none,fn:=80,nt:=91,fr:=qz,params:=[43],assign:=vY,body:=zh }
noncomputable def Gy (l:Nat) (z:Nat→Int):Nat→Int:=bn (dl (fw z) l)
noncomputable def w7 (l:Nat) (z:Nat→Int) (lam y:Int) (o:Nat→Int):Nat→Int:=(im z lam (eH z y l) (Gy l z) ((dl (fw z) l).length-1) (o,fG l (bE z) (bG z) o y) l).1
noncomputable def yi (l:Nat) (z:Nat→Int) (lam:Int) (P:Nat→Int):Nat→Nat→Int
 | 0=>sC z l
 | j+1=>w7 l z lam (P j) (yi l z lam P j)
theorem mk_one {l:Nat} {z:Nat→Int} {y:Int} (i:Nat):eH z y l i=if i<l∧bH (bE z) (bG z) y i=true then 1 else 0:=by
 unfold eH
 have:sf z y i=bH (bE z) (bG z) y i:=rfl
 rw[this]
theorem Gh {l:Nat} {z o:Nat→Int} {y:Int}:∀ i,nR (eH z y l) o i=gG (fun i=>if bH (bE z) (bG z) y i=true then o i else 0) (min i l)
 | 0=>by rw[Nat.zero_min];rfl
 | i + 1=>by
   have ih:=Gh (l:=l) (z:=z) (o:=o) (y:=y) i
   show (if eH z y l i=1 then nR (eH z y l) o i+o i else nR (eH z y l) o i)=_
   rw[ih]
   by_cases c:i<l
   · rw[show min (i+1) l=i+1 by omega,show min i l=i by omega]
     show _=gG (fun i=>if bH (bE z) (bG z) y i=true then o i else 0) i+(if bH (bE z) (bG z) y i=true then o i else 0)
     by_cases c2:bH (bE z) (bG z) y i=true
     · have h1:eH z y l i=1:=by rw[mk_one];exact if_pos ⟨c,c2⟩
       rw[if_pos h1,if_pos c2]
     · have h1:eH z y l i=0:=by rw[mk_one];exact if_neg (fun h=>c2 h.2)
       rw[if_neg (by rw[h1];decide),if_neg c2];omega
   · have h1:eH z y l i=0:=by rw[mk_one];exact if_neg (fun h=>c h.1)
     rw[show min (i+1) l=l by omega,show min i l=l by omega,if_neg (by rw[h1];decide)]
theorem x0 {l:Nat} {z o:Nat→Int} {y:Int} (hl:l≤14):nR (eH z y l) o 14=fG l (bE z) (bG z) o y:=by
 rw[Gh,show min 14 l=l by omega];rfl
theorem Ft {l:Nat} {z o:Nat→Int} {lam y:Int} (ho:∀ i,i<l→0≤o i):wS l z lam y o (o,fG l (bE z) (bG z) o y) :=
 ⟨rfl,fun i hi=>⟨ho i hi,Int.le_refl _⟩,fun i hi _=>rfl,fun i hi h=>absurd h (by show ¬ o i<o i;omega)⟩
theorem mk_zero {l:Nat} {z:Nat→Int} {y:Int}:∀ i,i<l→(eH z y l i=0↔bH (bE z) (bG z) y i=false):=fun i hi=>by
 rw[mk_one]
 cases bH (bE z) (bG z) y i with
 | true=>rw[if_pos ⟨hi,rfl⟩];simp
 | false=>rw[if_neg (fun h=>by cases h.2)];simp
theorem B7 {l:Nat} {z:Nat→Int} (hne:dl (fw z) l≠[]):∀ j,j≤(dl (fw z) l).length-1→0≤Gy l z j∧Gy l z j<l:=fun j hj=>by
 have:=List.length_pos_iff.2 hne
 have:=pO (dl (fw z) l) j (by omega)
 obtain ⟨i,h1,h2,_⟩:=(qt _ _ _).1 this
 unfold Gy;omega
theorem B6 {l:Nat} {z:Nat→Int} {y:Int}:∀ i,i<l→bH (bE z) (bG z) y i=true→∃ j,j≤(dl (fw z) l).length-1∧Gy l z j=i:=fun i hi h=>by
 have h2:=gr.1 h
 have:(i:Int) ∈ dl (fw z) l:=(qt _ _ _).2 ⟨i,rfl,hi,by unfold fw;rw[if_pos (by omega)]⟩
 obtain ⟨j,hj,e⟩:=Cn this
 exact ⟨j,by omega,e⟩
theorem wZ {z m g:Nat→Int} {lam:Int} {k:Nat} {s:(Nat→Int)×Int} {N:Nat} (h:(im z lam m g k s N).2≤lam):∀ d,im z lam m g k s (N+d)=im z lam m g k s N
 | 0=>rfl
 | d+1=>by
   show (if (im z lam m g k s (N+d)).2≤lam then im z lam m g k s (N+d) else _)=_
   rw[wZ h d,if_pos h]
theorem s6 {l:Nat} {z o:Nat→Int} {lam y:Int} (h:bD l z=0) (hne:dl (fw z) l≠[]) (hl:0≤lam) (ho:∀ i,i<l→0≤o i):Jk l (bE z) (bG z) lam y o (w7 l z lam y o):=by
 have hh:∀ i,i<l→-10000≤bG z i:=fun i hi=>by have:=(bI h).2 i hi;unfold bG;omega
 obtain ⟨N,n1,n2,n3⟩:=EK hh mk_zero (B7 hne) B6 hl (Ft (lam:=lam) (y:=y) ho)
 obtain ⟨i1,_⟩:=s5 hh mk_zero (B7 hne) B6 hl (Ft (lam:=lam) (y:=y) ho) l
 have e:=wZ n3 (l-N)
 rw[show N+(l-N)=l by omega] at e
 exact JG i1 (by rw[e];exact n3)
theorem CC {l:Nat} {z P:Nat→Int} {lam:Int} (h:bD l z=0) (hne:dl (fw z) l≠[]) (hl:0≤lam):∀ j i,i<l→0≤yi l z lam P j i∧yi l z lam P j i≤cF z i
 | 0,i,hi=>by
   show 0≤sC z l i∧sC z l i≤_
   unfold sC;rw[if_pos hi];exact ⟨uG h i hi,Int.le_refl _⟩
 | j+1,i,hi=>by
   have ih:=fun i hi=>CC h hne hl (P:=P) j i hi
   have:=(s6 (y:=P j) h hne hl (fun i hi=>(ih i hi).1)).le i hi
   have:=ih i hi
   show 0≤w7 l z lam (P j) (yi l z lam P j) i∧w7 l z lam (P j) (yi l z lam P j) i≤_
   omega
end Go.Eng
end
section
namespace Go.Eng
open Go.Proofs
theorem Lq {l:Nat} {z:Nat→Int} (hne:dl (fw z) l≠[]):dA (dl (fw z) l)=bc ((dl (fw z) l).length-1+1) (Gy l z) false:=by
 unfold Gy
 cases e:dl (fw z) l with
 | nil=>exact absurd e hne
 | cons a r=>rfl
section
variable (n s l k:Nat) (z P:Nat→Int) (lam:Int) (H:aa)
theorem Qg (o:Nat→Int) (x:Int) (h:bD l z=0) (hne:dl (fw z) l≠[]) (hl0:0≤lam) (hlam:lam≤2000000) (ho:∀ i,i<l→0≤o i∧o i≤cF z i) :
 cd (n+5) (.round 1 5) [.int .i64 x] (an::ke s l (oY z l) lam l o [oP s l (oY z l),(0,.loop (lW k P))]::H)=some (.bool true,an::ke s l (oY z l) lam l (w7 l z lam x o) [oP s l (oY z l),(0,.loop (lW k P))]::H):=by
 obtain ⟨hl,hz⟩:=bI h
 have hh:∀ i,i<l→-10000≤bG z i:=fun i hi=>by have:=hz i hi;unfold bG;omega
 have hw:∀ i,i<l→cF z i≤100000:=fun i hi=>by have:=hz i hi;unfold cF;omega
 have hlen:=w8 (fw z) l
 have hI:=Ft (l:=l) (z:=z) (lam:=lam) (y:=x) (fun i hi=>(ho i hi).1)
 obtain ⟨N,n1,n2,n3⟩:=EK hh mk_zero (B7 hne) B6 hl0 hI
 have hst:=wZ n3 (l-N)
 rw[show N+(l-N)=l by omega] at hst
 have hcut:w7 l z lam x o=(im z lam (eH z x l) (Gy l z) ((dl (fw z) l).length-1) (o,fG l (bE z) (bG z) o x) N).1:=by
  unfold w7;rw[hst]
 have hm1:∀ i,eH z x l i=1→i<l:=fun i hi=>by
  apply Classical.byContradiction
  intro c
  have:eH z x l i=0:=by rw[mk_one];exact if_neg (fun h=>c h.1)
  rw[this] at hi;cases hi
 have ho2:∀ i,i<l→0≤o i∧o i≤100000:=fun i hi=>by have:=ho i hi;have:=hw i hi;omega
 have hsum:=x7 hm1 ho2 14
 have hd:=PL (n+4) s l z (eH z x l) o lam { lW k P with state:=.busy } H hm1 ho2 hl.2
 have hs0:(o,fG l (bE z) (bG z) o x).2≤2000000:=by show fG _ _ _ _ _≤_;rw[← x0 hl.2];omega
 have he:=PM n s l ((dl (fw z) l).length-1) z (eH z x l) (Gy l z) lam x { lW k P with state:=.busy } H h (Lq hne) hl0 hlam (by omega) mk_zero (B7 hne) B6 (o0:=o) (fun i hi=>(ho2 i hi).2) hs0 hI n1 n2 n3
 rw[← x0 hl.2] at he
 rw[hcut]
 rw[← x0 hl.2]
 generalize im z lam (eH z x l) (Gy l z) ((dl (fw z) l).length-1) (o,nR (eH z x l) o 14) N=S at *
 have h1:exec (jy (n+4) 80 91 2 5) vY (IU k P x) (an::an::ke s l (oY z l) lam l o [oP s l (oY z l),(0,.loop (lW k P))]::H)=some (.normal,IV x,an::an::ke s l (oY z l) lam l o [oP s l (oY z l),(0,.loop (lW k P))]::H) :=
  ml (QA (n+4) k P x _) (aC _) (af _ _) (ag _ _) (Tr.ao rfl)
 have hcp:ff (fun x=>Int.ofNat 0) 0 (eH z x l) 14=eH z x l:=G0 (fun _ _=>rfl) (by apply A2;exact hl.2)
 obtain ⟨y,h2,fr2,lv,rfl⟩:=qv (Q:=fun y=>∃ fr2 lv,y=(.normal,fr2,lv::an::ke s l (oY z l) lam l S.1 [oP s l (oY z l),(0,.loop { lW k P with state:=.busy })]::H)) (Qz (n+4) s l l (oY z l) (eH z x l) o S.1 lam x (nR (eH z x l) o 14) S.2 { lW k P with state:=.busy } H) (cg _ _ (bZ (aO _) (fun H=>JC (n+2) (s+3) l z H x h))) (bg (bg (af _ _) N0 (fun x hx=>by rw[← Tr.ab hx];simp only[dG.st,aF];rw[hcp];exact hd)) N1 (fun x hx=>by rw[← Tr.ab hx];simp only[dG.st,aF];rw[hcp];exact he)) (ag _ _) (by
  rw[hcp]
  clear hd he h1 hcp
  repeat' first | (refine Tr.al (fun hc=>?_) (fun hc=>?_)<;>(try simp (disch:=omega) only[nV,nW] at hc)<;>(try (exfalso;omega))) | (refine Tr.bj ?_ ?_;· ((try simp (disch:=omega) only[nV,nW]);try omega)) | (refine Tr.aB ?_ ?_;· first | exact trivial | rfl | exact ⟨rfl,rfl⟩ | exact ⟨trivial,rfl⟩ | exact ⟨rfl,by assumption⟩ | exact ⟨trivial,by assumption⟩ | exact ⟨rfl,rfl,rfl⟩ | (simp (disch:=omega) only[nV,nW];done) | ((try simp (disch:=omega) only[nV,nW]);omega)) | fail
  all_goals first
   | exact Tr.ao ⟨_,_,rfl⟩
   | fail)
 exact pY (l:=lW k P) (l2:={ lW k P with state:=.busy }) rfl rfl rfl rfl h1 h2 rfl rfl
end
end Go.Eng
end
