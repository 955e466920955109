/- Lay: law LayRests. -/
import Derived.Test.YtoomemfhcbajoaaV5Lb48
import Derived.Test.YtoomemfhcbajoaaV5EngRnLx7
import Derived.Test.YtoomemfhcbajoaaV5EngKtL
import Derived.Test.YtoomemfhcbajoaaProg
import Derived.KernelRfl
import Derived.Test.YtoomemfhcbajoaaChecked
import Derived.Test.YtoomemfhcbajoaaV5LaRfx7
import Derived.Test.YtoomemfhcbajoaaV5Lb18x4
import Derived.Test.YtoomemfhcbajoaaV5EngRnFx5
import Derived.Test.YtoomemfhcbajoaaRows
import Derived.ProofKit
import Derived.OpenShut
set_option linter.unusedVariables false
set_option linter.unusedSimpArgs false
set_option maxRecDepth 100000
section
namespace Go.Eng
open Go.Proofs
theorem OE (n l k:Nat) (t d:Nat→Int) (h w:Int) (H:aa):bn Try.prog (cd n) 100000 12 Try.f12 (KtL.kt 12) (il (xC (tX aK 43 [dx l t k d] (.bool false)) 16 KU) n 0) (cX aO 0 [] [] .bad) aP [(dx l t k d,none),(.int .u8 h,none),(.int .u8 w,none)] H =
 (fun (Z0:List AV)=>Tr.reqP (Z0=Z0) (Tr.ite (ba false) (Tr.reqP True (Tr.ok ((AV.bool true,none),H))) (Tr.req (ba (cQ (Int.ofNat 10) (Int.ofNat 0))) (Tr.req (ba (cQ (Int.ofNat 40) (Int.ofNat 0))) Tr.bad)))) [AV.agg (Row.G [AV.slcT none (Row.M [ah.arr .i64 t l]) 1 l false,AV.slcT none (Row.M [ah.arr .i64 d k]) 1 k false])]:=by kernel_rfl
theorem Fu (p:Nat→Bool) (x:Int):∀ j,x ∈ wV p j↔∃ i:Nat,1≤i∧i≤j∧p i=true∧x=i
 | 0=>⟨fun h=>(List.not_mem_nil h).elim,fun ⟨i,h1,h2,_⟩=>by omega⟩
 | j + 1=>by
   have ih:=Fu p x j
   unfold wV
   constructor
   · intro h
     split at h
     · rename_i hp
       rcases List.mem_append.1 h with h | h
       · obtain ⟨i,h1,h2,h3,h4⟩:=ih.1 h;exact ⟨i,h1,by omega,h3,h4⟩
       · exact ⟨j+1,by omega,by omega,hp,List.mem_singleton.1 h⟩
     · obtain ⟨i,h1,h2,h3,h4⟩:=ih.1 h;exact ⟨i,h1,by omega,h3,h4⟩
   · rintro ⟨i,h1,h2,h3,h4⟩
     by_cases e:i=j+1
     · subst e
       rw[if_pos h3]
       exact List.mem_append.2 (.inr (List.mem_singleton.2 h4))
     · have:=ih.2 ⟨i,h1,by omega,h3,h4⟩
       split
       · exact List.mem_append.2 (.inl this)
       · exact this
section
variable (l:Nat) (t:Nat→Int) (k:Nat) (hv:Int) (z:Nat→Int)
def vS:Bool:=decide (mj l t k z=0)
noncomputable def lS:List Int:=wV (rB l t z hv) (kS z (k-1)).toNat
noncomputable def bS:Bool:=decide (bQ l k t z hv≠0) || (lS l t k hv z).isEmpty
noncomputable def cS:Int:=bQ l k t z hv
noncomputable def qS:Nat:=(lS l t k hv z).length
noncomputable def yS:Nat→Int:=al (lS l t k hv z)
end
def fS (m:Nat) (y:Nat→Int) (x:Int):Bool:=fA (fun i=>decide (y i=x)) m
theorem Ep {c l k:Nat} {t:Nat→Int} {T:n5} (hT:T.Ok (cd (c+3))):(xC T 43 (Mh l t k (vS l t k))).Ok (cd (c+3)):=by
 refine np hT (fun args p v hg hp H=>?_)
 unfold Mh at hg
 split at hg
 · simp only[nP] at hg
   obtain ⟨rfl,rfl⟩:=hg
   rw[hp]
   exact Pj c l k t _ H
 · cases hg
theorem Eo {c l k:Nat} {t:Nat→Int} {hv:Int} {T:n5} (hT:T.Ok (cd (c+12))):(gY T 41 (Mg l t k hv (fun _=>True) (bS l t k hv) (cS l t k hv) (qS l t k hv) (yS l t k hv))).Ok (cd (c+12)):=by
 refine iN hT (fun args H x hx=>?_)
 unfold Mg at hx
 split at hx
 · rename_i a s i z p e m u b
   obtain ⟨⟨h1,_⟩,hx⟩:=Tr.cW hx
   rw[h1,PQ]
   unfold Oe
   rcases Tr.gd hx with ⟨h2,hx⟩ | ⟨h2,hx⟩
   · rw[← Tr.ab hx]
     unfold bS at h2
     unfold cS
     by_cases c0:bQ l k t z hv=0
     · rw[if_pos c0]
       simp only[c0,ne_eq,not_true,decide_false,Bool.false_or,List.isEmpty_iff] at h2
       unfold lS at h2
       rw[h2,c0];rfl
     · rw[if_neg c0]
   · rw[← Tr.ab hx]
     unfold bS at h2
     unfold cS qS yS
     simp only[Bool.or_eq_false_iff,decide_eq_false_iff_not,ne_eq,Classical.not_not] at h2
     rw[if_pos h2.1,h2.1]
     have e2:wV (rB l t z hv) (kS z (k-1)).toNat=lS l t k hv z:=rfl
     rw[e2]
     cases hL:lS l t k hv z with
     | nil=>rw[hL] at h2;simp at h2
     | cons a r=>rfl
 · exact (Tr.ae hx).elim
theorem Bo {c:Nat} {T:n5} (hT:T.Ok (cd (c+1))):(xC T 49 (Gq fS)).Ok (cd (c+1)):=by
 refine np hT (fun args p v hg hp H=>?_)
 unfold Gq at hg
 split at hg
 · simp only[nP] at hg
   obtain ⟨rfl,rfl⟩:=hg
   exact MA c H _
 · simp only[nP] at hg
   obtain ⟨rfl,rfl⟩:=hg
   obtain ⟨h1,h2⟩:=hp
   have h1:=List.head_eq_of_cons_eq h1
   rw[h1]
   exact PR c H _ _ _ _ h2
 · cases hg
theorem Ho {l k:Nat} {t d e:Nat→Int} (h:Sh l t k d) (he:∀ j,j<l→1≤e j∧e j≤40):Sh l t k e :=
 ⟨h.l1,h.l30,h.kl,h.tl,h.tm,h.tj,fun j hj=>(he j hj).1,fun j hj=>(he j hj).2,h.cyc⟩
theorem F9 {l:Nat} {t e:Nat→Int} {h:Int} (hf:Fw l t) (hc:ct l t e h=true):∀ j,j<l→1≤e j:=fun j hj=>by
 have h0:CH l t e 0=0:=by
  apply Classical.byContradiction
  intro hn
  have:=IT l t e h (by omega)
  rw[hc] at this;cases this
 have:=kC h0 j hj
 rw[decide_eq_false_iff_not] at this
 have:=H3 (e:=e) hf hj
 omega
theorem ET {d e:Nat→Int} {j:Nat} (h:∀ i,i≤j→d i≤e i):kS d j≤kS e j :=
 wu d (kS e j) j (fun i hi=>Int.le_trans (h i hi) (Av e j i hi))
section
variable {l k:Nat} {t d:Nat→Int} {hv:Int} {T:Nat}
theorem Ao (h1:1≤T):(T:Int) ∈ lS l t k hv d↔(T:Int)≤kS d (k-1)∧rB l t d hv T=true:=by
 unfold lS
 rw[Fu]
 constructor
 · rintro ⟨i,a,b,c,e⟩
   have:T=i:=by omega
   subst this
   exact ⟨by omega,c⟩
 · rintro ⟨a,b⟩
   exact ⟨T,h1,by omega,b,rfl⟩
theorem JI (hs:Sh l t k d) (hv1:1≤hv) (hv2:hv≤10) (h1:1≤T) (hT:(T:Int)≤kS d (k-1)) (hx:mj l t k (al (bC (ev d T) k))=0):bQ l k t (al (bC (ev d T) k)) hv=0↔(T:Int) ∈ lS l t k hv d:=by
 rw[Ao h1]
 have ha:=zW (vr hx) hv1 hv2
 have e:bQ l k t (al (bC (ev d T) k)) hv=if ct l t (al (bC (ev d T) k)) hv=true then 0 else 13:=by unfold bQ;rw[if_pos ha]
 rw[e,z4 hs.fw hs.kl]
 unfold rB
 by_cases c:ct l t (ev d T) hv=true
 · rw[if_pos c];exact ⟨fun _=>⟨hT,c⟩,fun _=>rfl⟩
 · rw[if_neg c];exact ⟨fun h=>by omega,fun h=>absurd h.2 c⟩
theorem JJ (hs:Sh l t k d) (h1:1≤T) (hm:(T:Int) ∈ lS l t k hv d):(T:Int)≤kS d (k-1)∧mj l t k (al (bC (ev d T) k))=0:=by
 obtain ⟨a,b⟩:=(Ao h1).1 hm
 refine ⟨a,FD (Ho hs (fun j hj=>?_))⟩
 rw[lO _ (by have:=hs.kl;omega)]
 have h2:=F9 hs.fw b j hj
 have h3:=hs.d40 j hj
 refine ⟨h2,?_⟩
 show (if (T:Int)≤d j then d j-1 else d j)≤40
 split<;>omega
theorem Fv (hs:Sh l t k d) (hc:ct l t d hv=true) (hv1:1≤hv) (hv2:hv≤10) (h1:1≤T) (hT:(T:Int)≤kS d (k-1)) (hy:mj l t k (al (bC (jg d T) k))=0):bQ l k t (al (bC (jg d T) k)) hv=0∧(T:Int) ∈ lS l t k hv (al (bC (jg d T) k)):=by
 have hle:∀ j,j<l→d j≤al (bC (jg d T) k) j:=fun j hj=>by
  rw[lO _ (by have:=hs.kl;omega)]
  show d j≤if (T:Int)≤d j then d j+1 else d j
  split<;>omega
 have ha:=zW (vr hy) hv1 hv2
 have hcy:ct l t (al (bC (jg d T) k)) hv=true:=DX (fun i hi=>GD hs.fw hle hi) (Int.le_refl _) hc
 refine ⟨by unfold bQ;rw[if_pos ha,if_pos hcy],(Ao h1).2 ⟨Int.le_trans hT (ET (fun i hi=>hle i (by have:=hs.kl;have:=hs.l1;omega))),?_⟩⟩
 unfold rB
 rw[pA (e':=d) hs.fw (fun j hj=>by
  show (if (T:Int)≤al (bC (jg d T) k) j then al (bC (jg d T) k) j-1 else al (bC (jg d T) k) j)=d j
  rw[lO _ (by have:=hs.kl;omega)]
  show (if (T:Int)≤(if (T:Int)≤d j then d j+1 else d j) then (if (T:Int)≤d j then d j+1 else d j)-1 else (if (T:Int)≤d j then d j+1 else d j))=d j
  by_cases c:(T:Int)≤d j
  · rw[if_pos c,if_pos (by omega)];omega
  · rw[if_neg c,if_neg c])]
 exact hc
end
section
variable (n l k:Nat) (t d:Nat→Int) (H:aa)
theorem Ia {hv:Int} {z:Nat→Int} (h:kS z (k-1)≤1000):qS l t k hv z≤1000:=by
 unfold qS lS
 have:=wW (rB l t z hv) (kS z (k-1)).toNat
 omega
theorem PK  (h w:Int) (hh:0≤h∧h≤255) (hw:0≤w∧w≤255):cd (n+14) (.fn 12) [dx l t k d,.int .u8 h,.int .u8 w] H=some (.bool true,H):=by
 by_cases hb1:mj l t k d=0
 · have hs := vr hb1
   have m1:h.tmod 10=h % 10:=Int.tmod_eq_emod_of_nonneg hh.1
   have m2:w.tmod 40=w % 40:=Int.tmod_eq_emod_of_nonneg hw.1
   have hh1:1≤1+h % 10:=by omega
   have hh2:1+h % 10≤10:=by omega
   obtain ⟨T,hT⟩:∃ T:Nat,1+w % 40=T:=⟨(1+w % 40).toNat,by omega⟩
   have hT1:1≤T:=by omega
   have hT2:T≤40:=by omega
   have e2:br .i64 (Int.ofNat 1) (kZ .i64 (tE .i64 w) (Int.ofNat 40))=(T:Nat):=by
    rw[FN (by omega) (by omega),wP,show Int.ofNat 40=40 from rfl,m2,show Int.ofNat 1=1 from rfl,Cs (by omega) (by omega),hT]
   generalize hhv:1+h % 10=hv at *
   have e1:br .i64 (Int.ofNat 1) (kZ .i64 (tE .i64 h) (Int.ofNat 10))=hv:=by
    rw[FN (by omega) (by omega),wP,show Int.ofNat 10=10 from rfl,m1,show Int.ofNat 1=1 from rfl,Cs (by omega) (by omega),hhv]
   have ha:=zW hs hh1 hh2
   have hkl:=hs.kl
   have l30:=hs.l30
   have l1:=hs.l1
   obtain ⟨g1,g2,g3⟩:=H7 hs
   have h28:∀ H,cd (n+13) (.fn 28) [dx l t k d,.int .i64 hv] H=some (.int .i64 (cS l t k hv d),H):=fun H=>PO (n+9) l k t d H hv
   obtain ⟨pl,hpl⟩:∃ pl,Ml l k t (al (bC (ev d T) k)) hv=.tup [pl,.int .i64 (bQ l k t (al (bC (ev d T) k)) hv)]:=by
    unfold Ml
    by_cases e:bQ l k t (al (bC (ev d T) k)) hv=0
    · rw[if_pos e,e];exact ⟨_,rfl⟩
    · rw[if_neg e];exact ⟨_,rfl⟩
   have h27:∀ H,cd (n+13) (.fn 27) [dx l t k (al (bC (ev d T) k)),.int .i64 hv] H=some (.tup [pl,.int .i64 (bQ l k t (al (bC (ev d T) k)) hv)],H):=fun H=>by rw[show n+13=(n+1)+12 by omega,PN,hpl]
   have hd:∀ j,j<k→1≤d j∧d j≤40:=fun j hj=>⟨hs.d1 j (by omega),hs.d40 j (by omega)⟩
   have hVd:vS l t k d=true:=decide_eq_true hb1
   have hQd:=Ia l k t (hv:=hv) (z:=d) (by omega)
   have hQy:qS l t k hv (al (bC (jg d T) k))≤1000:=Ia l k t (by
    refine wu _ _ _ (fun i hi=>?_)
    rw[lO _ (by omega)]
    have:=hd i (by omega)
    show (if (T:Int)≤d i then d i+1 else d i)≤1000
    split<;>omega)
   have r1:=JI (T:=T) hs hh1 hh2 hT1
   have r2:=JJ (T:=T) (hv:=hv) hs hT1
   have r3:cS l t k hv d=0→(T:Int)≤kS d (k-1)→mj l t k (al (bC (jg d T) k))=0→bQ l k t (al (bC (jg d T) k)) hv=0∧(T:Int) ∈ lS l t k hv (al (bC (jg d T) k)):=fun e a b=>Fv hs (ru e).2 hh1 hh2 hT1 a b
   have hbd:bS l t k hv d=true→cS l t k hv d=0→(T:Int) ∉ lS l t k hv d:=fun a b hm=>by
    unfold bS at a
    unfold cS at b
    rw[b] at a
    simp only[ne_eq,not_true,decide_false,Bool.false_or,List.isEmpty_iff] at a
    rw[a] at hm;exact List.not_mem_nil hm
   have hbn:bS l t k hv d=false→cS l t k hv d=0:=fun a=>by
    unfold bS at a
    simp only[Bool.or_eq_false_iff,decide_eq_false_iff_not,ne_eq,Classical.not_not] at a
    exact a.1
   have hfd:∀ z,fS (qS l t k hv z) (yS l t k hv z) (T:Nat)=decide ((T:Int) ∈ lS l t k hv z):=fun z=>GN (lS l t k hv z) T
   have hby:∀ z,bQ l k t z hv=0→(T:Int) ∈ lS l t k hv z→bS l t k hv z=false:=fun z a b=>by
    unfold bS
    rw[a]
    cases hL:lS l t k hv z with
    | nil=>rw[hL] at b;exact (List.not_mem_nil b).elim
    | cons x r=>rfl
   have hlv:EK l t k d T k=m6 l t k d (k-1) k (al (bC (ev d T) k)) (al (bC (jg d T) k)):=by
    obtain ⟨p,rfl⟩:∃ p,k=p+1:=⟨k-1,by omega⟩
    rfl
   clear hpl
   cases hB:bS l t k hv d with
   | true =>
     have hx:=NA (n+13) l k t d H hv T (cS l t k hv d) (by omega) (by omega) hd
     rw[hlv,g3] at hx
     refine aS (n:=n+13) Try.func12 rfl rfl rfl (OD (n+13) l k t d h w hv T (kS d (k-1)) (bQ l k t (al (bC (ev d T) k)) hv) (k-1) (al (bC (ev d T) k)) (al (bC (jg d T) k)) pl (vS l t k) (fun _=>True) (bS l t k hv) (cS l t k hv) (qS l t k hv) (yS l t k hv) fS H) (aX _ (n+13) (MN (by omega) (Bo (c:=n+12) (Eo (c:=n+1) (Ep (c:=n+10) (b5 (b5 (aR _) h28) h27)))))) (aW (af _ _) Mr (fun x hy=>bU hy (by rw[e1,e2];exact hx))) (ag _ _) ?_
     clear hx h28 h27
     simp only[e1,e2,di,hVd,hB,hfd]
     by_cases hC:cS l t k hv d=0
     · have hno:=hbd hB hC
       simp only[hC]
       by_cases hg:(T:Int)≤kS d (k-1)
       · have hq:vS l t k (al (bC (ev d T) k))=true→Gj false (cQ (bQ l k t (al (bC (ev d T) k)) hv) (Int.ofNat 0))=true:=fun e=>by
          have:=r1 hg (of_decide_eq_true e)
          rw[Ac,fW]
          by_cases c:bQ l k t (al (bC (ev d T) k)) hv=0
          · have m:=this.1 c
            exact absurd m hno
          · have m:(T:Int) ∉ lS l t k hv d:=fun h=>c (this.2 h)
            have e0:(bQ l k t (al (bC (ev d T) k)) hv == Int.ofNat 0)=false:=by simpa using c
            rw[e0];rfl
         have hq2:vS l t k (al (bC (ev d T) k))=false→false=false:=fun e=>rfl
         cases hvy:vS l t k (al (bC (jg d T) k)) with
         | true =>
           obtain ⟨a,b⟩:=r3 hC hg (of_decide_eq_true hvy)
           have hb:=hby _ a b
           have hcy:cS l t k hv (al (bC (jg d T) k))=0:=a
           simp only[hb,hcy,decide_eq_true b,hvy]
           cases hvx:vS l t k (al (bC (ev d T) k)) with
           | true =>
             simp only[hq hvx]
             exact wF
           | false =>
             exact wF
         | false =>
           generalize decide ((T:Int) ∈ lS l t k hv (al (bC (jg d T) k)))=my at *
           cases hvx:vS l t k (al (bC (ev d T) k)) with
           | true =>
             simp only[hq hvx]
             exact wF
           | false =>
             exact wF
       · generalize decide ((T:Int) ∈ lS l t k hv (al (bC (jg d T) k)))=my at *
         exact wF
     · generalize decide ((T:Int) ∈ lS l t k hv (al (bC (jg d T) k)))=my at *
       generalize cS l t k hv d=C at *
       exact wF
   | false =>
     have hC:=hbn hB
     have hx:=Nz (n+13) l k t d H hv T (cS l t k hv d) (qS l t k hv d) (yS l t k hv d) (by omega) (by omega) hd
     rw[hlv,g3] at hx
     refine aS (n:=n+13) Try.func12 rfl rfl rfl (OC (n+13) l k t d h w hv T (kS d (k-1)) (bQ l k t (al (bC (ev d T) k)) hv) (k-1) (al (bC (ev d T) k)) (al (bC (jg d T) k)) pl (vS l t k) (fun _=>True) (bS l t k hv) (cS l t k hv) (qS l t k hv) (yS l t k hv) fS H) (aX _ (n+13) (MN (by omega) (Bo (c:=n+12) (Eo (c:=n+1) (Ep (c:=n+10) (b5 (b5 (aR _) h28) h27)))))) (aW (af _ _) Mr (fun x hy=>bU hy (by rw[e1,e2];exact hx))) (ag _ _) ?_
     clear hx h28 h27
     simp only[e1,e2,di,hVd,hB,hfd]
     simp only[hC]
     by_cases hg:(T:Int)≤kS d (k-1)
     · have hq:vS l t k (al (bC (ev d T) k))=true→Gj (decide ((T:Int) ∈ lS l t k hv d)) (cQ (bQ l k t (al (bC (ev d T) k)) hv) (Int.ofNat 0))=true:=fun e=>by
        have:=r1 hg (of_decide_eq_true e)
        rw[Ac,fW]
        by_cases c:bQ l k t (al (bC (ev d T) k)) hv=0
        · have m:=this.1 c
          rw[c,decide_eq_true m];rfl
        · have m:(T:Int) ∉ lS l t k hv d:=fun h=>c (this.2 h)
          have e0:(bQ l k t (al (bC (ev d T) k)) hv == Int.ofNat 0)=false:=by simpa using c
          rw[e0,decide_eq_false m];rfl
       have hq2:vS l t k (al (bC (ev d T) k))=false→(decide ((T:Int) ∈ lS l t k hv d))=false:=fun e=>decide_eq_false (fun m=>by
        have:=(r2 m).2
        unfold vS at e
        rw[this] at e;cases e)
       cases hvy:vS l t k (al (bC (jg d T) k)) with
       | true =>
         obtain ⟨a,b⟩:=r3 hC hg (of_decide_eq_true hvy)
         have hb:=hby _ a b
         have hcy:cS l t k hv (al (bC (jg d T) k))=0:=a
         simp only[hb,hcy,decide_eq_true b,hvy]
         cases hvx:vS l t k (al (bC (ev d T) k)) with
         | true =>
           simp only[hq hvx]
           exact wF
         | false =>
           simp only[hq2 hvx]
           exact wF
       | false =>
         generalize decide ((T:Int) ∈ lS l t k hv (al (bC (jg d T) k)))=my at *
         cases hvx:vS l t k (al (bC (ev d T) k)) with
         | true =>
           simp only[hq hvx]
           exact wF
         | false =>
           simp only[hq2 hvx]
           exact wF
     · generalize decide ((T:Int) ∈ lS l t k hv (al (bC (jg d T) k)))=my at *
       simp only[decide_eq_false (fun m=>hg (r2 m).1)]
       exact wF
 · have h43:∀ H,cd (n+13) (.fn 43) [dx l t k d] H=some (.bool false,H):=fun H=>by rw[show n+13=(n+10)+3 by omega,Pj,decide_eq_false hb1]
   refine aS (n:=n+13) Try.func12 rfl rfl rfl (OE (n+13) l k t d h w H) (aX _ (n+13) (MN (by omega) (b5 (aR _) h43))) (aW (af _ _) Mr (fun x hx=>(Tr.ae hx).elim)) (ag _ _) ?_
   exact wF
end
end Go.Eng
end
section
namespace Go.Proofs.Ytoomemfhcbajoaa.Known
open Go.Eng Go.Proofs
theorem named:c8 Try.prog:=by
 have h:(Try.prog.funcs.toList.all fun fn=>fn.body.isNone || !(fn.name == "runtime.NumGoroutine"))=true:=by kernel_rfl
 intro f fn hf hb
 have:=List.all_eq_true.1 h fn (by simpa using Array.mem_of_getElem? hf)
 rw[hb] at this
 simpa using this
theorem mixed:Try.prog.follows .mixedOrders=true:=by kernel_rfl
theorem G1:∀ e ∈ ([]:List fL),bu Try.prog e:=fun e h=>by cases h
theorem cw {e:fL} {t:List fL} (h:bu Try.prog e) (k:∀ x ∈ t,bu Try.prog x):∀ x ∈ e::t,bu Try.prog x:=fun x hx=>by
 rcases List.mem_cons.1 hx with rfl | hx
 · exact h
 · exact k x hx
def LV:List fL:=[]
theorem Ca:∀ e ∈ LV,bu Try.prog e:=G1
def cL:List Nat→Code→Code
 | [],c=>c
 | x :: p,c=>match c with
   | .seq a b=>match x with
     | 0=>cL p a
     | _=>cL p b
   | .cond _ a b=>match x with
     | 0=>cL p a
     | _=>cL p b
   | .block _ b=>cL p b
   | .loop b=>cL p b
   | .scope b=>cL p b
   | .rangeFunc _ _ a b=>match x with
     | 0=>cL p a
     | _=>cL p b
   | c=>c
def kX:Code→Array Oper
 | .region _ ops _=>ops
 | _=>#[]
noncomputable def ey:Code:=Try.f90.body.getD .skip
def I5 (l:List Oper):Oper:=l.headD { dst:=none,op:=.move (.tmp 0),type:=0,pos := "",after:=#[],guard:=none }
noncomputable def cZ:cK:={ id0:=3,ops0:=kX (cL [1,1,1,0,0] ey),pre:=(kX (cL [1,1,1,0,0] ey)).toList.take 1,ro:=I5 ((kX (cL [1,1,1,0,0] ey)).toList.drop 1),m:=9,ty:=95 }
noncomputable def bz:bp:={ out:=0,mV:=4,id2:=5,nxt:=1,ops1:=kX (cL [1,1,1,0,1,0,0,0] ey),ops2:=kX (cL [1,1,1,0,1,0,0,1,1,0,0] ey),no:=I5 (kX (cL [1,1,1,0,1,0,0,0] ey)).toList,eo:=I5 (kX (cL [1,1,1,0,1,0,0,1,1,0,0] ey)).toList,t1:=(kX (cL [1,1,1,0,1,0,0,0] ey)).toList.tail,t2:=(kX (cL [1,1,1,0,1,0,0,1,1,0,0] ey)).toList.tail,it:=10,nx:=11,mo:=12,en:=13,rest:=cL [1,1,1,0,1,0,0,1,1,0,1] ey,km:=16775424 }
noncomputable def pick:n7:={ f:=90,pre:=[cL [0] ey,cL [1,0] ey,cL [1,1,0] ey],S:=cZ,L:=bz,suf:=cL [1,1,1,1] ey }
theorem AD:Try.f90.body=some (assemble pick.pre (cZ.code bz) pick.suf):=by kernel_rfl
theorem wE:cZ.ops0.toList=cZ.pre++[cZ.ro]:=by kernel_rfl
theorem wI:cZ.ro.op=.range cZ.ty (.tmp cZ.m):=by kernel_rfl
theorem wy:cZ.ro.dst=some bz.it:=by kernel_rfl
theorem wB:cZ.ro.guard=none:=by kernel_rfl
theorem wG:bz.ops1.toList=bz.no::bz.t1:=by kernel_rfl
theorem wJ:bz.no.op=.next (.tmp bz.it) false:=by kernel_rfl
theorem wz:bz.no.dst=some bz.nx:=by kernel_rfl
theorem wC:bz.no.guard=none:=by kernel_rfl
theorem wH:bz.ops2.toList=bz.eo::bz.t2:=by kernel_rfl
theorem wK:bz.eo.op=.entry (.tmp bz.it):=by kernel_rfl
theorem wA:bz.eo.dst=some bz.en:=by kernel_rfl
theorem wD:bz.eo.guard=none:=by kernel_rfl
theorem wL:pick.Ok Try.prog:=⟨⟨Try.f90,Try.func90,AD⟩,⟨wE,wI,wy,wB,⟨_,_,Try.underlying95⟩⟩,⟨wG,wJ,wz,wC,wH,wK,wA,wD⟩⟩
noncomputable def rs:List n7:=[pick]
theorem eI:∀ r ∈ rs,r.Ok Try.prog:=fun r h=>by
 rcases List.mem_cons.1 h with rfl | h
 · exact wL
 · cases h
end Go.Proofs.Ytoomemfhcbajoaa.Known
end
section
namespace Go.Proofs.Ytoomemfhcbajoaa.Known
open Go.Eng Go.Proofs
noncomputable def E1:fL:=⟨50,[.int .i64 5],.agg (.G [.slcT none (.I .i64 [2,2,6,5,5,6,-1]) 1 7 true,.slcT none (.I .i64 [5,5,5,5,5,5,5]) 1 7 true])⟩
theorem RU:bu Try.prog E1:=cg named mixed Ca eI [54,95] KtL.kt 100000 40 (H':=[⟨true,[]⟩]) (by kernel_rfl) (by kernel_rfl)
noncomputable def LW:List fL:=E1::LV
theorem Cb:∀ e ∈ LW,bu Try.prog e:=cw RU Ca
noncomputable def E2:fL:=⟨50,[.int .i64 4],.agg (.G [.slcT none (.I .i64 [2,2,6,5,5,6,-1]) 1 7 true,.slcT none (.I .i64 [4,4,4,4,4,4,4]) 1 7 true])⟩
theorem RV:bu Try.prog E2:=cg named mixed Cb eI [54,95] KtL.kt 100000 40 (H':=[⟨true,[]⟩]) (by kernel_rfl) (by kernel_rfl)
noncomputable def LX:List fL:=E2::LW
theorem Cc:∀ e ∈ LX,bu Try.prog e:=cw RV Cb
end Go.Proofs.Ytoomemfhcbajoaa.Known
end
section
namespace Go.Proofs.Ytoomemfhcbajoaa.Known
open Go.Eng Go.Proofs
noncomputable def E3:fL:=⟨50,[.int .i64 3],.agg (.G [.slcT none (.I .i64 [2,2,6,5,5,6,-1]) 1 7 true,.slcT none (.I .i64 [3,3,3,3,3,3,3]) 1 7 true])⟩
theorem RW:bu Try.prog E3:=cg named mixed Cc eI [54,95] KtL.kt 100000 40 (H':=[⟨true,[]⟩]) (by kernel_rfl) (by kernel_rfl)
noncomputable def LZ:List fL:=E3::LX
theorem Cd:∀ e ∈ LZ,bu Try.prog e:=cw RW Cc
noncomputable def E4:fL:=⟨21,[.agg (.G [.slcT none (.I .i64 [2,2,6,5,5,6,-1]) 1 7 true,.slcT none (.I .i64 [5,5,5,5,5,5,5]) 1 7 true])],.int .i64 0⟩
theorem RX:bu Try.prog E4:=cg named mixed Cd eI [54,95] KtL.kt 100000 40 (H':=[⟨true,[]⟩]) (by kernel_rfl) (by kernel_rfl)
noncomputable def L0:List fL:=E4::LZ
theorem Ce:∀ e ∈ L0,bu Try.prog e:=cw RX Cd
end Go.Proofs.Ytoomemfhcbajoaa.Known
end
section
namespace Go.Proofs.Ytoomemfhcbajoaa.Known
open Go.Eng Go.Proofs
noncomputable def E5:fL:=⟨17,[.agg (.G [.slcT none (.I .i64 [2,2,6,5,5,6,-1]) 1 7 true,.slcT none (.I .i64 [5,5,5,5,5,5,5]) 1 7 true])],.tup [.slcT none (.I .i64 [3,3,2,3,3,2,1]) 1 7 false,.int .i64 0]⟩
theorem RY:bu Try.prog E5:=cg named mixed Ce eI [54,95] KtL.kt 100000 40 (H':=[⟨true,[]⟩]) (by kernel_rfl) (by kernel_rfl)
noncomputable def L2:List fL:=E5::L0
theorem Cf:∀ e ∈ L2,bu Try.prog e:=cw RY Ce
noncomputable def E6:fL:=⟨19,[.agg (.G [.slcT none (.I .i64 [2,2,6,5,5,6,-1]) 1 7 true,.slcT none (.I .i64 [5,5,5,5,5,5,5]) 1 7 true])],.tup [.slcT none (.I .i64 [3,3,4,3,3,4,5]) 1 7 false,.int .i64 0]⟩
theorem RZ:bu Try.prog E6:=cg named mixed Cf eI [54,95] KtL.kt 100000 40 (H':=[⟨true,[]⟩]) (by kernel_rfl) (by kernel_rfl)
noncomputable def L3:List fL:=E6::L2
theorem Cg:∀ e ∈ L3,bu Try.prog e:=cw RZ Cf
end Go.Proofs.Ytoomemfhcbajoaa.Known
end
section
namespace Go.Proofs.Ytoomemfhcbajoaa.Known
open Go.Eng Go.Proofs
noncomputable def E7:fL:=⟨21,[.agg (.G [.slcT none (.I .i64 [2,2,6,5,5,6,-1]) 1 7 true,.slcT none (.I .i64 [4,4,4,4,4,4,4]) 1 7 true])],.int .i64 0⟩
theorem R3:bu Try.prog E7:=cg named mixed Cg eI [54,95] KtL.kt 100000 40 (H':=[⟨true,[]⟩]) (by kernel_rfl) (by kernel_rfl)
noncomputable def L4:List fL:=E7::L3
theorem Ch:∀ e ∈ L4,bu Try.prog e:=cw R3 Cg
noncomputable def E8:fL:=⟨21,[.agg (.G [.slcT none (.I .i64 [2,2,6,5,5,6,-1]) 1 7 true,.slcT none (.I .i64 [3,3,3,3,3,3,3]) 1 7 true])],.int .i64 0⟩
theorem R4:bu Try.prog E8:=cg named mixed Ch eI [54,95] KtL.kt 100000 40 (H':=[⟨true,[]⟩]) (by kernel_rfl) (by kernel_rfl)
noncomputable def L5:List fL:=E8::L4
theorem Ci:∀ e ∈ L5,bu Try.prog e:=cw R4 Ch
end Go.Proofs.Ytoomemfhcbajoaa.Known
end
section
namespace Go.Proofs.Ytoomemfhcbajoaa.Known
open Go.Eng Go.Proofs
noncomputable def E9:fL:=⟨32,[.agg (.G [.slcT none (.I .i64 [2,2,6,5,5,6,-1]) 1 7 true,.slcT none (.I .i64 [3,3,3,3,3,3,3]) 1 7 true]),.int .i64 2],.tup [.int .i64 1,.int .i64 0]⟩
theorem R5:bu Try.prog E9:=cg named mixed Ci eI [54,95] KtL.kt 100000 40 (H':=[⟨true,[]⟩]) (by kernel_rfl) (by kernel_rfl)
noncomputable def L6:List fL:=E9::L5
theorem Cj:∀ e ∈ L6,bu Try.prog e:=cw R5 Ci
noncomputable def O1:fL:=⟨32,[.agg (.G [.slcT none (.I .i64 [2,2,6,5,5,6,-1]) 1 7 true,.slcT none (.I .i64 [4,4,4,4,4,4,4]) 1 7 true]),.int .i64 2],.tup [.int .i64 0,.int .i64 5]⟩
theorem NP:bu Try.prog O1:=cg named mixed Cj eI [54,95] KtL.kt 100000 40 (H':=[⟨true,[]⟩]) (by kernel_rfl) (by kernel_rfl)
noncomputable def Io:List fL:=O1::L6
theorem zx:∀ e ∈ Io,bu Try.prog e:=cw NP Cj
end Go.Proofs.Ytoomemfhcbajoaa.Known
end
section
namespace Go.Proofs.Ytoomemfhcbajoaa.Known
open Go.Eng Go.Proofs
noncomputable def O2:fL:=⟨34,[.agg (.G [.slcT none (.I .i64 [2,2,6,5,5,6,-1]) 1 7 true,.slcT none (.I .i64 [3,3,3,3,3,3,3]) 1 7 true])],.tup [.int .i64 4,.int .i64 0]⟩
theorem NQ:bu Try.prog O2:=cg named mixed zx eI [54,95] KtL.kt 100000 40 (H':=[⟨true,[]⟩]) (by kernel_rfl) (by kernel_rfl)
noncomputable def Ip:List fL:=O2::Io
theorem zy:∀ e ∈ Ip,bu Try.prog e:=cw NQ zx
noncomputable def O3:fL:=⟨36,[.agg (.G [.slcT none (.I .i64 [2,2,6,5,5,6,-1]) 1 7 true,.slcT none (.I .i64 [5,5,5,5,5,5,5]) 1 7 true]),.int .i64 4],.tup [.int .i64 3,.int .i64 0]⟩
theorem NR:bu Try.prog O3:=cg named mixed zy eI [54,95] KtL.kt 100000 40 (H':=[⟨true,[]⟩]) (by kernel_rfl) (by kernel_rfl)
noncomputable def Iq:List fL:=O3::Ip
theorem zA:∀ e ∈ Iq,bu Try.prog e:=cw NR zy
end Go.Proofs.Ytoomemfhcbajoaa.Known
end
section
namespace Go.Proofs.Ytoomemfhcbajoaa.Known
open Go.Eng Go.Proofs
noncomputable def O4:fL:=⟨39,[.agg (.G [.slcT none (.I .i64 [2,2,6,5,5,6,-1]) 1 7 true,.slcT none (.I .i64 [4,4,4,4,4,4,4]) 1 7 true]),.int .i64 2,.int .i64 5],.tup [.int .i64 3,.int .i64 0]⟩
theorem NS:bu Try.prog O4:=cg named mixed zA eI [54,95] KtL.kt 100000 40 (H':=[⟨true,[]⟩]) (by kernel_rfl) (by kernel_rfl)
noncomputable def Ir:List fL:=O4::Iq
theorem zB:∀ e ∈ Ir,bu Try.prog e:=cw NS zA
noncomputable def O5:fL:=⟨41,[.agg (.G [.slcT none (.I .i64 [2,2,6,5,5,6,-1]) 1 7 true,.slcT none (.I .i64 [5,5,5,5,5,5,5]) 1 7 true]),.int .i64 2],.tup [.slcT none (.I .i64 [1,2,3,4,5]) 1 5 false,.int .i64 0]⟩
theorem NT:bu Try.prog O5:=cg named mixed zB eI [54,95] KtL.kt 100000 40 (H':=[⟨true,[]⟩]) (by kernel_rfl) (by kernel_rfl)
noncomputable def Is:List fL:=O5::Ir
theorem zC:∀ e ∈ Is,bu Try.prog e:=cw NT zB
end Go.Proofs.Ytoomemfhcbajoaa.Known
end
section
namespace Go.Proofs.Ytoomemfhcbajoaa.Known
open Go.Eng Go.Proofs
noncomputable def O6:fL:=⟨37,[.agg (.G [.slcT none (.I .i64 [2,2,6,5,5,6,-1]) 1 7 true,.slcT none (.I .i64 [3,3,3,3,3,3,3]) 1 7 true]),.int .i64 2,.int .i64 1],.int .i64 0⟩
theorem NU:bu Try.prog O6:=cg named mixed zC eI [54,95] KtL.kt 100000 40 (H':=[⟨true,[]⟩]) (by kernel_rfl) (by kernel_rfl)
noncomputable def It:List fL:=O6::Is
theorem zD:∀ e ∈ It,bu Try.prog e:=cw NU zC
noncomputable def O7:fL:=⟨37,[.agg (.G [.slcT none (.I .i64 [2,2,6,5,5,6,-1]) 1 7 true,.slcT none (.I .i64 [4,4,4,4,4,4,4]) 1 7 true]),.int .i64 2,.int .i64 1],.int .i64 14⟩
theorem NV:bu Try.prog O7:=cg named mixed zD eI [54,95] KtL.kt 100000 40 (H':=[⟨true,[]⟩]) (by kernel_rfl) (by kernel_rfl)
noncomputable def Iu:List fL:=O7::It
theorem zE:∀ e ∈ Iu,bu Try.prog e:=cw NV zD
end Go.Proofs.Ytoomemfhcbajoaa.Known
end
section
namespace Go.Proofs.Ytoomemfhcbajoaa.Known
open Go.Eng Go.Proofs
noncomputable def O8:fL:=⟨34,[.agg (.G [.slcT none (.I .i64 [2,2,6,5,5,6,-1]) 1 7 true,.slcT none (.I .i64 [5,5,5,5,5,5,5]) 1 7 true])],.tup [.int .i64 2,.int .i64 0]⟩
theorem NW:bu Try.prog O8:=cg named mixed zE eI [54,95] KtL.kt 100000 40 (H':=[⟨true,[]⟩]) (by kernel_rfl) (by kernel_rfl)
noncomputable def Iv:List fL:=O8::Iu
theorem zF:∀ e ∈ Iv,bu Try.prog e:=cw NW zE
noncomputable def O9:fL:=⟨34,[.agg (.G [.slcT none (.I .i64 [2,2,6,5,5,6,-1]) 1 7 true,.slcT none (.I .i64 [4,4,4,4,4,4,4]) 1 7 true])],.tup [.int .i64 2,.int .i64 0]⟩
theorem NX:bu Try.prog O9:=cg named mixed zF eI [54,95] KtL.kt 100000 40 (H':=[⟨true,[]⟩]) (by kernel_rfl) (by kernel_rfl)
noncomputable def Iw:List fL:=O9::Iv
theorem zG:∀ e ∈ Iw,bu Try.prog e:=cw NX zF
end Go.Proofs.Ytoomemfhcbajoaa.Known
end
section
namespace Go.Proofs.Ytoomemfhcbajoaa.Known
open Go.Eng Go.Proofs
noncomputable def Pa:fL:=⟨36,[.agg (.G [.slcT none (.I .i64 [2,2,6,5,5,6,-1]) 1 7 true,.slcT none (.I .i64 [5,5,5,5,5,5,5]) 1 7 true]),.int .i64 2],.tup [.int .i64 4,.int .i64 0]⟩
theorem NY:bu Try.prog Pa:=cg named mixed zG eI [54,95] KtL.kt 100000 40 (H':=[⟨true,[]⟩]) (by kernel_rfl) (by kernel_rfl)
noncomputable def Ix:List fL:=Pa::Iw
theorem zH:∀ e ∈ Ix,bu Try.prog e:=cw NY zG
noncomputable def Pb:fL:=⟨36,[.agg (.G [.slcT none (.I .i64 [2,2,6,5,5,6,-1]) 1 7 true,.slcT none (.I .i64 [5,5,5,5,5,5,5]) 1 7 true]),.int .i64 3],.tup [.int .i64 4,.int .i64 0]⟩
theorem NZ:bu Try.prog Pb:=cg named mixed zH eI [54,95] KtL.kt 100000 40 (H':=[⟨true,[]⟩]) (by kernel_rfl) (by kernel_rfl)
noncomputable def Iy:List fL:=Pb::Ix
theorem zI:∀ e ∈ Iy,bu Try.prog e:=cw NZ zH
end Go.Proofs.Ytoomemfhcbajoaa.Known
end
section
namespace Go.Proofs.Ytoomemfhcbajoaa.Known
open Go.Eng Go.Proofs
noncomputable def Pc:fL:=⟨39,[.agg (.G [.slcT none (.I .i64 [2,2,6,5,5,6,-1]) 1 7 true,.slcT none (.I .i64 [5,5,5,5,5,5,5]) 1 7 true]),.int .i64 2,.int .i64 5],.tup [.int .i64 2,.int .i64 0]⟩
theorem N0:bu Try.prog Pc:=cg named mixed zI eI [54,95] KtL.kt 100000 40 (H':=[⟨true,[]⟩]) (by kernel_rfl) (by kernel_rfl)
noncomputable def Iz:List fL:=Pc::Iy
theorem zJ:∀ e ∈ Iz,bu Try.prog e:=cw N0 zI
noncomputable def Pd:fL:=⟨41,[.agg (.G [.slcT none (.I .i64 [2,2,6,5,5,6,-1]) 1 7 true,.slcT none (.I .i64 [4,4,4,4,4,4,4]) 1 7 true]),.int .i64 2],.tup [.nils,.int .i64 0]⟩
theorem N1:bu Try.prog Pd:=cg named mixed zJ eI [54,95] KtL.kt 100000 40 (H':=[⟨true,[]⟩]) (by kernel_rfl) (by kernel_rfl)
noncomputable def LY:List fL:=Pd::Iz
theorem FI:∀ e ∈ LY,bu Try.prog e:=cw N1 zJ
end Go.Proofs.Ytoomemfhcbajoaa.Known
end
section
namespace Go.Proofs.Ytoomemfhcbajoaa.Known
open Go.Eng Go.Proofs
noncomputable def EW:fL:=⟨16,[],.bool true⟩
theorem okW:bu Try.prog EW:=cg named mixed FI eI [54,95] KtL.kt 100000 40 (H':=[⟨true,[]⟩]) (by kernel_rfl) (by kernel_rfl)
end Go.Proofs.Ytoomemfhcbajoaa.Known
end
section
namespace Go.Eng
open Go.Proofs Go.ChangeShapes Go.WideShapes Go.ChangeAt Go.RowKit
theorem R9 {p:aA} {M:Mu} {k:IntKind} {z:Nat→Int} {N sz len:Nat} {full:Bool} {v:Value} (h:aj p M (.slcT none (.F (fun j=>.int k (z j)) N) sz len full) v):aj p M (.slcT none (.M [.arr k z N]) sz len full) v:=by
 cases h with
 | slcN=>exact .slcN
 | slcT vs h0 h1 hv hl hf hx =>
   have e:∀ j,j<(Row.M [ah.arr k z N]).len→j<N:=fun j hj=>by simpa[Row.len,av,aI] using hj
   refine .slcT vs (fun j hj=>h0 j (e j hj)) (fun j hj=>h1 j (e j hj)) (fun j hj=>?_) hl hf hx
   have:=hv j (e j hj)
   simp only[Row.get,getM,if_pos (e j hj)] at this ⊢
   exact this.bA _ _
theorem AL {P:Program} {w:World} {r:Reach} {base:Nat} {t e:TypeId} {v:Value} (ht:P.underlying t=some (.slice e)) (h:Cell.okWide P w r base t v):∀ a l c,v=.slice (some a) l c→a.spot=none:=by
 rintro a l c rfl
 simp only[Cell.okWide,ht,Cell.ok] at h
 exact h.2.2.2.1
theorem HO:HJ Try.prog 3 1:=Ef Try.underlying3
def AX (t:TypeId) (A:AV→Prop):Prop:=∀ (H:Type) (enc:TypeId×Value→H) (w:World) (r:Reach) (b0 base:Nat) (sp:Nat→Bool) (hsp:∀ b,sp b=true) (held:Bool) (v:Value) (d:DataW H) (ps:List MemPlace),
 Value.okWide Try.prog w r b0 t v→DataW.Trod enc Try.prog w base sp held t v d ps→∃ a,A a∧aj (Pw w) Mu.no a v
def zR:List (AV→Prop)→List AV→Prop
 | [],[]=>True
 | A::As,a::xs=>A a∧zR As xs
 | _,_=>False
theorem px {A:AV→Prop} {As:List (AV→Prop)} {xs:List AV} (h:zR (A::As) xs):∃ a ys,xs=a::ys∧A a∧zR As ys:=by
 cases xs with
 | nil=>exact h.elim
 | cons a ys=>exact ⟨a,ys,rfl,h.1,h.2⟩
theorem DF {xs:List AV} (h:zR [] xs):xs=[]:=by
 cases xs with
 | nil=>rfl
 | cons a ys=>exact h.elim
def IC:List TypeId→List (AV→Prop)→Prop
 | [],[]=>True
 | t::ts,A::As=>AX t A∧IC ts As
 | _,_=>False
theorem A8 {H:Type} {enc:TypeId×Value→H} {w:World} {r:Reach} {b0 base:Nat} {sp:Nat→Bool} (hsp:∀ b,sp b=true) {held:Bool}:∀ (ts:List TypeId) (As:List (AV→Prop)) (vs:List Value) (ds:List (DataW H)) (ps:List MemPlace),IC ts As →
 (∀ (j:Nat) t v,ts[j]?=some t→vs[j]?=some v→Value.okWide Try.prog w r b0 t v)→DataW.TrodAll enc Try.prog w base sp held ts vs ds ps→∃ xs,zR As xs∧vs.length=xs.length∧∀ j,j<xs.length→aj (Pw w) Mu.no (xs.getD j .undef) (vs.getD j undef)
 | [],[],vs,ds,ps,_,_,h=>by
   obtain ⟨rfl,rfl,rfl⟩:=trodAll_nil h
   exact ⟨[],trivial,rfl,fun j hj=>by simp at hj⟩
 | t::ts,A::As,vs,ds,ps,hT,hv,h=>by
   obtain ⟨v,vs',d,ds',p,q,rfl,rfl,rfl,h1,h2⟩:=trodAll_cons h
   obtain ⟨a,ha,hr⟩:=hT.1 H enc w r b0 base sp hsp held v d p (hv 0 t v rfl rfl) h1
   obtain ⟨xs,hA,hl,hR⟩:=A8 hsp ts As vs' ds' q hT.2 (fun j t' v' e1 e2=>hv (j+1) t' v' (by simpa using e1) (by simpa using e2)) h2
   refine ⟨a::xs,⟨ha,hA⟩,by simp[hl],fun j hj=>?_⟩
   cases j with
   | zero=>exact hr
   | succ j=>simpa using hR j (by simpa using hj)
 | [],_::_,_,_,_,hT,_,_=>hT.elim
 | _::_,[],_,_,_,hT,_,_=>hT.elim
theorem vv {H:Type} {enc:TypeId×Value→H} {W W':World} {base:Nat} {sp':Nat→Bool} (hl:laidOutB Try.prog=true):∀ (ts:List TypeId) (vs:List Value) (ds:List (DataW H)) (ps:List MemPlace),(∀ t ∈ ts,Try.prog.readableRec t=true∧t<Try.prog.types.size) →
 DataW.TrodAll enc Try.prog W base (fun _=>true) true ts vs ds ps→(∀ p ∈ ps,W.sameAt W' p)→(∀ p ∈ ps,sp' p.block=true)→DataW.TrodAll enc Try.prog W' base sp' true ts vs ds ps
 | [],vs,ds,ps,_,h,_,_=>by
   obtain ⟨rfl,rfl,rfl⟩:=trodAll_nil h
   exact trodAll_mk0
 | t::ts,vs,ds,ps,ht,h,hs,hp=>by
   obtain ⟨v,vs',d,ds',p,q,rfl,rfl,rfl,h1,h2⟩:=trodAll_cons h
   obtain ⟨r1,r2⟩:=ht t (by simp)
   refine ⟨p,q,?_,vv hl ts vs' ds' q (fun t' h'=>ht t' (List.mem_cons_of_mem _ h')) h2 (fun x hx=>hs x (List.mem_append_right _ hx)) (fun x hx=>hp x (List.mem_append_right _ hx)),rfl⟩
   exact WideElems.Trod_stays hl r1 r2 h1 (fun x hx=>hs x (List.mem_append_left _ hx)) (fun x hx=>hp x (List.mem_append_left _ hx))
theorem KA (hN:c8 Try.prog) (hm:Try.prog.follows .mixedOrders=true) (hW:bu Try.prog ⟨16,[],.bool true⟩) (n:Nat):cr Try.prog (cd n) :=
 pz hN (vP hN hm) (G5 hN (vP hN hm) hW) KtL.kt 100000 n
theorem C0 {f:FuncId} {ts:List TypeId} {As:List (AV→Prop)} (hT:IC ts As) {n:Nat} (hlaw:∀ xs,zR As xs→∃ H',cd n (.fn f) xs [⟨true,[]⟩]=some (.bool true,H')) {H:Type} {enc:TypeId×Value→H} {w:World} {r:Reach} {b0 base:Nat} {sp:Nat→Bool} {held:Bool} {args:Array Value} {ds:List (DataW H)} {ps:List MemPlace} (hsp:∀ b,sp b=true)
 (hv:∀ (j:Nat) t v,ts[j]?=some t→args[j]?=some v→Value.okWide Try.prog w r b0 t v) (h:DataW.TrodAll enc Try.prog w base sp held ts args.toList ds ps) :
 Calls Try.prog f args w (fun e w'=>e=.returned (.bool true)∧Go.RowKit.Below w.heap.size w w'):=by
 obtain ⟨xs,hA,hl,hR⟩:=A8 hsp ts As args.toList ds ps hT (fun j t v e1 e2=>hv j t v e1 (by simpa using e2)) h
 obtain ⟨H',hc⟩:=hlaw xs hA
 refine CA (KA Ytoomemfhcbajoaa.Known.named Ytoomemfhcbajoaa.Known.mixed Ytoomemfhcbajoaa.Known.okW n) hc ⟨by simpa using hl,fun j hj=>?_⟩
 have:=hR j hj
 have e:args.toList.getD j undef=args.getD j undef:=by
  rw[Array.getD_eq_getD_getElem?,List.getD_eq_getElem?_getD,Array.getElem?_toList]
 rwa [e] at this
theorem F3 {t:TypeId} {k:IntKind} (ht:Try.prog.underlying t=some (.int k)):AX t (fun a=>∃ n:Int,a=.int k n∧(Lit.int k n).wf=true):=fun H enc w r b0 base sp hsp held v d ps hv h=>by
 obtain ⟨fuel,hf⟩:=h
 obtain ⟨n,e,_,hw⟩:=DataW.trod_int ht hf
 obtain ⟨s,rfl⟩:=WideShapes.okWide_int ht hv
 have:s=n:=by simpa[Value.cells] using e
 subst this
 exact ⟨_,⟨s,rfl,hw⟩,.int _ _⟩
def Kf (a:AV):Prop:=∃ n:Int,a=.int .u8 n∧0≤n∧n≤255
theorem HL:AX 5 Kf:=fun H enc w r b0 base sp hsp held v d ps hv h=>by
 obtain ⟨a,⟨n,rfl,hw⟩,hr⟩:=F3 Try.underlying5 H enc w r b0 base sp hsp held v d ps hv h
 simp[Lit.wf,IntKind.min,IntKind.max,IntKind.signed,IntKind.bits] at hw
 exact ⟨_,⟨n,rfl,by omega,by omega⟩,hr⟩
theorem own:ownKnob Try.prog.godebug=none:=by kernel_rfl
theorem laidOut:laidOutB Try.prog=true:=by kernel_rfl
theorem vt {t e n:Nat} (ht:Try.prog.underlying t=some (.slice e)) (he:HJ Try.prog e n) (hn:0<n) (hc:Try.prog.cellsOf e=n) {H:Type} {enc:TypeId×Value→H} {w:World} {r:Reach} {b0 base:Nat} {sp:Nat→Bool} {held:Bool} {fuel:Nat} {v:Value} {x:DataW H×List MemPlace}
 (hv:Cell.okWide Try.prog w r b0 t v) (h:DataW.trod enc Try.prog w base sp held fuel t [v]=some x):∃ len z,aj (Pw w) Mu.no (Mm n len z) v∧v.oneCell'=true:=by
 rcases AK ht he hn hc (AL ht hv) h with rfl | ⟨zs,len,h1,h2⟩
 · exact ⟨0,fun _=>0,.slcN,rfl⟩
 · refine ⟨len,zs,?_,?_⟩
   · unfold Mm
     rw[cA]
     exact R9 h1
   · cases h1<;>rfl
def zQ (a:AV):Prop:=∃ (l:Nat) (t:Nat→Int) (k:Nat) (d:Nat→Int),a=dx l t k d
theorem LB (l:Nat) (z:Nat→Int):Mm 1 l z=b7 l z false:=by unfold Mm b7;rw[cA,Nat.mul_one]
theorem DN:AX 24 zQ:=fun H enc w r b0 base sp hsp held v d ps hv h=>by
 have hts:Try.prog.cellTypes Try.prog.depth 24=some [22,22]:=by kernel_rfl
 have hc24:Try.prog.cellsOf 24=2:=by kernel_rfl
 have hc22:Try.prog.cellsOf 22=1:=by kernel_rfl
 have hc3:Try.prog.cellsOf 3=1:=by kernel_rfl
 simp only[Value.okWide,Try.underlying24] at hv
 obtain ⟨cs,rfl,hsz,ts,ht,_,hcell⟩:=hv
 rw[hts] at ht
 obtain rfl:=Option.some.inj ht
 rw[hc24] at hsz
 obtain ⟨fuel,hf⟩:=h
 obtain ⟨xs,n,_,_,_,hxl,hfield⟩:=DataW.trod_struct Try.underlying24 hf
 have e3:∃ c0 c1,cs=#[c0,c1]:=by
  refine ⟨cs[0],cs[1],?_⟩
  apply Array.ext
  · simpa using hsz
  · intro i h1 h2
    simp at h2
    match i,h2 with
    | 0,_=>rfl
    | 1,_=>rfl
 obtain ⟨c0,c1,rfl⟩:=e3
 have some_of:∀ i,i<2→∃ y,xs[i]?=some y:=fun i hi=>by
  have:i<xs.length:=by rw[hxl];simpa using hi
  exact ⟨xs[i],List.getElem?_eq_getElem this⟩
 obtain ⟨y0,hy0⟩:=some_of 0 (by omega)
 obtain ⟨y1,hy1⟩:=some_of 1 (by omega)
 have f0:=hfield 0 _ rfl
 have f1:=hfield 1 _ rfl
 rw[hy0] at f0
 rw[hy1] at f1
 simp only[Value.cells] at f0 f1
 have g0:DataW.trod enc Try.prog w base sp held n 22 [c0]=some y0:=by simpa[hc22] using f0
 have g1:DataW.trod enc Try.prog w base sp held n 22 [c1]=some y1:=by simpa[hc22] using f1
 obtain ⟨u0,hu0,k0⟩:=hcell 0 c0 rfl
 obtain ⟨u1,hu1,k1⟩:=hcell 1 c1 rfl
 simp at hu0 hu1
 subst hu0;subst hu1
 obtain ⟨l,z0,r0,o0⟩:=vt Try.underlying22 HO (by omega) hc3 k0 g0
 obtain ⟨k,z1,r1,o1⟩:=vt Try.underlying22 HO (by omega) hc3 k1 g1
 rw[LB] at r0 r1
 refine ⟨_,⟨l,z0,k,z1,rfl⟩,?_⟩
 refine .agg rfl (fun j hj=>?_) (fun j hj=>?_)
 · have hj':j<2:=hj
   match j,hj' with
   | 0,_=>exact o0
   | 1,_=>exact o1
 · have hj':j<2:=hj
   match j,hj' with
   | 0,_=>exact r0
   | 1,_=>exact r1
end Go.Eng
end
