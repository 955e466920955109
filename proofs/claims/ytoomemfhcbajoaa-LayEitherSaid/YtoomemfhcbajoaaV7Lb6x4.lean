/- Lay: way: its loop over all cells on the way from one. -/
import Derived.Test.YtoomemfhcbajoaaV7Lb3x3
set_option linter.unusedVariables false
set_option linter.unusedSimpArgs false
set_option maxRecDepth 100000
section
namespace Go.Eng
open Go.Proofs
noncomputable def yy (h s:Nat) (l:Nat) (t:Nat→Int) (k:Nat) (d g:Nat→Int) (x:Int):ao:=[(0,.yld 1 h),(2,.ptrT (some 1) (.G [eA s l t k d g]) 0),(4,.int .i64 x)]
noncomputable def wB (n f nt d i:Nat):Cx:=⟨Try.prog,cd n,100000,f,nt,KtL.kt f,some (d,i)⟩
theorem QY:∀ b,(0,b) ∈ aJ (bn Try.f81)→b=.loop (part Try.f81 [1,0,0]):=eJ (by kernel_rfl)
theorem MU (s:Nat) (n l k:Nat) (t d g:Nat→Int) (G G':aa) (x:Int):aM (bp n 81 21) (KD (il aD n 0) 1 5 [.int .i64 x] (aw::G) (.ok (.bool true,aw::G'))) aK aL (part Try.f81 [1,0,0]) (hints (yy 5 s l t k d g x)) (aw::G) =
 (fun (Z0:Nat×AV×Option Nat)=>Tr.ite (lM (Int.ofNat 0) x) (Tr.reqP ([AV.int .i64 x]=[AV.int .i64 x]∧aw::G=aw::G) (Tr.ite true (Tr.req (cN x l) (Tr.req (cw (au 0 x 1) l) (Tr.ok (Ex.normal,[(0,AV.yld 1 5,none),Z0,(4,AV.int .i64 (t (au 0 x 1)),none)],aw::G')))) (Tr.ok (Ex.exit 0,[(0,AV.yld 1 5,none),Z0,(4,AV.int .i64 x,none),(12,AV.bool false,some 1)],aw::G')))) (Tr.ok (Ex.exit 0,[(0,AV.yld 1 5,none),Z0,(4,AV.int .i64 x,none),(12,AV.bool false,some 1)],aw::G))) (2,AV.ptrT (some 1) (Row.G [AV.ptrT (some s) (Row.M [ah.one (AV.slcT none (Row.M [ah.arr .i64 t l]) 1 l false),ah.one (AV.slcT none (Row.M [ah.arr .i64 d k]) 1 k false),ah.arr .i64 g 30]) 0]) 0,none):=by kernel_rfl
theorem KO (s:Nat) (n l k:Nat) (t d g:Nat→Int) (G:aa) (x:Int):aM (bp n 81 21) (il aD n 0) aK aL (part Try.f81 [1,0,0]) (hints (yy 5 s l t k d g x)) (aw::G) =
 Tr.ite (lM (Int.ofNat 0) x) Tr.bad (Tr.ok (Ex.exit 0,[(0,AV.yld 1 5,none),(2,AV.ptrT (some 1) (Row.G [AV.ptrT (some s) (Row.M [ah.one (AV.slcT none (Row.M [ah.arr .i64 t l]) 1 l false),ah.one (AV.slcT none (Row.M [ah.arr .i64 d k]) 1 k false),ah.arr .i64 g 30]) 0]) 0,none),(4,AV.int .i64 x,none),(12,AV.bool false,some 1)],aw::G)):=by kernel_rfl
theorem Nq (s:Nat) (n l k:Nat) (t d g:Nat→Int) (G G':aa) (i x:Int):aX Try.prog (cd n) 100000 81 Try.f81 (KtL.kt 81) (il aD n 0) (bX aK 0 (yy 5 s l t k d g i) (aw::G) (.ok (.normal,hints (yy 5 s l t k d g x++[(12,.bool false)]),aw::G'))) aL [(.yld 0 5,none),(.ptrT none (.I .i64 [i]) 0,none),(.ptrT (some 0) (.G [eA s l t k d g]) 0,none)] G =
 (fun (Z0:ao)=>Tr.reqP (Z0=Z0∧aw::G=aw::G) (Tr.ok ((AV.tup [],none),G'))) [(0,AV.yld 1 5),(2,AV.ptrT (some 1) (Row.G [AV.ptrT (some s) (Row.M [ah.one (AV.slcT none (Row.M [ah.arr .i64 t l]) 1 l false),ah.one (AV.slcT none (Row.M [ah.arr .i64 d k]) 1 k false),ah.arr .i64 g 30]) 0]) 0),(4,AV.int .i64 i)]:=by kernel_rfl
def iX (l:Nat) (t:Nat→Int) (i:Nat):Nat:=cn (fun m=>decide (0≤bE t m (i:Int))) l
theorem z7 {t:Nat→Int} {x:Int} {m q:Nat} (h:m≤q) (h2:0≤bE t q x):0≤bE t m x:=by
 apply Int.not_lt.1
 intro hc
 have:=tW hc (q-m)
 rw[show m+(q-m)=q by omega] at this
 omega
theorem Mh {l:Nat} {t:Nat→Int} {x:Int} (h:bE t l x<0):∃ N,N≤l∧(∀ m,m<N→0≤bE t m x)∧bE t N x<0∧cn (fun m=>decide (0≤bE t m x)) l=N:=by
 induction l with
 | zero=>exact ⟨0,Nat.le_refl _,fun m hm=>by omega,h,rfl⟩
 | succ l ih =>
   by_cases c:bE t l x<0
   · obtain ⟨N,h1,h2,h3,h4⟩:=ih c
     refine ⟨N,by omega,h2,h3,?_⟩
     show cn (fun m=>decide (0≤bE t m x)) l+(decide (0≤bE t l x)).toNat=N
     rw[decide_eq_false (by omega)];simpa using h4
   · refine ⟨l+1,Nat.le_refl _,fun m hm=>z7 (by omega) (by omega:0≤bE t l x),h,?_⟩
     have:∀ m,m≤l+1→cn (fun m=>decide (0≤bE t m x)) m=m:=by
      intro m
      induction m with
      | zero=>intro _;rfl
      | succ m ih2 =>
        intro hm
        show cn (fun m=>decide (0≤bE t m x)) m+(decide (0≤bE t m x)).toNat=_
        rw[ih2 (by omega),decide_eq_true (z7 (by omega) (by omega:0≤bE t l x))];rfl
     exact this (l+1) (Nat.le_refl _)
theorem l5 {l:Nat} {t:Nat→Int} (h:iB l t=false) (i:Nat) (hi:i<l):iX l t i≤l∧(∀ m,m<iX l t i→0≤bE t m (i:Int))∧bE t (iX l t i) (i:Int)<0:=by
 have h1:=dN h i hi
 rw[decide_eq_false_iff_not] at h1
 obtain ⟨N,a,b,c,e⟩:=Mh (l:=l) (t:=t) (x:=(i:Int)) (by omega)
 unfold iX
 rw[e];exact ⟨a,b,c⟩
theorem r7 {t:Nat→Int} {m:Nat} {x:Int} (h:0≤bE t m x):bE t (m+1) x=t (bE t m x).toNat:=by
 show (if 0≤bE t m x then _ else _)=_
 rw[if_pos h]
section
variable (n l k:Nat) (t d g:Nat→Int) (i N:Nat) (St:Nat→aa)
theorem Lp (s:Nat) (hN:N≤1000) (hp:∀ m,m<N→0≤bE t m (i:Int)) (hn:bE t N (i:Int)<0) (ht:∀ j,j<l→t j<l) (hl:l≤1000) (hi:i<l)
 (hr:∀ m,m<N→cd n (.round 1 5) [.int .i64 (bE t m (i:Int))] (aw::St m)=some (.bool true,aw::St (m+1))) :
 cd (n+1) (.fn 81) [.yld 0 5,.ptrT none (.I .i64 [(i:Int)]) 0,.ptrT (some 0) (.G [eA s l t k d g]) 0] (St 0)=some (.tup [],St N):=by
 have hx:=j8 (n:=n) (f:=81) (nt:=21) (c:=part Try.f81 [1,0,0]) 0 (fun m=>yy 5 s l t k d g (bE t m (i:Int))) (fun m=>aw::St m) N (yy 5 s l t k d g (bE t N (i:Int))++[(12,.bool false)],aw::St N) (by omega) (fun m hm=>?_) ?_
 · refine aC (n:=n) Try.func81 rfl rfl rfl (Nq s n l k t d g (St 0) (St N) (i:Int) (bE t N (i:Int))) (ar _) (aF (af _ _) QY (fun x hy=>bY hy hx)) (ag _ _) ?_
   exact Tr.bf ⟨rfl,rfl⟩ (Tr.ba ⟨rfl,rfl⟩)
 · have h1:=hp m hm
   have h2:=gA ht (show (i:Int)<l by omega) m
   have h3:=r7 h1
   refine aH (MU s n l k t d g (St m) (St (m+1)) (bE t m (i:Int))) (tG (ar n) (fun x hy=>by rw[← Tr.ab hy];exact hr m hm)) (af _ _) (ag _ _) ?_
   rw[K8 h1]
   show Tr.all _ (fun x=>_∧tidy _ _ _=(yy 5 s l t k d g (bE t (m+1) (i:Int)),_))
   rw[h3]
   generalize bE t m (i:Int)=x at *
   generalize St (m+1)=G' at *
   generalize St m=G at *
   exact wF
 · obtain ⟨x,h1,rfl⟩:=aH (Q:=fun x=>x=(.exit 0,yy 5 s l t k d g (bE t N (i:Int))++[(12,.bool false)],aw::St N)) (KO s n l k t d g (St N) (bE t N (i:Int))) (ar n) (af _ _) (ag _ _) (by
    refine Tr.bh (fun hc=>?_) (fun hc=>Tr.ba rfl)
    simp (disch:=omega) only[nV,nW] at hc;omega)
   exact h1
end
end Go.Eng
end
section
namespace Go.Eng
open Go.Proofs
noncomputable def N8 (s l:Nat) (t:Nat→Int) (k:Nat) (d g:Nat→Int) (j:Int):AV:=.fn (.func 81) [] [.ptrT none (.I .i64 [j]) 0,.ptrT (some 0) (.G [eA s l t k d g]) 0]
noncomputable def II (l:Nat) (t:Nat→Int) (k:Nat) (d:Nat→Int):Nat×aj:=(0,.row (.G [cA l t false,cA k d false]))
noncomputable def G4 (x:Int):Nat×aj:=(0,.row (.I .i64 [x]))
theorem TP (n l k:Nat) (t d g:Nat→Int) (H:aa):aX Try.prog (cd n) 100000 51 Try.f51 (KtL.kt 51) (il (tX (tX aD 21 [bR l t k d] (.int .i64 0)) 57 [bR l t k d] (eA 0 l t k d g)) n 0) aK aL [(bR l t k d,none)] H =
 (fun (Z0:List AV)=>Tr.reqP (Z0=Z0) (Tr.ite (aY (cI (Int.ofNat 0) (Int.ofNat 0))) (Tr.ok ((AV.tup [AV.nilp,AV.int .i64 (Int.ofNat 0)],none),H)) (Tr.reqP (Z0=Z0) (Tr.ok ((AV.tup [AV.ptrT (some 0) (Row.M [ah.one (AV.slcT none (Row.M [ah.arr .i64 t l]) 1 l false),ah.one (AV.slcT none (Row.M [ah.arr .i64 d k]) 1 k false),ah.arr .i64 g 30]) 0,AV.int .i64 (Int.ofNat 0)],none),H))))) [AV.agg (Row.G [AV.slcT none (Row.M [ah.arr .i64 t l]) 1 l false,AV.slcT none (Row.M [ah.arr .i64 d k]) 1 k false])]:=by kernel_rfl
theorem P5 (n l k:Nat) (t d:Nat→Int) (e:Int) (H:aa):aX Try.prog (cd n) 100000 51 Try.f51 (KtL.kt 51) (il (tX aD 21 [bR l t k d] (.int .i64 e)) n 0) aK aL [(bR l t k d,none)] H =
 (fun (Z0:List AV)=>Tr.reqP (Z0=Z0) (Tr.ite (aY (cI e (Int.ofNat 0))) (Tr.ok ((AV.tup [AV.nilp,AV.int .i64 e],none),H)) Tr.bad)) [AV.agg (Row.G [AV.slcT none (Row.M [ah.arr .i64 t l]) 1 l false,AV.slcT none (Row.M [ah.arr .i64 d k]) 1 k false])]:=by kernel_rfl
section
variable (n l k m:Nat) (t d g y:Nat→Int) (H:aa) (i:Nat)
end
end Go.Eng
end
section
namespace Go.Eng
open Go.Proofs
structure Sh (l:Nat) (t:Nat→Int) (k:Nat) (d:Nat→Int):Prop where
 l1:1≤l
 l30:l≤30
 kl:k=l
 tl:∀ j,j<l→t j<l
 tm:∀ j,j<l→-1≤t j
 tj:∀ j,j<l→t j≠(j:Int)
 d1:∀ j,j<l→1≤d j
 d40:∀ j,j<l→d j≤40
 cyc:iB l t=false
theorem CL {l k:Nat} {t d:Nat→Int} (h:oi l t k d=0):Sh l t k d:=by
 unfold oi at h
 by_cases h1:l<1∨30<l
 · rw[if_pos h1] at h;omega
 rw[if_neg h1] at h
 by_cases h2:k≠l
 · rw[if_pos h2] at h;omega
 rw[if_neg h2] at h
 cases h3:bV (kJ l t d) l with
 | true=>rw[h3,if_pos rfl] at h;omega
 | false =>
   rw[h3,if_neg (by decide)] at h
   cases h4:iB l t with
   | true=>rw[h4,if_pos rfl] at h;omega
   | false =>
     have g:=dN h3
     have key:∀ j,j<l→(-1≤t j∧t j≤(l:Int)-1)∧t j≠(j:Int)∧1≤d j∧d j≤40:=fun j hj=>by
      have:=g j hj
      simp only[kJ,fe,Bool.or_eq_false_iff,decide_eq_false_iff_not] at this
      exact ⟨⟨by omega,by omega⟩,by omega,by omega,by omega⟩
     exact ⟨by omega,by omega,by omega,fun j hj=>by have:=(key j hj).1;omega,fun j hj=>(key j hj).1.1,fun j hj=>(key j hj).2.1,fun j hj=>(key j hj).2.2.1,fun j hj=>(key j hj).2.2.2,h4⟩
theorem I8 {l k:Nat} {t d:Nat→Int} (h:Sh l t k d):oi l t k d=0:=by
 unfold oi
 rw[if_neg (by have:=h.l1;have:=h.l30;omega),if_neg (by have:=h.kl;omega),if_neg ?_,if_neg (by rw[h.cyc];decide)]
 rw[jN (fun j hj=>?_)]
 · decide
 · have a1:=h.tl j hj
   have a2:=h.tm j hj
   have a3:=h.tj j hj
   have a4:=h.d1 j hj
   have a5:=h.d40 j hj
   simp only[kJ,fe,Bool.or_eq_false_iff,decide_eq_false_iff_not]
   omega
noncomputable def KV (s:Nat) (l:Nat) (t:Nat→Int) (k:Nat) (d:Nat→Int):AV:=eA s l t k d (cT t l)
section
variable (n l k:Nat) (t d:Nat→Int) (H:aa)
theorem NU (h:oi l t k d≠0):cd (n+8) (.fn 51) [bR l t k d] H=some (.tup [.nilp,.int .i64 (oi l t k d)],H):=by
 refine aC (n:=n+7) Try.func51 rfl rfl rfl (P5 (n+7) l k t d (oi l t k d) H) (aQ _ (n+7) (bo (aB _) (fun H=>QC n l k t d H))) (af _ _) (ag _ _) ?_
 generalize oi l t k d=e at *
 exact wF
theorem QE (h:Sh l t k d):cd (n+8) (.fn 51) [bR l t k d] H=some (.tup [KV 0 l t k d,.int .i64 0],H):=by
 have h21:∀ H,cd (n+7) (.fn 21) [bR l t k d] H=some (.int .i64 0,H):=fun H=>by rw[QC,I8 h]
 refine aC (n:=n+7) Try.func51 rfl rfl rfl (TP (n+7) l k t d (cT t l) H) (aQ _ (n+7) (bo (bo (aB _) h21) (fun H=>QG (n+6) l k t d H h.l30 h.tl))) (af _ _) (ag _ _) ?_
 unfold KV
 generalize cT t l=g at *
 exact wF
end
end Go.Eng
end
section
namespace Go.Eng
open Go.Proofs
noncomputable def uC (s l:Nat) (t:Nat→Int) (k:Nat) (d g:Nat→Int) (j:Int):ao:=[(0,eA (s+1) l t k d g),(3,.ptr 0 0 0 0),(4,.ptr 0 1 0 0),(5,.ptr 0 2 0 0),(15,.int .i64 (Int.ofNat l)),(16,.int .i64 j)]
noncomputable def vw (s l:Nat) (t:Nat→Int) (k:Nat) (d g:Nat→Int) (j:Int):ao:=[(0,eA (s+1) l t k d g),(3,.ptr 0 0 0 0),(4,.ptr 0 1 0 0),(5,.ptr 0 2 0 0),(6,.int .i64 j),(7,.ptr 0 3 0 0),(8,.ptr 0 4 0 0),(15,.int .i64 (Int.ofNat l)),(16,.int .i64 j),(25,N8 (s+1) l t k d g j)]
noncomputable def IM (s l:Nat) (t:Nat→Int) (k:Nat) (d g:Nat→Int) (j x:Int):ao:=[(0,eA (s+3) l t k d g),(3,.ptr 2 0 0 0),(4,.ptr 2 1 0 0),(5,.ptr 2 2 0 0),(6,.int .i64 j),(7,.ptr 2 3 0 0),(8,.ptr 2 4 0 0),(15,.int .i64 (Int.ofNat l)),(16,.int .i64 j),(25,.fn (.func 81) [] [.ptrT none (.I .i64 [j]) 0,.ptrT (some 2) (.G [eA (s+1) l t k d g]) 0]),(26,.int .i64 x)]
noncomputable def Fj (x:Int):ao:=[(3,.ptr 2 0 0 0),(7,.ptr 2 3 0 0),(8,.ptr 2 4 0 0),(9,.int .i64 x)]
noncomputable def uK (m:Nat) (y:Nat→Int) (u:Bool) (a b:Nat→Int):aV:=⟨false,[(0,.row (.G [cA m y u])),(0,.row (.M [.arr .i64 a 30])),(0,.row (.M [.arr .i64 b 30]))]⟩
noncomputable def jD (m:Nat) (y:Nat→Int) (u:Bool) (a b:Nat→Int) (v w:Int) (L:List (Nat×aj)):aV:=⟨false,[(0,.row (.G [cA m y u])),(0,.row (.M [.arr .i64 a 30])),(0,.row (.M [.arr .i64 b 30])),G4 v,G4 w]++L⟩
theorem PF (n s l k m:Nat) (t d g y:Nat→Int) (u:Bool) (a b:Nat→Int) (L:hY) (H:aa) (j x v w:Int):aM (wB n 53 42 2 5) (il aD n 0) aK aL (part Try.f53 [1,1,0,1,0,0,1,1,0,0,1,1,0,1,0,0]) (hints (IM s l t k d g j x)) (aw::aw::jD m y u a b v w [(0,.loop L)]::H) =
 Tr.ok (Ex.normal,[(3,AV.ptr 2 0 0 0,none),(7,AV.ptr 2 3 0 0,none),(8,AV.ptr 2 4 0 0,none),(9,AV.int .i64 x,none)],aw::aw::{ lock:=false,bs:=[(0,aj.row (Row.G [AV.slcT none (Row.M [ah.arr .i64 y m]) 1 m u])),(0,aj.row (Row.M [ah.arr .i64 a 30])),(0,aj.row (Row.M [ah.arr .i64 b 30])),(0,aj.row (Row.I .i64 [v])),(0,aj.row (Row.I .i64 [w])),(0,aj.loop L)] } :: H):=by kernel_rfl
theorem PG (n m:Nat) (y:Nat→Int) (u:Bool) (a b:Nat→Int) (L:hY) (H:aa) (x v w:Int):aM (wB n 53 42 2 5) (il aD n 0) aK aL (part Try.f53 [1,1,0,1,0,0,1,1,0,0,1,1,0,1,0,1]) (hints (Fj x)) (aw::aw::jD m y u a b v w [(0,.loop L)]::H) =
 Tr.req (cN x m) (Tr.req (cw (au 0 x 1) m) (Tr.req (jW (iO 0 0) (iO 0 1)) (Tr.ok (Ex.normal,[],aw::aw::{ lock:=false,bs:=[(0,aj.row (Row.G [AV.slcT none (Row.M [ah.arr .i64 y m]) 1 m u])),(0,aj.row (Row.M [ah.arr .i64 a 30])),(0,aj.row (Row.M [ah.arr .i64 b 30])),(0,aj.row (Row.I .i64 [uO v (bC .i64 (y (au 0 x 1)) w)])),(0,aj.row (Row.I .i64 [bG .i64 w (Int.ofNat 1)])),(0,aj.loop L)] } :: H)))):=by kernel_rfl
theorem t53 (n s l k m:Nat) (t d g y:Nat→Int) (u:Bool) (a b:Nat→Int) (H:aa) (j v w:Int):aM (bp (n+1) 53 42) (il aD n 1) aK (Lb aL (fun _=>true) (vw s l t k d g j) (jD m y u a b (y (au 0 j 1)) (Int.ofNat 0) []::H) (.ok (.normal,hints (vw s l t k d g j),jD m y u a b v w [(0,.dead)]::H))) (part Try.f53 [1,1,0,1,0,0]) (hints (uC s l t k d g j)) (uK m y u a b::H) =
 (fun (Z0:Row)=>((fun (Z1:ao)=>((fun (Z2:aV)=>Tr.ite (bQ j (Int.ofNat l)) (Tr.req (cN j m) (Tr.req (cw (au 0 j 1) m) (Tr.reqP (Z1=Z1∧Z2::H=Z2::H) (Tr.req (cN j 30) (Tr.req (cL 0 0) (Tr.req (cw (au 0 j 1) 30) (Tr.ok (Ex.normal,[(0,AV.ptrT (some (Nat.succ s)) Z0 0,none),(3,AV.ptr 0 0 0 0,none),(4,AV.ptr 0 1 0 0,none),(5,AV.ptr 0 2 0 0,none),(15,AV.int .i64 (Int.ofNat l),none),(16,AV.int .i64 (bG .i64 j (Int.ofNat 1)),none)],{ lock:=false,bs:=[(0,aj.row (Row.G [AV.slcT none (Row.M [ah.arr .i64 y m]) 1 m u])),(0,aj.row (Row.M [ah.arr .i64 a 30])),(0,aj.row (Row.M [ah.arr .i64 (fO b (au 0 j 1) v) 30])),(0,aj.row (Row.I .i64 [v])),(0,aj.row (Row.I .i64 [w])),(0,aj.dead)] } :: H)))))))) (Tr.ok (Ex.exit 0,[(0,AV.ptrT (some (Nat.succ s)) Z0 0,none),(3,AV.ptr 0 0 0 0,none),(4,AV.ptr 0 1 0 0,none),(5,AV.ptr 0 2 0 0,none),(15,AV.int .i64 (Int.ofNat l),none),(16,AV.int .i64 j,none),(17,AV.bool false,some 1)],{ lock:=false,bs:=[(0,aj.row (Row.G [AV.slcT none (Row.M [ah.arr .i64 y m]) 1 m u])),(0,aj.row (Row.M [ah.arr .i64 a 30])),(0,aj.row (Row.M [ah.arr .i64 b 30]))] } :: H))) { lock:=false,bs:=[(0,aj.row (Row.G [AV.slcT none (Row.M [ah.arr .i64 y m]) 1 m u])),(0,aj.row (Row.M [ah.arr .i64 a 30])),(0,aj.row (Row.M [ah.arr .i64 b 30])),(0,aj.row (Row.I .i64 [y (au 0 j 1)])),(0,aj.row (Row.I .i64 [Int.ofNat 0]))] })) [(0,AV.ptrT (some (Nat.succ s)) Z0 0),(3,AV.ptr 0 0 0 0),(4,AV.ptr 0 1 0 0),(5,AV.ptr 0 2 0 0),(6,AV.int .i64 j),(7,AV.ptr 0 3 0 0),(8,AV.ptr 0 4 0 0),(15,AV.int .i64 (Int.ofNat l)),(16,AV.int .i64 j),(25,AV.fn (Fn.func 81) [] [AV.ptrT none (Row.I .i64 [j]) 0,AV.ptrT (some 0) (Row.G [AV.ptrT (some (Nat.succ s)) Z0 0]) 0])])) (Row.M [ah.one (AV.slcT none (Row.M [ah.arr .i64 t l]) 1 l false),ah.one (AV.slcT none (Row.M [ah.arr .i64 d k]) 1 k false),ah.arr .i64 g 30]):=by kernel_rfl
theorem PH (n s l k m:Nat) (t d g y:Nat→Int) (u:Bool) (a b:Nat→Int) (H:aa) (j:Int):aM (bp (n+1) 53 42) (il aD n 1) aK (Lb aL (fun _=>true) [] [] .bad) (part Try.f53 [1,1,0,1,0,0]) (hints (uC s l t k d g j)) (uK m y u a b::H) =
 (fun (Z0:Row)=>Tr.ite (bQ j (Int.ofNat l)) (Tr.req (cN j m) (Tr.req (cw (au 0 j 1) m) (Tr.reqP ([(0,AV.ptrT (some (Nat.succ s)) Z0 0),(3,AV.ptr 0 0 0 0),(4,AV.ptr 0 1 0 0),(5,AV.ptr 0 2 0 0),(6,AV.int .i64 j),(7,AV.ptr 0 3 0 0),(8,AV.ptr 0 4 0 0),(15,AV.int .i64 (Int.ofNat l)),(16,AV.int .i64 j),(25,AV.fn (Fn.func 81) [] [AV.ptrT none (Row.I .i64 [j]) 0,AV.ptrT (some 0) (Row.G [AV.ptrT (some (Nat.succ s)) Z0 0]) 0])]=[]∧{ lock:=false,bs:=[(0,aj.row (Row.G [AV.slcT none (Row.M [ah.arr .i64 y m]) 1 m u])),(0,aj.row (Row.M [ah.arr .i64 a 30])),(0,aj.row (Row.M [ah.arr .i64 b 30])),(0,aj.row (Row.I .i64 [y (au 0 j 1)])),(0,aj.row (Row.I .i64 [Int.ofNat 0]))] } :: H=[]) Tr.bad))) (Tr.ok (Ex.exit 0,[(0,AV.ptrT (some (Nat.succ s)) Z0 0,none),(3,AV.ptr 0 0 0 0,none),(4,AV.ptr 0 1 0 0,none),(5,AV.ptr 0 2 0 0,none),(15,AV.int .i64 (Int.ofNat l),none),(16,AV.int .i64 j,none),(17,AV.bool false,some 1)],{ lock:=false,bs:=[(0,aj.row (Row.G [AV.slcT none (Row.M [ah.arr .i64 y m]) 1 m u])),(0,aj.row (Row.M [ah.arr .i64 a 30])),(0,aj.row (Row.M [ah.arr .i64 b 30]))] } :: H))) (Row.M [ah.one (AV.slcT none (Row.M [ah.arr .i64 t l]) 1 l false),ah.one (AV.slcT none (Row.M [ah.arr .i64 d k]) 1 k false),ah.arr .i64 g 30]):=by kernel_rfl
theorem TQ (n s l k m:Nat) (t d g y:Nat→Int) (u:Bool) (b:Nat→Int) (H:aa):aX Try.prog (cd n) 100000 53 Try.f53 (KtL.kt 53) (il aD n 0) (bX aK 0 (uC s l t k d g 0) (uK m y u (fun x=>Int.ofNat 0) (fun x=>Int.ofNat 0)::H) (.ok (.normal,hints (uC s l t k d g (Int.ofNat l)++[(17,.bool false)]),uK m y u (fun x=>Int.ofNat 0) b::H))) aL [(eA s l t k d g,none),(cA m y u,none)] H =
 (fun (Z0:ao)=>((fun (Z1:aV)=>Tr.reqP (Z0=Z0∧Z1::H=Z1::H) (Tr.req (gF 0 30 0 30) (Tr.ok ((AV.agg (Row.M [ah.arr .i64 (eC (fun x=>Int.ofNat 0) 0 b 30) 30]),none),H)))) { lock:=false,bs:=[(0,aj.row (Row.G [AV.slcT none (Row.M [ah.arr .i64 y m]) 1 m u])),(0,aj.row (Row.M [ah.arr .i64 (fun x=>Int.ofNat 0) 30])),(0,aj.row (Row.M [ah.arr .i64 (fun x=>Int.ofNat 0) 30]))] })) [(0,AV.ptrT (some (Nat.succ s)) (Row.M [ah.one (AV.slcT none (Row.M [ah.arr .i64 t l]) 1 l false),ah.one (AV.slcT none (Row.M [ah.arr .i64 d k]) 1 k false),ah.arr .i64 g 30]) 0),(3,AV.ptr 0 0 0 0),(4,AV.ptr 0 1 0 0),(5,AV.ptr 0 2 0 0),(15,AV.int .i64 (Int.ofNat l)),(16,AV.int .i64 (Int.ofNat 0))]:=by kernel_rfl
theorem QR:∀ b,(0,b) ∈ aJ (bn Try.f53)→b=.loop (part Try.f53 [1,1,0,1,0,0]):=eJ (by kernel_rfl)
theorem tK {n d i:Nat} {args:List AV} {H H2 R:aa} {l l2:hY} {fr fr1 fr2:ao} {lv:aV}
 (hg:aq H d i=(0,.loop l)) (hl:av H d=false) (hs:l.state=.ready) (hp:lP l.nt (mK (d+1) l.fr) l.params (args.map (fE 1))=some fr)
 (h1:exec (wB n l.fn l.nt (d+1) i) l.assign fr (aw::H)=some (.normal,fr1,aw::H))
 (h2:exec (wB n l.fn l.nt (d+1) i) l.body fr1 (eE (aw::H) (d+1) i (0,.loop { l with state:=.busy }))=some (.normal,fr2,lv::H2)) (hg2:aq H2 d i=(0,.loop l2)) (hR:R=eE H2 d i (0,.loop { l2 with state:=.ready,pending:=none })) :
 cd (n+1) (.round d i) args H=some (.bool true,R):=by
 rw[hR]
 exact Gd (P:=Try.prog) (ora:=nm) (KT:=KtL.kt) (fu:=100000) (e:=.normal) hg hl hs hp h1 (by rw[show aq (aw::H) (d+1) i=aq H d i from rfl];exact hg) hs h2 hg2
theorem p6 {n f nt d i:Nat} {c:Code} {callR:bD} {bl:h9} {rg:sb} {fr:ao} {H:aa} {T:Tr oz} (e:aM (wB n f nt d i) callR bl rg c (hints fr) H=T) (hC:callR.Ok (cd n)) (hB:bl.Ok (wB n f nt d i) c) (hR:rg.Ok (wB n f nt d i) c) {y:Ex×ao×aa} (h:T.all fun x=>x.st=y):exec (wB n f nt d i) c fr H=some y:=by
 obtain ⟨x,h1,rfl⟩:=h
 have:=oR (cx:=wB n f nt d i) hC c hB hR (hints fr) H x (by rw[e];exact h1)
 rw[ik] at this;exact this
noncomputable def Hr:Code:=part Try.f53 [1,1,0,1,0,0,1,1,0,0,1,1,0,1,0,0]
noncomputable def Hs:Code:=part Try.f53 [1,1,0,1,0,0,1,1,0,0,1,1,0,1,0,1]
theorem TD:eh (part Try.f53 [1,1,0,1,0,0])=[(.tmp 25,#[26],Hr,Hs)]:=by kernel_rfl
noncomputable def mE (s l:Nat) (t:Nat→Int) (k:Nat) (d g:Nat→Int) (j:Int):hY:={ state:=.ready,pending:=none,fn:=53,nt:=42,fr:=vw s l t k d g j,params:=[26],assign:=Hr,body:=Hs }
def uJ (t e:Nat→Int) (i:Nat):Nat→Int
 | 0=>e i
 | m+1=>min (uJ t e i m) (e (bE t m (i:Int)).toNat-(m:Int))
def gv (l:Nat) (t e:Nat→Int) (i:Nat):Int:=uJ t e i (iX l t i)
section
variable (n s l k m:Nat) (t d g y:Nat→Int) (u:Bool) (a b:Nat→Int) (H:aa) (i:Nat)
theorem Pv (j x v w:Int) (hx:0≤x) (hm:x<m) (hv:-1000≤v∧v≤1000) (hw:0≤w∧w≤1000) (hy:-1000≤y x.toNat∧y x.toNat≤1000) :
 cd (n+1) (.round 1 5) [.int .i64 x] (aw::jD m y u a b v w [(0,.loop (mE s l t k d g j))]::H)=some (.bool true,aw::jD m y u a b (min v (y x.toNat-w)) (w+1) [(0,.loop (mE s l t k d g j))]::H):=by
 have h1:exec (wB n 53 42 2 5) Hr (IM s l t k d g j x) (aw::aw::jD m y u a b v w [(0,.loop (mE s l t k d g j))]::H)=some (.normal,Fj x,aw::aw::jD m y u a b v w [(0,.loop (mE s l t k d g j))]::H) :=
  p6 (PF n s l k m t d g y u a b _ H j x v w) (ar n) (af _ _) (ag _ _) (Tr.ba rfl)
 have h2:exec (wB n 53 42 2 5) Hs (Fj x) (aw::aw::jD m y u a b v w [(0,.loop { mE s l t k d g j with state:=.busy })]::H)=some (.normal,[],aw::aw::jD m y u a b (min v (y x.toNat-w)) (w+1) [(0,.loop { mE s l t k d g j with state:=.busy })]::H):=by
  refine p6 (PG n m y u a b _ H x v w) (ar n) (af _ _) (ag _ _) ?_
  have e1:bC .i64 (y x.toNat) w=y x.toNat-w:=rH (by omega) (by omega)
  have e2:bG .i64 w (Int.ofNat 1)=w+1:=GL (by show _≤w+1;omega) (by show w+1≤_;omega)
  rw[K8 hx,e1,e2,ki]
  generalize mE s l t k d g j=L at *
  generalize y x.toNat=q at *
  generalize min v (q-w)=V at *
  exact wF
 exact tK (l:=mE s l t k d g j) (l2:={ mE s l t k d g j with state:=.busy }) rfl rfl rfl rfl h1 h2 rfl rfl
theorem FG {t e:Nat→Int} {i:Nat} {l:Nat} (hy:∀ j,j<l→-900≤e j∧e j≤900) (hi:i<l) (ht:∀ j,j<l→t j<l):∀ m,m≤31→(∀ q,q<m→0≤bE t q (i:Int))→-1000≤uJ t e i m∧uJ t e i m≤1000
 | 0,_,_=>by have:=hy i hi;show -1000≤e i∧e i≤1000;omega
 | m+1,hm,hp=>by
   have ih:=FG hy hi ht m (by omega) (fun q hq=>hp q (by omega))
   have h1:=hp m (by omega)
   have h2:=gA ht (show (i:Int)<l by omega) m
   have h3:=hy (bE t m (i:Int)).toNat (by omega)
   show -1000≤min (uJ t e i m) _∧min (uJ t e i m) _≤1000
   omega
theorem Um (hl:l≤30) (hm:m=l) (ht:∀ j,j<l→t j<l) (hi:i<l) (hc:iB l t=false) (hy:∀ j,j<l→-900≤y j∧y j≤900) :
 exec (bp (n+2) 53 42) (.rangeFunc (.tmp 25) #[26] Hr Hs) (vw s l t k d g (i:Nat)) (jD m y u a b (y i) 0 []::H)=some (.normal,vw s l t k d g (i:Nat),jD m y u a b (gv l t y i) (iX l t i:Nat) [(0,.dead)]::H):=by
 subst hm
 obtain ⟨e1,e2,e3⟩:=l5 hc i hi
 exact zL (cx:=bp (n+2) 53 42) (l:=mE s m t k d g (i:Nat)) (f:=.tmp 25) (ps:=#[26]) (fr:=vw s m t k d g (i:Nat)) (H:=jD m y u a b (y i) 0 []::H) (g:=81) (a:=[]) (b:=[.ptrT none (.I .i64 [(i:Int)]) 0,.ptrT (some 0) (.G [eA (s+1) m t k d g]) 0]) rfl rfl rfl
  (Lp (n+1) m k t d g i (iX m t i) (fun c=>jD m y u a b (uJ t y i c) (c:Nat) [(0,.loop (mE s m t k d g (i:Nat)))]::H) (s+1) (by omega) e2 e3 ht (by omega) hi (fun c hc=>by
    have h1:=e2 c hc
    have h2:=gA ht (show (i:Int)<m by omega) c
    have h3:=hy (bE t c (i:Int)).toNat (by omega)
    exact Pv n s m k m t d g y u a b H _ _ _ _ h1 h2 (FG hy hi ht c (by omega) (fun q hq=>e2 q (by omega))) (by omega) (by omega))) rfl rfl rfl
theorem K0 (z:Nat→Int) (j:Nat):fO (fun i=>if i<j then z i else 0) j (z j)=fun i=>if i<j+1 then z i else 0:=by
 rw[hJ];funext i
 show (if i=j then z j else if i<j then z i else 0)=_
 by_cases c:i=j
 · subst c;rw[if_pos rfl,if_pos (by omega)]
 · rw[if_neg c]
   by_cases c2:i<j
   · rw[if_pos c2,if_pos (by omega)]
   · rw[if_neg c2,if_neg (by omega)]
def pK (l:Nat) (t e:Nat→Int) (j:Nat):Nat→Int:=fun i=>if i<j then gv l t e i else 0
theorem Tf (hl:l≤30) (hm:m=l) (ht:∀ j,j<l→t j<l) (hc:iB l t=false) (hy:∀ j,j<l→-900≤y j∧y j≤900) :
 exec (bp (n+2) 53 42) (.block 0 (.loop (part Try.f53 [1,1,0,1,0,0]))) (uC s l t k d g 0) (uK m y u a (fun x=>Int.ofNat 0)::H)=some (.normal,uC s l t k d g (Int.ofNat l)++[(17,.bool false)],uK m y u a (pK l t y l)::H):=by
 refine j8 (n:=n+2) (f:=53) (nt:=42) (c:=part Try.f53 [1,1,0,1,0,0]) 0 (fun j=>uC s l t k d g (j:Nat)) (fun j=>uK m y u a (pK l t y j)::H) l (uC s l t k d g (Int.ofNat l)++[(17,.bool false)],uK m y u a (pK l t y l)::H) (by omega) (fun j hj=>?_) ?_
 · have hx:=Um n s l k m t d g y u a (pK l t y j) H j hl hm ht hj hc hy
   have he:=t53 (n+1) s l k m t d g y u a (pK l t y j) H (j:Nat) (gv l t y j) (iX l t j:Nat)
   rw[jB] at he
   refine aH he (lL (n+1) 1) (af _ _) (xC (ag _ _) (fun f ps a b _ hm x hx2=>?_)) ?_
   · rw[TD] at hm
     simp only[List.mem_cons,Prod.mk.injEq,List.not_mem_nil,or_false] at hm
     obtain ⟨rfl,rfl,rfl,rfl⟩:=hm
     rw[← Tr.ab hx2];exact hx
   · show Tr.all _ (fun x=>_∧tidy _ _ _=(uC s l t k d g ((j+1:Nat):Int),uK m y u a (pK l t y (j+1))::H))
     have hu:fO (pK l t y j) j (gv l t y j)=pK l t y (j+1):=K0 (gv l t y) j
     have e1:tZ (au 2 (j:Int) 1) 2=j:=by rw[kY,lA];omega
     rw[db (by omega)]
     simp only[e1,hu,jB]
     generalize gv l t y j=V at *
     generalize pK l t y (j+1)=Y2 at *
     generalize pK l t y j=Y1 at *
     exact wF
 · obtain ⟨x,h1,rfl⟩:=aH (Q:=fun x=>x=(.exit 0,uC s l t k d g (Int.ofNat l)++[(17,.bool false)],uK m y u a (pK l t y l)::H)) (PH (n+1) s l k m t d g y u a (pK l t y l) H (Int.ofNat l)) (lL (n+1) 1) (af _ _) (xC (ag _ _) (fun f ps a b _ hm x hx2=>(Tr.ae hx2).elim)) (by
    refine Tr.bh (fun hc=>?_) (fun hc=>Tr.ba rfl)
    simp (disch:=omega) only[nV,nW] at hc;omega)
   exact h1
theorem NV (hl:l≤30) (hm:m=l) (ht:∀ j,j<l→t j<l) (hc:iB l t=false) (hy:∀ j,j<l→-900≤y j∧y j≤900) :
 cd (n+3) (.fn 53) [eA s l t k d g,cA m y u] H=some (.agg (.M [.arr .i64 (bH (pK l t y l)) 30]),H):=by
 have hx:=Tf n s l k m t d g y u (fun x=>Int.ofNat 0) H hl hm ht hc hy
 refine aC (n:=n+2) Try.func53 rfl rfl rfl (TQ (n+2) s l k m t d g y u (pK l t y l) H) (ar _) (aF (af _ _) QR (fun x hy=>bY hy hx)) (ag _ _) ?_
 generalize pK l t y l=Y at *
 exact wF
end
end Go.Eng
end
