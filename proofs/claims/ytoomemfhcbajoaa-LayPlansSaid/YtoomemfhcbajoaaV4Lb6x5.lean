/- Lay: way: its loop over all cells on the way from one. -/
import Derived.Test.YtoomemfhcbajoaaV4Lb3x3
set_option linter.unusedVariables false
set_option linter.unusedSimpArgs false
set_option maxRecDepth 100000
section
namespace Go.Eng
open Go.Proofs
noncomputable def yG (h s:Nat) (l:Nat) (t:Nat→Int) (k:Nat) (d g:Nat→Int) (x:Int):ar:=[(0,.yld 1 h),(2,.ptrT (some 1) (.G [eN s l t k d g]) 0),(4,.int .i64 x)]
noncomputable def wB (n f nt d i:Nat):Cx:=⟨Try.prog,cd n,100000,f,nt,KtL.kt f,some (d,i)⟩
theorem RK:∀ b,(0,b) ∈ aF (bh Try.f81)→b=.loop (part Try.f81 [1,0,0]):=dw (by kernel_rfl)
theorem No (s:Nat) (n l k:Nat) (t d g:Nat→Int) (G G':aa) (x:Int):aJ (bo n 81 21) (KS (il aB n 0) 1 5 [.int .i64 x] (az::G) (.ok (.bool true,az::G'))) aG aH (part Try.f81 [1,0,0]) (hints (yG 5 s l t k d g x)) (az::G) =
 (fun (Z0:Nat×AV×Option Nat)=>Tr.ite (lU (Int.ofNat 0) x) (Tr.reqP ([AV.int .i64 x]=[AV.int .i64 x]∧az::G=az::G) (Tr.ite true (Tr.req (b8 x l) (Tr.req (bV (an 0 x 1) l) (Tr.ok (Ex.normal,[(0,AV.yld 1 5,none),Z0,(4,AV.int .i64 (t (an 0 x 1)),none)],az::G')))) (Tr.ok (Ex.exit 0,[(0,AV.yld 1 5,none),Z0,(4,AV.int .i64 x,none),(12,AV.bool false,some 1)],az::G')))) (Tr.ok (Ex.exit 0,[(0,AV.yld 1 5,none),Z0,(4,AV.int .i64 x,none),(12,AV.bool false,some 1)],az::G))) (2,AV.ptrT (some 1) (Row.G [AV.ptrT (some s) (Row.M [ah.one (AV.slcT none (Row.M [ah.arr .i64 t l]) 1 l false),ah.one (AV.slcT none (Row.M [ah.arr .i64 d k]) 1 k false),ah.arr .i64 g 30]) 0]) 0,none):=by kernel_rfl
theorem K3 (s:Nat) (n l k:Nat) (t d g:Nat→Int) (G:aa) (x:Int):aJ (bo n 81 21) (il aB n 0) aG aH (part Try.f81 [1,0,0]) (hints (yG 5 s l t k d g x)) (az::G) =
 Tr.ite (lU (Int.ofNat 0) x) Tr.bad (Tr.ok (Ex.exit 0,[(0,AV.yld 1 5,none),(2,AV.ptrT (some 1) (Row.G [AV.ptrT (some s) (Row.M [ah.one (AV.slcT none (Row.M [ah.arr .i64 t l]) 1 l false),ah.one (AV.slcT none (Row.M [ah.arr .i64 d k]) 1 k false),ah.arr .i64 g 30]) 0]) 0,none),(4,AV.int .i64 x,none),(12,AV.bool false,some 1)],az::G)):=by kernel_rfl
theorem NL (s:Nat) (n l k:Nat) (t d g:Nat→Int) (G G':aa) (i x:Int):aT Try.prog (cd n) 100000 81 Try.f81 (KtL.kt 81) (il aB n 0) (bG aG 0 (yG 5 s l t k d g i) (az::G) (.ok (.normal,hints (yG 5 s l t k d g x++[(12,.bool false)]),az::G'))) aH [(.yld 0 5,none),(.ptrT none (.I .i64 [i]) 0,none),(.ptrT (some 0) (.G [eN s l t k d g]) 0,none)] G =
 (fun (Z0:ar)=>Tr.reqP (Z0=Z0∧az::G=az::G) (Tr.ok ((AV.tup [],none),G'))) [(0,AV.yld 1 5),(2,AV.ptrT (some 1) (Row.G [AV.ptrT (some s) (Row.M [ah.one (AV.slcT none (Row.M [ah.arr .i64 t l]) 1 l false),ah.one (AV.slcT none (Row.M [ah.arr .i64 d k]) 1 k false),ah.arr .i64 g 30]) 0]) 0),(4,AV.int .i64 i)]:=by kernel_rfl
def jk (l:Nat) (t:Nat→Int) (i:Nat):Nat:=cn (fun m=>decide (0≤bK t m (i:Int))) l
theorem Aj {t:Nat→Int} {x:Int} {m q:Nat} (h:m≤q) (h2:0≤bK t q x):0≤bK t m x:=by
 apply Int.not_lt.1
 intro hc
 have:=tZ hc (q-m)
 rw[show m+(q-m)=q by omega] at this
 omega
theorem MB {l:Nat} {t:Nat→Int} {x:Int} (h:bK t l x<0):∃ N,N≤l∧(∀ m,m<N→0≤bK t m x)∧bK t N x<0∧cn (fun m=>decide (0≤bK t m x)) l=N:=by
 induction l with
 | zero=>exact ⟨0,Nat.le_refl _,fun m hm=>by omega,h,rfl⟩
 | succ l ih =>
   by_cases c:bK t l x<0
   · obtain ⟨N,h1,h2,h3,h4⟩:=ih c
     refine ⟨N,by omega,h2,h3,?_⟩
     show cn (fun m=>decide (0≤bK t m x)) l+(decide (0≤bK t l x)).toNat=N
     rw[decide_eq_false (by omega)];simpa using h4
   · refine ⟨l+1,Nat.le_refl _,fun m hm=>Aj (by omega) (by omega:0≤bK t l x),h,?_⟩
     have:∀ m,m≤l+1→cn (fun m=>decide (0≤bK t m x)) m=m:=by
      intro m
      induction m with
      | zero=>intro _;rfl
      | succ m ih2 =>
        intro hm
        show cn (fun m=>decide (0≤bK t m x)) m+(decide (0≤bK t m x)).toNat=_
        rw[ih2 (by omega),decide_eq_true (Aj (by omega) (by omega:0≤bK t l x))];rfl
     exact this (l+1) (Nat.le_refl _)
theorem l6 {l:Nat} {t:Nat→Int} (h:iL l t=false) (i:Nat) (hi:i<l):jk l t i≤l∧(∀ m,m<jk l t i→0≤bK t m (i:Int))∧bK t (jk l t i) (i:Int)<0:=by
 have h1:=eZ h i hi
 rw[decide_eq_false_iff_not] at h1
 obtain ⟨N,a,b,c,e⟩:=MB (l:=l) (t:=t) (x:=(i:Int)) (by omega)
 unfold jk
 rw[e];exact ⟨a,b,c⟩
theorem xQ {t:Nat→Int} {m:Nat} {x:Int} (h:0≤bK t m x):bK t (m+1) x=t (bK t m x).toNat:=by
 show (if 0≤bK t m x then _ else _)=_
 rw[if_pos h]
section
variable (n l k:Nat) (t d g:Nat→Int) (i N:Nat) (St:Nat→aa)
theorem LH (s:Nat) (hN:N≤1000) (hp:∀ m,m<N→0≤bK t m (i:Int)) (hn:bK t N (i:Int)<0) (ht:∀ j,j<l→t j<l) (hl:l≤1000) (hi:i<l)
 (hr:∀ m,m<N→cd n (.round 1 5) [.int .i64 (bK t m (i:Int))] (az::St m)=some (.bool true,az::St (m+1))) :
 cd (n+1) (.fn 81) [.yld 0 5,.ptrT none (.I .i64 [(i:Int)]) 0,.ptrT (some 0) (.G [eN s l t k d g]) 0] (St 0)=some (.tup [],St N):=by
 have hx:=iM (n:=n) (f:=81) (nt:=21) (c:=part Try.f81 [1,0,0]) 0 (fun m=>yG 5 s l t k d g (bK t m (i:Int))) (fun m=>az::St m) N (yG 5 s l t k d g (bK t N (i:Int))++[(12,.bool false)],az::St N) (by omega) (fun m hm=>?_) ?_
 · refine aE (n:=n) Try.func81 rfl rfl rfl (NL s n l k t d g (St 0) (St N) (i:Int) (bK t N (i:Int))) (al _) (ay (af _ _) RK (fun x hy=>bI hy hx)) (ag _ _) ?_
   exact Tr.bg ⟨rfl,rfl⟩ (Tr.bc ⟨rfl,rfl⟩)
 · have h1:=hp m hm
   have h2:=iG ht (show (i:Int)<l by omega) m
   have h3:=xQ h1
   refine aC (No s n l k t d g (St m) (St (m+1)) (bK t m (i:Int))) (tI (al n) (fun x hy=>by rw[← Tr.ab hy];exact hr m hm)) (af _ _) (ag _ _) ?_
   rw[Ln h1]
   show Tr.all _ (fun x=>_∧tidy _ _ _=(yG 5 s l t k d g (bK t (m+1) (i:Int)),_))
   rw[h3]
   generalize bK t m (i:Int)=x at *
   generalize St (m+1)=G' at *
   generalize St m=G at *
   exact wF
 · obtain ⟨x,h1,rfl⟩:=aC (Q:=fun x=>x=(.exit 0,yG 5 s l t k d g (bK t N (i:Int))++[(12,.bool false)],az::St N)) (K3 s n l k t d g (St N) (bK t N (i:Int))) (al n) (af _ _) (ag _ _) (by
    refine Tr.bk (fun hc=>?_) (fun hc=>Tr.bc rfl)
    simp (disch:=omega) only[nV,nW] at hc;omega)
   exact h1
end
end Go.Eng
end
section
namespace Go.Eng
open Go.Proofs
noncomputable def Ox (s l:Nat) (t:Nat→Int) (k:Nat) (d g:Nat→Int) (j:Int):AV:=.fn (.func 81) [] [.ptrT none (.I .i64 [j]) 0,.ptrT (some 0) (.G [eN s l t k d g]) 0]
noncomputable def Dq (l:Nat) (t:Nat→Int) (k:Nat) (d:Nat→Int):Nat×ai:=(0,.row (.G [bU l t false,bU k d false]))
noncomputable def G8 (x:Int):Nat×ai:=(0,.row (.I .i64 [x]))
theorem UE (n l k:Nat) (t d g:Nat→Int) (H:aa):aT Try.prog (cd n) 100000 51 Try.f51 (KtL.kt 51) (il (tX (tX aB 21 [bw l t k d] (.int .i64 0)) 57 [bw l t k d] (eN 0 l t k d g)) n 0) aG aH [(bw l t k d,none)] H =
 (fun (Z0:List AV)=>Tr.reqP (Z0=Z0) (Tr.ite (aQ (cw (Int.ofNat 0) (Int.ofNat 0))) (Tr.ok ((AV.tup [AV.nilp,AV.int .i64 (Int.ofNat 0)],none),H)) (Tr.reqP (Z0=Z0) (Tr.ok ((AV.tup [AV.ptrT (some 0) (Row.M [ah.one (AV.slcT none (Row.M [ah.arr .i64 t l]) 1 l false),ah.one (AV.slcT none (Row.M [ah.arr .i64 d k]) 1 k false),ah.arr .i64 g 30]) 0,AV.int .i64 (Int.ofNat 0)],none),H))))) [AV.agg (Row.G [AV.slcT none (Row.M [ah.arr .i64 t l]) 1 l false,AV.slcT none (Row.M [ah.arr .i64 d k]) 1 k false])]:=by kernel_rfl
theorem QC (n l k:Nat) (t d:Nat→Int) (e:Int) (H:aa):aT Try.prog (cd n) 100000 51 Try.f51 (KtL.kt 51) (il (tX aB 21 [bw l t k d] (.int .i64 e)) n 0) aG aH [(bw l t k d,none)] H =
 (fun (Z0:List AV)=>Tr.reqP (Z0=Z0) (Tr.ite (aQ (cw e (Int.ofNat 0))) (Tr.ok ((AV.tup [AV.nilp,AV.int .i64 e],none),H)) Tr.bad)) [AV.agg (Row.G [AV.slcT none (Row.M [ah.arr .i64 t l]) 1 l false,AV.slcT none (Row.M [ah.arr .i64 d k]) 1 k false])]:=by kernel_rfl
section
variable (n l k m:Nat) (t d g y:Nat→Int) (H:aa) (i:Nat)
end
end Go.Eng
end
section
namespace Go.Eng
open Go.Proofs
structure Sh (l:Nat) (t:Nat→Int) (k:Nat) (d:Nat→Int):Prop where
 l1:1≤l
 l30:l≤30
 kl:k=l
 tl:∀ j,j<l→t j<l
 tm:∀ j,j<l→-1≤t j
 tj:∀ j,j<l→t j≠(j:Int)
 d1:∀ j,j<l→1≤d j
 d40:∀ j,j<l→d j≤40
 cyc:iL l t=false
theorem CS {l k:Nat} {t d:Nat→Int} (h:lV l t k d=0):Sh l t k d:=by
 unfold lV at h
 by_cases h1:l<1∨30<l
 · rw[if_pos h1] at h;omega
 rw[if_neg h1] at h
 by_cases h2:k≠l
 · rw[if_pos h2] at h;omega
 rw[if_neg h2] at h
 cases h3:bX (kK l t d) l with
 | true=>rw[h3,if_pos rfl] at h;omega
 | false =>
   rw[h3,if_neg (by decide)] at h
   cases h4:iL l t with
   | true=>rw[h4,if_pos rfl] at h;omega
   | false =>
     have g:=eZ h3
     have key:∀ j,j<l→(-1≤t j∧t j≤(l:Int)-1)∧t j≠(j:Int)∧1≤d j∧d j≤40:=fun j hj=>by
      have:=g j hj
      simp only[kK,fi,Bool.or_eq_false_iff,decide_eq_false_iff_not] at this
      exact ⟨⟨by omega,by omega⟩,by omega,by omega,by omega⟩
     exact ⟨by omega,by omega,by omega,fun j hj=>by have:=(key j hj).1;omega,fun j hj=>(key j hj).1.1,fun j hj=>(key j hj).2.1,fun j hj=>(key j hj).2.2.1,fun j hj=>(key j hj).2.2.2,h4⟩
theorem Jh {l k:Nat} {t d:Nat→Int} (h:Sh l t k d):lV l t k d=0:=by
 unfold lV
 rw[if_neg (by have:=h.l1;have:=h.l30;omega),if_neg (by have:=h.kl;omega),if_neg ?_,if_neg (by rw[h.cyc];decide)]
 rw[jc (fun j hj=>?_)]
 · decide
 · have a1:=h.tl j hj
   have a2:=h.tm j hj
   have a3:=h.tj j hj
   have a4:=h.d1 j hj
   have a5:=h.d40 j hj
   simp only[kK,fi,Bool.or_eq_false_iff,decide_eq_false_iff_not]
   omega
noncomputable def K9 (s:Nat) (l:Nat) (t:Nat→Int) (k:Nat) (d:Nat→Int):AV:=eN s l t k d (cZ t l)
section
variable (n l k:Nat) (t d:Nat→Int) (H:aa)
theorem LD (h:lV l t k d≠0):cd (n+8) (.fn 51) [bw l t k d] H=some (.tup [.nilp,.int .i64 (lV l t k d)],H):=by
 refine aE (n:=n+7) Try.func51 rfl rfl rfl (QC (n+7) l k t d (lV l t k d) H) (aM _ (n+7) (aP (aD _) (fun H=>Ra n l k t d H))) (af _ _) (ag _ _) ?_
 generalize lV l t k d=e at *
 exact wF
theorem Oh (h:Sh l t k d):cd (n+8) (.fn 51) [bw l t k d] H=some (.tup [K9 0 l t k d,.int .i64 0],H):=by
 have h21:∀ H,cd (n+7) (.fn 21) [bw l t k d] H=some (.int .i64 0,H):=fun H=>by rw[Ra,Jh h]
 refine aE (n:=n+7) Try.func51 rfl rfl rfl (UE (n+7) l k t d (cZ t l) H) (aM _ (n+7) (aP (aP (aD _) h21) (fun H=>Rh (n+6) l k t d H h.l30 h.tl))) (af _ _) (ag _ _) ?_
 unfold K9
 generalize cZ t l=g at *
 exact wF
end
end Go.Eng
end
section
namespace Go.Eng
open Go.Proofs
noncomputable def uG (s l:Nat) (t:Nat→Int) (k:Nat) (d g:Nat→Int) (j:Int):ar:=[(0,eN (s+1) l t k d g),(3,.ptr 0 0 0 0),(4,.ptr 0 1 0 0),(5,.ptr 0 2 0 0),(15,.int .i64 (Int.ofNat l)),(16,.int .i64 j)]
noncomputable def vA (s l:Nat) (t:Nat→Int) (k:Nat) (d g:Nat→Int) (j:Int):ar:=[(0,eN (s+1) l t k d g),(3,.ptr 0 0 0 0),(4,.ptr 0 1 0 0),(5,.ptr 0 2 0 0),(6,.int .i64 j),(7,.ptr 0 3 0 0),(8,.ptr 0 4 0 0),(15,.int .i64 (Int.ofNat l)),(16,.int .i64 j),(25,Ox (s+1) l t k d g j)]
noncomputable def IU (s l:Nat) (t:Nat→Int) (k:Nat) (d g:Nat→Int) (j x:Int):ar:=[(0,eN (s+3) l t k d g),(3,.ptr 2 0 0 0),(4,.ptr 2 1 0 0),(5,.ptr 2 2 0 0),(6,.int .i64 j),(7,.ptr 2 3 0 0),(8,.ptr 2 4 0 0),(15,.int .i64 (Int.ofNat l)),(16,.int .i64 j),(25,.fn (.func 81) [] [.ptrT none (.I .i64 [j]) 0,.ptrT (some 2) (.G [eN (s+1) l t k d g]) 0]),(26,.int .i64 x)]
noncomputable def Fu (x:Int):ar:=[(3,.ptr 2 0 0 0),(7,.ptr 2 3 0 0),(8,.ptr 2 4 0 0),(9,.int .i64 x)]
noncomputable def uN (m:Nat) (y:Nat→Int) (u:Bool) (a b:Nat→Int):aX:=⟨false,[(0,.row (.G [bU m y u])),(0,.row (.M [.arr .i64 a 30])),(0,.row (.M [.arr .i64 b 30]))]⟩
noncomputable def jH (m:Nat) (y:Nat→Int) (u:Bool) (a b:Nat→Int) (v w:Int) (L:List (Nat×ai)):aX:=⟨false,[(0,.row (.G [bU m y u])),(0,.row (.M [.arr .i64 a 30])),(0,.row (.M [.arr .i64 b 30])),G8 v,G8 w]++L⟩
theorem P1 (n s l k m:Nat) (t d g y:Nat→Int) (u:Bool) (a b:Nat→Int) (L:ie) (H:aa) (j x v w:Int):aJ (wB n 53 42 2 5) (il aB n 0) aG aH (part Try.f53 [1,1,0,1,0,0,1,1,0,0,1,1,0,1,0,0]) (hints (IU s l t k d g j x)) (az::az::jH m y u a b v w [(0,.loop L)]::H) =
 Tr.ok (Ex.normal,[(3,AV.ptr 2 0 0 0,none),(7,AV.ptr 2 3 0 0,none),(8,AV.ptr 2 4 0 0,none),(9,AV.int .i64 x,none)],az::az::{ lock:=false,bs:=[(0,ai.row (Row.G [AV.slcT none (Row.M [ah.arr .i64 y m]) 1 m u])),(0,ai.row (Row.M [ah.arr .i64 a 30])),(0,ai.row (Row.M [ah.arr .i64 b 30])),(0,ai.row (Row.I .i64 [v])),(0,ai.row (Row.I .i64 [w])),(0,ai.loop L)] } :: H):=by kernel_rfl
theorem P2 (n m:Nat) (y:Nat→Int) (u:Bool) (a b:Nat→Int) (L:ie) (H:aa) (x v w:Int):aJ (wB n 53 42 2 5) (il aB n 0) aG aH (part Try.f53 [1,1,0,1,0,0,1,1,0,0,1,1,0,1,0,1]) (hints (Fu x)) (az::az::jH m y u a b v w [(0,.loop L)]::H) =
 Tr.req (b8 x m) (Tr.req (bV (an 0 x 1) m) (Tr.req (jZ (gH 0 0) (gH 0 1)) (Tr.ok (Ex.normal,[],az::az::{ lock:=false,bs:=[(0,ai.row (Row.G [AV.slcT none (Row.M [ah.arr .i64 y m]) 1 m u])),(0,ai.row (Row.M [ah.arr .i64 a 30])),(0,ai.row (Row.M [ah.arr .i64 b 30])),(0,ai.row (Row.I .i64 [jv v (bC .i64 (y (an 0 x 1)) w)])),(0,ai.row (Row.I .i64 [bu .i64 w (Int.ofNat 1)])),(0,ai.loop L)] } :: H)))):=by kernel_rfl
theorem t53 (n s l k m:Nat) (t d g y:Nat→Int) (u:Bool) (a b:Nat→Int) (H:aa) (j v w:Int):aJ (bo (n+1) 53 42) (il aB n 1) aG (Lq aH (fun _=>true) (vA s l t k d g j) (jH m y u a b (y (an 0 j 1)) (Int.ofNat 0) []::H) (.ok (.normal,hints (vA s l t k d g j),jH m y u a b v w [(0,.dead)]::H))) (part Try.f53 [1,1,0,1,0,0]) (hints (uG s l t k d g j)) (uN m y u a b::H) =
 (fun (Z0:Row)=>((fun (Z1:ar)=>((fun (Z2:aX)=>Tr.ite (bT j (Int.ofNat l)) (Tr.req (b8 j m) (Tr.req (bV (an 0 j 1) m) (Tr.reqP (Z1=Z1∧Z2::H=Z2::H) (Tr.req (b8 j 30) (Tr.req (b6 0 0) (Tr.req (bV (an 0 j 1) 30) (Tr.ok (Ex.normal,[(0,AV.ptrT (some (Nat.succ s)) Z0 0,none),(3,AV.ptr 0 0 0 0,none),(4,AV.ptr 0 1 0 0,none),(5,AV.ptr 0 2 0 0,none),(15,AV.int .i64 (Int.ofNat l),none),(16,AV.int .i64 (bu .i64 j (Int.ofNat 1)),none)],{ lock:=false,bs:=[(0,ai.row (Row.G [AV.slcT none (Row.M [ah.arr .i64 y m]) 1 m u])),(0,ai.row (Row.M [ah.arr .i64 a 30])),(0,ai.row (Row.M [ah.arr .i64 (fT b (an 0 j 1) v) 30])),(0,ai.row (Row.I .i64 [v])),(0,ai.row (Row.I .i64 [w])),(0,ai.dead)] } :: H)))))))) (Tr.ok (Ex.exit 0,[(0,AV.ptrT (some (Nat.succ s)) Z0 0,none),(3,AV.ptr 0 0 0 0,none),(4,AV.ptr 0 1 0 0,none),(5,AV.ptr 0 2 0 0,none),(15,AV.int .i64 (Int.ofNat l),none),(16,AV.int .i64 j,none),(17,AV.bool false,some 1)],{ lock:=false,bs:=[(0,ai.row (Row.G [AV.slcT none (Row.M [ah.arr .i64 y m]) 1 m u])),(0,ai.row (Row.M [ah.arr .i64 a 30])),(0,ai.row (Row.M [ah.arr .i64 b 30]))] } :: H))) { lock:=false,bs:=[(0,ai.row (Row.G [AV.slcT none (Row.M [ah.arr .i64 y m]) 1 m u])),(0,ai.row (Row.M [ah.arr .i64 a 30])),(0,ai.row (Row.M [ah.arr .i64 b 30])),(0,ai.row (Row.I .i64 [y (an 0 j 1)])),(0,ai.row (Row.I .i64 [Int.ofNat 0]))] })) [(0,AV.ptrT (some (Nat.succ s)) Z0 0),(3,AV.ptr 0 0 0 0),(4,AV.ptr 0 1 0 0),(5,AV.ptr 0 2 0 0),(6,AV.int .i64 j),(7,AV.ptr 0 3 0 0),(8,AV.ptr 0 4 0 0),(15,AV.int .i64 (Int.ofNat l)),(16,AV.int .i64 j),(25,AV.fn (Fn.func 81) [] [AV.ptrT none (Row.I .i64 [j]) 0,AV.ptrT (some 0) (Row.G [AV.ptrT (some (Nat.succ s)) Z0 0]) 0])])) (Row.M [ah.one (AV.slcT none (Row.M [ah.arr .i64 t l]) 1 l false),ah.one (AV.slcT none (Row.M [ah.arr .i64 d k]) 1 k false),ah.arr .i64 g 30]):=by kernel_rfl
theorem P3 (n s l k m:Nat) (t d g y:Nat→Int) (u:Bool) (a b:Nat→Int) (H:aa) (j:Int):aJ (bo (n+1) 53 42) (il aB n 1) aG (Lq aH (fun _=>true) [] [] .bad) (part Try.f53 [1,1,0,1,0,0]) (hints (uG s l t k d g j)) (uN m y u a b::H) =
 (fun (Z0:Row)=>Tr.ite (bT j (Int.ofNat l)) (Tr.req (b8 j m) (Tr.req (bV (an 0 j 1) m) (Tr.reqP ([(0,AV.ptrT (some (Nat.succ s)) Z0 0),(3,AV.ptr 0 0 0 0),(4,AV.ptr 0 1 0 0),(5,AV.ptr 0 2 0 0),(6,AV.int .i64 j),(7,AV.ptr 0 3 0 0),(8,AV.ptr 0 4 0 0),(15,AV.int .i64 (Int.ofNat l)),(16,AV.int .i64 j),(25,AV.fn (Fn.func 81) [] [AV.ptrT none (Row.I .i64 [j]) 0,AV.ptrT (some 0) (Row.G [AV.ptrT (some (Nat.succ s)) Z0 0]) 0])]=[]∧{ lock:=false,bs:=[(0,ai.row (Row.G [AV.slcT none (Row.M [ah.arr .i64 y m]) 1 m u])),(0,ai.row (Row.M [ah.arr .i64 a 30])),(0,ai.row (Row.M [ah.arr .i64 b 30])),(0,ai.row (Row.I .i64 [y (an 0 j 1)])),(0,ai.row (Row.I .i64 [Int.ofNat 0]))] } :: H=[]) Tr.bad))) (Tr.ok (Ex.exit 0,[(0,AV.ptrT (some (Nat.succ s)) Z0 0,none),(3,AV.ptr 0 0 0 0,none),(4,AV.ptr 0 1 0 0,none),(5,AV.ptr 0 2 0 0,none),(15,AV.int .i64 (Int.ofNat l),none),(16,AV.int .i64 j,none),(17,AV.bool false,some 1)],{ lock:=false,bs:=[(0,ai.row (Row.G [AV.slcT none (Row.M [ah.arr .i64 y m]) 1 m u])),(0,ai.row (Row.M [ah.arr .i64 a 30])),(0,ai.row (Row.M [ah.arr .i64 b 30]))] } :: H))) (Row.M [ah.one (AV.slcT none (Row.M [ah.arr .i64 t l]) 1 l false),ah.one (AV.slcT none (Row.M [ah.arr .i64 d k]) 1 k false),ah.arr .i64 g 30]):=by kernel_rfl
theorem UF (n s l k m:Nat) (t d g y:Nat→Int) (u:Bool) (b:Nat→Int) (H:aa):aT Try.prog (cd n) 100000 53 Try.f53 (KtL.kt 53) (il aB n 0) (bG aG 0 (uG s l t k d g 0) (uN m y u (fun x=>Int.ofNat 0) (fun x=>Int.ofNat 0)::H) (.ok (.normal,hints (uG s l t k d g (Int.ofNat l)++[(17,.bool false)]),uN m y u (fun x=>Int.ofNat 0) b::H))) aH [(eN s l t k d g,none),(bU m y u,none)] H =
 (fun (Z0:ar)=>((fun (Z1:aX)=>Tr.reqP (Z0=Z0∧Z1::H=Z1::H) (Tr.req (ga 0 30 0 30) (Tr.ok ((AV.agg (Row.M [ah.arr .i64 (dT (fun x=>Int.ofNat 0) 0 b 30) 30]),none),H)))) { lock:=false,bs:=[(0,ai.row (Row.G [AV.slcT none (Row.M [ah.arr .i64 y m]) 1 m u])),(0,ai.row (Row.M [ah.arr .i64 (fun x=>Int.ofNat 0) 30])),(0,ai.row (Row.M [ah.arr .i64 (fun x=>Int.ofNat 0) 30]))] })) [(0,AV.ptrT (some (Nat.succ s)) (Row.M [ah.one (AV.slcT none (Row.M [ah.arr .i64 t l]) 1 l false),ah.one (AV.slcT none (Row.M [ah.arr .i64 d k]) 1 k false),ah.arr .i64 g 30]) 0),(3,AV.ptr 0 0 0 0),(4,AV.ptr 0 1 0 0),(5,AV.ptr 0 2 0 0),(15,AV.int .i64 (Int.ofNat l)),(16,AV.int .i64 (Int.ofNat 0))]:=by kernel_rfl
theorem RC:∀ b,(0,b) ∈ aF (bh Try.f53)→b=.loop (part Try.f53 [1,1,0,1,0,0]):=dw (by kernel_rfl)
theorem tM {n d i:Nat} {args:List AV} {H H2 R:aa} {l l2:ie} {fr fr1 fr2:ar} {lv:aX}
 (hg:av H d i=(0,.loop l)) (hl:aw H d=false) (hs:l.state=.ready) (hp:lL l.nt (mL (d+1) l.fr) l.params (args.map (fJ 1))=some fr)
 (h1:exec (wB n l.fn l.nt (d+1) i) l.assign fr (az::H)=some (.normal,fr1,az::H))
 (h2:exec (wB n l.fn l.nt (d+1) i) l.body fr1 (eI (az::H) (d+1) i (0,.loop { l with state:=.busy }))=some (.normal,fr2,lv::H2)) (hg2:av H2 d i=(0,.loop l2)) (hR:R=eI H2 d i (0,.loop { l2 with state:=.ready,pending:=none })) :
 cd (n+1) (.round d i) args H=some (.bool true,R):=by
 rw[hR]
 exact Gp (P:=Try.prog) (ora:=nn) (KT:=KtL.kt) (fu:=100000) (e:=.normal) hg hl hs hp h1 (by rw[show av (az::H) (d+1) i=av H d i from rfl];exact hg) hs h2 hg2
theorem pY {n f nt d i:Nat} {c:Code} {callR:bH} {bl:ig} {rg:sb} {fr:ar} {H:aa} {T:Tr ot} (e:aJ (wB n f nt d i) callR bl rg c (hints fr) H=T) (hC:callR.Ok (cd n)) (hB:bl.Ok (wB n f nt d i) c) (hR:rg.Ok (wB n f nt d i) c) {y:Ex×ar×aa} (h:T.all fun x=>x.st=y):exec (wB n f nt d i) c fr H=some y:=by
 obtain ⟨x,h1,rfl⟩:=h
 have:=oP (cx:=wB n f nt d i) hC c hB hR (hints fr) H x (by rw[e];exact h1)
 rw[ir] at this;exact this
noncomputable def HD:Code:=part Try.f53 [1,1,0,1,0,0,1,1,0,0,1,1,0,1,0,0]
noncomputable def HF:Code:=part Try.f53 [1,1,0,1,0,0,1,1,0,0,1,1,0,1,0,1]
theorem Un:eC (part Try.f53 [1,1,0,1,0,0])=[(.tmp 25,#[26],HD,HF)]:=by kernel_rfl
noncomputable def mF (s l:Nat) (t:Nat→Int) (k:Nat) (d g:Nat→Int) (j:Int):ie:={ state:=.ready,pending:=none,fn:=53,nt:=42,fr:=vA s l t k d g j,params:=[26],assign:=HD,body:=HF }
def uM (t e:Nat→Int) (i:Nat):Nat→Int
 | 0=>e i
 | m+1=>min (uM t e i m) (e (bK t m (i:Int)).toNat-(m:Int))
def gN (l:Nat) (t e:Nat→Int) (i:Nat):Int:=uM t e i (jk l t i)
section
variable (n s l k m:Nat) (t d g y:Nat→Int) (u:Bool) (a b:Nat→Int) (H:aa) (i:Nat)
theorem PR (j x v w:Int) (hx:0≤x) (hm:x<m) (hv:-1000≤v∧v≤1000) (hw:0≤w∧w≤1000) (hy:-1000≤y x.toNat∧y x.toNat≤1000) :
 cd (n+1) (.round 1 5) [.int .i64 x] (az::jH m y u a b v w [(0,.loop (mF s l t k d g j))]::H)=some (.bool true,az::jH m y u a b (min v (y x.toNat-w)) (w+1) [(0,.loop (mF s l t k d g j))]::H):=by
 have h1:exec (wB n 53 42 2 5) HD (IU s l t k d g j x) (az::az::jH m y u a b v w [(0,.loop (mF s l t k d g j))]::H)=some (.normal,Fu x,az::az::jH m y u a b v w [(0,.loop (mF s l t k d g j))]::H) :=
  pY (P1 n s l k m t d g y u a b _ H j x v w) (al n) (af _ _) (ag _ _) (Tr.bc rfl)
 have h2:exec (wB n 53 42 2 5) HF (Fu x) (az::az::jH m y u a b v w [(0,.loop { mF s l t k d g j with state:=.busy })]::H)=some (.normal,[],az::az::jH m y u a b (min v (y x.toNat-w)) (w+1) [(0,.loop { mF s l t k d g j with state:=.busy })]::H):=by
  refine pY (P2 n m y u a b _ H x v w) (al n) (af _ _) (ag _ _) ?_
  have e1:bC .i64 (y x.toNat) w=y x.toNat-w:=qB (by omega) (by omega)
  have e2:bu .i64 w (Int.ofNat 1)=w+1:=Ev (by show _≤w+1;omega) (by show w+1≤_;omega)
  rw[Ln hx,e1,e2,iw]
  generalize mF s l t k d g j=L at *
  generalize y x.toNat=q at *
  generalize min v (q-w)=V at *
  exact wF
 exact tM (l:=mF s l t k d g j) (l2:={ mF s l t k d g j with state:=.busy }) rfl rfl rfl rfl h1 h2 rfl rfl
theorem FT {t e:Nat→Int} {i:Nat} {l:Nat} (hy:∀ j,j<l→-900≤e j∧e j≤900) (hi:i<l) (ht:∀ j,j<l→t j<l):∀ m,m≤31→(∀ q,q<m→0≤bK t q (i:Int))→-1000≤uM t e i m∧uM t e i m≤1000
 | 0,_,_=>by have:=hy i hi;show -1000≤e i∧e i≤1000;omega
 | m+1,hm,hp=>by
   have ih:=FT hy hi ht m (by omega) (fun q hq=>hp q (by omega))
   have h1:=hp m (by omega)
   have h2:=iG ht (show (i:Int)<l by omega) m
   have h3:=hy (bK t m (i:Int)).toNat (by omega)
   show -1000≤min (uM t e i m) _∧min (uM t e i m) _≤1000
   omega
theorem Va (hl:l≤30) (hm:m=l) (ht:∀ j,j<l→t j<l) (hi:i<l) (hc:iL l t=false) (hy:∀ j,j<l→-900≤y j∧y j≤900) :
 exec (bo (n+2) 53 42) (.rangeFunc (.tmp 25) #[26] HD HF) (vA s l t k d g (i:Nat)) (jH m y u a b (y i) 0 []::H)=some (.normal,vA s l t k d g (i:Nat),jH m y u a b (gN l t y i) (jk l t i:Nat) [(0,.dead)]::H):=by
 subst hm
 obtain ⟨e1,e2,e3⟩:=l6 hc i hi
 exact zY (cx:=bo (n+2) 53 42) (l:=mF s m t k d g (i:Nat)) (f:=.tmp 25) (ps:=#[26]) (fr:=vA s m t k d g (i:Nat)) (H:=jH m y u a b (y i) 0 []::H) (g:=81) (a:=[]) (b:=[.ptrT none (.I .i64 [(i:Int)]) 0,.ptrT (some 0) (.G [eN (s+1) m t k d g]) 0]) rfl rfl rfl
  (LH (n+1) m k t d g i (jk m t i) (fun c=>jH m y u a b (uM t y i c) (c:Nat) [(0,.loop (mF s m t k d g (i:Nat)))]::H) (s+1) (by omega) e2 e3 ht (by omega) hi (fun c hc=>by
    have h1:=e2 c hc
    have h2:=iG ht (show (i:Int)<m by omega) c
    have h3:=hy (bK t c (i:Int)).toNat (by omega)
    exact PR n s m k m t d g y u a b H _ _ _ _ h1 h2 (FT hy hi ht c (by omega) (fun q hq=>e2 q (by omega))) (by omega) (by omega))) rfl rfl rfl
theorem Le (z:Nat→Int) (j:Nat):fT (fun i=>if i<j then z i else 0) j (z j)=fun i=>if i<j+1 then z i else 0:=by
 rw[ib];funext i
 show (if i=j then z j else if i<j then z i else 0)=_
 by_cases c:i=j
 · subst c;rw[if_pos rfl,if_pos (by omega)]
 · rw[if_neg c]
   by_cases c2:i<j
   · rw[if_pos c2,if_pos (by omega)]
   · rw[if_neg c2,if_neg (by omega)]
def rG (l:Nat) (t e:Nat→Int) (j:Nat):Nat→Int:=fun i=>if i<j then gN l t e i else 0
theorem T0 (hl:l≤30) (hm:m=l) (ht:∀ j,j<l→t j<l) (hc:iL l t=false) (hy:∀ j,j<l→-900≤y j∧y j≤900) :
 exec (bo (n+2) 53 42) (.block 0 (.loop (part Try.f53 [1,1,0,1,0,0]))) (uG s l t k d g 0) (uN m y u a (fun x=>Int.ofNat 0)::H)=some (.normal,uG s l t k d g (Int.ofNat l)++[(17,.bool false)],uN m y u a (rG l t y l)::H):=by
 refine iM (n:=n+2) (f:=53) (nt:=42) (c:=part Try.f53 [1,1,0,1,0,0]) 0 (fun j=>uG s l t k d g (j:Nat)) (fun j=>uN m y u a (rG l t y j)::H) l (uG s l t k d g (Int.ofNat l)++[(17,.bool false)],uN m y u a (rG l t y l)::H) (by omega) (fun j hj=>?_) ?_
 · have hx:=Va n s l k m t d g y u a (rG l t y j) H j hl hm ht hj hc hy
   have he:=t53 (n+1) s l k m t d g y u a (rG l t y j) H (j:Nat) (gN l t y j) (jk l t j:Nat)
   rw[gK] at he
   refine aC he (lJ (n+1) 1) (af _ _) (xF (ag _ _) (fun f ps a b _ hm x hx2=>?_)) ?_
   · rw[Un] at hm
     simp only[List.mem_cons,Prod.mk.injEq,List.not_mem_nil,or_false] at hm
     obtain ⟨rfl,rfl,rfl,rfl⟩:=hm
     rw[← Tr.ab hx2];exact hx
   · show Tr.all _ (fun x=>_∧tidy _ _ _=(uG s l t k d g ((j+1:Nat):Int),uN m y u a (rG l t y (j+1))::H))
     have hu:fT (rG l t y j) j (gN l t y j)=rG l t y (j+1):=Le (gN l t y) j
     have e1:ub (an 2 (j:Int) 1) 2=j:=by rw[kX,ly];omega
     rw[cK (by omega)]
     simp only[e1,hu,gK]
     generalize gN l t y j=V at *
     generalize rG l t y (j+1)=Y2 at *
     generalize rG l t y j=Y1 at *
     exact wF
 · obtain ⟨x,h1,rfl⟩:=aC (Q:=fun x=>x=(.exit 0,uG s l t k d g (Int.ofNat l)++[(17,.bool false)],uN m y u a (rG l t y l)::H)) (P3 (n+1) s l k m t d g y u a (rG l t y l) H (Int.ofNat l)) (lJ (n+1) 1) (af _ _) (xF (ag _ _) (fun f ps a b _ hm x hx2=>(Tr.ae hx2).elim)) (by
    refine Tr.bk (fun hc=>?_) (fun hc=>Tr.bc rfl)
    simp (disch:=omega) only[nV,nW] at hc;omega)
   exact h1
theorem Re (hl:l≤30) (hm:m=l) (ht:∀ j,j<l→t j<l) (hc:iL l t=false) (hy:∀ j,j<l→-900≤y j∧y j≤900) :
 cd (n+3) (.fn 53) [eN s l t k d g,bU m y u] H=some (.agg (.M [.arr .i64 (bR (rG l t y l)) 30]),H):=by
 have hx:=T0 n s l k m t d g y u (fun x=>Int.ofNat 0) H hl hm ht hc hy
 refine aE (n:=n+2) Try.func53 rfl rfl rfl (UF (n+2) s l k m t d g y u (rG l t y l) H) (al _) (ay (af _ _) RC (fun x hy=>bI hy hx)) (ag _ _) ?_
 generalize rG l t y l=Y at *
 exact wF
end
end Go.Eng
end
section
namespace Go.Eng
open Go.Proofs
noncomputable def wP (s l:Nat) (t:Nat→Int) (k:Nat) (d g:Nat→Int) (x f j:Int):ar:=[(0,eN (s+1) l t k d g),(2,.int .i64 x),(7,.ptr 0 0 0 0),(8,.int .i64 f),(15,.int .i64 j)]
noncomputable def qR (s l:Nat) (t:Nat→Int) (k:Nat) (d g:Nat→Int) (x f T c j:Int):ar:=[(0,eN (s+1) l t k d g),(2,.int .i64 x),(7,.ptr 0 0 0 0),(8,.int .i64 f),(9,.int .i64 T),(10,.int .i64 c),(15,.int .i64 T),(23,.int .i64 (Int.ofNat l)),(24,.int .i64 j)]
theorem Nk (n s l k:Nat) (t d g z:Nat→Int) (H:aa) (x f T c j:Int):aJ (bo n 69 43) (il aB n 0) aG aH (part Try.f69 [1,0,1,1,1,0,1,0,0,1,1,0,0,1,1,1,0,0]) (hints (qR s l t k d g x f T c j)) (gI z::H) =
 (fun (Z0:Nat×AV×Option Nat)=>((fun (Z1:aX)=>Tr.ite (bT j (Int.ofNat l)) (Tr.req (b8 j 30) (Tr.req (b6 0 0) (Tr.req (bV (an 0 j 1) 30) (Tr.ite (bT T (z (an 0 j 1))) (Tr.ok (Ex.normal,[Z0,(2,AV.int .i64 x,none),(7,AV.ptr 0 0 0 0,none),(8,AV.int .i64 f,none),(9,AV.int .i64 T,none),(10,AV.int .i64 c,none),(15,AV.int .i64 T,none),(23,AV.int .i64 (Int.ofNat l),none),(24,AV.int .i64 (bu .i64 j (Int.ofNat 1)),none)],Z1::H)) (Tr.ite (bT (zy .i64 x T) (bu .i64 c (Int.ofNat 1))) (Tr.ok (Ex.exit 0,[(8,AV.int .i64 T,none)],Z1::H)) (Tr.ok (Ex.normal,[Z0,(2,AV.int .i64 x,none),(7,AV.ptr 0 0 0 0,none),(8,AV.int .i64 f,none),(9,AV.int .i64 T,none),(10,AV.int .i64 (bu .i64 c (Int.ofNat 1)),none),(15,AV.int .i64 T,none),(23,AV.int .i64 (Int.ofNat l),none),(24,AV.int .i64 (bu .i64 j (Int.ofNat 1)),none)],Z1::H))))))) (Tr.ok (Ex.exit 2,[Z0,(2,AV.int .i64 x,none),(7,AV.ptr 0 0 0 0,none),(8,AV.int .i64 f,none),(9,AV.int .i64 T,none),(10,AV.int .i64 c,none),(15,AV.int .i64 T,none),(23,AV.int .i64 (Int.ofNat l),none),(24,AV.int .i64 j,none),(25,AV.bool false,some 1)],Z1::H))) { lock:=false,bs:=[(0,ai.row (Row.M [ah.arr .i64 z 30]))] })) (0,AV.ptrT (some (Nat.succ s)) (Row.M [ah.one (AV.slcT none (Row.M [ah.arr .i64 t l]) 1 l false),ah.one (AV.slcT none (Row.M [ah.arr .i64 d k]) 1 k false),ah.arr .i64 g 30]) 0,none):=by kernel_rfl
theorem t69 (n s l k:Nat) (t d g z:Nat→Int) (H:aa) (x f j c:Int) (b:Bool):aJ (bo n 69 43) (il aB n 0) (bG aG 2 (qR s l t k d g x f j 0 0) (gI z::H) (.ite b (.ok (.exit 0,hints [(8,.int .i64 j)],gI z::H)) (.ok (.normal,hints (qR s l t k d g x f j c (Int.ofNat l)++[(25,.bool false)]),gI z::H)))) aH (part Try.f69 [1,0,1,1,1,0,1,0,0]) (hints (wP s l t k d g x f j)) (gI z::H) =
 (fun (Z0:Row)=>((fun (Z1:aX)=>((fun (Z2:ar)=>Tr.ite (bT j (Int.ofNat 41)) (Tr.reqP (Z2=Z2∧Z1::H=Z1::H) (Tr.ite b (Tr.ok (Ex.exit 0,[(8,AV.int .i64 j,none)],Z1::H)) (Tr.ok (Ex.normal,[(0,AV.ptrT (some (Nat.succ s)) Z0 0,none),(2,AV.int .i64 x,none),(7,AV.ptr 0 0 0 0,none),(8,AV.int .i64 f,none),(15,AV.int .i64 (bu .i64 j (Int.ofNat 1)),none)],Z1::H)))) (Tr.ok (Ex.exit 0,[(0,AV.ptrT (some (Nat.succ s)) Z0 0,none),(2,AV.int .i64 x,none),(7,AV.ptr 0 0 0 0,none),(8,AV.int .i64 f,none),(15,AV.int .i64 j,none),(16,AV.bool false,some 1)],Z1::H))) [(0,AV.ptrT (some (Nat.succ s)) Z0 0),(2,AV.int .i64 x),(7,AV.ptr 0 0 0 0),(8,AV.int .i64 f),(9,AV.int .i64 j),(10,AV.int .i64 (Int.ofNat 0)),(15,AV.int .i64 j),(23,AV.int .i64 (Int.ofNat l)),(24,AV.int .i64 (Int.ofNat 0))])) { lock:=false,bs:=[(0,ai.row (Row.M [ah.arr .i64 z 30]))] })) (Row.M [ah.one (AV.slcT none (Row.M [ah.arr .i64 t l]) 1 l false),ah.one (AV.slcT none (Row.M [ah.arr .i64 d k]) 1 k false),ah.arr .i64 g 30]):=by kernel_rfl
theorem Qa (n s l k:Nat) (t d g z:Nat→Int) (H:aa) (x f j:Int):aJ (bo n 69 43) (il aB n 0) (lM aG 2) aH (part Try.f69 [1,0,1,1,1,0,1,0,0]) (hints (wP s l t k d g x f j)) (gI z::H) =
 Tr.ite (bT j (Int.ofNat 41)) Tr.bad (Tr.ok (Ex.exit 0,[(0,AV.ptrT (some (Nat.succ s)) (Row.M [ah.one (AV.slcT none (Row.M [ah.arr .i64 t l]) 1 l false),ah.one (AV.slcT none (Row.M [ah.arr .i64 d k]) 1 k false),ah.arr .i64 g 30]) 0,none),(2,AV.int .i64 x,none),(7,AV.ptr 0 0 0 0,none),(8,AV.int .i64 f,none),(15,AV.int .i64 j,none),(16,AV.bool false,some 1)],{ lock:=false,bs:=[(0,ai.row (Row.M [ah.arr .i64 z 30]))] } :: H)):=by kernel_rfl
theorem US (n s l k m:Nat) (t d g y z:Nat→Int) (u:Bool) (H:aa) (x r:Int) (R:aO):aT Try.prog (cd n) 100000 69 Try.f69 (KtL.kt 69) (il (tX aB 53 [eN (s+1) l t k d g,bU m y u] (.agg (.M [.arr .i64 z 30]))) n 0) (bG aG 0 (wP s l t k d g x (-1) 0) (gI (bR z)::H) (.ok (.normal,(8,.int .i64 r,none)::[],gI (bR z)::H))) aH [(eN s l t k d g,none),(bU m y u,none),(.int .i64 x,none)] H =
 (fun (Z0:Row)=>((fun (Z1:ar)=>((fun (Z2:aX)=>Tr.reqP ([AV.ptrT (some (Nat.succ s)) Z0 0,AV.slcT none (Row.M [ah.arr .i64 y m]) 1 m u]=[AV.ptrT (some (Nat.succ s)) Z0 0,AV.slcT none (Row.M [ah.arr .i64 y m]) 1 m u]) (Tr.req (ga 0 30 0 30) (Tr.reqP (Z1=Z1∧Z2::H=Z2::H) (Tr.ok ((AV.int .i64 r,none),H))))) { lock:=false,bs:=[(0,ai.row (Row.M [ah.arr .i64 (dT (fun x=>Int.ofNat 0) 0 z 30) 30]))] })) [(0,AV.ptrT (some (Nat.succ s)) Z0 0),(2,AV.int .i64 x),(7,AV.ptr 0 0 0 0),(8,AV.int .i64 (Int.negSucc 0)),(15,AV.int .i64 (Int.ofNat 0))])) (Row.M [ah.one (AV.slcT none (Row.M [ah.arr .i64 t l]) 1 l false),ah.one (AV.slcT none (Row.M [ah.arr .i64 d k]) 1 k false),ah.arr .i64 g 30]):=by kernel_rfl
theorem QJ (n s l k m:Nat) (t d g y z:Nat→Int) (u:Bool) (H:aa) (x:Int):aT Try.prog (cd n) 100000 69 Try.f69 (KtL.kt 69) (il (tX aB 53 [eN (s+1) l t k d g,bU m y u] (.agg (.M [.arr .i64 z 30]))) n 0) (bG aG 0 (wP s l t k d g x (-1) 0) (gI (bR z)::H) (.ok (.normal,hints (wP s l t k d g x (-1) 41++[(16,.bool false)]),gI (bR z)::H))) aH [(eN s l t k d g,none),(bU m y u,none),(.int .i64 x,none)] H =
 (fun (Z0:Row)=>((fun (Z1:ar)=>((fun (Z2:aX)=>Tr.reqP ([AV.ptrT (some (Nat.succ s)) Z0 0,AV.slcT none (Row.M [ah.arr .i64 y m]) 1 m u]=[AV.ptrT (some (Nat.succ s)) Z0 0,AV.slcT none (Row.M [ah.arr .i64 y m]) 1 m u]) (Tr.req (ga 0 30 0 30) (Tr.reqP (Z1=Z1∧Z2::H=Z2::H) (Tr.ok ((AV.int .i64 (Int.negSucc 0),none),H))))) { lock:=false,bs:=[(0,ai.row (Row.M [ah.arr .i64 (dT (fun x=>Int.ofNat 0) 0 z 30) 30]))] })) [(0,AV.ptrT (some (Nat.succ s)) Z0 0),(2,AV.int .i64 x),(7,AV.ptr 0 0 0 0),(8,AV.int .i64 (Int.negSucc 0)),(15,AV.int .i64 (Int.ofNat 0))])) (Row.M [ah.one (AV.slcT none (Row.M [ah.arr .i64 t l]) 1 l false),ah.one (AV.slcT none (Row.M [ah.arr .i64 d k]) 1 k false),ah.arr .i64 g 30]):=by kernel_rfl
theorem Q8:∀ b,(0,b) ∈ aF (bh Try.f69)→b=.loop (part Try.f69 [1,0,1,1,1,0,1,0,0]):=dw (by kernel_rfl)
theorem Oc:∀ b,(2,b) ∈ aF (part Try.f69 [1,0,1,1,1,0,1,0,0])→b=.loop (part Try.f69 [1,0,1,1,1,0,1,0,0,1,1,0,0,1,1,1,0,0]):=dw (by kernel_rfl)
def He (l:Nat) (t e:Nat→Int) (T:Int):Nat:=cn (fun i=>decide (gN l t e i≤T)) l
def vn (l:Nat) (t e:Nat→Int) (h T:Int):Bool:=decide (h*T<He l t e T)
def AY (l:Nat) (t e:Nat→Int) (h:Int):Int:=Cl (fun T=>vn l t e h (T:Nat)) 41
theorem Oy {n f nt:Nat} {c:Code} (id:Nat) (e:Ex) (F:Nat→ar) (G:Nat→aa) (N:Nat) (p:Nat→Bool) (X:Nat→ar×aa) (Y:ar×aa) (hN:N<99999) (hne:e≠.normal) (wT:∀ id',e=.exit id'→Nat.beq id' id=false) (hc:(match e with | .normal=>false | _=>true)=true)
 (hs:∀ j,j<N→∃ x,exec (bo n f nt) c (F j) (G j)=some x∧if p j=true then x=(e,X j) else x.1=.normal∧tidy (ao (G 0)) x.2.1 x.2.2=(F (j+1),G (j+1)))
 (he:exec (bo n f nt) c (F N) (G N)=some (.exit id,Y)):exec (bo n f nt) (.block id (.loop c)) (F 0) (G 0)=some (cond (bX p N) (e,X (fN p N 0)) (.normal,Y)):=by
 have key:=mV (body:=exec (bo n f nt) c) (n:=ao (G 0)) F G N p (fun j=>if j<N then (e,X j) else (.exit id,Y))
  (fun j hj hp=>by
    obtain ⟨x,h1,h2⟩:=hs j hj
    rw[if_neg (by rw[hp];simp)] at h2
    obtain ⟨e,f1,g1⟩:=x
    obtain ⟨rfl,h3⟩:=h2
    exact ⟨_,_,h1,h3⟩)
  (fun j hj hp=>by
    obtain ⟨x,h1,h2⟩:=hs j hj
    rw[if_pos hp] at h2
    subst h2
    rw[if_pos hj]
    exact ⟨h1,hne⟩)
  (by
    rw[if_neg (by omega)]
    exact ⟨he,by simp⟩) N 0 100000 (by omega) (by omega)
 cases hc:bX p N with
 | true =>
   have:=jd hc
   rw[if_pos this] at key
   exact eH wT key
 | false =>
   have:=pX hc
   rw[if_neg (by omega)] at key
   exact eA key
theorem L8 {n f nt:Nat} {c:Code} (id:Nat) (F:Nat→ar) (G:Nat→aa) (N:Nat) (p:Nat→Bool) (X:Nat→ar×aa) (Y:ar×aa) (hN:N<99999)
 (hs:∀ j,j<N→∃ x,exec (bo n f nt) c (F j) (G j)=some x∧if p j=true then x=(.exit id,X j) else x.1=.normal∧tidy (ao (G 0)) x.2.1 x.2.2=(F (j+1),G (j+1)))
 (he:exec (bo n f nt) c (F N) (G N)=some (.exit id,Y)):exec (bo n f nt) (.block id (.loop c)) (F 0) (G 0)=some (.normal,cond (bX p N) (X (fN p N 0)) Y):=by
 have key:=mV (body:=exec (bo n f nt) c) (n:=ao (G 0)) F G N p (fun j=>if j<N then (.exit id,X j) else (.exit id,Y))
  (fun j hj hp=>by
    obtain ⟨x,h1,h2⟩:=hs j hj
    rw[if_neg (by rw[hp];simp)] at h2
    obtain ⟨e,f1,g1⟩:=x
    obtain ⟨rfl,h3⟩:=h2
    exact ⟨_,_,h1,h3⟩)
  (fun j hj hp=>by
    obtain ⟨x,h1,h2⟩:=hs j hj
    rw[if_pos hp] at h2
    subst h2
    rw[if_pos hj]
    exact ⟨h1,by simp⟩)
  (by
    rw[if_neg (by omega)]
    exact ⟨he,by simp⟩) N 0 100000 (by omega) (by omega)
 cases hc:bX p N with
 | true =>
   have:=jd hc
   rw[if_pos this] at key
   exact eA key
 | false =>
   have:=pX hc
   rw[if_neg (by omega)] at key
   exact eA key
theorem BV {l:Nat} {z:Nat→Int} {j:Nat} (h:j<30):bR (bR z) j=z j:=by rw[mQ _ _ h,mQ _ _ h]
theorem FO {l:Nat} {t e:Nat→Int} {j:Nat} (h:j<l):rG l t e l j=gN l t e j:=by unfold rG;rw[if_pos h]
theorem EU (p:Nat→Bool) (q:Int) (hq:0≤q):∀ l,bX (fun j=>p j && decide (q<(cn p j:Int)+1)) l=decide (q<(cn p l:Nat))
 | 0=>by
   rw[jc (fun j hj=>absurd hj (by omega))]
   exact (decide_eq_false (by show ¬ q<((0:Nat):Int);omega)).symm
 | l + 1 => by
   have ih:=EU p q hq l
   have e:cn p (l+1)=cn p l+(p l).toNat:=rfl
   by_cases c:q<(cn p l:Nat)
   · rw[decide_eq_true c] at ih
     obtain ⟨j,hj,e2⟩:=(dp _ _).1 ih
     rw[(dp _ _).2 ⟨j,by omega,e2⟩,decide_eq_true (by omega)]
   · rw[decide_eq_false c] at ih
     have hn:=eZ ih
     cases hp:p l with
     | true =>
       rw[hp] at e
       simp only[Bool.toNat_true] at e
       by_cases c2:q<((cn p (l+1):Nat):Int)
       · rw[decide_eq_true c2]
         exact (dp _ _).2 ⟨l,by omega,by simp only[hp,Bool.true_and,decide_eq_true_eq];omega⟩
       · rw[decide_eq_false c2]
         refine jc (fun j hj=>?_)
         by_cases ej:j=l
         · subst ej;simp only[hp,Bool.true_and,decide_eq_false_iff_not];omega
         · exact hn j (by omega)
     | false =>
       rw[hp] at e
       simp only[Bool.toNat_false,Nat.add_zero] at e
       rw[e,decide_eq_false c]
       refine jc (fun j hj=>?_)
       by_cases ej:j=l
       · subst ej;simp only[hp,Bool.false_and]
       · exact hn j (by omega)
section
variable (n s l k m:Nat) (t d g y:Nat→Int) (u:Bool) (H:aa) (h:Int)
theorem Ph (z:Nat→Int) (f T:Int) (hl:l≤30) (hh:0≤h∧h≤1000) (hT:0≤T∧T≤1000):∃ c,exec (bo n 69 43) (.block 2 (.loop (part Try.f69 [1,0,1,1,1,0,1,0,0,1,1,0,0,1,1,1,0,0]))) (qR s l t k d g h f T 0 0) (gI z::H)=some (cond (decide (h*T<(cn (fun i=>decide (z i≤T)) l:Nat))) (.exit 0,[(8,.int .i64 T)],gI z::H) (.normal,qR s l t k d g h f T c (Int.ofNat l)++[(25,.bool false)],gI z::H)):=by
 have hm:=Int.mul_nonneg hh.1 hT.1
 have hm2:h*T≤1000*1000:=Int.mul_le_mul hh.2 hT.2 hT.1 (by omega)
 refine ⟨(cn (fun i=>decide (z i≤T)) l:Nat),?_⟩
 rw[← EU _ _ hm l]
 refine Oy (n:=n) (f:=69) (nt:=43) (c:=part Try.f69 [1,0,1,1,1,0,1,0,0,1,1,0,0,1,1,1,0,0]) 2 (.exit 0) (fun j=>qR s l t k d g h f T (cn (fun i=>decide (z i≤T)) j:Nat) (j:Nat)) (fun _=>gI z::H) l (fun j=>decide (z j≤T) && decide (h*T<(cn (fun i=>decide (z i≤T)) j:Int)+1)) (fun j=>([(8,.int .i64 T)],gI z::H)) _ (by omega) (by simp) (fun id' h=>by cases h;rfl) rfl (fun j hj=>?_) ?_
 · refine aC (Nk n s l k t d g z H h f T (cn (fun i=>decide (z i≤T)) j:Nat) (j:Nat)) (al n) (af _ _) (ag _ _) ?_
   have hle:=oD (fun i=>decide (z i≤T)) j
   have em:zy .i64 h T=h*T:=by rw[mZ];exact rz (by omega) (by omega)
   show Tr.all _ (fun r=>if (decide (z j≤T) && decide (h*T<(cn (fun i=>decide (z i≤T)) j:Int)+1))=true then _ else _∧tidy _ _ _=(qR s l t k d g h f T ((cn (fun i=>decide (z i≤T)) j+(decide (z j≤T)).toNat:Nat):Int) ((j+1:Nat):Int),_))
   rw[cK (j:=j) (by omega),cK (by omega)]
   simp only[gK,em]
   generalize cn (fun i=>decide (z i≤T)) j=C at *
   generalize z j=q at *
   generalize h*T=P at *
   by_cases c:q≤T
   · by_cases c2:P<(C:Int)+1
     · simp only[decide_eq_true c,decide_eq_true c2,Bool.and_self,if_true]
       exact wF
     · simp only[decide_eq_true c,decide_eq_false c2,Bool.and_false,Bool.false_eq_true,if_false]
       exact wF
   · simp only[decide_eq_false c,Bool.false_and,Bool.false_eq_true,if_false]
     exact wF
 · obtain ⟨r,h1,rfl⟩:=aC (Q:=fun r=>r=(.exit 2,qR s l t k d g h f T (cn (fun i=>decide (z i≤T)) l:Nat) (Int.ofNat l)++[(25,.bool false)],gI z::H)) (Nk n s l k t d g z H h f T (cn (fun i=>decide (z i≤T)) l:Nat) (Int.ofNat l)) (al n) (af _ _) (ag _ _) (by
    refine Tr.bk (fun hc=>?_) (fun hc=>Tr.bc rfl)
    simp (disch:=omega) only[nV,nW] at hc;omega)
   exact h1
theorem T6 (z:Nat→Int) (hl:l≤30) (hh:0≤h∧h≤1000):exec (bo n 69 43) (.block 0 (.loop (part Try.f69 [1,0,1,1,1,0,1,0,0]))) (wP s l t k d g h (-1) 0) (gI z::H)=some (.normal,cond (bX (fun T=>decide (h*(T:Int)<(cn (fun i=>decide (z i≤(T:Int))) l:Nat))) 41) ([(8,.int .i64 (fN (fun T=>decide (h*(T:Int)<(cn (fun i=>decide (z i≤(T:Int))) l:Nat))) 41 0:Nat))],gI z::H) (wP s l t k d g h (-1) 41++[(16,.bool false)],gI z::H)):=by
 refine L8 (n:=n) (f:=69) (nt:=43) (c:=part Try.f69 [1,0,1,1,1,0,1,0,0]) 0 (fun j=>wP s l t k d g h (-1) (j:Nat)) (fun _=>gI z::H) 41 (fun T=>decide (h*(T:Int)<(cn (fun i=>decide (z i≤(T:Int))) l:Nat))) (fun j=>([(8,.int .i64 (j:Nat))],gI z::H)) _ (by omega) (fun j hj=>?_) ?_
 · obtain ⟨c,hx⟩:=Ph n s l k t d g H h z (-1) (j:Nat) hl hh (by omega)
   have hp:(decide (h*(j:Int)<(cn (fun i=>decide (z i≤(j:Int))) l:Nat)))=(decide (h*(j:Int)<(cn (fun i=>decide (z i≤(j:Int))) l:Nat))):=rfl
   generalize hb:(decide (h*(j:Int)<(cn (fun i=>decide (z i≤(j:Int))) l:Nat)))=b at hx hp ⊢
   refine aC (t69 n s l k t d g z H h (-1) (j:Nat) c b) (al n) (ay (af _ _) Oc (fun x hy=>df hy hx)) (ag _ _) ?_
   show Tr.all _ (fun r=>if b=true then _ else _)
   rw[cK (j:=j) (by omega)]
   cases b with
   | true =>
     simp only[if_true]
     exact wF
   | false =>
     simp only[Bool.false_eq_true,if_false]
     exact wF
 · obtain ⟨r,h1,rfl⟩:=aC (Q:=fun r=>r=(.exit 0,wP s l t k d g h (-1) 41++[(16,.bool false)],gI z::H)) (Qa n s l k t d g z H h (-1) 41) (al n) (dK (af _ _) 2) (ag _ _) (by
    refine Tr.bk (fun hc=>?_) (fun hc=>Tr.bc rfl)
    simp (disch:=omega) only[nV,nW] at hc;omega)
   exact h1
theorem Ro (hl:l≤30) (hm:m=l) (ht:∀ j,j<l→t j<l) (hc:iL l t=false) (hy:∀ j,j<l→-900≤y j∧y j≤900) (hh:0≤h∧h≤1000) :
 cd (n+4) (.fn 69) [eN s l t k d g,bU m y u,.int .i64 h] H=some (.int .i64 (AY l t y h),H):=by
 have hx:=T6 (n+3) s l k t d g H h (bR (bR (rG l t y l))) hl hh
 rw[show (fun T:Nat=>decide (h*(T:Int)<(cn (fun i=>decide (bR (bR (rG l t y l)) i≤(T:Int))) l:Nat)))=fun T:Nat=>vn l t y h (T:Nat) from by
  funext T
  rw[ey (q:=fun i=>decide (gN l t y i≤(T:Nat))) (fun j hj=>by rw[BV (l:=l) (by omega),FO hj])]
  rfl] at hx
 have hC:(tX aB 53 [eN (s+1) l t k d g,bU m y u] (.agg (.M [.arr .i64 (bR (rG l t y l)) 30]))).Ok (cd (n+3)):=aP (aD _) (fun H=>Re n (s+1) l k m t d g y u H hl hm ht hc hy)
 cases e:bX (fun T:Nat=>vn l t y h (T:Nat)) 41 with
 | true =>
   rw[e] at hx
   have hr:AY l t y h=(fN (fun T:Nat=>vn l t y h (T:Nat)) 41 0:Nat):=by unfold AY Cl;rw[if_pos e]
   rw[← hr] at hx
   refine aE (n:=n+3) Try.func69 rfl rfl rfl (US (n+3) s l k m t d g y (bR (rG l t y l)) u H h (AY l t y h) []) (aM _ (n+3) hC) (ay (af _ _) Q8 (fun x hy=>bI hy hx)) (ag _ _) ?_
   generalize bR (rG l t y l)=z at *
   generalize AY l t y h=C at *
   exact wF
 | false =>
   rw[e] at hx
   have hr:AY l t y h=-1:=by unfold AY Cl;rw[if_neg (by rw[e];decide)]
   rw[hr]
   refine aE (n:=n+3) Try.func69 rfl rfl rfl (QJ (n+3) s l k m t d g y (bR (rG l t y l)) u H h) (aM _ (n+3) hC) (ay (af _ _) Q8 (fun x hy=>bI hy hx)) (ag _ _) ?_
   generalize bR (rG l t y l)=z at *
   exact wF
end
end Go.Eng
end
