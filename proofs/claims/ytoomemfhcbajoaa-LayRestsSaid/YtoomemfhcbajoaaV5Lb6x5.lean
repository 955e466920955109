/- Lay: way: its loop over all cells on the way from one. -/
import Derived.Test.YtoomemfhcbajoaaV5Lb3x3
set_option linter.unusedVariables false
set_option linter.unusedSimpArgs false
set_option maxRecDepth 100000
section
namespace Go.Eng
open Go.Proofs
noncomputable def xS (h s:Nat) (l:Nat) (t:Nat→Int) (k:Nat) (d g:Nat→Int) (x:Int):ar:=[(0,.yld 1 h),(2,.ptrT (some 1) (.G [dC s l t k d g]) 0),(4,.int .i64 x)]
noncomputable def vN (n f nt d i:Nat):Cx:=⟨Try.prog,cd n,100000,f,nt,KtL.kt f,some (d,i)⟩
theorem PG:∀ b,(0,b) ∈ aN (bO Try.f81)→b=.loop (part Try.f81 [1,0,0]):=gq (by kernel_rfl)
theorem LR (s:Nat) (n l k:Nat) (t d g:Nat→Int) (G G':aa) (x:Int):aG (bx n 81 21) (JG (il aK n 0) 1 5 [.int .i64 x] (aD::G) (.ok (.bool true,aD::G'))) aO aP (part Try.f81 [1,0,0]) (hints (xS 5 s l t k d g x)) (aD::G) =
 (fun (Z0:Nat×AV×Option Nat)=>Tr.ite (lH (Int.ofNat 0) x) (Tr.reqP ([AV.int .i64 x]=[AV.int .i64 x]∧aD::G=aD::G) (Tr.ite true (Tr.req (dv x l) (Tr.req (c9 (ay 0 x 1) l) (Tr.ok (Ex.normal,[(0,AV.yld 1 5,none),Z0,(4,AV.int .i64 (t (ay 0 x 1)),none)],aD::G')))) (Tr.ok (Ex.exit 0,[(0,AV.yld 1 5,none),Z0,(4,AV.int .i64 x,none),(12,AV.bool false,some 1)],aD::G')))) (Tr.ok (Ex.exit 0,[(0,AV.yld 1 5,none),Z0,(4,AV.int .i64 x,none),(12,AV.bool false,some 1)],aD::G))) (2,AV.ptrT (some 1) (Row.G [AV.ptrT (some s) (Row.M [ah.one (AV.slcT none (Row.M [ah.arr .i64 t l]) 1 l false),ah.one (AV.slcT none (Row.M [ah.arr .i64 d k]) 1 k false),ah.arr .i64 g 30]) 0]) 0,none):=by kernel_rfl
theorem JQ (s:Nat) (n l k:Nat) (t d g:Nat→Int) (G:aa) (x:Int):aG (bx n 81 21) (il aK n 0) aO aP (part Try.f81 [1,0,0]) (hints (xS 5 s l t k d g x)) (aD::G) =
 Tr.ite (lH (Int.ofNat 0) x) Tr.bad (Tr.ok (Ex.exit 0,[(0,AV.yld 1 5,none),(2,AV.ptrT (some 1) (Row.G [AV.ptrT (some s) (Row.M [ah.one (AV.slcT none (Row.M [ah.arr .i64 t l]) 1 l false),ah.one (AV.slcT none (Row.M [ah.arr .i64 d k]) 1 k false),ah.arr .i64 g 30]) 0]) 0,none),(4,AV.int .i64 x,none),(12,AV.bool false,some 1)],aD::G)):=by kernel_rfl
theorem L9 (s:Nat) (n l k:Nat) (t d g:Nat→Int) (G G':aa) (i x:Int):bn Try.prog (cd n) 100000 81 Try.f81 (KtL.kt 81) (il aK n 0) (cX aO 0 (xS 5 s l t k d g i) (aD::G) (.ok (.normal,hints (xS 5 s l t k d g x++[(12,.bool false)]),aD::G'))) aP [(.yld 0 5,none),(.ptrT none (.I .i64 [i]) 0,none),(.ptrT (some 0) (.G [dC s l t k d g]) 0,none)] G =
 (fun (Z0:ar)=>Tr.reqP (Z0=Z0∧aD::G=aD::G) (Tr.ok ((AV.tup [],none),G'))) [(0,AV.yld 1 5),(2,AV.ptrT (some 1) (Row.G [AV.ptrT (some s) (Row.M [ah.one (AV.slcT none (Row.M [ah.arr .i64 t l]) 1 l false),ah.one (AV.slcT none (Row.M [ah.arr .i64 d k]) 1 k false),ah.arr .i64 g 30]) 0]) 0),(4,AV.int .i64 i)]:=by kernel_rfl
def iW (l:Nat) (t:Nat→Int) (i:Nat):Nat:=cn (fun m=>decide (0≤bF t m (i:Int))) l
theorem zu {t:Nat→Int} {x:Int} {m q:Nat} (h:m≤q) (h2:0≤bF t q x):0≤bF t m x:=by
 apply Int.not_lt.1
 intro hc
 have:=te hc (q-m)
 rw[show m+(q-m)=q by omega] at this
 omega
theorem Lj {l:Nat} {t:Nat→Int} {x:Int} (h:bF t l x<0):∃ N,N≤l∧(∀ m,m<N→0≤bF t m x)∧bF t N x<0∧cn (fun m=>decide (0≤bF t m x)) l=N:=by
 induction l with
 | zero=>exact ⟨0,Nat.le_refl _,fun m hm=>by omega,h,rfl⟩
 | succ l ih =>
   by_cases c:bF t l x<0
   · obtain ⟨N,h1,h2,h3,h4⟩:=ih c
     refine ⟨N,by omega,h2,h3,?_⟩
     show cn (fun m=>decide (0≤bF t m x)) l+(decide (0≤bF t l x)).toNat=N
     rw[decide_eq_false (by omega)];simpa using h4
   · refine ⟨l+1,Nat.le_refl _,fun m hm=>zu (by omega) (by omega:0≤bF t l x),h,?_⟩
     have:∀ m,m≤l+1→cn (fun m=>decide (0≤bF t m x)) m=m:=by
      intro m
      induction m with
      | zero=>intro _;rfl
      | succ m ih2 =>
        intro hm
        show cn (fun m=>decide (0≤bF t m x)) m+(decide (0≤bF t m x)).toNat=_
        rw[ih2 (by omega),decide_eq_true (zu (by omega) (by omega:0≤bF t l x))];rfl
     exact this (l+1) (Nat.le_refl _)
theorem kF {l:Nat} {t:Nat→Int} (h:iw l t=false) (i:Nat) (hi:i<l):iW l t i≤l∧(∀ m,m<iW l t i→0≤bF t m (i:Int))∧bF t (iW l t i) (i:Int)<0:=by
 have h1:=jq h i hi
 rw[decide_eq_false_iff_not] at h1
 obtain ⟨N,a,b,c,e⟩:=Lj (l:=l) (t:=t) (x:=(i:Int)) (by omega)
 unfold iW
 rw[e];exact ⟨a,b,c⟩
theorem xf {t:Nat→Int} {m:Nat} {x:Int} (h:0≤bF t m x):bF t (m+1) x=t (bF t m x).toNat:=by
 show (if 0≤bF t m x then _ else _)=_
 rw[if_pos h]
section
variable (n l k:Nat) (t d g:Nat→Int) (i N:Nat) (St:Nat→aa)
theorem Kq (s:Nat) (hN:N≤1000) (hp:∀ m,m<N→0≤bF t m (i:Int)) (hn:bF t N (i:Int)<0) (ht:∀ j,j<l→t j<l) (hl:l≤1000) (hi:i<l)
 (hr:∀ m,m<N→cd n (.round 1 5) [.int .i64 (bF t m (i:Int))] (aD::St m)=some (.bool true,aD::St (m+1))) :
 cd (n+1) (.fn 81) [.yld 0 5,.ptrT none (.I .i64 [(i:Int)]) 0,.ptrT (some 0) (.G [dC s l t k d g]) 0] (St 0)=some (.tup [],St N):=by
 have hx:=jG (n:=n) (f:=81) (nt:=21) (c:=part Try.f81 [1,0,0]) 0 (fun m=>xS 5 s l t k d g (bF t m (i:Int))) (fun m=>aD::St m) N (xS 5 s l t k d g (bF t N (i:Int))++[(12,.bool false)],aD::St N) (by omega) (fun m hm=>?_) ?_
 · refine aS (n:=n) Try.func81 rfl rfl rfl (L9 s n l k t d g (St 0) (St N) (i:Int) (bF t N (i:Int))) (aw _) (aW (af _ _) PG (fun x hy=>bU hy hx)) (ag _ _) ?_
   exact Tr.aY ⟨rfl,rfl⟩ (Tr.bg ⟨rfl,rfl⟩)
 · have h1:=hp m hm
   have h2:=gN ht (show (i:Int)<l by omega) m
   have h3:=xf h1
   refine aF (LR s n l k t d g (St m) (St (m+1)) (bF t m (i:Int))) (sX (aw n) (fun x hy=>by rw[← Tr.ab hy];exact hr m hm)) (af _ _) (ag _ _) ?_
   rw[J9 h1]
   show Tr.all _ (fun x=>_∧tidy _ _ _=(xS 5 s l t k d g (bF t (m+1) (i:Int)),_))
   rw[h3]
   generalize bF t m (i:Int)=x at *
   generalize St (m+1)=G' at *
   generalize St m=G at *
   exact wF
 · obtain ⟨x,h1,rfl⟩:=aF (Q:=fun x=>x=(.exit 0,xS 5 s l t k d g (bF t N (i:Int))++[(12,.bool false)],aD::St N)) (JQ s n l k t d g (St N) (bF t N (i:Int))) (aw n) (af _ _) (ag _ _) (by
    refine Tr.bj (fun hc=>?_) (fun hc=>Tr.bg rfl)
    simp (disch:=omega) only[nV,nW] at hc;omega)
   exact h1
end
end Go.Eng
end
section
namespace Go.Eng
open Go.Proofs
noncomputable def MQ (s l:Nat) (t:Nat→Int) (k:Nat) (d g:Nat→Int) (j:Int):AV:=.fn (.func 81) [] [.ptrT none (.I .i64 [j]) 0,.ptrT (some 0) (.G [dC s l t k d g]) 0]
noncomputable def IM (l:Nat) (t:Nat→Int) (k:Nat) (d:Nat→Int):Nat×ai:=(0,.row (.G [b7 l t false,b7 k d false]))
noncomputable def vK (x:Int):Nat×ai:=(0,.row (.I .i64 [x]))
theorem Si (n l k:Nat) (t d g:Nat→Int) (H:aa):bn Try.prog (cd n) 100000 51 Try.f51 (KtL.kt 51) (il (tX (tX aK 21 [dx l t k d] (.int .i64 0)) 57 [dx l t k d] (dC 0 l t k d g)) n 0) aO aP [(dx l t k d,none)] H =
 (fun (Z0:List AV)=>Tr.reqP (Z0=Z0) (Tr.ite (ba (cQ (Int.ofNat 0) (Int.ofNat 0))) (Tr.ok ((AV.tup [AV.nilp,AV.int .i64 (Int.ofNat 0)],none),H)) (Tr.reqP (Z0=Z0) (Tr.ok ((AV.tup [AV.ptrT (some 0) (Row.M [ah.one (AV.slcT none (Row.M [ah.arr .i64 t l]) 1 l false),ah.one (AV.slcT none (Row.M [ah.arr .i64 d k]) 1 k false),ah.arr .i64 g 30]) 0,AV.int .i64 (Int.ofNat 0)],none),H))))) [AV.agg (Row.G [AV.slcT none (Row.M [ah.arr .i64 t l]) 1 l false,AV.slcT none (Row.M [ah.arr .i64 d k]) 1 k false])]:=by kernel_rfl
theorem OM (n l k:Nat) (t d:Nat→Int) (e:Int) (H:aa):bn Try.prog (cd n) 100000 51 Try.f51 (KtL.kt 51) (il (tX aK 21 [dx l t k d] (.int .i64 e)) n 0) aO aP [(dx l t k d,none)] H =
 (fun (Z0:List AV)=>Tr.reqP (Z0=Z0) (Tr.ite (ba (cQ e (Int.ofNat 0))) (Tr.ok ((AV.tup [AV.nilp,AV.int .i64 e],none),H)) Tr.bad)) [AV.agg (Row.G [AV.slcT none (Row.M [ah.arr .i64 t l]) 1 l false,AV.slcT none (Row.M [ah.arr .i64 d k]) 1 k false])]:=by kernel_rfl
section
variable (n l k m:Nat) (t d g y:Nat→Int) (H:aa) (i:Nat)
end
end Go.Eng
end
section
namespace Go.Eng
open Go.Proofs
structure Sh (l:Nat) (t:Nat→Int) (k:Nat) (d:Nat→Int):Prop where
 l1:1≤l
 l30:l≤30
 kl:k=l
 tl:∀ j,j<l→t j<l
 tm:∀ j,j<l→-1≤t j
 tj:∀ j,j<l→t j≠(j:Int)
 d1:∀ j,j<l→1≤d j
 d40:∀ j,j<l→d j≤40
 cyc:iw l t=false
theorem vr {l k:Nat} {t d:Nat→Int} (h:mj l t k d=0):Sh l t k d:=by
 unfold mj at h
 by_cases h1:l<1∨30<l
 · rw[if_pos h1] at h;omega
 rw[if_neg h1] at h
 by_cases h2:k≠l
 · rw[if_pos h2] at h;omega
 rw[if_neg h2] at h
 cases h3:fA (ky l t d) l with
 | true=>rw[h3,if_pos rfl] at h;omega
 | false =>
   rw[h3,if_neg (by decide)] at h
   cases h4:iw l t with
   | true=>rw[h4,if_pos rfl] at h;omega
   | false =>
     have g:=jq h3
     have key:∀ j,j<l→(-1≤t j∧t j≤(l:Int)-1)∧t j≠(j:Int)∧1≤d j∧d j≤40:=fun j hj=>by
      have:=g j hj
      simp only[ky,fM,Bool.or_eq_false_iff,decide_eq_false_iff_not] at this
      exact ⟨⟨by omega,by omega⟩,by omega,by omega,by omega⟩
     exact ⟨by omega,by omega,by omega,fun j hj=>by have:=(key j hj).1;omega,fun j hj=>(key j hj).1.1,fun j hj=>(key j hj).2.1,fun j hj=>(key j hj).2.2.1,fun j hj=>(key j hj).2.2.2,h4⟩
theorem FD {l k:Nat} {t d:Nat→Int} (h:Sh l t k d):mj l t k d=0:=by
 unfold mj
 rw[if_neg (by have:=h.l1;have:=h.l30;omega),if_neg (by have:=h.kl;omega),if_neg ?_,if_neg (by rw[h.cyc];decide)]
 rw[nu (fun j hj=>?_)]
 · decide
 · have a1:=h.tl j hj
   have a2:=h.tm j hj
   have a3:=h.tj j hj
   have a4:=h.d1 j hj
   have a5:=h.d40 j hj
   simp only[ky,fM,Bool.or_eq_false_iff,decide_eq_false_iff_not]
   omega
noncomputable def JW (s:Nat) (l:Nat) (t:Nat→Int) (k:Nat) (d:Nat→Int):AV:=dC s l t k d (c7 t l)
section
variable (n l k:Nat) (t d:Nat→Int) (H:aa)
theorem MB (h:mj l t k d≠0):cd (n+8) (.fn 51) [dx l t k d] H=some (.tup [.nilp,.int .i64 (mj l t k d)],H):=by
 refine aS (n:=n+7) Try.func51 rfl rfl rfl (OM (n+7) l k t d (mj l t k d) H) (aX _ (n+7) (b5 (aR _) (fun H=>Pg n l k t d H))) (af _ _) (ag _ _) ?_
 generalize mj l t k d=e at *
 exact wF
theorem Pk (h:Sh l t k d):cd (n+8) (.fn 51) [dx l t k d] H=some (.tup [JW 0 l t k d,.int .i64 0],H):=by
 have h21:∀ H,cd (n+7) (.fn 21) [dx l t k d] H=some (.int .i64 0,H):=fun H=>by rw[Pg,FD h]
 refine aS (n:=n+7) Try.func51 rfl rfl rfl (Si (n+7) l k t d (c7 t l) H) (aX _ (n+7) (b5 (b5 (aR _) h21) (fun H=>Pm (n+6) l k t d H h.l30 h.tl))) (af _ _) (ag _ _) ?_
 unfold JW
 generalize c7 t l=g at *
 exact wF
end
end Go.Eng
end
section
namespace Go.Eng
open Go.Proofs
noncomputable def tQ (s l:Nat) (t:Nat→Int) (k:Nat) (d g:Nat→Int) (j:Int):ar:=[(0,dC (s+1) l t k d g),(3,.ptr 0 0 0 0),(4,.ptr 0 1 0 0),(5,.ptr 0 2 0 0),(15,.int .i64 (Int.ofNat l)),(16,.int .i64 j)]
noncomputable def uM (s l:Nat) (t:Nat→Int) (k:Nat) (d g:Nat→Int) (j:Int):ar:=[(0,dC (s+1) l t k d g),(3,.ptr 0 0 0 0),(4,.ptr 0 1 0 0),(5,.ptr 0 2 0 0),(6,.int .i64 j),(7,.ptr 0 3 0 0),(8,.ptr 0 4 0 0),(15,.int .i64 (Int.ofNat l)),(16,.int .i64 j),(25,MQ (s+1) l t k d g j)]
noncomputable def HP (s l:Nat) (t:Nat→Int) (k:Nat) (d g:Nat→Int) (j x:Int):ar:=[(0,dC (s+3) l t k d g),(3,.ptr 2 0 0 0),(4,.ptr 2 1 0 0),(5,.ptr 2 2 0 0),(6,.int .i64 j),(7,.ptr 2 3 0 0),(8,.ptr 2 4 0 0),(15,.int .i64 (Int.ofNat l)),(16,.int .i64 j),(25,.fn (.func 81) [] [.ptrT none (.I .i64 [j]) 0,.ptrT (some 2) (.G [dC (s+1) l t k d g]) 0]),(26,.int .i64 x)]
noncomputable def Ej (x:Int):ar:=[(3,.ptr 2 0 0 0),(7,.ptr 2 3 0 0),(8,.ptr 2 4 0 0),(9,.int .i64 x)]
noncomputable def tV (m:Nat) (y:Nat→Int) (u:Bool) (a b:Nat→Int):aU:=⟨false,[(0,.row (.G [b7 m y u])),(0,.row (.M [.arr .i64 a 30])),(0,.row (.M [.arr .i64 b 30]))]⟩
noncomputable def jv (m:Nat) (y:Nat→Int) (u:Bool) (a b:Nat→Int) (v w:Int) (L:List (Nat×ai)):aU:=⟨false,[(0,.row (.G [b7 m y u])),(0,.row (.M [.arr .i64 a 30])),(0,.row (.M [.arr .i64 b 30])),vK v,vK w]++L⟩
theorem Om (n s l k m:Nat) (t d g y:Nat→Int) (u:Bool) (a b:Nat→Int) (L:gV) (H:aa) (j x v w:Int):aG (vN n 53 42 2 5) (il aK n 0) aO aP (part Try.f53 [1,1,0,1,0,0,1,1,0,0,1,1,0,1,0,0]) (hints (HP s l t k d g j x)) (aD::aD::jv m y u a b v w [(0,.loop L)]::H) =
 Tr.ok (Ex.normal,[(3,AV.ptr 2 0 0 0,none),(7,AV.ptr 2 3 0 0,none),(8,AV.ptr 2 4 0 0,none),(9,AV.int .i64 x,none)],aD::aD::{ lock:=false,bs:=[(0,ai.row (Row.G [AV.slcT none (Row.M [ah.arr .i64 y m]) 1 m u])),(0,ai.row (Row.M [ah.arr .i64 a 30])),(0,ai.row (Row.M [ah.arr .i64 b 30])),(0,ai.row (Row.I .i64 [v])),(0,ai.row (Row.I .i64 [w])),(0,ai.loop L)] } :: H):=by kernel_rfl
theorem On (n m:Nat) (y:Nat→Int) (u:Bool) (a b:Nat→Int) (L:gV) (H:aa) (x v w:Int):aG (vN n 53 42 2 5) (il aK n 0) aO aP (part Try.f53 [1,1,0,1,0,0,1,1,0,0,1,1,0,1,0,1]) (hints (Ej x)) (aD::aD::jv m y u a b v w [(0,.loop L)]::H) =
 Tr.req (dv x m) (Tr.req (c9 (ay 0 x 1) m) (Tr.req (cM (bY 0 0) (bY 0 1)) (Tr.ok (Ex.normal,[],aD::aD::{ lock:=false,bs:=[(0,ai.row (Row.G [AV.slcT none (Row.M [ah.arr .i64 y m]) 1 m u])),(0,ai.row (Row.M [ah.arr .i64 a 30])),(0,ai.row (Row.M [ah.arr .i64 b 30])),(0,ai.row (Row.I .i64 [ub v (bP .i64 (y (ay 0 x 1)) w)])),(0,ai.row (Row.I .i64 [br .i64 w (Int.ofNat 1)])),(0,ai.loop L)] } :: H)))):=by kernel_rfl
theorem t53 (n s l k m:Nat) (t d g y:Nat→Int) (u:Bool) (a b:Nat→Int) (H:aa) (j v w:Int):aG (bx (n+1) 53 42) (il aK n 1) aO (Kd aP (fun _=>true) (uM s l t k d g j) (jv m y u a b (y (ay 0 j 1)) (Int.ofNat 0) []::H) (.ok (.normal,hints (uM s l t k d g j),jv m y u a b v w [(0,.dead)]::H))) (part Try.f53 [1,1,0,1,0,0]) (hints (tQ s l t k d g j)) (tV m y u a b::H) =
 (fun (Z0:Row)=>((fun (Z1:ar)=>((fun (Z2:aU)=>Tr.ite (cq j (Int.ofNat l)) (Tr.req (dv j m) (Tr.req (c9 (ay 0 j 1) m) (Tr.reqP (Z1=Z1∧Z2::H=Z2::H) (Tr.req (dv j 30) (Tr.req (bM 0 0) (Tr.req (c9 (ay 0 j 1) 30) (Tr.ok (Ex.normal,[(0,AV.ptrT (some (Nat.succ s)) Z0 0,none),(3,AV.ptr 0 0 0 0,none),(4,AV.ptr 0 1 0 0,none),(5,AV.ptr 0 2 0 0,none),(15,AV.int .i64 (Int.ofNat l),none),(16,AV.int .i64 (br .i64 j (Int.ofNat 1)),none)],{ lock:=false,bs:=[(0,ai.row (Row.G [AV.slcT none (Row.M [ah.arr .i64 y m]) 1 m u])),(0,ai.row (Row.M [ah.arr .i64 a 30])),(0,ai.row (Row.M [ah.arr .i64 (gm b (ay 0 j 1) v) 30])),(0,ai.row (Row.I .i64 [v])),(0,ai.row (Row.I .i64 [w])),(0,ai.dead)] } :: H)))))))) (Tr.ok (Ex.exit 0,[(0,AV.ptrT (some (Nat.succ s)) Z0 0,none),(3,AV.ptr 0 0 0 0,none),(4,AV.ptr 0 1 0 0,none),(5,AV.ptr 0 2 0 0,none),(15,AV.int .i64 (Int.ofNat l),none),(16,AV.int .i64 j,none),(17,AV.bool false,some 1)],{ lock:=false,bs:=[(0,ai.row (Row.G [AV.slcT none (Row.M [ah.arr .i64 y m]) 1 m u])),(0,ai.row (Row.M [ah.arr .i64 a 30])),(0,ai.row (Row.M [ah.arr .i64 b 30]))] } :: H))) { lock:=false,bs:=[(0,ai.row (Row.G [AV.slcT none (Row.M [ah.arr .i64 y m]) 1 m u])),(0,ai.row (Row.M [ah.arr .i64 a 30])),(0,ai.row (Row.M [ah.arr .i64 b 30])),(0,ai.row (Row.I .i64 [y (ay 0 j 1)])),(0,ai.row (Row.I .i64 [Int.ofNat 0]))] })) [(0,AV.ptrT (some (Nat.succ s)) Z0 0),(3,AV.ptr 0 0 0 0),(4,AV.ptr 0 1 0 0),(5,AV.ptr 0 2 0 0),(6,AV.int .i64 j),(7,AV.ptr 0 3 0 0),(8,AV.ptr 0 4 0 0),(15,AV.int .i64 (Int.ofNat l)),(16,AV.int .i64 j),(25,AV.fn (Fn.func 81) [] [AV.ptrT none (Row.I .i64 [j]) 0,AV.ptrT (some 0) (Row.G [AV.ptrT (some (Nat.succ s)) Z0 0]) 0])])) (Row.M [ah.one (AV.slcT none (Row.M [ah.arr .i64 t l]) 1 l false),ah.one (AV.slcT none (Row.M [ah.arr .i64 d k]) 1 k false),ah.arr .i64 g 30]):=by kernel_rfl
theorem Oo (n s l k m:Nat) (t d g y:Nat→Int) (u:Bool) (a b:Nat→Int) (H:aa) (j:Int):aG (bx (n+1) 53 42) (il aK n 1) aO (Kd aP (fun _=>true) [] [] .bad) (part Try.f53 [1,1,0,1,0,0]) (hints (tQ s l t k d g j)) (tV m y u a b::H) =
 (fun (Z0:Row)=>Tr.ite (cq j (Int.ofNat l)) (Tr.req (dv j m) (Tr.req (c9 (ay 0 j 1) m) (Tr.reqP ([(0,AV.ptrT (some (Nat.succ s)) Z0 0),(3,AV.ptr 0 0 0 0),(4,AV.ptr 0 1 0 0),(5,AV.ptr 0 2 0 0),(6,AV.int .i64 j),(7,AV.ptr 0 3 0 0),(8,AV.ptr 0 4 0 0),(15,AV.int .i64 (Int.ofNat l)),(16,AV.int .i64 j),(25,AV.fn (Fn.func 81) [] [AV.ptrT none (Row.I .i64 [j]) 0,AV.ptrT (some 0) (Row.G [AV.ptrT (some (Nat.succ s)) Z0 0]) 0])]=[]∧{ lock:=false,bs:=[(0,ai.row (Row.G [AV.slcT none (Row.M [ah.arr .i64 y m]) 1 m u])),(0,ai.row (Row.M [ah.arr .i64 a 30])),(0,ai.row (Row.M [ah.arr .i64 b 30])),(0,ai.row (Row.I .i64 [y (ay 0 j 1)])),(0,ai.row (Row.I .i64 [Int.ofNat 0]))] } :: H=[]) Tr.bad))) (Tr.ok (Ex.exit 0,[(0,AV.ptrT (some (Nat.succ s)) Z0 0,none),(3,AV.ptr 0 0 0 0,none),(4,AV.ptr 0 1 0 0,none),(5,AV.ptr 0 2 0 0,none),(15,AV.int .i64 (Int.ofNat l),none),(16,AV.int .i64 j,none),(17,AV.bool false,some 1)],{ lock:=false,bs:=[(0,ai.row (Row.G [AV.slcT none (Row.M [ah.arr .i64 y m]) 1 m u])),(0,ai.row (Row.M [ah.arr .i64 a 30])),(0,ai.row (Row.M [ah.arr .i64 b 30]))] } :: H))) (Row.M [ah.one (AV.slcT none (Row.M [ah.arr .i64 t l]) 1 l false),ah.one (AV.slcT none (Row.M [ah.arr .i64 d k]) 1 k false),ah.arr .i64 g 30]):=by kernel_rfl
theorem Sj (n s l k m:Nat) (t d g y:Nat→Int) (u:Bool) (b:Nat→Int) (H:aa):bn Try.prog (cd n) 100000 53 Try.f53 (KtL.kt 53) (il aK n 0) (cX aO 0 (tQ s l t k d g 0) (tV m y u (fun x=>Int.ofNat 0) (fun x=>Int.ofNat 0)::H) (.ok (.normal,hints (tQ s l t k d g (Int.ofNat l)++[(17,.bool false)]),tV m y u (fun x=>Int.ofNat 0) b::H))) aP [(dC s l t k d g,none),(b7 m y u,none)] H =
 (fun (Z0:ar)=>((fun (Z1:aU)=>Tr.reqP (Z0=Z0∧Z1::H=Z1::H) (Tr.req (iB 0 30 0 30) (Tr.ok ((AV.agg (Row.M [ah.arr .i64 (iO (fun x=>Int.ofNat 0) 0 b 30) 30]),none),H)))) { lock:=false,bs:=[(0,ai.row (Row.G [AV.slcT none (Row.M [ah.arr .i64 y m]) 1 m u])),(0,ai.row (Row.M [ah.arr .i64 (fun x=>Int.ofNat 0) 30])),(0,ai.row (Row.M [ah.arr .i64 (fun x=>Int.ofNat 0) 30]))] })) [(0,AV.ptrT (some (Nat.succ s)) (Row.M [ah.one (AV.slcT none (Row.M [ah.arr .i64 t l]) 1 l false),ah.one (AV.slcT none (Row.M [ah.arr .i64 d k]) 1 k false),ah.arr .i64 g 30]) 0),(3,AV.ptr 0 0 0 0),(4,AV.ptr 0 1 0 0),(5,AV.ptr 0 2 0 0),(15,AV.int .i64 (Int.ofNat l)),(16,AV.int .i64 (Int.ofNat 0))]:=by kernel_rfl
theorem Py:∀ b,(0,b) ∈ aN (bO Try.f53)→b=.loop (part Try.f53 [1,1,0,1,0,0]):=gq (by kernel_rfl)
theorem s4 {n d i:Nat} {args:List AV} {H H2 R:aa} {l l2:gV} {fr fr1 fr2:ar} {lv:aU}
 (hg:aq H d i=(0,.loop l)) (hl:au H d=false) (hs:l.state=.ready) (hp:lB l.nt (mn (d+1) l.fr) l.params (args.map (fm 1))=some fr)
 (h1:exec (vN n l.fn l.nt (d+1) i) l.assign fr (aD::H)=some (.normal,fr1,aD::H))
 (h2:exec (vN n l.fn l.nt (d+1) i) l.body fr1 (ec (aD::H) (d+1) i (0,.loop { l with state:=.busy }))=some (.normal,fr2,lv::H2)) (hg2:aq H2 d i=(0,.loop l2)) (hR:R=ec H2 d i (0,.loop { l2 with state:=.ready,pending:=none })) :
 cd (n+1) (.round d i) args H=some (.bool true,R):=by
 rw[hR]
 exact Ft (P:=Try.prog) (ora:=sP) (KT:=KtL.kt) (fu:=100000) (e:=.normal) hg hl hs hp h1 (by rw[show aq (aD::H) (d+1) i=aq H d i from rfl];exact hg) hs h2 hg2
theorem pH {n f nt d i:Nat} {c:Code} {callR:bE} {bl:gv} {rg:ri} {fr:ar} {H:aa} {T:Tr nj} (e:aG (vN n f nt d i) callR bl rg c (hints fr) H=T) (hC:callR.Ok (cd n)) (hB:bl.Ok (vN n f nt d i) c) (hR:rg.Ok (vN n f nt d i) c) {y:Ex×ar×aa} (h:T.all fun x=>x.st=y):exec (vN n f nt d i) c fr H=some y:=by
 obtain ⟨x,h1,rfl⟩:=h
 have:=oA (cx:=vN n f nt d i) hC c hB hR (hints fr) H x (by rw[e];exact h1)
 rw[g8] at this;exact this
noncomputable def GB:Code:=part Try.f53 [1,1,0,1,0,0,1,1,0,0,1,1,0,1,0,0]
noncomputable def GC:Code:=part Try.f53 [1,1,0,1,0,0,1,1,0,0,1,1,0,1,0,1]
theorem R7:dV (part Try.f53 [1,1,0,1,0,0])=[(.tmp 25,#[26],GB,GC)]:=by kernel_rfl
noncomputable def mf (s l:Nat) (t:Nat→Int) (k:Nat) (d g:Nat→Int) (j:Int):gV:={ state:=.ready,pending:=none,fn:=53,nt:=42,fr:=uM s l t k d g j,params:=[26],assign:=GB,body:=GC }
def rb (t e:Nat→Int) (i:Nat):Nat→Int
 | 0=>e i
 | m+1=>min (rb t e i m) (e (bF t m (i:Int)).toNat-(m:Int))
def fQ (l:Nat) (t e:Nat→Int) (i:Nat):Int:=rb t e i (iW l t i)
section
variable (n s l k m:Nat) (t d g y:Nat→Int) (u:Bool) (a b:Nat→Int) (H:aa) (i:Nat)
theorem Oa (j x v w:Int) (hx:0≤x) (hm:x<m) (hv:-1000≤v∧v≤1000) (hw:0≤w∧w≤1000) (hy:-1000≤y x.toNat∧y x.toNat≤1000) :
 cd (n+1) (.round 1 5) [.int .i64 x] (aD::jv m y u a b v w [(0,.loop (mf s l t k d g j))]::H)=some (.bool true,aD::jv m y u a b (min v (y x.toNat-w)) (w+1) [(0,.loop (mf s l t k d g j))]::H):=by
 have h1:exec (vN n 53 42 2 5) GB (HP s l t k d g j x) (aD::aD::jv m y u a b v w [(0,.loop (mf s l t k d g j))]::H)=some (.normal,Ej x,aD::aD::jv m y u a b v w [(0,.loop (mf s l t k d g j))]::H) :=
  pH (Om n s l k m t d g y u a b _ H j x v w) (aw n) (af _ _) (ag _ _) (Tr.bg rfl)
 have h2:exec (vN n 53 42 2 5) GC (Ej x) (aD::aD::jv m y u a b v w [(0,.loop { mf s l t k d g j with state:=.busy })]::H)=some (.normal,[],aD::aD::jv m y u a b (min v (y x.toNat-w)) (w+1) [(0,.loop { mf s l t k d g j with state:=.busy })]::H):=by
  refine pH (On n m y u a b _ H x v w) (aw n) (af _ _) (ag _ _) ?_
  have e1:bP .i64 (y x.toNat) w=y x.toNat-w:=ui (by omega) (by omega)
  have e2:br .i64 w (Int.ofNat 1)=w+1:=Cs (by show _≤w+1;omega) (by show w+1≤_;omega)
  rw[J9 hx,e1,e2,j7]
  generalize mf s l t k d g j=L at *
  generalize y x.toNat=q at *
  generalize min v (q-w)=V at *
  exact wF
 exact s4 (l:=mf s l t k d g j) (l2:={ mf s l t k d g j with state:=.busy }) rfl rfl rfl rfl h1 h2 rfl rfl
theorem EJ {t e:Nat→Int} {i:Nat} {l:Nat} (hy:∀ j,j<l→-900≤e j∧e j≤900) (hi:i<l) (ht:∀ j,j<l→t j<l):∀ m,m≤31→(∀ q,q<m→0≤bF t q (i:Int))→-1000≤rb t e i m∧rb t e i m≤1000
 | 0,_,_=>by have:=hy i hi;show -1000≤e i∧e i≤1000;omega
 | m+1,hm,hp=>by
   have ih:=EJ hy hi ht m (by omega) (fun q hq=>hp q (by omega))
   have h1:=hp m (by omega)
   have h2:=gN ht (show (i:Int)<l by omega) m
   have h3:=hy (bF t m (i:Int)).toNat (by omega)
   show -1000≤min (rb t e i m) _∧min (rb t e i m) _≤1000
   omega
theorem SJ (hl:l≤30) (hm:m=l) (ht:∀ j,j<l→t j<l) (hi:i<l) (hc:iw l t=false) (hy:∀ j,j<l→-900≤y j∧y j≤900) :
 exec (bx (n+2) 53 42) (.rangeFunc (.tmp 25) #[26] GB GC) (uM s l t k d g (i:Nat)) (jv m y u a b (y i) 0 []::H)=some (.normal,uM s l t k d g (i:Nat),jv m y u a b (fQ l t y i) (iW l t i:Nat) [(0,.dead)]::H):=by
 subst hm
 obtain ⟨e1,e2,e3⟩:=kF hc i hi
 exact zb (cx:=bx (n+2) 53 42) (l:=mf s m t k d g (i:Nat)) (f:=.tmp 25) (ps:=#[26]) (fr:=uM s m t k d g (i:Nat)) (H:=jv m y u a b (y i) 0 []::H) (g:=81) (a:=[]) (b:=[.ptrT none (.I .i64 [(i:Int)]) 0,.ptrT (some 0) (.G [dC (s+1) m t k d g]) 0]) rfl rfl rfl
  (Kq (n+1) m k t d g i (iW m t i) (fun c=>jv m y u a b (rb t y i c) (c:Nat) [(0,.loop (mf s m t k d g (i:Nat)))]::H) (s+1) (by omega) e2 e3 ht (by omega) hi (fun c hc=>by
    have h1:=e2 c hc
    have h2:=gN ht (show (i:Int)<m by omega) c
    have h3:=hy (bF t c (i:Int)).toNat (by omega)
    exact Oa n s m k m t d g y u a b H _ _ _ _ h1 h2 (EJ hy hi ht c (by omega) (fun q hq=>e2 q (by omega))) (by omega) (by omega))) rfl rfl rfl
theorem J1 (z:Nat→Int) (j:Nat):gm (fun i=>if i<j then z i else 0) j (z j)=fun i=>if i<j+1 then z i else 0:=by
 rw[mR];funext i
 show (if i=j then z j else if i<j then z i else 0)=_
 by_cases c:i=j
 · subst c;rw[if_pos rfl,if_pos (by omega)]
 · rw[if_neg c]
   by_cases c2:i<j
   · rw[if_pos c2,if_pos (by omega)]
   · rw[if_neg c2,if_neg (by omega)]
def ra (l:Nat) (t e:Nat→Int) (j:Nat):Nat→Int:=fun i=>if i<j then fQ l t e i else 0
theorem RI (hl:l≤30) (hm:m=l) (ht:∀ j,j<l→t j<l) (hc:iw l t=false) (hy:∀ j,j<l→-900≤y j∧y j≤900) :
 exec (bx (n+2) 53 42) (.block 0 (.loop (part Try.f53 [1,1,0,1,0,0]))) (tQ s l t k d g 0) (tV m y u a (fun x=>Int.ofNat 0)::H)=some (.normal,tQ s l t k d g (Int.ofNat l)++[(17,.bool false)],tV m y u a (ra l t y l)::H):=by
 refine jG (n:=n+2) (f:=53) (nt:=42) (c:=part Try.f53 [1,1,0,1,0,0]) 0 (fun j=>tQ s l t k d g (j:Nat)) (fun j=>tV m y u a (ra l t y j)::H) l (tQ s l t k d g (Int.ofNat l)++[(17,.bool false)],tV m y u a (ra l t y l)::H) (by omega) (fun j hj=>?_) ?_
 · have hx:=SJ n s l k m t d g y u a (ra l t y j) H j hl hm ht hj hc hy
   have he:=t53 (n+1) s l k m t d g y u a (ra l t y j) H (j:Nat) (fQ l t y j) (iW l t j:Nat)
   rw[mV] at he
   refine aF he (ly (n+1) 1) (af _ _) (wS (ag _ _) (fun f ps a b _ hm x hx2=>?_)) ?_
   · rw[R7] at hm
     simp only[List.mem_cons,Prod.mk.injEq,List.not_mem_nil,or_false] at hm
     obtain ⟨rfl,rfl,rfl,rfl⟩:=hm
     rw[← Tr.ab hx2];exact hx
   · show Tr.all _ (fun x=>_∧tidy _ _ _=(tQ s l t k d g ((j+1:Nat):Int),tV m y u a (ra l t y (j+1))::H))
     have hu:gm (ra l t y j) j (fQ l t y j)=ra l t y (j+1):=J1 (fQ l t y) j
     have e1:th (ay 2 (j:Int) 1) 2=j:=by rw[kO,lg];omega
     rw[dJ (by omega)]
     simp only[e1,hu,mV]
     generalize fQ l t y j=V at *
     generalize ra l t y (j+1)=Y2 at *
     generalize ra l t y j=Y1 at *
     exact wF
 · obtain ⟨x,h1,rfl⟩:=aF (Q:=fun x=>x=(.exit 0,tQ s l t k d g (Int.ofNat l)++[(17,.bool false)],tV m y u a (ra l t y l)::H)) (Oo (n+1) s l k m t d g y u a (ra l t y l) H (Int.ofNat l)) (ly (n+1) 1) (af _ _) (wS (ag _ _) (fun f ps a b _ hm x hx2=>(Tr.ae hx2).elim)) (by
    refine Tr.bj (fun hc=>?_) (fun hc=>Tr.bg rfl)
    simp (disch:=omega) only[nV,nW] at hc;omega)
   exact h1
theorem Pl (hl:l≤30) (hm:m=l) (ht:∀ j,j<l→t j<l) (hc:iw l t=false) (hy:∀ j,j<l→-900≤y j∧y j≤900) :
 cd (n+3) (.fn 53) [dC s l t k d g,b7 m y u] H=some (.agg (.M [.arr .i64 (bR (ra l t y l)) 30]),H):=by
 have hx:=RI n s l k m t d g y u (fun x=>Int.ofNat 0) H hl hm ht hc hy
 refine aS (n:=n+2) Try.func53 rfl rfl rfl (Sj (n+2) s l k m t d g y u (ra l t y l) H) (aw _) (aW (af _ _) Py (fun x hy=>bU hy hx)) (ag _ _) ?_
 generalize ra l t y l=Y at *
 exact wF
end
end Go.Eng
end
section
namespace Go.Eng
open Go.Proofs
noncomputable def vX (s l:Nat) (t:Nat→Int) (k:Nat) (d g:Nat→Int) (x f j:Int):ar:=[(0,dC (s+1) l t k d g),(2,.int .i64 x),(7,.ptr 0 0 0 0),(8,.int .i64 f),(15,.int .i64 j)]
noncomputable def qy (s l:Nat) (t:Nat→Int) (k:Nat) (d g:Nat→Int) (x f T c j:Int):ar:=[(0,dC (s+1) l t k d g),(2,.int .i64 x),(7,.ptr 0 0 0 0),(8,.int .i64 f),(9,.int .i64 T),(10,.int .i64 c),(15,.int .i64 T),(23,.int .i64 (Int.ofNat l)),(24,.int .i64 j)]
theorem LM (n s l k:Nat) (t d g z:Nat→Int) (H:aa) (x f T c j:Int):aG (bx n 69 43) (il aK n 0) aO aP (part Try.f69 [1,0,1,1,1,0,1,0,0,1,1,0,0,1,1,1,0,0]) (hints (qy s l t k d g x f T c j)) (gr z::H) =
 (fun (Z0:Nat×AV×Option Nat)=>((fun (Z1:aU)=>Tr.ite (cq j (Int.ofNat l)) (Tr.req (dv j 30) (Tr.req (bM 0 0) (Tr.req (c9 (ay 0 j 1) 30) (Tr.ite (cq T (z (ay 0 j 1))) (Tr.ok (Ex.normal,[Z0,(2,AV.int .i64 x,none),(7,AV.ptr 0 0 0 0,none),(8,AV.int .i64 f,none),(9,AV.int .i64 T,none),(10,AV.int .i64 c,none),(15,AV.int .i64 T,none),(23,AV.int .i64 (Int.ofNat l),none),(24,AV.int .i64 (br .i64 j (Int.ofNat 1)),none)],Z1::H)) (Tr.ite (cq (yF .i64 x T) (br .i64 c (Int.ofNat 1))) (Tr.ok (Ex.exit 0,[(8,AV.int .i64 T,none)],Z1::H)) (Tr.ok (Ex.normal,[Z0,(2,AV.int .i64 x,none),(7,AV.ptr 0 0 0 0,none),(8,AV.int .i64 f,none),(9,AV.int .i64 T,none),(10,AV.int .i64 (br .i64 c (Int.ofNat 1)),none),(15,AV.int .i64 T,none),(23,AV.int .i64 (Int.ofNat l),none),(24,AV.int .i64 (br .i64 j (Int.ofNat 1)),none)],Z1::H))))))) (Tr.ok (Ex.exit 2,[Z0,(2,AV.int .i64 x,none),(7,AV.ptr 0 0 0 0,none),(8,AV.int .i64 f,none),(9,AV.int .i64 T,none),(10,AV.int .i64 c,none),(15,AV.int .i64 T,none),(23,AV.int .i64 (Int.ofNat l),none),(24,AV.int .i64 j,none),(25,AV.bool false,some 1)],Z1::H))) { lock:=false,bs:=[(0,ai.row (Row.M [ah.arr .i64 z 30]))] })) (0,AV.ptrT (some (Nat.succ s)) (Row.M [ah.one (AV.slcT none (Row.M [ah.arr .i64 t l]) 1 l false),ah.one (AV.slcT none (Row.M [ah.arr .i64 d k]) 1 k false),ah.arr .i64 g 30]) 0,none):=by kernel_rfl
theorem t69 (n s l k:Nat) (t d g z:Nat→Int) (H:aa) (x f j c:Int) (b:Bool):aG (bx n 69 43) (il aK n 0) (cX aO 2 (qy s l t k d g x f j 0 0) (gr z::H) (.ite b (.ok (.exit 0,hints [(8,.int .i64 j)],gr z::H)) (.ok (.normal,hints (qy s l t k d g x f j c (Int.ofNat l)++[(25,.bool false)]),gr z::H)))) aP (part Try.f69 [1,0,1,1,1,0,1,0,0]) (hints (vX s l t k d g x f j)) (gr z::H) =
 (fun (Z0:Row)=>((fun (Z1:aU)=>((fun (Z2:ar)=>Tr.ite (cq j (Int.ofNat 41)) (Tr.reqP (Z2=Z2∧Z1::H=Z1::H) (Tr.ite b (Tr.ok (Ex.exit 0,[(8,AV.int .i64 j,none)],Z1::H)) (Tr.ok (Ex.normal,[(0,AV.ptrT (some (Nat.succ s)) Z0 0,none),(2,AV.int .i64 x,none),(7,AV.ptr 0 0 0 0,none),(8,AV.int .i64 f,none),(15,AV.int .i64 (br .i64 j (Int.ofNat 1)),none)],Z1::H)))) (Tr.ok (Ex.exit 0,[(0,AV.ptrT (some (Nat.succ s)) Z0 0,none),(2,AV.int .i64 x,none),(7,AV.ptr 0 0 0 0,none),(8,AV.int .i64 f,none),(15,AV.int .i64 j,none),(16,AV.bool false,some 1)],Z1::H))) [(0,AV.ptrT (some (Nat.succ s)) Z0 0),(2,AV.int .i64 x),(7,AV.ptr 0 0 0 0),(8,AV.int .i64 f),(9,AV.int .i64 j),(10,AV.int .i64 (Int.ofNat 0)),(15,AV.int .i64 j),(23,AV.int .i64 (Int.ofNat l)),(24,AV.int .i64 (Int.ofNat 0))])) { lock:=false,bs:=[(0,ai.row (Row.M [ah.arr .i64 z 30]))] })) (Row.M [ah.one (AV.slcT none (Row.M [ah.arr .i64 t l]) 1 l false),ah.one (AV.slcT none (Row.M [ah.arr .i64 d k]) 1 k false),ah.arr .i64 g 30]):=by kernel_rfl
theorem Ow (n s l k:Nat) (t d g z:Nat→Int) (H:aa) (x f j:Int):aG (bx n 69 43) (il aK n 0) (nh aO 2) aP (part Try.f69 [1,0,1,1,1,0,1,0,0]) (hints (vX s l t k d g x f j)) (gr z::H) =
 Tr.ite (cq j (Int.ofNat 41)) Tr.bad (Tr.ok (Ex.exit 0,[(0,AV.ptrT (some (Nat.succ s)) (Row.M [ah.one (AV.slcT none (Row.M [ah.arr .i64 t l]) 1 l false),ah.one (AV.slcT none (Row.M [ah.arr .i64 d k]) 1 k false),ah.arr .i64 g 30]) 0,none),(2,AV.int .i64 x,none),(7,AV.ptr 0 0 0 0,none),(8,AV.int .i64 f,none),(15,AV.int .i64 j,none),(16,AV.bool false,some 1)],{ lock:=false,bs:=[(0,ai.row (Row.M [ah.arr .i64 z 30]))] } :: H)):=by kernel_rfl
theorem Ss (n s l k m:Nat) (t d g y z:Nat→Int) (u:Bool) (H:aa) (x r:Int) (R:aE):bn Try.prog (cd n) 100000 69 Try.f69 (KtL.kt 69) (il (tX aK 53 [dC (s+1) l t k d g,b7 m y u] (.agg (.M [.arr .i64 z 30]))) n 0) (cX aO 0 (vX s l t k d g x (-1) 0) (gr (bR z)::H) (.ok (.normal,(8,.int .i64 r,none)::[],gr (bR z)::H))) aP [(dC s l t k d g,none),(b7 m y u,none),(.int .i64 x,none)] H =
 (fun (Z0:Row)=>((fun (Z1:ar)=>((fun (Z2:aU)=>Tr.reqP ([AV.ptrT (some (Nat.succ s)) Z0 0,AV.slcT none (Row.M [ah.arr .i64 y m]) 1 m u]=[AV.ptrT (some (Nat.succ s)) Z0 0,AV.slcT none (Row.M [ah.arr .i64 y m]) 1 m u]) (Tr.req (iB 0 30 0 30) (Tr.reqP (Z1=Z1∧Z2::H=Z2::H) (Tr.ok ((AV.int .i64 r,none),H))))) { lock:=false,bs:=[(0,ai.row (Row.M [ah.arr .i64 (iO (fun x=>Int.ofNat 0) 0 z 30) 30]))] })) [(0,AV.ptrT (some (Nat.succ s)) Z0 0),(2,AV.int .i64 x),(7,AV.ptr 0 0 0 0),(8,AV.int .i64 (Int.negSucc 0)),(15,AV.int .i64 (Int.ofNat 0))])) (Row.M [ah.one (AV.slcT none (Row.M [ah.arr .i64 t l]) 1 l false),ah.one (AV.slcT none (Row.M [ah.arr .i64 d k]) 1 k false),ah.arr .i64 g 30]):=by kernel_rfl
theorem OQ (n s l k m:Nat) (t d g y z:Nat→Int) (u:Bool) (H:aa) (x:Int):bn Try.prog (cd n) 100000 69 Try.f69 (KtL.kt 69) (il (tX aK 53 [dC (s+1) l t k d g,b7 m y u] (.agg (.M [.arr .i64 z 30]))) n 0) (cX aO 0 (vX s l t k d g x (-1) 0) (gr (bR z)::H) (.ok (.normal,hints (vX s l t k d g x (-1) 41++[(16,.bool false)]),gr (bR z)::H))) aP [(dC s l t k d g,none),(b7 m y u,none),(.int .i64 x,none)] H =
 (fun (Z0:Row)=>((fun (Z1:ar)=>((fun (Z2:aU)=>Tr.reqP ([AV.ptrT (some (Nat.succ s)) Z0 0,AV.slcT none (Row.M [ah.arr .i64 y m]) 1 m u]=[AV.ptrT (some (Nat.succ s)) Z0 0,AV.slcT none (Row.M [ah.arr .i64 y m]) 1 m u]) (Tr.req (iB 0 30 0 30) (Tr.reqP (Z1=Z1∧Z2::H=Z2::H) (Tr.ok ((AV.int .i64 (Int.negSucc 0),none),H))))) { lock:=false,bs:=[(0,ai.row (Row.M [ah.arr .i64 (iO (fun x=>Int.ofNat 0) 0 z 30) 30]))] })) [(0,AV.ptrT (some (Nat.succ s)) Z0 0),(2,AV.int .i64 x),(7,AV.ptr 0 0 0 0),(8,AV.int .i64 (Int.negSucc 0)),(15,AV.int .i64 (Int.ofNat 0))])) (Row.M [ah.one (AV.slcT none (Row.M [ah.arr .i64 t l]) 1 l false),ah.one (AV.slcT none (Row.M [ah.arr .i64 d k]) 1 k false),ah.arr .i64 g 30]):=by kernel_rfl
theorem Pf:∀ b,(0,b) ∈ aN (bO Try.f69)→b=.loop (part Try.f69 [1,0,1,1,1,0,1,0,0]):=gq (by kernel_rfl)
theorem Mv:∀ b,(2,b) ∈ aN (part Try.f69 [1,0,1,1,1,0,1,0,0])→b=.loop (part Try.f69 [1,0,1,1,1,0,1,0,0,1,1,0,0,1,1,1,0,0]):=gq (by kernel_rfl)
def CH (l:Nat) (t e:Nat→Int) (T:Int):Nat:=cn (fun i=>decide (fQ l t e i≤T)) l
def uB (l:Nat) (t e:Nat→Int) (h T:Int):Bool:=decide (h*T<CH l t e T)
def rZ (l:Nat) (t e:Nat→Int) (h:Int):Int:=FU (fun T=>uB l t e h (T:Nat)) 41
theorem MR {n f nt:Nat} {c:Code} (id:Nat) (e:Ex) (F:Nat→ar) (G:Nat→aa) (N:Nat) (p:Nat→Bool) (X:Nat→ar×aa) (Y:ar×aa) (hN:N<99999) (hne:e≠.normal) (v7:∀ id',e=.exit id'→Nat.beq id' id=false) (hc:(match e with | .normal=>false | _=>true)=true)
 (hs:∀ j,j<N→∃ x,exec (bx n f nt) c (F j) (G j)=some x∧if p j=true then x=(e,X j) else x.1=.normal∧tidy (an (G 0)) x.2.1 x.2.2=(F (j+1),G (j+1)))
 (he:exec (bx n f nt) c (F N) (G N)=some (.exit id,Y)):exec (bx n f nt) (.block id (.loop c)) (F 0) (G 0)=some (cond (fA p N) (e,X (fN p N 0)) (.normal,Y)):=by
 have key:=mE (body:=exec (bx n f nt) c) (n:=an (G 0)) F G N p (fun j=>if j<N then (e,X j) else (.exit id,Y))
  (fun j hj hp=>by
    obtain ⟨x,h1,h2⟩:=hs j hj
    rw[if_neg (by rw[hp];simp)] at h2
    obtain ⟨e,f1,g1⟩:=x
    obtain ⟨rfl,h3⟩:=h2
    exact ⟨_,_,h1,h3⟩)
  (fun j hj hp=>by
    obtain ⟨x,h1,h2⟩:=hs j hj
    rw[if_pos hp] at h2
    subst h2
    rw[if_pos hj]
    exact ⟨h1,hne⟩)
  (by
    rw[if_neg (by omega)]
    exact ⟨he,by simp⟩) N 0 100000 (by omega) (by omega)
 cases hc:fA p N with
 | true =>
   have:=iP hc
   rw[if_pos this] at key
   exact dZ v7 key
 | false =>
   have:=pG hc
   rw[if_neg (by omega)] at key
   exact dT key
theorem MS {n f nt:Nat} {c:Code} (id:Nat) (F:Nat→ar) (G:Nat→aa) (N:Nat) (p:Nat→Bool) (X:Nat→ar×aa) (Y:ar×aa) (hN:N<99999)
 (hs:∀ j,j<N→∃ x,exec (bx n f nt) c (F j) (G j)=some x∧if p j=true then x=(.exit id,X j) else x.1=.normal∧tidy (an (G 0)) x.2.1 x.2.2=(F (j+1),G (j+1)))
 (he:exec (bx n f nt) c (F N) (G N)=some (.exit id,Y)):exec (bx n f nt) (.block id (.loop c)) (F 0) (G 0)=some (.normal,cond (fA p N) (X (fN p N 0)) Y):=by
 have key:=mE (body:=exec (bx n f nt) c) (n:=an (G 0)) F G N p (fun j=>if j<N then (.exit id,X j) else (.exit id,Y))
  (fun j hj hp=>by
    obtain ⟨x,h1,h2⟩:=hs j hj
    rw[if_neg (by rw[hp];simp)] at h2
    obtain ⟨e,f1,g1⟩:=x
    obtain ⟨rfl,h3⟩:=h2
    exact ⟨_,_,h1,h3⟩)
  (fun j hj hp=>by
    obtain ⟨x,h1,h2⟩:=hs j hj
    rw[if_pos hp] at h2
    subst h2
    rw[if_pos hj]
    exact ⟨h1,by simp⟩)
  (by
    rw[if_neg (by omega)]
    exact ⟨he,by simp⟩) N 0 100000 (by omega) (by omega)
 cases hc:fA p N with
 | true =>
   have:=iP hc
   rw[if_pos this] at key
   exact dT key
 | false =>
   have:=pG hc
   rw[if_neg (by omega)] at key
   exact dT key
theorem Be {l:Nat} {z:Nat→Int} {j:Nat} (h:j<30):bR (bR z) j=z j:=by rw[mz _ _ h,mz _ _ h]
theorem EF {l:Nat} {t e:Nat→Int} {j:Nat} (h:j<l):ra l t e l j=fQ l t e j:=by unfold ra;rw[if_pos h]
theorem D1 (p:Nat→Bool) (q:Int) (hq:0≤q):∀ l,fA (fun j=>p j && decide (q<(cn p j:Int)+1)) l=decide (q<(cn p l:Nat))
 | 0=>by
   rw[nu (fun j hj=>absurd hj (by omega))]
   exact (decide_eq_false (by show ¬ q<((0:Nat):Int);omega)).symm
 | l + 1 => by
   have ih:=D1 p q hq l
   have e:cn p (l+1)=cn p l+(p l).toNat:=rfl
   by_cases c:q<(cn p l:Nat)
   · rw[decide_eq_true c] at ih
     obtain ⟨j,hj,e2⟩:=(gQ _ _).1 ih
     rw[(gQ _ _).2 ⟨j,by omega,e2⟩,decide_eq_true (by omega)]
   · rw[decide_eq_false c] at ih
     have hn:=jq ih
     cases hp:p l with
     | true =>
       rw[hp] at e
       simp only[Bool.toNat_true] at e
       by_cases c2:q<((cn p (l+1):Nat):Int)
       · rw[decide_eq_true c2]
         exact (gQ _ _).2 ⟨l,by omega,by simp only[hp,Bool.true_and,decide_eq_true_eq];omega⟩
       · rw[decide_eq_false c2]
         refine nu (fun j hj=>?_)
         by_cases ej:j=l
         · subst ej;simp only[hp,Bool.true_and,decide_eq_false_iff_not];omega
         · exact hn j (by omega)
     | false =>
       rw[hp] at e
       simp only[Bool.toNat_false,Nat.add_zero] at e
       rw[e,decide_eq_false c]
       refine nu (fun j hj=>?_)
       by_cases ej:j=l
       · subst ej;simp only[hp,Bool.false_and]
       · exact hn j (by omega)
section
variable (n s l k m:Nat) (t d g y:Nat→Int) (u:Bool) (H:aa) (h:Int)
theorem NG (z:Nat→Int) (f T:Int) (hl:l≤30) (hh:0≤h∧h≤1000) (hT:0≤T∧T≤1000):∃ c,exec (bx n 69 43) (.block 2 (.loop (part Try.f69 [1,0,1,1,1,0,1,0,0,1,1,0,0,1,1,1,0,0]))) (qy s l t k d g h f T 0 0) (gr z::H)=some (cond (decide (h*T<(cn (fun i=>decide (z i≤T)) l:Nat))) (.exit 0,[(8,.int .i64 T)],gr z::H) (.normal,qy s l t k d g h f T c (Int.ofNat l)++[(25,.bool false)],gr z::H)):=by
 have hm:=Int.mul_nonneg hh.1 hT.1
 have hm2:h*T≤1000*1000:=Int.mul_le_mul hh.2 hT.2 hT.1 (by omega)
 refine ⟨(cn (fun i=>decide (z i≤T)) l:Nat),?_⟩
 rw[← D1 _ _ hm l]
 refine MR (n:=n) (f:=69) (nt:=43) (c:=part Try.f69 [1,0,1,1,1,0,1,0,0,1,1,0,0,1,1,1,0,0]) 2 (.exit 0) (fun j=>qy s l t k d g h f T (cn (fun i=>decide (z i≤T)) j:Nat) (j:Nat)) (fun _=>gr z::H) l (fun j=>decide (z j≤T) && decide (h*T<(cn (fun i=>decide (z i≤T)) j:Int)+1)) (fun j=>([(8,.int .i64 T)],gr z::H)) _ (by omega) (by simp) (fun id' h=>by cases h;rfl) rfl (fun j hj=>?_) ?_
 · refine aF (LM n s l k t d g z H h f T (cn (fun i=>decide (z i≤T)) j:Nat) (j:Nat)) (aw n) (af _ _) (ag _ _) ?_
   have hle:=oh (fun i=>decide (z i≤T)) j
   have em:yF .i64 h T=h*T:=by rw[mI];exact po (by omega) (by omega)
   show Tr.all _ (fun r=>if (decide (z j≤T) && decide (h*T<(cn (fun i=>decide (z i≤T)) j:Int)+1))=true then _ else _∧tidy _ _ _=(qy s l t k d g h f T ((cn (fun i=>decide (z i≤T)) j+(decide (z j≤T)).toNat:Nat):Int) ((j+1:Nat):Int),_))
   rw[dJ (j:=j) (by omega),dJ (by omega)]
   simp only[mV,em]
   generalize cn (fun i=>decide (z i≤T)) j=C at *
   generalize z j=q at *
   generalize h*T=P at *
   by_cases c:q≤T
   · by_cases c2:P<(C:Int)+1
     · simp only[decide_eq_true c,decide_eq_true c2,Bool.and_self,if_true]
       exact wF
     · simp only[decide_eq_true c,decide_eq_false c2,Bool.and_false,Bool.false_eq_true,if_false]
       exact wF
   · simp only[decide_eq_false c,Bool.false_and,Bool.false_eq_true,if_false]
     exact wF
 · obtain ⟨r,h1,rfl⟩:=aF (Q:=fun r=>r=(.exit 2,qy s l t k d g h f T (cn (fun i=>decide (z i≤T)) l:Nat) (Int.ofNat l)++[(25,.bool false)],gr z::H)) (LM n s l k t d g z H h f T (cn (fun i=>decide (z i≤T)) l:Nat) (Int.ofNat l)) (aw n) (af _ _) (ag _ _) (by
    refine Tr.bj (fun hc=>?_) (fun hc=>Tr.bg rfl)
    simp (disch:=omega) only[nV,nW] at hc;omega)
   exact h1
theorem RM (z:Nat→Int) (hl:l≤30) (hh:0≤h∧h≤1000):exec (bx n 69 43) (.block 0 (.loop (part Try.f69 [1,0,1,1,1,0,1,0,0]))) (vX s l t k d g h (-1) 0) (gr z::H)=some (.normal,cond (fA (fun T=>decide (h*(T:Int)<(cn (fun i=>decide (z i≤(T:Int))) l:Nat))) 41) ([(8,.int .i64 (fN (fun T=>decide (h*(T:Int)<(cn (fun i=>decide (z i≤(T:Int))) l:Nat))) 41 0:Nat))],gr z::H) (vX s l t k d g h (-1) 41++[(16,.bool false)],gr z::H)):=by
 refine MS (n:=n) (f:=69) (nt:=43) (c:=part Try.f69 [1,0,1,1,1,0,1,0,0]) 0 (fun j=>vX s l t k d g h (-1) (j:Nat)) (fun _=>gr z::H) 41 (fun T=>decide (h*(T:Int)<(cn (fun i=>decide (z i≤(T:Int))) l:Nat))) (fun j=>([(8,.int .i64 (j:Nat))],gr z::H)) _ (by omega) (fun j hj=>?_) ?_
 · obtain ⟨c,hx⟩:=NG n s l k t d g H h z (-1) (j:Nat) hl hh (by omega)
   have hp:(decide (h*(j:Int)<(cn (fun i=>decide (z i≤(j:Int))) l:Nat)))=(decide (h*(j:Int)<(cn (fun i=>decide (z i≤(j:Int))) l:Nat))):=rfl
   generalize hb:(decide (h*(j:Int)<(cn (fun i=>decide (z i≤(j:Int))) l:Nat)))=b at hx hp ⊢
   refine aF (t69 n s l k t d g z H h (-1) (j:Nat) c b) (aw n) (aW (af _ _) Mv (fun x hy=>jm hy hx)) (ag _ _) ?_
   show Tr.all _ (fun r=>if b=true then _ else _)
   rw[dJ (j:=j) (by omega)]
   cases b with
   | true =>
     simp only[if_true]
     exact wF
   | false =>
     simp only[Bool.false_eq_true,if_false]
     exact wF
 · obtain ⟨r,h1,rfl⟩:=aF (Q:=fun r=>r=(.exit 0,vX s l t k d g h (-1) 41++[(16,.bool false)],gr z::H)) (Ow n s l k t d g z H h (-1) 41) (aw n) (eK (af _ _) 2) (ag _ _) (by
    refine Tr.bj (fun hc=>?_) (fun hc=>Tr.bg rfl)
    simp (disch:=omega) only[nV,nW] at hc;omega)
   exact h1
theorem ME (hl:l≤30) (hm:m=l) (ht:∀ j,j<l→t j<l) (hc:iw l t=false) (hy:∀ j,j<l→-900≤y j∧y j≤900) (hh:0≤h∧h≤1000) :
 cd (n+4) (.fn 69) [dC s l t k d g,b7 m y u,.int .i64 h] H=some (.int .i64 (rZ l t y h),H):=by
 have hx:=RM (n+3) s l k t d g H h (bR (bR (ra l t y l))) hl hh
 rw[show (fun T:Nat=>decide (h*(T:Int)<(cn (fun i=>decide (bR (bR (ra l t y l)) i≤(T:Int))) l:Nat)))=fun T:Nat=>uB l t y h (T:Nat) from by
  funext T
  rw[eB (q:=fun i=>decide (fQ l t y i≤(T:Nat))) (fun j hj=>by rw[Be (l:=l) (by omega),EF hj])]
  rfl] at hx
 have hC:(tX aK 53 [dC (s+1) l t k d g,b7 m y u] (.agg (.M [.arr .i64 (bR (ra l t y l)) 30]))).Ok (cd (n+3)):=b5 (aR _) (fun H=>Pl n (s+1) l k m t d g y u H hl hm ht hc hy)
 cases e:fA (fun T:Nat=>uB l t y h (T:Nat)) 41 with
 | true =>
   rw[e] at hx
   have hr:rZ l t y h=(fN (fun T:Nat=>uB l t y h (T:Nat)) 41 0:Nat):=by unfold rZ FU;rw[if_pos e]
   rw[← hr] at hx
   refine aS (n:=n+3) Try.func69 rfl rfl rfl (Ss (n+3) s l k m t d g y (bR (ra l t y l)) u H h (rZ l t y h) []) (aX _ (n+3) hC) (aW (af _ _) Pf (fun x hy=>bU hy hx)) (ag _ _) ?_
   generalize bR (ra l t y l)=z at *
   generalize rZ l t y h=C at *
   exact wF
 | false =>
   rw[e] at hx
   have hr:rZ l t y h=-1:=by unfold rZ FU;rw[if_neg (by rw[e];decide)]
   rw[hr]
   refine aS (n:=n+3) Try.func69 rfl rfl rfl (OQ (n+3) s l k m t d g y (bR (ra l t y l)) u H h) (aX _ (n+3) hC) (aW (af _ _) Pf (fun x hy=>bU hy hx)) (ag _ _) ?_
   generalize bR (ra l t y l)=z at *
   exact wF
end
end Go.Eng
end
