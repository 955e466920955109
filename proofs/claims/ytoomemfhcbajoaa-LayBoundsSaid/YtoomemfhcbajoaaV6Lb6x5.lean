/- Lay: way: its loop over all cells on the way from one. -/
import Derived.Test.YtoomemfhcbajoaaV6Lb3x3
set_option linter.unusedVariables false
set_option linter.unusedSimpArgs false
set_option maxRecDepth 100000
section
namespace Go.Eng
open Go.Proofs
noncomputable def yO (h s:Nat) (l:Nat) (t:Nat→Int) (k:Nat) (d g:Nat→Int) (x:Int):aq:=[(0,.yld 1 h),(2,.ptrT (some 1) (.G [dy s l t k d g]) 0),(4,.int .i64 x)]
noncomputable def wS (n f nt d i:Nat):Cx:=⟨Try.prog,cd n,100000,f,nt,KtL.kt f,some (d,i)⟩
theorem Se:∀ b,(0,b) ∈ aI (bj Try.f81)→b=.loop (part Try.f81 [1,0,0]):=ep (by kernel_rfl)
theorem NT (s:Nat) (n l k:Nat) (t d g:Nat→Int) (G G':aa) (x:Int):aJ (bn n 81 21) (Lf (il aE n 0) 1 5 [.int .i64 x] (av::G) (.ok (.bool true,av::G'))) aG aH (part Try.f81 [1,0,0]) (hints (yO 5 s l t k d g x)) (av::G) =
 (fun (Z0:Nat×AV×Option Nat)=>Tr.ite (lV (Int.ofNat 0) x) (Tr.reqP ([AV.int .i64 x]=[AV.int .i64 x]∧av::G=av::G) (Tr.ite true (Tr.req (cE x l) (Tr.req (cr (au 0 x 1) l) (Tr.ok (Ex.normal,[(0,AV.yld 1 5,none),Z0,(4,AV.int .i64 (t (au 0 x 1)),none)],av::G')))) (Tr.ok (Ex.exit 0,[(0,AV.yld 1 5,none),Z0,(4,AV.int .i64 x,none),(12,AV.bool false,some 1)],av::G')))) (Tr.ok (Ex.exit 0,[(0,AV.yld 1 5,none),Z0,(4,AV.int .i64 x,none),(12,AV.bool false,some 1)],av::G))) (2,AV.ptrT (some 1) (Row.G [AV.ptrT (some s) (Row.M [ah.one (AV.slcT none (Row.M [ah.arr .i64 t l]) 1 l false),ah.one (AV.slcT none (Row.M [ah.arr .i64 d k]) 1 k false),ah.arr .i64 g 30]) 0]) 0,none):=by kernel_rfl
theorem Lp (s:Nat) (n l k:Nat) (t d g:Nat→Int) (G:aa) (x:Int):aJ (bn n 81 21) (il aE n 0) aG aH (part Try.f81 [1,0,0]) (hints (yO 5 s l t k d g x)) (av::G) =
 Tr.ite (lV (Int.ofNat 0) x) Tr.bad (Tr.ok (Ex.exit 0,[(0,AV.yld 1 5,none),(2,AV.ptrT (some 1) (Row.G [AV.ptrT (some s) (Row.M [ah.one (AV.slcT none (Row.M [ah.arr .i64 t l]) 1 l false),ah.one (AV.slcT none (Row.M [ah.arr .i64 d k]) 1 k false),ah.arr .i64 g 30]) 0]) 0,none),(4,AV.int .i64 x,none),(12,AV.bool false,some 1)],av::G)):=by kernel_rfl
theorem Og (s:Nat) (n l k:Nat) (t d g:Nat→Int) (G G':aa) (i x:Int):aX Try.prog (cd n) 100000 81 Try.f81 (KtL.kt 81) (il aE n 0) (bS aG 0 (yO 5 s l t k d g i) (av::G) (.ok (.normal,hints (yO 5 s l t k d g x++[(12,.bool false)]),av::G'))) aH [(.yld 0 5,none),(.ptrT none (.I .i64 [i]) 0,none),(.ptrT (some 0) (.G [dy s l t k d g]) 0,none)] G =
 (fun (Z0:aq)=>Tr.reqP (Z0=Z0∧av::G=av::G) (Tr.ok ((AV.tup [],none),G'))) [(0,AV.yld 1 5),(2,AV.ptrT (some 1) (Row.G [AV.ptrT (some s) (Row.M [ah.one (AV.slcT none (Row.M [ah.arr .i64 t l]) 1 l false),ah.one (AV.slcT none (Row.M [ah.arr .i64 d k]) 1 k false),ah.arr .i64 g 30]) 0]) 0),(4,AV.int .i64 i)]:=by kernel_rfl
def eP (l:Nat) (t:Nat→Int) (i:Nat):Nat:=cn (fun m=>decide (0≤bE t m (i:Int))) l
theorem uk {t:Nat→Int} {x:Int} {m q:Nat} (h:m≤q) (h2:0≤bE t q x):0≤bE t m x:=by
 apply Int.not_lt.1
 intro hc
 have:=uo hc (q-m)
 rw[show m+(q-m)=q by omega] at this
 omega
theorem Na {l:Nat} {t:Nat→Int} {x:Int} (h:bE t l x<0):∃ N,N≤l∧(∀ m,m<N→0≤bE t m x)∧bE t N x<0∧cn (fun m=>decide (0≤bE t m x)) l=N:=by
 induction l with
 | zero=>exact ⟨0,Nat.le_refl _,fun m hm=>by omega,h,rfl⟩
 | succ l ih =>
   by_cases c:bE t l x<0
   · obtain ⟨N,h1,h2,h3,h4⟩:=ih c
     refine ⟨N,by omega,h2,h3,?_⟩
     show cn (fun m=>decide (0≤bE t m x)) l+(decide (0≤bE t l x)).toNat=N
     rw[decide_eq_false (by omega)];simpa using h4
   · refine ⟨l+1,Nat.le_refl _,fun m hm=>uk (by omega) (by omega:0≤bE t l x),h,?_⟩
     have:∀ m,m≤l+1→cn (fun m=>decide (0≤bE t m x)) m=m:=by
      intro m
      induction m with
      | zero=>intro _;rfl
      | succ m ih2 =>
        intro hm
        show cn (fun m=>decide (0≤bE t m x)) m+(decide (0≤bE t m x)).toNat=_
        rw[ih2 (by omega),decide_eq_true (uk (by omega) (by omega:0≤bE t l x))];rfl
     exact this (l+1) (Nat.le_refl _)
theorem jS {l:Nat} {t:Nat→Int} (h:iF l t=false) (i:Nat) (hi:i<l):eP l t i≤l∧(∀ m,m<eP l t i→0≤bE t m (i:Int))∧bE t (eP l t i) (i:Int)<0:=by
 have h1:=dR h i hi
 rw[decide_eq_false_iff_not] at h1
 obtain ⟨N,a,b,c,e⟩:=Na (l:=l) (t:=t) (x:=(i:Int)) (by omega)
 unfold eP
 rw[e];exact ⟨a,b,c⟩
theorem pN {t:Nat→Int} {m:Nat} {x:Int} (h:0≤bE t m x):bE t (m+1) x=t (bE t m x).toNat:=by
 show (if 0≤bE t m x then _ else _)=_
 rw[if_pos h]
section
variable (n l k:Nat) (t d g:Nat→Int) (i N:Nat) (St:Nat→aa)
theorem L8 (s:Nat) (hN:N≤1000) (hp:∀ m,m<N→0≤bE t m (i:Int)) (hn:bE t N (i:Int)<0) (ht:∀ j,j<l→t j<l) (hl:l≤1000) (hi:i<l)
 (hr:∀ m,m<N→cd n (.round 1 5) [.int .i64 (bE t m (i:Int))] (av::St m)=some (.bool true,av::St (m+1))) :
 cd (n+1) (.fn 81) [.yld 0 5,.ptrT none (.I .i64 [(i:Int)]) 0,.ptrT (some 0) (.G [dy s l t k d g]) 0] (St 0)=some (.tup [],St N):=by
 have hx:=jf (n:=n) (f:=81) (nt:=21) (c:=part Try.f81 [1,0,0]) 0 (fun m=>yO 5 s l t k d g (bE t m (i:Int))) (fun m=>av::St m) N (yO 5 s l t k d g (bE t N (i:Int))++[(12,.bool false)],av::St N) (by omega) (fun m hm=>?_) ?_
 · refine aD (n:=n) Try.func81 rfl rfl rfl (Og s n l k t d g (St 0) (St N) (i:Int) (bE t N (i:Int))) (ao _) (aA (af _ _) Se (fun x hy=>bN hy hx)) (ag _ _) ?_
   exact Tr.ba ⟨rfl,rfl⟩ (Tr.bf ⟨rfl,rfl⟩)
 · have h1:=hp m hm
   have h2:=fz ht (show (i:Int)<l by omega) m
   have h3:=pN h1
   refine aB (NT s n l k t d g (St m) (St (m+1)) (bE t m (i:Int))) (tV (ao n) (fun x hy=>by rw[← Tr.ab hy];exact hr m hm)) (af _ _) (ag _ _) ?_
   rw[LH h1]
   show Tr.all _ (fun x=>_∧tidy _ _ _=(yO 5 s l t k d g (bE t (m+1) (i:Int)),_))
   rw[h3]
   generalize bE t m (i:Int)=x at *
   generalize St (m+1)=G' at *
   generalize St m=G at *
   exact wF
 · obtain ⟨x,h1,rfl⟩:=aB (Q:=fun x=>x=(.exit 0,yO 5 s l t k d g (bE t N (i:Int))++[(12,.bool false)],av::St N)) (Lp s n l k t d g (St N) (bE t N (i:Int))) (ao n) (af _ _) (ag _ _) (by
    refine Tr.bm (fun hc=>?_) (fun hc=>Tr.bf rfl)
    simp (disch:=omega) only[nV,nW] at hc;omega)
   exact h1
end
end Go.Eng
end
section
namespace Go.Eng
open Go.Proofs
noncomputable def O4 (s l:Nat) (t:Nat→Int) (k:Nat) (d g:Nat→Int) (j:Int):AV:=.fn (.func 81) [] [.ptrT none (.I .i64 [j]) 0,.ptrT (some 0) (.G [dy s l t k d g]) 0]
noncomputable def DB (l:Nat) (t:Nat→Int) (k:Nat) (d:Nat→Int):Nat×ai:=(0,.row (.G [b6 l t false,b6 k d false]))
noncomputable def yg (x:Int):Nat×ai:=(0,.row (.I .i64 [x]))
noncomputable def R3 (m:Nat) (y:Nat→Int):Nat×ai:=(0,.row (.M [.arr .i64 y m]))
theorem U2 (n l k:Nat) (t d g:Nat→Int) (H:aa):aX Try.prog (cd n) 100000 51 Try.f51 (KtL.kt 51) (il (tX (tX aE 21 [b5 l t k d] (.int .i64 0)) 57 [b5 l t k d] (dy 0 l t k d g)) n 0) aG aH [(b5 l t k d,none)] H =
 (fun (Z0:List AV)=>Tr.reqP (Z0=Z0) (Tr.ite (aP (b7 (Int.ofNat 0) (Int.ofNat 0))) (Tr.ok ((AV.tup [AV.nilp,AV.int .i64 (Int.ofNat 0)],none),H)) (Tr.reqP (Z0=Z0) (Tr.ok ((AV.tup [AV.ptrT (some 0) (Row.M [ah.one (AV.slcT none (Row.M [ah.arr .i64 t l]) 1 l false),ah.one (AV.slcT none (Row.M [ah.arr .i64 d k]) 1 k false),ah.arr .i64 g 30]) 0,AV.int .i64 (Int.ofNat 0)],none),H))))) [AV.agg (Row.G [AV.slcT none (Row.M [ah.arr .i64 t l]) 1 l false,AV.slcT none (Row.M [ah.arr .i64 d k]) 1 k false])]:=by kernel_rfl
theorem Ra (n l k:Nat) (t d:Nat→Int) (e:Int) (H:aa):aX Try.prog (cd n) 100000 51 Try.f51 (KtL.kt 51) (il (tX aE 21 [b5 l t k d] (.int .i64 e)) n 0) aG aH [(b5 l t k d,none)] H =
 (fun (Z0:List AV)=>Tr.reqP (Z0=Z0) (Tr.ite (aP (b7 e (Int.ofNat 0))) (Tr.ok ((AV.tup [AV.nilp,AV.int .i64 e],none),H)) Tr.bad)) [AV.agg (Row.G [AV.slcT none (Row.M [ah.arr .i64 t l]) 1 l false,AV.slcT none (Row.M [ah.arr .i64 d k]) 1 k false])]:=by kernel_rfl
section
variable (n l k m:Nat) (t d g y:Nat→Int) (H:aa) (i:Nat)
end
end Go.Eng
end
section
namespace Go.Eng
open Go.Proofs
structure Sh (l:Nat) (t:Nat→Int) (k:Nat) (d:Nat→Int):Prop where
 l1:1≤l
 l30:l≤30
 kl:k=l
 tl:∀ j,j<l→t j<l
 tm:∀ j,j<l→-1≤t j
 tj:∀ j,j<l→t j≠(j:Int)
 d1:∀ j,j<l→1≤d j
 d40:∀ j,j<l→d j≤40
 cyc:iF l t=false
theorem Ap {l k:Nat} {t d:Nat→Int} (h:l7 l t k d=0):Sh l t k d:=by
 unfold l7 at h
 by_cases h1:l<1∨30<l
 · rw[if_pos h1] at h;omega
 rw[if_neg h1] at h
 by_cases h2:k≠l
 · rw[if_pos h2] at h;omega
 rw[if_neg h2] at h
 cases h3:bV (kQ l t d) l with
 | true=>rw[h3,if_pos rfl] at h;omega
 | false =>
   rw[h3,if_neg (by decide)] at h
   cases h4:iF l t with
   | true=>rw[h4,if_pos rfl] at h;omega
   | false =>
     have g:=dR h3
     have key:∀ j,j<l→(-1≤t j∧t j≤(l:Int)-1)∧t j≠(j:Int)∧1≤d j∧d j≤40:=fun j hj=>by
      have:=g j hj
      simp only[kQ,eJ,Bool.or_eq_false_iff,decide_eq_false_iff_not] at this
      exact ⟨⟨by omega,by omega⟩,by omega,by omega,by omega⟩
     exact ⟨by omega,by omega,by omega,fun j hj=>by have:=(key j hj).1;omega,fun j hj=>(key j hj).1.1,fun j hj=>(key j hj).2.1,fun j hj=>(key j hj).2.2.1,fun j hj=>(key j hj).2.2.2,h4⟩
theorem JF {l k:Nat} {t d:Nat→Int} (h:Sh l t k d):l7 l t k d=0:=by
 unfold l7
 rw[if_neg (by have:=h.l1;have:=h.l30;omega),if_neg (by have:=h.kl;omega),if_neg ?_,if_neg (by rw[h.cyc];decide)]
 rw[jT (fun j hj=>?_)]
 · decide
 · have a1:=h.tl j hj
   have a2:=h.tm j hj
   have a3:=h.tj j hj
   have a4:=h.d1 j hj
   have a5:=h.d40 j hj
   simp only[kQ,eJ,Bool.or_eq_false_iff,decide_eq_false_iff_not]
   omega
noncomputable def J0 (s:Nat) (l:Nat) (t:Nat→Int) (k:Nat) (d:Nat→Int):AV:=dy s l t k d (cQ t l)
section
variable (n l k:Nat) (t d:Nat→Int) (H:aa)
theorem L4 (h:l7 l t k d≠0):cd (n+8) (.fn 51) [b5 l t k d] H=some (.tup [.nilp,.int .i64 (l7 l t k d)],H):=by
 refine aD (n:=n+7) Try.func51 rfl rfl rfl (Ra (n+7) l k t d (l7 l t k d) H) (aO _ (n+7) (bp (aF _) (fun H=>RO n l k t d H))) (af _ _) (ag _ _) ?_
 generalize l7 l t k d=e at *
 exact wF
theorem OO (h:Sh l t k d):cd (n+8) (.fn 51) [b5 l t k d] H=some (.tup [J0 0 l t k d,.int .i64 0],H):=by
 have h21:∀ H,cd (n+7) (.fn 21) [b5 l t k d] H=some (.int .i64 0,H):=fun H=>by rw[RO,JF h]
 refine aD (n:=n+7) Try.func51 rfl rfl rfl (U2 (n+7) l k t d (cQ t l) H) (aO _ (n+7) (bp (bp (aF _) h21) (fun H=>RT (n+6) l k t d H h.l30 h.tl))) (af _ _) (ag _ _) ?_
 unfold J0
 generalize cQ t l=g at *
 exact wF
end
end Go.Eng
end
section
namespace Go.Eng
open Go.Proofs
noncomputable def uT (s l:Nat) (t:Nat→Int) (k:Nat) (d g:Nat→Int) (j:Int):aq:=[(0,dy (s+1) l t k d g),(3,.ptr 0 0 0 0),(4,.ptr 0 1 0 0),(5,.ptr 0 2 0 0),(15,.int .i64 (Int.ofNat l)),(16,.int .i64 j)]
noncomputable def vN (s l:Nat) (t:Nat→Int) (k:Nat) (d g:Nat→Int) (j:Int):aq:=[(0,dy (s+1) l t k d g),(3,.ptr 0 0 0 0),(4,.ptr 0 1 0 0),(5,.ptr 0 2 0 0),(6,.int .i64 j),(7,.ptr 0 3 0 0),(8,.ptr 0 4 0 0),(15,.int .i64 (Int.ofNat l)),(16,.int .i64 j),(25,O4 (s+1) l t k d g j)]
noncomputable def Jk (s l:Nat) (t:Nat→Int) (k:Nat) (d g:Nat→Int) (j x:Int):aq:=[(0,dy (s+3) l t k d g),(3,.ptr 2 0 0 0),(4,.ptr 2 1 0 0),(5,.ptr 2 2 0 0),(6,.int .i64 j),(7,.ptr 2 3 0 0),(8,.ptr 2 4 0 0),(15,.int .i64 (Int.ofNat l)),(16,.int .i64 j),(25,.fn (.func 81) [] [.ptrT none (.I .i64 [j]) 0,.ptrT (some 2) (.G [dy (s+1) l t k d g]) 0]),(26,.int .i64 x)]
noncomputable def FN (x:Int):aq:=[(3,.ptr 2 0 0 0),(7,.ptr 2 3 0 0),(8,.ptr 2 4 0 0),(9,.int .i64 x)]
noncomputable def uZ (m:Nat) (y:Nat→Int) (u:Bool) (a b:Nat→Int):aT:=⟨false,[(0,.row (.G [b6 m y u])),(0,.row (.M [.arr .i64 a 30])),(0,.row (.M [.arr .i64 b 30]))]⟩
noncomputable def jI (m:Nat) (y:Nat→Int) (u:Bool) (a b:Nat→Int) (v w:Int) (L:List (Nat×ai)):aT:=⟨false,[(0,.row (.G [b6 m y u])),(0,.row (.M [.arr .i64 a 30])),(0,.row (.M [.arr .i64 b 30])),yg v,yg w]++L⟩
theorem QN (n s l k m:Nat) (t d g y:Nat→Int) (u:Bool) (a b:Nat→Int) (L:ij) (H:aa) (j x v w:Int):aJ (wS n 53 42 2 5) (il aE n 0) aG aH (part Try.f53 [1,1,0,1,0,0,1,1,0,0,1,1,0,1,0,0]) (hints (Jk s l t k d g j x)) (av::av::jI m y u a b v w [(0,.loop L)]::H) =
 Tr.ok (Ex.normal,[(3,AV.ptr 2 0 0 0,none),(7,AV.ptr 2 3 0 0,none),(8,AV.ptr 2 4 0 0,none),(9,AV.int .i64 x,none)],av::av::{ lock:=false,bs:=[(0,ai.row (Row.G [AV.slcT none (Row.M [ah.arr .i64 y m]) 1 m u])),(0,ai.row (Row.M [ah.arr .i64 a 30])),(0,ai.row (Row.M [ah.arr .i64 b 30])),(0,ai.row (Row.I .i64 [v])),(0,ai.row (Row.I .i64 [w])),(0,ai.loop L)] } :: H):=by kernel_rfl
theorem QO (n m:Nat) (y:Nat→Int) (u:Bool) (a b:Nat→Int) (L:ij) (H:aa) (x v w:Int):aJ (wS n 53 42 2 5) (il aE n 0) aG aH (part Try.f53 [1,1,0,1,0,0,1,1,0,0,1,1,0,1,0,1]) (hints (FN x)) (av::av::jI m y u a b v w [(0,.loop L)]::H) =
 Tr.req (cE x m) (Tr.req (cr (au 0 x 1) m) (Tr.req (j6 (gM 0 0) (gM 0 1)) (Tr.ok (Ex.normal,[],av::av::{ lock:=false,bs:=[(0,ai.row (Row.G [AV.slcT none (Row.M [ah.arr .i64 y m]) 1 m u])),(0,ai.row (Row.M [ah.arr .i64 a 30])),(0,ai.row (Row.M [ah.arr .i64 b 30])),(0,ai.row (Row.I .i64 [jV v (br .i64 (y (au 0 x 1)) w)])),(0,ai.row (Row.I .i64 [bA .i64 w (Int.ofNat 1)])),(0,ai.loop L)] } :: H)))):=by kernel_rfl
theorem t53 (n s l k m:Nat) (t d g y:Nat→Int) (u:Bool) (a b:Nat→Int) (H:aa) (j v w:Int):aJ (bn (n+1) 53 42) (il aE n 1) aG (LL aH (fun _=>true) (vN s l t k d g j) (jI m y u a b (y (au 0 j 1)) (Int.ofNat 0) []::H) (.ok (.normal,hints (vN s l t k d g j),jI m y u a b v w [(0,.dead)]::H))) (part Try.f53 [1,1,0,1,0,0]) (hints (uT s l t k d g j)) (uZ m y u a b::H) =
 (fun (Z0:Row)=>((fun (Z1:aq)=>((fun (Z2:aT)=>Tr.ite (bK j (Int.ofNat l)) (Tr.req (cE j m) (Tr.req (cr (au 0 j 1) m) (Tr.reqP (Z1=Z1∧Z2::H=Z2::H) (Tr.req (cE j 30) (Tr.req (b9 0 0) (Tr.req (cr (au 0 j 1) 30) (Tr.ok (Ex.normal,[(0,AV.ptrT (some (Nat.succ s)) Z0 0,none),(3,AV.ptr 0 0 0 0,none),(4,AV.ptr 0 1 0 0,none),(5,AV.ptr 0 2 0 0,none),(15,AV.int .i64 (Int.ofNat l),none),(16,AV.int .i64 (bA .i64 j (Int.ofNat 1)),none)],{ lock:=false,bs:=[(0,ai.row (Row.G [AV.slcT none (Row.M [ah.arr .i64 y m]) 1 m u])),(0,ai.row (Row.M [ah.arr .i64 a 30])),(0,ai.row (Row.M [ah.arr .i64 (fX b (au 0 j 1) v) 30])),(0,ai.row (Row.I .i64 [v])),(0,ai.row (Row.I .i64 [w])),(0,ai.dead)] } :: H)))))))) (Tr.ok (Ex.exit 0,[(0,AV.ptrT (some (Nat.succ s)) Z0 0,none),(3,AV.ptr 0 0 0 0,none),(4,AV.ptr 0 1 0 0,none),(5,AV.ptr 0 2 0 0,none),(15,AV.int .i64 (Int.ofNat l),none),(16,AV.int .i64 j,none),(17,AV.bool false,some 1)],{ lock:=false,bs:=[(0,ai.row (Row.G [AV.slcT none (Row.M [ah.arr .i64 y m]) 1 m u])),(0,ai.row (Row.M [ah.arr .i64 a 30])),(0,ai.row (Row.M [ah.arr .i64 b 30]))] } :: H))) { lock:=false,bs:=[(0,ai.row (Row.G [AV.slcT none (Row.M [ah.arr .i64 y m]) 1 m u])),(0,ai.row (Row.M [ah.arr .i64 a 30])),(0,ai.row (Row.M [ah.arr .i64 b 30])),(0,ai.row (Row.I .i64 [y (au 0 j 1)])),(0,ai.row (Row.I .i64 [Int.ofNat 0]))] })) [(0,AV.ptrT (some (Nat.succ s)) Z0 0),(3,AV.ptr 0 0 0 0),(4,AV.ptr 0 1 0 0),(5,AV.ptr 0 2 0 0),(6,AV.int .i64 j),(7,AV.ptr 0 3 0 0),(8,AV.ptr 0 4 0 0),(15,AV.int .i64 (Int.ofNat l)),(16,AV.int .i64 j),(25,AV.fn (Fn.func 81) [] [AV.ptrT none (Row.I .i64 [j]) 0,AV.ptrT (some 0) (Row.G [AV.ptrT (some (Nat.succ s)) Z0 0]) 0])])) (Row.M [ah.one (AV.slcT none (Row.M [ah.arr .i64 t l]) 1 l false),ah.one (AV.slcT none (Row.M [ah.arr .i64 d k]) 1 k false),ah.arr .i64 g 30]):=by kernel_rfl
theorem QP (n s l k m:Nat) (t d g y:Nat→Int) (u:Bool) (a b:Nat→Int) (H:aa) (j:Int):aJ (bn (n+1) 53 42) (il aE n 1) aG (LL aH (fun _=>true) [] [] .bad) (part Try.f53 [1,1,0,1,0,0]) (hints (uT s l t k d g j)) (uZ m y u a b::H) =
 (fun (Z0:Row)=>Tr.ite (bK j (Int.ofNat l)) (Tr.req (cE j m) (Tr.req (cr (au 0 j 1) m) (Tr.reqP ([(0,AV.ptrT (some (Nat.succ s)) Z0 0),(3,AV.ptr 0 0 0 0),(4,AV.ptr 0 1 0 0),(5,AV.ptr 0 2 0 0),(6,AV.int .i64 j),(7,AV.ptr 0 3 0 0),(8,AV.ptr 0 4 0 0),(15,AV.int .i64 (Int.ofNat l)),(16,AV.int .i64 j),(25,AV.fn (Fn.func 81) [] [AV.ptrT none (Row.I .i64 [j]) 0,AV.ptrT (some 0) (Row.G [AV.ptrT (some (Nat.succ s)) Z0 0]) 0])]=[]∧{ lock:=false,bs:=[(0,ai.row (Row.G [AV.slcT none (Row.M [ah.arr .i64 y m]) 1 m u])),(0,ai.row (Row.M [ah.arr .i64 a 30])),(0,ai.row (Row.M [ah.arr .i64 b 30])),(0,ai.row (Row.I .i64 [y (au 0 j 1)])),(0,ai.row (Row.I .i64 [Int.ofNat 0]))] } :: H=[]) Tr.bad))) (Tr.ok (Ex.exit 0,[(0,AV.ptrT (some (Nat.succ s)) Z0 0,none),(3,AV.ptr 0 0 0 0,none),(4,AV.ptr 0 1 0 0,none),(5,AV.ptr 0 2 0 0,none),(15,AV.int .i64 (Int.ofNat l),none),(16,AV.int .i64 j,none),(17,AV.bool false,some 1)],{ lock:=false,bs:=[(0,ai.row (Row.G [AV.slcT none (Row.M [ah.arr .i64 y m]) 1 m u])),(0,ai.row (Row.M [ah.arr .i64 a 30])),(0,ai.row (Row.M [ah.arr .i64 b 30]))] } :: H))) (Row.M [ah.one (AV.slcT none (Row.M [ah.arr .i64 t l]) 1 l false),ah.one (AV.slcT none (Row.M [ah.arr .i64 d k]) 1 k false),ah.arr .i64 g 30]):=by kernel_rfl
theorem U3 (n s l k m:Nat) (t d g y:Nat→Int) (u:Bool) (b:Nat→Int) (H:aa):aX Try.prog (cd n) 100000 53 Try.f53 (KtL.kt 53) (il aE n 0) (bS aG 0 (uT s l t k d g 0) (uZ m y u (fun x=>Int.ofNat 0) (fun x=>Int.ofNat 0)::H) (.ok (.normal,hints (uT s l t k d g (Int.ofNat l)++[(17,.bool false)]),uZ m y u (fun x=>Int.ofNat 0) b::H))) aH [(dy s l t k d g,none),(b6 m y u,none)] H =
 (fun (Z0:aq)=>((fun (Z1:aT)=>Tr.reqP (Z0=Z0∧Z1::H=Z1::H) (Tr.req (gq 0 30 0 30) (Tr.ok ((AV.agg (Row.M [ah.arr .i64 (eG (fun x=>Int.ofNat 0) 0 b 30) 30]),none),H)))) { lock:=false,bs:=[(0,ai.row (Row.G [AV.slcT none (Row.M [ah.arr .i64 y m]) 1 m u])),(0,ai.row (Row.M [ah.arr .i64 (fun x=>Int.ofNat 0) 30])),(0,ai.row (Row.M [ah.arr .i64 (fun x=>Int.ofNat 0) 30]))] })) [(0,AV.ptrT (some (Nat.succ s)) (Row.M [ah.one (AV.slcT none (Row.M [ah.arr .i64 t l]) 1 l false),ah.one (AV.slcT none (Row.M [ah.arr .i64 d k]) 1 k false),ah.arr .i64 g 30]) 0),(3,AV.ptr 0 0 0 0),(4,AV.ptr 0 1 0 0),(5,AV.ptr 0 2 0 0),(15,AV.int .i64 (Int.ofNat l)),(16,AV.int .i64 (Int.ofNat 0))]:=by kernel_rfl
theorem Sb:∀ b,(0,b) ∈ aI (bj Try.f53)→b=.loop (part Try.f53 [1,1,0,1,0,0]):=ep (by kernel_rfl)
theorem ua {n d i:Nat} {args:List AV} {H H2 R:aa} {l l2:ij} {fr fr1 fr2:aq} {lv:aT}
 (hg:ar H d i=(0,.loop l)) (hl:aw H d=false) (hs:l.state=.ready) (hp:lX l.nt (mR (d+1) l.fr) l.params (args.map (fM 1))=some fr)
 (h1:exec (wS n l.fn l.nt (d+1) i) l.assign fr (av::H)=some (.normal,fr1,av::H))
 (h2:exec (wS n l.fn l.nt (d+1) i) l.body fr1 (eI (av::H) (d+1) i (0,.loop { l with state:=.busy }))=some (.normal,fr2,lv::H2)) (hg2:ar H2 d i=(0,.loop l2)) (hR:R=eI H2 d i (0,.loop { l2 with state:=.ready,pending:=none })) :
 cd (n+1) (.round d i) args H=some (.bool true,R):=by
 rw[hR]
 exact GL (P:=Try.prog) (ora:=lF) (KT:=KtL.kt) (fu:=100000) (e:=.normal) hg hl hs hp h1 (by rw[show ar (av::H) (d+1) i=ar H d i from rfl];exact hg) hs h2 hg2
theorem qe {n f nt d i:Nat} {c:Code} {callR:bJ} {bl:ik} {rg:sl} {fr:aq} {H:aa} {T:Tr oE} (e:aJ (wS n f nt d i) callR bl rg c (hints fr) H=T) (hC:callR.Ok (cd n)) (hB:bl.Ok (wS n f nt d i) c) (hR:rg.Ok (wS n f nt d i) c) {y:Ex×aq×aa} (h:T.all fun x=>x.st=y):exec (wS n f nt d i) c fr H=some y:=by
 obtain ⟨x,h1,rfl⟩:=h
 have:=oX (cx:=wS n f nt d i) hC c hB hR (hints fr) H x (by rw[e];exact h1)
 rw[iy] at this;exact this
noncomputable def H5:Code:=part Try.f53 [1,1,0,1,0,0,1,1,0,0,1,1,0,1,0,0]
noncomputable def H6:Code:=part Try.f53 [1,1,0,1,0,0,1,1,0,0,1,1,0,1,0,1]
theorem UN:eB (part Try.f53 [1,1,0,1,0,0])=[(.tmp 25,#[26],H5,H6)]:=by kernel_rfl
noncomputable def mM (s l:Nat) (t:Nat→Int) (k:Nat) (d g:Nat→Int) (j:Int):ij:={ state:=.ready,pending:=none,fn:=53,nt:=42,fr:=vN s l t k d g j,params:=[26],assign:=H5,body:=H6 }
def D3 (t e:Nat→Int) (i:Nat):Nat→Int
 | 0=>e i
 | m+1=>min (D3 t e i m) (e (bE t m (i:Int)).toNat-(m:Int))
def nZ (l:Nat) (t e:Nat→Int) (i:Nat):Int:=D3 t e i (eP l t i)
section
variable (n s l k m:Nat) (t d g y:Nat→Int) (u:Bool) (a b:Nat→Int) (H:aa) (i:Nat)
theorem Qy (j x v w:Int) (hx:0≤x) (hm:x<m) (hv:-1000≤v∧v≤1000) (hw:0≤w∧w≤1000) (hy:-1000≤y x.toNat∧y x.toNat≤1000) :
 cd (n+1) (.round 1 5) [.int .i64 x] (av::jI m y u a b v w [(0,.loop (mM s l t k d g j))]::H)=some (.bool true,av::jI m y u a b (min v (y x.toNat-w)) (w+1) [(0,.loop (mM s l t k d g j))]::H):=by
 have h1:exec (wS n 53 42 2 5) H5 (Jk s l t k d g j x) (av::av::jI m y u a b v w [(0,.loop (mM s l t k d g j))]::H)=some (.normal,FN x,av::av::jI m y u a b v w [(0,.loop (mM s l t k d g j))]::H) :=
  qe (QN n s l k m t d g y u a b _ H j x v w) (ao n) (af _ _) (ag _ _) (Tr.bf rfl)
 have h2:exec (wS n 53 42 2 5) H6 (FN x) (av::av::jI m y u a b v w [(0,.loop { mM s l t k d g j with state:=.busy })]::H)=some (.normal,[],av::av::jI m y u a b (min v (y x.toNat-w)) (w+1) [(0,.loop { mM s l t k d g j with state:=.busy })]::H):=by
  refine qe (QO n m y u a b _ H x v w) (ao n) (af _ _) (ag _ _) ?_
  have e1:br .i64 (y x.toNat) w=y x.toNat-w:=qM (by omega) (by omega)
  have e2:bA .i64 w (Int.ofNat 1)=w+1:=EJ (by show _≤w+1;omega) (by show w+1≤_;omega)
  rw[LH hx,e1,e2,jq]
  generalize mM s l t k d g j=L at *
  generalize y x.toNat=q at *
  generalize min v (q-w)=V at *
  exact wF
 exact ua (l:=mM s l t k d g j) (l2:={ mM s l t k d g j with state:=.busy }) rfl rfl rfl rfl h1 h2 rfl rfl
theorem Gc {t e:Nat→Int} {i:Nat} {l:Nat} (hy:∀ j,j<l→-900≤e j∧e j≤900) (hi:i<l) (ht:∀ j,j<l→t j<l):∀ m,m≤31→(∀ q,q<m→0≤bE t q (i:Int))→-1000≤D3 t e i m∧D3 t e i m≤1000
 | 0,_,_=>by have:=hy i hi;show -1000≤e i∧e i≤1000;omega
 | m+1,hm,hp=>by
   have ih:=Gc hy hi ht m (by omega) (fun q hq=>hp q (by omega))
   have h1:=hp m (by omega)
   have h2:=fz ht (show (i:Int)<l by omega) m
   have h3:=hy (bE t m (i:Int)).toNat (by omega)
   show -1000≤min (D3 t e i m) _∧min (D3 t e i m) _≤1000
   omega
theorem Vw (hl:l≤30) (hm:m=l) (ht:∀ j,j<l→t j<l) (hi:i<l) (hc:iF l t=false) (hy:∀ j,j<l→-900≤y j∧y j≤900) :
 exec (bn (n+2) 53 42) (.rangeFunc (.tmp 25) #[26] H5 H6) (vN s l t k d g (i:Nat)) (jI m y u a b (y i) 0 []::H)=some (.normal,vN s l t k d g (i:Nat),jI m y u a b (nZ l t y i) (eP l t i:Nat) [(0,.dead)]::H):=by
 subst hm
 obtain ⟨e1,e2,e3⟩:=jS hc i hi
 exact Aa (cx:=bn (n+2) 53 42) (l:=mM s m t k d g (i:Nat)) (f:=.tmp 25) (ps:=#[26]) (fr:=vN s m t k d g (i:Nat)) (H:=jI m y u a b (y i) 0 []::H) (g:=81) (a:=[]) (b:=[.ptrT none (.I .i64 [(i:Int)]) 0,.ptrT (some 0) (.G [dy (s+1) m t k d g]) 0]) rfl rfl rfl
  (L8 (n+1) m k t d g i (eP m t i) (fun c=>jI m y u a b (D3 t y i c) (c:Nat) [(0,.loop (mM s m t k d g (i:Nat)))]::H) (s+1) (by omega) e2 e3 ht (by omega) hi (fun c hc=>by
    have h1:=e2 c hc
    have h2:=fz ht (show (i:Int)<m by omega) c
    have h3:=hy (bE t c (i:Int)).toNat (by omega)
    exact Qy n s m k m t d g y u a b H _ _ _ _ h1 h2 (Gc hy hi ht c (by omega) (fun q hq=>e2 q (by omega))) (by omega) (by omega))) rfl rfl rfl
theorem Lz (z:Nat→Int) (j:Nat):fX (fun i=>if i<j then z i else 0) j (z j)=fun i=>if i<j+1 then z i else 0:=by
 rw[ig];funext i
 show (if i=j then z j else if i<j then z i else 0)=_
 by_cases c:i=j
 · subst c;rw[if_pos rfl,if_pos (by omega)]
 · rw[if_neg c]
   by_cases c2:i<j
   · rw[if_pos c2,if_pos (by omega)]
   · rw[if_neg c2,if_neg (by omega)]
def nD (l:Nat) (t e:Nat→Int) (j:Nat):Nat→Int:=fun i=>if i<j then nZ l t e i else 0
theorem Ut (hl:l≤30) (hm:m=l) (ht:∀ j,j<l→t j<l) (hc:iF l t=false) (hy:∀ j,j<l→-900≤y j∧y j≤900) :
 exec (bn (n+2) 53 42) (.block 0 (.loop (part Try.f53 [1,1,0,1,0,0]))) (uT s l t k d g 0) (uZ m y u a (fun x=>Int.ofNat 0)::H)=some (.normal,uT s l t k d g (Int.ofNat l)++[(17,.bool false)],uZ m y u a (nD l t y l)::H):=by
 refine jf (n:=n+2) (f:=53) (nt:=42) (c:=part Try.f53 [1,1,0,1,0,0]) 0 (fun j=>uT s l t k d g (j:Nat)) (fun j=>uZ m y u a (nD l t y j)::H) l (uT s l t k d g (Int.ofNat l)++[(17,.bool false)],uZ m y u a (nD l t y l)::H) (by omega) (fun j hj=>?_) ?_
 · have hx:=Vw n s l k m t d g y u a (nD l t y j) H j hl hm ht hj hc hy
   have he:=t53 (n+1) s l k m t d g y u a (nD l t y j) H (j:Nat) (nZ l t y j) (eP l t j:Nat)
   rw[iS] at he
   refine aB he (ku (n+1) 1) (af _ _) (xQ (ag _ _) (fun f ps a b _ hm x hx2=>?_)) ?_
   · rw[UN] at hm
     simp only[List.mem_cons,Prod.mk.injEq,List.not_mem_nil,or_false] at hm
     obtain ⟨rfl,rfl,rfl,rfl⟩:=hm
     rw[← Tr.ab hx2];exact hx
   · show Tr.all _ (fun x=>_∧tidy _ _ _=(uT s l t k d g ((j+1:Nat):Int),uZ m y u a (nD l t y (j+1))::H))
     have hu:fX (nD l t y j) j (nZ l t y j)=nD l t y (j+1):=Lz (nZ l t y) j
     have e1:ur (au 2 (j:Int) 1) 2=j:=by rw[ln,lK];omega
     rw[c7 (by omega)]
     simp only[e1,hu,iS]
     generalize nZ l t y j=V at *
     generalize nD l t y (j+1)=Y2 at *
     generalize nD l t y j=Y1 at *
     exact wF
 · obtain ⟨x,h1,rfl⟩:=aB (Q:=fun x=>x=(.exit 0,uT s l t k d g (Int.ofNat l)++[(17,.bool false)],uZ m y u a (nD l t y l)::H)) (QP (n+1) s l k m t d g y u a (nD l t y l) H (Int.ofNat l)) (ku (n+1) 1) (af _ _) (xQ (ag _ _) (fun f ps a b _ hm x hx2=>(Tr.ae hx2).elim)) (by
    refine Tr.bm (fun hc=>?_) (fun hc=>Tr.bf rfl)
    simp (disch:=omega) only[nV,nW] at hc;omega)
   exact h1
theorem OP (hl:l≤30) (hm:m=l) (ht:∀ j,j<l→t j<l) (hc:iF l t=false) (hy:∀ j,j<l→-900≤y j∧y j≤900) :
 cd (n+3) (.fn 53) [dy s l t k d g,b6 m y u] H=some (.agg (.M [.arr .i64 (bG (nD l t y l)) 30]),H):=by
 have hx:=Ut n s l k m t d g y u (fun x=>Int.ofNat 0) H hl hm ht hc hy
 refine aD (n:=n+2) Try.func53 rfl rfl rfl (U3 (n+2) s l k m t d g y u (nD l t y l) H) (ao _) (aA (af _ _) Sb (fun x hy=>bN hy hx)) (ag _ _) ?_
 generalize nD l t y l=Y at *
 exact wF
end
end Go.Eng
end
section
namespace Go.Eng
open Go.Proofs
noncomputable def w8 (s l:Nat) (t:Nat→Int) (k:Nat) (d g:Nat→Int) (x f j:Int):aq:=[(0,dy (s+1) l t k d g),(2,.int .i64 x),(7,.ptr 0 0 0 0),(8,.int .i64 f),(15,.int .i64 j)]
noncomputable def re (s l:Nat) (t:Nat→Int) (k:Nat) (d g:Nat→Int) (x f T c j:Int):aq:=[(0,dy (s+1) l t k d g),(2,.int .i64 x),(7,.ptr 0 0 0 0),(8,.int .i64 f),(9,.int .i64 T),(10,.int .i64 c),(15,.int .i64 T),(23,.int .i64 (Int.ofNat l)),(24,.int .i64 j)]
theorem NM (n s l k:Nat) (t d g z:Nat→Int) (H:aa) (x f T c j:Int):aJ (bn n 69 43) (il aE n 0) aG aH (part Try.f69 [1,0,1,1,1,0,1,0,0,1,1,0,0,1,1,1,0,0]) (hints (re s l t k d g x f T c j)) (gN z::H) =
 (fun (Z0:Nat×AV×Option Nat)=>((fun (Z1:aT)=>Tr.ite (bK j (Int.ofNat l)) (Tr.req (cE j 30) (Tr.req (b9 0 0) (Tr.req (cr (au 0 j 1) 30) (Tr.ite (bK T (z (au 0 j 1))) (Tr.ok (Ex.normal,[Z0,(2,AV.int .i64 x,none),(7,AV.ptr 0 0 0 0,none),(8,AV.int .i64 f,none),(9,AV.int .i64 T,none),(10,AV.int .i64 c,none),(15,AV.int .i64 T,none),(23,AV.int .i64 (Int.ofNat l),none),(24,AV.int .i64 (bA .i64 j (Int.ofNat 1)),none)],Z1::H)) (Tr.ite (bK (D8 .i64 x T) (bA .i64 c (Int.ofNat 1))) (Tr.ok (Ex.exit 0,[(8,AV.int .i64 T,none)],Z1::H)) (Tr.ok (Ex.normal,[Z0,(2,AV.int .i64 x,none),(7,AV.ptr 0 0 0 0,none),(8,AV.int .i64 f,none),(9,AV.int .i64 T,none),(10,AV.int .i64 (bA .i64 c (Int.ofNat 1)),none),(15,AV.int .i64 T,none),(23,AV.int .i64 (Int.ofNat l),none),(24,AV.int .i64 (bA .i64 j (Int.ofNat 1)),none)],Z1::H))))))) (Tr.ok (Ex.exit 2,[Z0,(2,AV.int .i64 x,none),(7,AV.ptr 0 0 0 0,none),(8,AV.int .i64 f,none),(9,AV.int .i64 T,none),(10,AV.int .i64 c,none),(15,AV.int .i64 T,none),(23,AV.int .i64 (Int.ofNat l),none),(24,AV.int .i64 j,none),(25,AV.bool false,some 1)],Z1::H))) { lock:=false,bs:=[(0,ai.row (Row.M [ah.arr .i64 z 30]))] })) (0,AV.ptrT (some (Nat.succ s)) (Row.M [ah.one (AV.slcT none (Row.M [ah.arr .i64 t l]) 1 l false),ah.one (AV.slcT none (Row.M [ah.arr .i64 d k]) 1 k false),ah.arr .i64 g 30]) 0,none):=by kernel_rfl
theorem t69 (n s l k:Nat) (t d g z:Nat→Int) (H:aa) (x f j c:Int) (b:Bool):aJ (bn n 69 43) (il aE n 0) (bS aG 2 (re s l t k d g x f j 0 0) (gN z::H) (.ite b (.ok (.exit 0,hints [(8,.int .i64 j)],gN z::H)) (.ok (.normal,hints (re s l t k d g x f j c (Int.ofNat l)++[(25,.bool false)]),gN z::H)))) aH (part Try.f69 [1,0,1,1,1,0,1,0,0]) (hints (w8 s l t k d g x f j)) (gN z::H) =
 (fun (Z0:Row)=>((fun (Z1:aT)=>((fun (Z2:aq)=>Tr.ite (bK j (Int.ofNat 41)) (Tr.reqP (Z2=Z2∧Z1::H=Z1::H) (Tr.ite b (Tr.ok (Ex.exit 0,[(8,AV.int .i64 j,none)],Z1::H)) (Tr.ok (Ex.normal,[(0,AV.ptrT (some (Nat.succ s)) Z0 0,none),(2,AV.int .i64 x,none),(7,AV.ptr 0 0 0 0,none),(8,AV.int .i64 f,none),(15,AV.int .i64 (bA .i64 j (Int.ofNat 1)),none)],Z1::H)))) (Tr.ok (Ex.exit 0,[(0,AV.ptrT (some (Nat.succ s)) Z0 0,none),(2,AV.int .i64 x,none),(7,AV.ptr 0 0 0 0,none),(8,AV.int .i64 f,none),(15,AV.int .i64 j,none),(16,AV.bool false,some 1)],Z1::H))) [(0,AV.ptrT (some (Nat.succ s)) Z0 0),(2,AV.int .i64 x),(7,AV.ptr 0 0 0 0),(8,AV.int .i64 f),(9,AV.int .i64 j),(10,AV.int .i64 (Int.ofNat 0)),(15,AV.int .i64 j),(23,AV.int .i64 (Int.ofNat l)),(24,AV.int .i64 (Int.ofNat 0))])) { lock:=false,bs:=[(0,ai.row (Row.M [ah.arr .i64 z 30]))] })) (Row.M [ah.one (AV.slcT none (Row.M [ah.arr .i64 t l]) 1 l false),ah.one (AV.slcT none (Row.M [ah.arr .i64 d k]) 1 k false),ah.arr .i64 g 30]):=by kernel_rfl
theorem QT (n s l k:Nat) (t d g z:Nat→Int) (H:aa) (x f j:Int):aJ (bn n 69 43) (il aE n 0) (nK aG 2) aH (part Try.f69 [1,0,1,1,1,0,1,0,0]) (hints (w8 s l t k d g x f j)) (gN z::H) =
 Tr.ite (bK j (Int.ofNat 41)) Tr.bad (Tr.ok (Ex.exit 0,[(0,AV.ptrT (some (Nat.succ s)) (Row.M [ah.one (AV.slcT none (Row.M [ah.arr .i64 t l]) 1 l false),ah.one (AV.slcT none (Row.M [ah.arr .i64 d k]) 1 k false),ah.arr .i64 g 30]) 0,none),(2,AV.int .i64 x,none),(7,AV.ptr 0 0 0 0,none),(8,AV.int .i64 f,none),(15,AV.int .i64 j,none),(16,AV.bool false,some 1)],{ lock:=false,bs:=[(0,ai.row (Row.M [ah.arr .i64 z 30]))] } :: H)):=by kernel_rfl
theorem Ve (n s l k m:Nat) (t d g y z:Nat→Int) (u:Bool) (H:aa) (x r:Int) (R:aN):aX Try.prog (cd n) 100000 69 Try.f69 (KtL.kt 69) (il (tX aE 53 [dy (s+1) l t k d g,b6 m y u] (.agg (.M [.arr .i64 z 30]))) n 0) (bS aG 0 (w8 s l t k d g x (-1) 0) (gN (bG z)::H) (.ok (.normal,(8,.int .i64 r,none)::[],gN (bG z)::H))) aH [(dy s l t k d g,none),(b6 m y u,none),(.int .i64 x,none)] H =
 (fun (Z0:Row)=>((fun (Z1:aq)=>((fun (Z2:aT)=>Tr.reqP ([AV.ptrT (some (Nat.succ s)) Z0 0,AV.slcT none (Row.M [ah.arr .i64 y m]) 1 m u]=[AV.ptrT (some (Nat.succ s)) Z0 0,AV.slcT none (Row.M [ah.arr .i64 y m]) 1 m u]) (Tr.req (gq 0 30 0 30) (Tr.reqP (Z1=Z1∧Z2::H=Z2::H) (Tr.ok ((AV.int .i64 r,none),H))))) { lock:=false,bs:=[(0,ai.row (Row.M [ah.arr .i64 (eG (fun x=>Int.ofNat 0) 0 z 30) 30]))] })) [(0,AV.ptrT (some (Nat.succ s)) Z0 0),(2,AV.int .i64 x),(7,AV.ptr 0 0 0 0),(8,AV.int .i64 (Int.negSucc 0)),(15,AV.int .i64 (Int.ofNat 0))])) (Row.M [ah.one (AV.slcT none (Row.M [ah.arr .i64 t l]) 1 l false),ah.one (AV.slcT none (Row.M [ah.arr .i64 d k]) 1 k false),ah.arr .i64 g 30]):=by kernel_rfl
theorem Rj (n s l k m:Nat) (t d g y z:Nat→Int) (u:Bool) (H:aa) (x:Int):aX Try.prog (cd n) 100000 69 Try.f69 (KtL.kt 69) (il (tX aE 53 [dy (s+1) l t k d g,b6 m y u] (.agg (.M [.arr .i64 z 30]))) n 0) (bS aG 0 (w8 s l t k d g x (-1) 0) (gN (bG z)::H) (.ok (.normal,hints (w8 s l t k d g x (-1) 41++[(16,.bool false)]),gN (bG z)::H))) aH [(dy s l t k d g,none),(b6 m y u,none),(.int .i64 x,none)] H =
 (fun (Z0:Row)=>((fun (Z1:aq)=>((fun (Z2:aT)=>Tr.reqP ([AV.ptrT (some (Nat.succ s)) Z0 0,AV.slcT none (Row.M [ah.arr .i64 y m]) 1 m u]=[AV.ptrT (some (Nat.succ s)) Z0 0,AV.slcT none (Row.M [ah.arr .i64 y m]) 1 m u]) (Tr.req (gq 0 30 0 30) (Tr.reqP (Z1=Z1∧Z2::H=Z2::H) (Tr.ok ((AV.int .i64 (Int.negSucc 0),none),H))))) { lock:=false,bs:=[(0,ai.row (Row.M [ah.arr .i64 (eG (fun x=>Int.ofNat 0) 0 z 30) 30]))] })) [(0,AV.ptrT (some (Nat.succ s)) Z0 0),(2,AV.int .i64 x),(7,AV.ptr 0 0 0 0),(8,AV.int .i64 (Int.negSucc 0)),(15,AV.int .i64 (Int.ofNat 0))])) (Row.M [ah.one (AV.slcT none (Row.M [ah.arr .i64 t l]) 1 l false),ah.one (AV.slcT none (Row.M [ah.arr .i64 d k]) 1 k false),ah.arr .i64 g 30]):=by kernel_rfl
theorem RL:∀ b,(0,b) ∈ aI (bj Try.f69)→b=.loop (part Try.f69 [1,0,1,1,1,0,1,0,0]):=ep (by kernel_rfl)
theorem OJ:∀ b,(2,b) ∈ aI (part Try.f69 [1,0,1,1,1,0,1,0,0])→b=.loop (part Try.f69 [1,0,1,1,1,0,1,0,0,1,1,0,0,1,1,1,0,0]):=ep (by kernel_rfl)
def Fv (l:Nat) (t e:Nat→Int) (T:Int):Nat:=cn (fun i=>decide (nZ l t e i≤T)) l
def Fu (l:Nat) (t e:Nat→Int) (h T:Int):Bool:=decide (h*T<Fv l t e T)
def yh (l:Nat) (t e:Nat→Int) (h:Int):Int:=Cu (fun T=>Fu l t e h (T:Nat)) 41
theorem O5 {n f nt:Nat} {c:Code} (id:Nat) (e:Ex) (F:Nat→aq) (G:Nat→aa) (N:Nat) (p:Nat→Bool) (X:Nat→aq×aa) (Y:aq×aa) (hN:N<99999) (hne:e≠.normal) (xg:∀ id',e=.exit id'→Nat.beq id' id=false) (hc:(match e with | .normal=>false | _=>true)=true)
 (hs:∀ j,j<N→∃ x,exec (bn n f nt) c (F j) (G j)=some x∧if p j=true then x=(e,X j) else x.1=.normal∧tidy (al (G 0)) x.2.1 x.2.2=(F (j+1),G (j+1)))
 (he:exec (bn n f nt) c (F N) (G N)=some (.exit id,Y)):exec (bn n f nt) (.block id (.loop c)) (F 0) (G 0)=some (cond (bV p N) (e,X (fN p N 0)) (.normal,Y)):=by
 have key:=m5 (body:=exec (bn n f nt) c) (n:=al (G 0)) F G N p (fun j=>if j<N then (e,X j) else (.exit id,Y))
  (fun j hj hp=>by
    obtain ⟨x,h1,h2⟩:=hs j hj
    rw[if_neg (by rw[hp];simp)] at h2
    obtain ⟨e,f1,g1⟩:=x
    obtain ⟨rfl,h3⟩:=h2
    exact ⟨_,_,h1,h3⟩)
  (fun j hj hp=>by
    obtain ⟨x,h1,h2⟩:=hs j hj
    rw[if_pos hp] at h2
    subst h2
    rw[if_pos hj]
    exact ⟨h1,hne⟩)
  (by
    rw[if_neg (by omega)]
    exact ⟨he,by simp⟩) N 0 100000 (by omega) (by omega)
 cases hc:bV p N with
 | true =>
   have:=je hc
   rw[if_pos this] at key
   exact eH xg key
 | false =>
   have:=qd hc
   rw[if_neg (by omega)] at key
   exact ey key
theorem O6 {n f nt:Nat} {c:Code} (id:Nat) (F:Nat→aq) (G:Nat→aa) (N:Nat) (p:Nat→Bool) (X:Nat→aq×aa) (Y:aq×aa) (hN:N<99999)
 (hs:∀ j,j<N→∃ x,exec (bn n f nt) c (F j) (G j)=some x∧if p j=true then x=(.exit id,X j) else x.1=.normal∧tidy (al (G 0)) x.2.1 x.2.2=(F (j+1),G (j+1)))
 (he:exec (bn n f nt) c (F N) (G N)=some (.exit id,Y)):exec (bn n f nt) (.block id (.loop c)) (F 0) (G 0)=some (.normal,cond (bV p N) (X (fN p N 0)) Y):=by
 have key:=m5 (body:=exec (bn n f nt) c) (n:=al (G 0)) F G N p (fun j=>if j<N then (.exit id,X j) else (.exit id,Y))
  (fun j hj hp=>by
    obtain ⟨x,h1,h2⟩:=hs j hj
    rw[if_neg (by rw[hp];simp)] at h2
    obtain ⟨e,f1,g1⟩:=x
    obtain ⟨rfl,h3⟩:=h2
    exact ⟨_,_,h1,h3⟩)
  (fun j hj hp=>by
    obtain ⟨x,h1,h2⟩:=hs j hj
    rw[if_pos hp] at h2
    subst h2
    rw[if_pos hj]
    exact ⟨h1,by simp⟩)
  (by
    rw[if_neg (by omega)]
    exact ⟨he,by simp⟩) N 0 100000 (by omega) (by omega)
 cases hc:bV p N with
 | true =>
   have:=je hc
   rw[if_pos this] at key
   exact ey key
 | false =>
   have:=qd hc
   rw[if_neg (by omega)] at key
   exact ey key
theorem wO {l:Nat} {z:Nat→Int} {j:Nat} (h:j<30):bG (bG z) j=z j:=by rw[mX _ _ h,mX _ _ h]
theorem Bp {l:Nat} {t e:Nat→Int} {j:Nat} (h:j<l):nD l t e l j=nZ l t e j:=by unfold nD;rw[if_pos h]
theorem Fk (p:Nat→Bool) (q:Int) (hq:0≤q):∀ l,bV (fun j=>p j && decide (q<(cn p j:Int)+1)) l=decide (q<(cn p l:Nat))
 | 0=>by
   rw[jT (fun j hj=>absurd hj (by omega))]
   exact (decide_eq_false (by show ¬ q<((0:Nat):Int);omega)).symm
 | l + 1 => by
   have ih:=Fk p q hq l
   have e:cn p (l+1)=cn p l+(p l).toNat:=rfl
   by_cases c:q<(cn p l:Nat)
   · rw[decide_eq_true c] at ih
     obtain ⟨j,hj,e2⟩:=(dm _ _).1 ih
     rw[(dm _ _).2 ⟨j,by omega,e2⟩,decide_eq_true (by omega)]
   · rw[decide_eq_false c] at ih
     have hn:=dR ih
     cases hp:p l with
     | true =>
       rw[hp] at e
       simp only[Bool.toNat_true] at e
       by_cases c2:q<((cn p (l+1):Nat):Int)
       · rw[decide_eq_true c2]
         exact (dm _ _).2 ⟨l,by omega,by simp only[hp,Bool.true_and,decide_eq_true_eq];omega⟩
       · rw[decide_eq_false c2]
         refine jT (fun j hj=>?_)
         by_cases ej:j=l
         · subst ej;simp only[hp,Bool.true_and,decide_eq_false_iff_not];omega
         · exact hn j (by omega)
     | false =>
       rw[hp] at e
       simp only[Bool.toNat_false,Nat.add_zero] at e
       rw[e,decide_eq_false c]
       refine jT (fun j hj=>?_)
       by_cases ej:j=l
       · subst ej;simp only[hp,Bool.false_and]
       · exact hn j (by omega)
section
variable (n s l k m:Nat) (t d g y:Nat→Int) (u:Bool) (H:aa) (h:Int)
theorem PX (z:Nat→Int) (f T:Int) (hl:l≤30) (hh:0≤h∧h≤1000) (hT:0≤T∧T≤1000):∃ c,exec (bn n 69 43) (.block 2 (.loop (part Try.f69 [1,0,1,1,1,0,1,0,0,1,1,0,0,1,1,1,0,0]))) (re s l t k d g h f T 0 0) (gN z::H)=some (cond (decide (h*T<(cn (fun i=>decide (z i≤T)) l:Nat))) (.exit 0,[(8,.int .i64 T)],gN z::H) (.normal,re s l t k d g h f T c (Int.ofNat l)++[(25,.bool false)],gN z::H)):=by
 have hm:=Int.mul_nonneg hh.1 hT.1
 have hm2:h*T≤1000*1000:=Int.mul_le_mul hh.2 hT.2 hT.1 (by omega)
 refine ⟨(cn (fun i=>decide (z i≤T)) l:Nat),?_⟩
 rw[← Fk _ _ hm l]
 refine O5 (n:=n) (f:=69) (nt:=43) (c:=part Try.f69 [1,0,1,1,1,0,1,0,0,1,1,0,0,1,1,1,0,0]) 2 (.exit 0) (fun j=>re s l t k d g h f T (cn (fun i=>decide (z i≤T)) j:Nat) (j:Nat)) (fun _=>gN z::H) l (fun j=>decide (z j≤T) && decide (h*T<(cn (fun i=>decide (z i≤T)) j:Int)+1)) (fun j=>([(8,.int .i64 T)],gN z::H)) _ (by omega) (by simp) (fun id' h=>by cases h;rfl) rfl (fun j hj=>?_) ?_
 · refine aB (NM n s l k t d g z H h f T (cn (fun i=>decide (z i≤T)) j:Nat) (j:Nat)) (ao n) (af _ _) (ag _ _) ?_
   have hle:=oO (fun i=>decide (z i≤T)) j
   have em:D8 .i64 h T=h*T:=by rw[pC];exact rM (by omega) (by omega)
   show Tr.all _ (fun r=>if (decide (z j≤T) && decide (h*T<(cn (fun i=>decide (z i≤T)) j:Int)+1))=true then _ else _∧tidy _ _ _=(re s l t k d g h f T ((cn (fun i=>decide (z i≤T)) j+(decide (z j≤T)).toNat:Nat):Int) ((j+1:Nat):Int),_))
   rw[c7 (j:=j) (by omega),c7 (by omega)]
   simp only[iS,em]
   generalize cn (fun i=>decide (z i≤T)) j=C at *
   generalize z j=q at *
   generalize h*T=P at *
   by_cases c:q≤T
   · by_cases c2:P<(C:Int)+1
     · simp only[decide_eq_true c,decide_eq_true c2,Bool.and_self,if_true]
       exact wF
     · simp only[decide_eq_true c,decide_eq_false c2,Bool.and_false,Bool.false_eq_true,if_false]
       exact wF
   · simp only[decide_eq_false c,Bool.false_and,Bool.false_eq_true,if_false]
     exact wF
 · obtain ⟨r,h1,rfl⟩:=aB (Q:=fun r=>r=(.exit 2,re s l t k d g h f T (cn (fun i=>decide (z i≤T)) l:Nat) (Int.ofNat l)++[(25,.bool false)],gN z::H)) (NM n s l k t d g z H h f T (cn (fun i=>decide (z i≤T)) l:Nat) (Int.ofNat l)) (ao n) (af _ _) (ag _ _) (by
    refine Tr.bm (fun hc=>?_) (fun hc=>Tr.bf rfl)
    simp (disch:=omega) only[nV,nW] at hc;omega)
   exact h1
theorem Ux (z:Nat→Int) (hl:l≤30) (hh:0≤h∧h≤1000):exec (bn n 69 43) (.block 0 (.loop (part Try.f69 [1,0,1,1,1,0,1,0,0]))) (w8 s l t k d g h (-1) 0) (gN z::H)=some (.normal,cond (bV (fun T=>decide (h*(T:Int)<(cn (fun i=>decide (z i≤(T:Int))) l:Nat))) 41) ([(8,.int .i64 (fN (fun T=>decide (h*(T:Int)<(cn (fun i=>decide (z i≤(T:Int))) l:Nat))) 41 0:Nat))],gN z::H) (w8 s l t k d g h (-1) 41++[(16,.bool false)],gN z::H)):=by
 refine O6 (n:=n) (f:=69) (nt:=43) (c:=part Try.f69 [1,0,1,1,1,0,1,0,0]) 0 (fun j=>w8 s l t k d g h (-1) (j:Nat)) (fun _=>gN z::H) 41 (fun T=>decide (h*(T:Int)<(cn (fun i=>decide (z i≤(T:Int))) l:Nat))) (fun j=>([(8,.int .i64 (j:Nat))],gN z::H)) _ (by omega) (fun j hj=>?_) ?_
 · obtain ⟨c,hx⟩:=PX n s l k t d g H h z (-1) (j:Nat) hl hh (by omega)
   have hp:(decide (h*(j:Int)<(cn (fun i=>decide (z i≤(j:Int))) l:Nat)))=(decide (h*(j:Int)<(cn (fun i=>decide (z i≤(j:Int))) l:Nat))):=rfl
   generalize hb:(decide (h*(j:Int)<(cn (fun i=>decide (z i≤(j:Int))) l:Nat)))=b at hx hp ⊢
   refine aB (t69 n s l k t d g z H h (-1) (j:Nat) c b) (ao n) (aA (af _ _) OJ (fun x hy=>dk hy hx)) (ag _ _) ?_
   show Tr.all _ (fun r=>if b=true then _ else _)
   rw[c7 (j:=j) (by omega)]
   cases b with
   | true =>
     simp only[if_true]
     exact wF
   | false =>
     simp only[Bool.false_eq_true,if_false]
     exact wF
 · obtain ⟨r,h1,rfl⟩:=aB (Q:=fun r=>r=(.exit 0,w8 s l t k d g h (-1) 41++[(16,.bool false)],gN z::H)) (QT n s l k t d g z H h (-1) 41) (ao n) (fc (af _ _) 2) (ag _ _) (by
    refine Tr.bm (fun hc=>?_) (fun hc=>Tr.bf rfl)
    simp (disch:=omega) only[nV,nW] at hc;omega)
   exact h1
theorem OS (hl:l≤30) (hm:m=l) (ht:∀ j,j<l→t j<l) (hc:iF l t=false) (hy:∀ j,j<l→-900≤y j∧y j≤900) (hh:0≤h∧h≤1000) :
 cd (n+4) (.fn 69) [dy s l t k d g,b6 m y u,.int .i64 h] H=some (.int .i64 (yh l t y h),H):=by
 have hx:=Ux (n+3) s l k t d g H h (bG (bG (nD l t y l))) hl hh
 rw[show (fun T:Nat=>decide (h*(T:Int)<(cn (fun i=>decide (bG (bG (nD l t y l)) i≤(T:Int))) l:Nat)))=fun T:Nat=>Fu l t y h (T:Nat) from by
  funext T
  rw[eT (q:=fun i=>decide (nZ l t y i≤(T:Nat))) (fun j hj=>by rw[wO (l:=l) (by omega),Bp hj])]
  rfl] at hx
 have hC:(tX aE 53 [dy (s+1) l t k d g,b6 m y u] (.agg (.M [.arr .i64 (bG (nD l t y l)) 30]))).Ok (cd (n+3)):=bp (aF _) (fun H=>OP n (s+1) l k m t d g y u H hl hm ht hc hy)
 cases e:bV (fun T:Nat=>Fu l t y h (T:Nat)) 41 with
 | true =>
   rw[e] at hx
   have hr:yh l t y h=(fN (fun T:Nat=>Fu l t y h (T:Nat)) 41 0:Nat):=by unfold yh Cu;rw[if_pos e]
   rw[← hr] at hx
   refine aD (n:=n+3) Try.func69 rfl rfl rfl (Ve (n+3) s l k m t d g y (bG (nD l t y l)) u H h (yh l t y h) []) (aO _ (n+3) hC) (aA (af _ _) RL (fun x hy=>bN hy hx)) (ag _ _) ?_
   generalize bG (nD l t y l)=z at *
   generalize yh l t y h=C at *
   exact wF
 | false =>
   rw[e] at hx
   have hr:yh l t y h=-1:=by unfold yh Cu;rw[if_neg (by rw[e];decide)]
   rw[hr]
   refine aD (n:=n+3) Try.func69 rfl rfl rfl (Rj (n+3) s l k m t d g y (bG (nD l t y l)) u H h) (aO _ (n+3) hC) (aA (af _ _) RL (fun x hy=>bN hy hx)) (ag _ _) ?_
   generalize bG (nD l t y l)=z at *
   exact wF
end
end Go.Eng
end
