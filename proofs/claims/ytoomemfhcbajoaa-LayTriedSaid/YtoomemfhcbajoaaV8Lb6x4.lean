/- Lay: way: its loop over all cells on the way from one. -/
import Derived.Test.YtoomemfhcbajoaaV8Lb3x3
set_option linter.unusedVariables false
set_option linter.unusedSimpArgs false
set_option maxRecDepth 100000
section
namespace Go.Eng
open Go.Proofs
noncomputable def xC (h s:Nat) (l:Nat) (t:Nat→Int) (k:Nat) (d g:Nat→Int) (x:Int):aq:=[(0,.yld 1 h),(2,.ptrT (some 1) (.G [dK s l t k d g]) 0),(4,.int .i64 x)]
noncomputable def vD (n f nt d i:Nat):Cx:=⟨Try.prog,cd n,100000,f,nt,KtL.kt f,some (d,i)⟩
theorem O5:∀ b,(0,b) ∈ aM (bR Try.f81)→b=.loop (part Try.f81 [1,0,0]):=g7 (by kernel_rfl)
theorem LD (s:Nat) (n l k:Nat) (t d g:Nat→Int) (G G':aa) (x:Int):aN (bA n 81 21) (JF (il aQ n 0) 1 5 [.int .i64 x] (aG::G) (.ok (.bool true,aG::G'))) aT aU (part Try.f81 [1,0,0]) (hints (xC 5 s l t k d g x)) (aG::G) =
 (fun (Z0:Nat×AV×Option Nat)=>Tr.ite (mU (Int.ofNat 0) x) (Tr.reqP ([AV.int .i64 x]=[AV.int .i64 x]∧aG::G=aG::G) (Tr.ite true (Tr.req (dJ x l) (Tr.req (dg (aA 0 x 1) l) (Tr.ok (Ex.normal,[(0,AV.yld 1 5,none),Z0,(4,AV.int .i64 (t (aA 0 x 1)),none)],aG::G')))) (Tr.ok (Ex.exit 0,[(0,AV.yld 1 5,none),Z0,(4,AV.int .i64 x,none),(12,AV.bool false,some 1)],aG::G')))) (Tr.ok (Ex.exit 0,[(0,AV.yld 1 5,none),Z0,(4,AV.int .i64 x,none),(12,AV.bool false,some 1)],aG::G))) (2,AV.ptrT (some 1) (Row.G [AV.ptrT (some s) (Row.M [ah.one (AV.slcT none (Row.M [ah.arr .i64 t l]) 1 l false),ah.one (AV.slcT none (Row.M [ah.arr .i64 d k]) 1 k false),ah.arr .i64 g 30]) 0]) 0,none):=by kernel_rfl
theorem JL (s:Nat) (n l k:Nat) (t d g:Nat→Int) (G:aa) (x:Int):aN (bA n 81 21) (il aQ n 0) aT aU (part Try.f81 [1,0,0]) (hints (xC 5 s l t k d g x)) (aG::G) =
 Tr.ite (mU (Int.ofNat 0) x) Tr.bad (Tr.ok (Ex.exit 0,[(0,AV.yld 1 5,none),(2,AV.ptrT (some 1) (Row.G [AV.ptrT (some s) (Row.M [ah.one (AV.slcT none (Row.M [ah.arr .i64 t l]) 1 l false),ah.one (AV.slcT none (Row.M [ah.arr .i64 d k]) 1 k false),ah.arr .i64 g 30]) 0]) 0,none),(4,AV.int .i64 x,none),(12,AV.bool false,some 1)],aG::G)):=by kernel_rfl
theorem LV (s:Nat) (n l k:Nat) (t d g:Nat→Int) (G G':aa) (i x:Int):bz Try.prog (cd n) 100000 81 Try.f81 (KtL.kt 81) (il aQ n 0) (dp aT 0 (xC 5 s l t k d g i) (aG::G) (.ok (.normal,hints (xC 5 s l t k d g x++[(12,.bool false)]),aG::G'))) aU [(.yld 0 5,none),(.ptrT none (.I .i64 [i]) 0,none),(.ptrT (some 0) (.G [dK s l t k d g]) 0,none)] G =
 (fun (Z0:aq)=>Tr.reqP (Z0=Z0∧aG::G=aG::G) (Tr.ok ((AV.tup [],none),G'))) [(0,AV.yld 1 5),(2,AV.ptrT (some 1) (Row.G [AV.ptrT (some s) (Row.M [ah.one (AV.slcT none (Row.M [ah.arr .i64 t l]) 1 l false),ah.one (AV.slcT none (Row.M [ah.arr .i64 d k]) 1 k false),ah.arr .i64 g 30]) 0]) 0),(4,AV.int .i64 i)]:=by kernel_rfl
def pc (l:Nat) (t:Nat→Int) (i:Nat):Nat:=cn (fun m=>decide (0≤bO t m (i:Int))) l
theorem ze {t:Nat→Int} {x:Int} {m q:Nat} (h:m≤q) (h2:0≤bO t q x):0≤bO t m x:=by
 apply Int.not_lt.1
 intro hc
 have:=sZ hc (q-m)
 rw[show m+(q-m)=q by omega] at this
 omega
theorem K8 {l:Nat} {t:Nat→Int} {x:Int} (h:bO t l x<0):∃ N,N≤l∧(∀ m,m<N→0≤bO t m x)∧bO t N x<0∧cn (fun m=>decide (0≤bO t m x)) l=N:=by
 induction l with
 | zero=>exact ⟨0,Nat.le_refl _,fun m hm=>by omega,h,rfl⟩
 | succ l ih =>
   by_cases c:bO t l x<0
   · obtain ⟨N,h1,h2,h3,h4⟩:=ih c
     refine ⟨N,by omega,h2,h3,?_⟩
     show cn (fun m=>decide (0≤bO t m x)) l+(decide (0≤bO t l x)).toNat=N
     rw[decide_eq_false (by omega)];simpa using h4
   · refine ⟨l+1,Nat.le_refl _,fun m hm=>ze (by omega) (by omega:0≤bO t l x),h,?_⟩
     have:∀ m,m≤l+1→cn (fun m=>decide (0≤bO t m x)) m=m:=by
      intro m
      induction m with
      | zero=>intro _;rfl
      | succ m ih2 =>
        intro hm
        show cn (fun m=>decide (0≤bO t m x)) m+(decide (0≤bO t m x)).toNat=_
        rw[ih2 (by omega),decide_eq_true (ze (by omega) (by omega:0≤bO t l x))];rfl
     exact this (l+1) (Nat.le_refl _)
theorem pq {l:Nat} {t:Nat→Int} (h:g9 l t=false) (i:Nat) (hi:i<l):pc l t i≤l∧(∀ m,m<pc l t i→0≤bO t m (i:Int))∧bO t (pc l t i) (i:Int)<0:=by
 have h1:=gI h i hi
 rw[decide_eq_false_iff_not] at h1
 obtain ⟨N,a,b,c,e⟩:=K8 (l:=l) (t:=t) (x:=(i:Int)) (by omega)
 unfold pc
 rw[e];exact ⟨a,b,c⟩
theorem Ca {t:Nat→Int} {m:Nat} {x:Int} (h:0≤bO t m x):bO t (m+1) x=t (bO t m x).toNat:=by
 show (if 0≤bO t m x then _ else _)=_
 rw[if_pos h]
section
variable (n l k:Nat) (t d g:Nat→Int) (i N:Nat) (St:Nat→aa)
theorem Ki (s:Nat) (hN:N≤1000) (hp:∀ m,m<N→0≤bO t m (i:Int)) (hn:bO t N (i:Int)<0) (ht:∀ j,j<l→t j<l) (hl:l≤1000) (hi:i<l)
 (hr:∀ m,m<N→cd n (.round 1 5) [.int .i64 (bO t m (i:Int))] (aG::St m)=some (.bool true,aG::St (m+1))) :
 cd (n+1) (.fn 81) [.yld 0 5,.ptrT none (.I .i64 [(i:Int)]) 0,.ptrT (some 0) (.G [dK s l t k d g]) 0] (St 0)=some (.tup [],St N):=by
 have hx:=ot (n:=n) (f:=81) (nt:=21) (c:=part Try.f81 [1,0,0]) 0 (fun m=>xC 5 s l t k d g (bO t m (i:Int))) (fun m=>aG::St m) N (xC 5 s l t k d g (bO t N (i:Int))++[(12,.bool false)],aG::St N) (by omega) (fun m hm=>?_) ?_
 · refine aR (n:=n) Try.func81 rfl rfl rfl (LV s n l k t d g (St 0) (St N) (i:Int) (bO t N (i:Int))) (aB _) (aW (af _ _) O5 (fun x hy=>cG hy hx)) (ag _ _) ?_
   exact Tr.bg ⟨rfl,rfl⟩ (Tr.bc ⟨rfl,rfl⟩)
 · have h1:=hp m hm
   have h2:=ia ht (show (i:Int)<l by omega) m
   have h3:=Ca h1
   refine aO (LD s n l k t d g (St m) (St (m+1)) (bO t m (i:Int))) (sL (aB n) (fun x hy=>by rw[← Tr.ab hy];exact hr m hm)) (af _ _) (ag _ _) ?_
   rw[L4 h1]
   show Tr.all _ (fun x=>_∧tidy _ _ _=(xC 5 s l t k d g (bO t (m+1) (i:Int)),_))
   rw[h3]
   generalize bO t m (i:Int)=x at *
   generalize St (m+1)=G' at *
   generalize St m=G at *
   exact wF
 · obtain ⟨x,h1,rfl⟩:=aO (Q:=fun x=>x=(.exit 0,xC 5 s l t k d g (bO t N (i:Int))++[(12,.bool false)],aG::St N)) (JL s n l k t d g (St N) (bO t N (i:Int))) (aB n) (af _ _) (ag _ _) (by
    refine Tr.bn (fun hc=>?_) (fun hc=>Tr.bc rfl)
    simp (disch:=omega) only[nV,nW] at hc;omega)
   exact h1
end
end Go.Eng
end
section
namespace Go.Eng
open Go.Proofs
noncomputable def MA (s l:Nat) (t:Nat→Int) (k:Nat) (d g:Nat→Int) (j:Int):AV:=.fn (.func 81) [] [.ptrT none (.I .i64 [j]) 0,.ptrT (some 0) (.G [dK s l t k d g]) 0]
noncomputable def Ml (l:Nat) (t:Nat→Int) (k:Nat) (d:Nat→Int):Nat×ak:=(0,.row (.G [dc l t false,dc k d false]))
noncomputable def HH (x:Int):Nat×ak:=(0,.row (.I .i64 [x]))
theorem RA (n l k:Nat) (t d g:Nat→Int) (H:aa):bz Try.prog (cd n) 100000 51 Try.f51 (KtL.kt 51) (il (tX (tX aQ 21 [dV l t k d] (.int .i64 0)) 57 [dV l t k d] (dK 0 l t k d g)) n 0) aT aU [(dV l t k d,none)] H =
 (fun (Z0:List AV)=>Tr.reqP (Z0=Z0) (Tr.ite (bx (dX (Int.ofNat 0) (Int.ofNat 0))) (Tr.ok ((AV.tup [AV.nilp,AV.int .i64 (Int.ofNat 0)],none),H)) (Tr.reqP (Z0=Z0) (Tr.ok ((AV.tup [AV.ptrT (some 0) (Row.M [ah.one (AV.slcT none (Row.M [ah.arr .i64 t l]) 1 l false),ah.one (AV.slcT none (Row.M [ah.arr .i64 d k]) 1 k false),ah.arr .i64 g 30]) 0,AV.int .i64 (Int.ofNat 0)],none),H))))) [AV.agg (Row.G [AV.slcT none (Row.M [ah.arr .i64 t l]) 1 l false,AV.slcT none (Row.M [ah.arr .i64 d k]) 1 k false])]:=by kernel_rfl
theorem Og (n l k:Nat) (t d:Nat→Int) (e:Int) (H:aa):bz Try.prog (cd n) 100000 51 Try.f51 (KtL.kt 51) (il (tX aQ 21 [dV l t k d] (.int .i64 e)) n 0) aT aU [(dV l t k d,none)] H =
 (fun (Z0:List AV)=>Tr.reqP (Z0=Z0) (Tr.ite (bx (dX e (Int.ofNat 0))) (Tr.ok ((AV.tup [AV.nilp,AV.int .i64 e],none),H)) Tr.bad)) [AV.agg (Row.G [AV.slcT none (Row.M [ah.arr .i64 t l]) 1 l false,AV.slcT none (Row.M [ah.arr .i64 d k]) 1 k false])]:=by kernel_rfl
section
variable (n l k m:Nat) (t d g y:Nat→Int) (H:aa) (i:Nat)
end
end Go.Eng
end
section
namespace Go.Eng
open Go.Proofs
structure Sh (l:Nat) (t:Nat→Int) (k:Nat) (d:Nat→Int):Prop where
 l1:1≤l
 l30:l≤30
 kl:k=l
 tl:∀ j,j<l→t j<l
 tm:∀ j,j<l→-1≤t j
 tj:∀ j,j<l→t j≠(j:Int)
 d1:∀ j,j<l→1≤d j
 d40:∀ j,j<l→d j≤40
 cyc:g9 l t=false
theorem za {l k:Nat} {t d:Nat→Int} (h:mP l t k d=0):Sh l t k d:=by
 unfold mP at h
 by_cases h1:l<1∨30<l
 · rw[if_pos h1] at h;omega
 rw[if_neg h1] at h
 by_cases h2:k≠l
 · rw[if_pos h2] at h;omega
 rw[if_neg h2] at h
 cases h3:dC (ki l t d) l with
 | true=>rw[h3,if_pos rfl] at h;omega
 | false =>
   rw[h3,if_neg (by decide)] at h
   cases h4:g9 l t with
   | true=>rw[h4,if_pos rfl] at h;omega
   | false =>
     have g:=gI h3
     have key:∀ j,j<l→(-1≤t j∧t j≤(l:Int)-1)∧t j≠(j:Int)∧1≤d j∧d j≤40:=fun j hj=>by
      have:=g j hj
      simp only[ki,fQ,Bool.or_eq_false_iff,decide_eq_false_iff_not] at this
      exact ⟨⟨by omega,by omega⟩,by omega,by omega,by omega⟩
     exact ⟨by omega,by omega,by omega,fun j hj=>by have:=(key j hj).1;omega,fun j hj=>(key j hj).1.1,fun j hj=>(key j hj).2.1,fun j hj=>(key j hj).2.2.1,fun j hj=>(key j hj).2.2.2,h4⟩
theorem H5 {l k:Nat} {t d:Nat→Int} (h:Sh l t k d):mP l t k d=0:=by
 unfold mP
 rw[if_neg (by have:=h.l1;have:=h.l30;omega),if_neg (by have:=h.kl;omega),if_neg ?_,if_neg (by rw[h.cyc];decide)]
 rw[jx (fun j hj=>?_)]
 · decide
 · have a1:=h.tl j hj
   have a2:=h.tm j hj
   have a3:=h.tj j hj
   have a4:=h.d1 j hj
   have a5:=h.d40 j hj
   simp only[ki,fQ,Bool.or_eq_false_iff,decide_eq_false_iff_not]
   omega
noncomputable def JR (s:Nat) (l:Nat) (t:Nat→Int) (k:Nat) (d:Nat→Int):AV:=dK s l t k d (cu t l)
section
variable (n l k:Nat) (t d:Nat→Int) (H:aa)
theorem Kg (h:mP l t k d≠0):cd (n+8) (.fn 51) [dV l t k d] H=some (.tup [.nilp,.int .i64 (mP l t k d)],H):=by
 refine aR (n:=n+7) Try.func51 rfl rfl rfl (Og (n+7) l k t d (mP l t k d) H) (bj _ (n+7) (cL (aX _) (fun H=>OM n l k t d H))) (af _ _) (ag _ _) ?_
 generalize mP l t k d=e at *
 exact wF
theorem Mm (h:Sh l t k d):cd (n+8) (.fn 51) [dV l t k d] H=some (.tup [JR 0 l t k d,.int .i64 0],H):=by
 have h21:∀ H,cd (n+7) (.fn 21) [dV l t k d] H=some (.int .i64 0,H):=fun H=>by rw[OM,H5 h]
 refine aR (n:=n+7) Try.func51 rfl rfl rfl (RA (n+7) l k t d (cu t l) H) (bj _ (n+7) (cL (cL (aX _) h21) (fun H=>ON (n+6) l k t d H h.l30 h.tl))) (af _ _) (ag _ _) ?_
 unfold JR
 generalize cu t l=g at *
 exact wF
end
end Go.Eng
end
section
namespace Go.Eng
open Go.Proofs
noncomputable def tC (s l:Nat) (t:Nat→Int) (k:Nat) (d g:Nat→Int) (j:Int):aq:=[(0,dK (s+1) l t k d g),(3,.ptr 0 0 0 0),(4,.ptr 0 1 0 0),(5,.ptr 0 2 0 0),(15,.int .i64 (Int.ofNat l)),(16,.int .i64 j)]
noncomputable def uy (s l:Nat) (t:Nat→Int) (k:Nat) (d g:Nat→Int) (j:Int):aq:=[(0,dK (s+1) l t k d g),(3,.ptr 0 0 0 0),(4,.ptr 0 1 0 0),(5,.ptr 0 2 0 0),(6,.int .i64 j),(7,.ptr 0 3 0 0),(8,.ptr 0 4 0 0),(15,.int .i64 (Int.ofNat l)),(16,.int .i64 j),(25,MA (s+1) l t k d g j)]
noncomputable def HL (s l:Nat) (t:Nat→Int) (k:Nat) (d g:Nat→Int) (j x:Int):aq:=[(0,dK (s+3) l t k d g),(3,.ptr 2 0 0 0),(4,.ptr 2 1 0 0),(5,.ptr 2 2 0 0),(6,.int .i64 j),(7,.ptr 2 3 0 0),(8,.ptr 2 4 0 0),(15,.int .i64 (Int.ofNat l)),(16,.int .i64 j),(25,.fn (.func 81) [] [.ptrT none (.I .i64 [j]) 0,.ptrT (some 2) (.G [dK (s+1) l t k d g]) 0]),(26,.int .i64 x)]
noncomputable def Em (x:Int):aq:=[(3,.ptr 2 0 0 0),(7,.ptr 2 3 0 0),(8,.ptr 2 4 0 0),(9,.int .i64 x)]
noncomputable def tH (m:Nat) (y:Nat→Int) (u:Bool) (a b:Nat→Int):aV:=⟨false,[(0,.row (.G [dc m y u])),(0,.row (.M [.arr .i64 a 30])),(0,.row (.M [.arr .i64 b 30]))]⟩
noncomputable def jl (m:Nat) (y:Nat→Int) (u:Bool) (a b:Nat→Int) (v w:Int) (L:List (Nat×ak)):aV:=⟨false,[(0,.row (.G [dc m y u])),(0,.row (.M [.arr .i64 a 30])),(0,.row (.M [.arr .i64 b 30])),HH v,HH w]++L⟩
theorem N1 (n s l k m:Nat) (t d g y:Nat→Int) (u:Bool) (a b:Nat→Int) (L:gM) (H:aa) (j x v w:Int):aN (vD n 53 42 2 5) (il aQ n 0) aT aU (part Try.f53 [1,1,0,1,0,0,1,1,0,0,1,1,0,1,0,0]) (hints (HL s l t k d g j x)) (aG::aG::jl m y u a b v w [(0,.loop L)]::H) =
 Tr.ok (Ex.normal,[(3,AV.ptr 2 0 0 0,none),(7,AV.ptr 2 3 0 0,none),(8,AV.ptr 2 4 0 0,none),(9,AV.int .i64 x,none)],aG::aG::{ lock:=false,bs:=[(0,ak.row (Row.G [AV.slcT none (Row.M [ah.arr .i64 y m]) 1 m u])),(0,ak.row (Row.M [ah.arr .i64 a 30])),(0,ak.row (Row.M [ah.arr .i64 b 30])),(0,ak.row (Row.I .i64 [v])),(0,ak.row (Row.I .i64 [w])),(0,ak.loop L)] } :: H):=by kernel_rfl
theorem N2 (n m:Nat) (y:Nat→Int) (u:Bool) (a b:Nat→Int) (L:gM) (H:aa) (x v w:Int):aN (vD n 53 42 2 5) (il aQ n 0) aT aU (part Try.f53 [1,1,0,1,0,0,1,1,0,0,1,1,0,1,0,1]) (hints (Em x)) (aG::aG::jl m y u a b v w [(0,.loop L)]::H) =
 Tr.req (dJ x m) (Tr.req (dg (aA 0 x 1) m) (Tr.req (jI (jz 0 0) (jz 0 1)) (Tr.ok (Ex.normal,[],aG::aG::{ lock:=false,bs:=[(0,ak.row (Row.G [AV.slcT none (Row.M [ah.arr .i64 y m]) 1 m u])),(0,ak.row (Row.M [ah.arr .i64 a 30])),(0,ak.row (Row.M [ah.arr .i64 b 30])),(0,ak.row (Row.I .i64 [yn v (cB .i64 (y (aA 0 x 1)) w)])),(0,ak.row (Row.I .i64 [bf .i64 w (Int.ofNat 1)])),(0,ak.loop L)] } :: H)))):=by kernel_rfl
theorem t53 (n s l k m:Nat) (t d g y:Nat→Int) (u:Bool) (a b:Nat→Int) (H:aa) (j v w:Int):aN (bA (n+1) 53 42) (il aQ n 1) aT (J7 aU (fun _=>true) (uy s l t k d g j) (jl m y u a b (y (aA 0 j 1)) (Int.ofNat 0) []::H) (.ok (.normal,hints (uy s l t k d g j),jl m y u a b v w [(0,.dead)]::H))) (part Try.f53 [1,1,0,1,0,0]) (hints (tC s l t k d g j)) (tH m y u a b::H) =
 (fun (Z0:Row)=>((fun (Z1:aq)=>((fun (Z2:aV)=>Tr.ite (cF j (Int.ofNat l)) (Tr.req (dJ j m) (Tr.req (dg (aA 0 j 1) m) (Tr.reqP (Z1=Z1∧Z2::H=Z2::H) (Tr.req (dJ j 30) (Tr.req (cT 0 0) (Tr.req (dg (aA 0 j 1) 30) (Tr.ok (Ex.normal,[(0,AV.ptrT (some (Nat.succ s)) Z0 0,none),(3,AV.ptr 0 0 0 0,none),(4,AV.ptr 0 1 0 0,none),(5,AV.ptr 0 2 0 0,none),(15,AV.int .i64 (Int.ofNat l),none),(16,AV.int .i64 (bf .i64 j (Int.ofNat 1)),none)],{ lock:=false,bs:=[(0,ak.row (Row.G [AV.slcT none (Row.M [ah.arr .i64 y m]) 1 m u])),(0,ak.row (Row.M [ah.arr .i64 a 30])),(0,ak.row (Row.M [ah.arr .i64 (c7 b (aA 0 j 1) v) 30])),(0,ak.row (Row.I .i64 [v])),(0,ak.row (Row.I .i64 [w])),(0,ak.dead)] } :: H)))))))) (Tr.ok (Ex.exit 0,[(0,AV.ptrT (some (Nat.succ s)) Z0 0,none),(3,AV.ptr 0 0 0 0,none),(4,AV.ptr 0 1 0 0,none),(5,AV.ptr 0 2 0 0,none),(15,AV.int .i64 (Int.ofNat l),none),(16,AV.int .i64 j,none),(17,AV.bool false,some 1)],{ lock:=false,bs:=[(0,ak.row (Row.G [AV.slcT none (Row.M [ah.arr .i64 y m]) 1 m u])),(0,ak.row (Row.M [ah.arr .i64 a 30])),(0,ak.row (Row.M [ah.arr .i64 b 30]))] } :: H))) { lock:=false,bs:=[(0,ak.row (Row.G [AV.slcT none (Row.M [ah.arr .i64 y m]) 1 m u])),(0,ak.row (Row.M [ah.arr .i64 a 30])),(0,ak.row (Row.M [ah.arr .i64 b 30])),(0,ak.row (Row.I .i64 [y (aA 0 j 1)])),(0,ak.row (Row.I .i64 [Int.ofNat 0]))] })) [(0,AV.ptrT (some (Nat.succ s)) Z0 0),(3,AV.ptr 0 0 0 0),(4,AV.ptr 0 1 0 0),(5,AV.ptr 0 2 0 0),(6,AV.int .i64 j),(7,AV.ptr 0 3 0 0),(8,AV.ptr 0 4 0 0),(15,AV.int .i64 (Int.ofNat l)),(16,AV.int .i64 j),(25,AV.fn (Fn.func 81) [] [AV.ptrT none (Row.I .i64 [j]) 0,AV.ptrT (some 0) (Row.G [AV.ptrT (some (Nat.succ s)) Z0 0]) 0])])) (Row.M [ah.one (AV.slcT none (Row.M [ah.arr .i64 t l]) 1 l false),ah.one (AV.slcT none (Row.M [ah.arr .i64 d k]) 1 k false),ah.arr .i64 g 30]):=by kernel_rfl
theorem N3 (n s l k m:Nat) (t d g y:Nat→Int) (u:Bool) (a b:Nat→Int) (H:aa) (j:Int):aN (bA (n+1) 53 42) (il aQ n 1) aT (J7 aU (fun _=>true) [] [] .bad) (part Try.f53 [1,1,0,1,0,0]) (hints (tC s l t k d g j)) (tH m y u a b::H) =
 (fun (Z0:Row)=>Tr.ite (cF j (Int.ofNat l)) (Tr.req (dJ j m) (Tr.req (dg (aA 0 j 1) m) (Tr.reqP ([(0,AV.ptrT (some (Nat.succ s)) Z0 0),(3,AV.ptr 0 0 0 0),(4,AV.ptr 0 1 0 0),(5,AV.ptr 0 2 0 0),(6,AV.int .i64 j),(7,AV.ptr 0 3 0 0),(8,AV.ptr 0 4 0 0),(15,AV.int .i64 (Int.ofNat l)),(16,AV.int .i64 j),(25,AV.fn (Fn.func 81) [] [AV.ptrT none (Row.I .i64 [j]) 0,AV.ptrT (some 0) (Row.G [AV.ptrT (some (Nat.succ s)) Z0 0]) 0])]=[]∧{ lock:=false,bs:=[(0,ak.row (Row.G [AV.slcT none (Row.M [ah.arr .i64 y m]) 1 m u])),(0,ak.row (Row.M [ah.arr .i64 a 30])),(0,ak.row (Row.M [ah.arr .i64 b 30])),(0,ak.row (Row.I .i64 [y (aA 0 j 1)])),(0,ak.row (Row.I .i64 [Int.ofNat 0]))] } :: H=[]) Tr.bad))) (Tr.ok (Ex.exit 0,[(0,AV.ptrT (some (Nat.succ s)) Z0 0,none),(3,AV.ptr 0 0 0 0,none),(4,AV.ptr 0 1 0 0,none),(5,AV.ptr 0 2 0 0,none),(15,AV.int .i64 (Int.ofNat l),none),(16,AV.int .i64 j,none),(17,AV.bool false,some 1)],{ lock:=false,bs:=[(0,ak.row (Row.G [AV.slcT none (Row.M [ah.arr .i64 y m]) 1 m u])),(0,ak.row (Row.M [ah.arr .i64 a 30])),(0,ak.row (Row.M [ah.arr .i64 b 30]))] } :: H))) (Row.M [ah.one (AV.slcT none (Row.M [ah.arr .i64 t l]) 1 l false),ah.one (AV.slcT none (Row.M [ah.arr .i64 d k]) 1 k false),ah.arr .i64 g 30]):=by kernel_rfl
theorem RB (n s l k m:Nat) (t d g y:Nat→Int) (u:Bool) (b:Nat→Int) (H:aa):bz Try.prog (cd n) 100000 53 Try.f53 (KtL.kt 53) (il aQ n 0) (dp aT 0 (tC s l t k d g 0) (tH m y u (fun x=>Int.ofNat 0) (fun x=>Int.ofNat 0)::H) (.ok (.normal,hints (tC s l t k d g (Int.ofNat l)++[(17,.bool false)]),tH m y u (fun x=>Int.ofNat 0) b::H))) aU [(dK s l t k d g,none),(dc m y u,none)] H =
 (fun (Z0:aq)=>((fun (Z1:aV)=>Tr.reqP (Z0=Z0∧Z1::H=Z1::H) (Tr.req (kH 0 30 0 30) (Tr.ok ((AV.agg (Row.M [ah.arr .i64 (ik (fun x=>Int.ofNat 0) 0 b 30) 30]),none),H)))) { lock:=false,bs:=[(0,ak.row (Row.G [AV.slcT none (Row.M [ah.arr .i64 y m]) 1 m u])),(0,ak.row (Row.M [ah.arr .i64 (fun x=>Int.ofNat 0) 30])),(0,ak.row (Row.M [ah.arr .i64 (fun x=>Int.ofNat 0) 30]))] })) [(0,AV.ptrT (some (Nat.succ s)) (Row.M [ah.one (AV.slcT none (Row.M [ah.arr .i64 t l]) 1 l false),ah.one (AV.slcT none (Row.M [ah.arr .i64 d k]) 1 k false),ah.arr .i64 g 30]) 0),(3,AV.ptr 0 0 0 0),(4,AV.ptr 0 1 0 0),(5,AV.ptr 0 2 0 0),(15,AV.int .i64 (Int.ofNat l)),(16,AV.int .i64 (Int.ofNat 0))]:=by kernel_rfl
theorem OZ:∀ b,(0,b) ∈ aM (bR Try.f53)→b=.loop (part Try.f53 [1,1,0,1,0,0]):=g7 (by kernel_rfl)
theorem sP {n d i:Nat} {args:List AV} {H H2 R:aa} {l l2:gM} {fr fr1 fr2:aq} {lv:aV}
 (hg:ao H d i=(0,.loop l)) (hl:ar H d=false) (hs:l.state=.ready) (hp:ln l.nt (mb (d+1) l.fr) l.params (args.map (fq 1))=some fr)
 (h1:exec (vD n l.fn l.nt (d+1) i) l.assign fr (aG::H)=some (.normal,fr1,aG::H))
 (h2:exec (vD n l.fn l.nt (d+1) i) l.body fr1 (dU (aG::H) (d+1) i (0,.loop { l with state:=.busy }))=some (.normal,fr2,lv::H2)) (hg2:ao H2 d i=(0,.loop l2)) (hR:R=dU H2 d i (0,.loop { l2 with state:=.ready,pending:=none })) :
 cd (n+1) (.round d i) args H=some (.bool true,R):=by
 rw[hR]
 exact Fs (P:=Try.prog) (ora:=sE) (KT:=KtL.kt) (fu:=100000) (e:=.normal) hg hl hs hp h1 (by rw[show ao (aG::H) (d+1) i=ao H d i from rfl];exact hg) hs h2 hg2
theorem py {n f nt d i:Nat} {c:Code} {callR:bB} {bl:gN} {rg:rr} {fr:aq} {H:aa} {T:Tr nS} (e:aN (vD n f nt d i) callR bl rg c (hints fr) H=T) (hC:callR.Ok (cd n)) (hB:bl.Ok (vD n f nt d i) c) (hR:rg.Ok (vD n f nt d i) c) {y:Ex×aq×aa} (h:T.all fun x=>x.st=y):exec (vD n f nt d i) c fr H=some y:=by
 obtain ⟨x,h1,rfl⟩:=h
 have:=oh (cx:=vD n f nt d i) hC c hB hR (hints fr) H x (by rw[e];exact h1)
 rw[gT] at this;exact this
noncomputable def Gy:Code:=part Try.f53 [1,1,0,1,0,0,1,1,0,0,1,1,0,1,0,0]
noncomputable def Gz:Code:=part Try.f53 [1,1,0,1,0,0,1,1,0,0,1,1,0,1,0,1]
theorem Rr:dO (part Try.f53 [1,1,0,1,0,0])=[(.tmp 25,#[26],Gy,Gz)]:=by kernel_rfl
noncomputable def l5 (s l:Nat) (t:Nat→Int) (k:Nat) (d g:Nat→Int) (j:Int):gM:={ state:=.ready,pending:=none,fn:=53,nt:=42,fr:=uy s l t k d g j,params:=[26],assign:=Gy,body:=Gz }
def C4 (t e:Nat→Int) (i:Nat):Nat→Int
 | 0=>e i
 | m+1=>min (C4 t e i m) (e (bO t m (i:Int)).toNat-(m:Int))
def nQ (l:Nat) (t e:Nat→Int) (i:Nat):Int:=C4 t e i (pc l t i)
section
variable (n s l k m:Nat) (t d g y:Nat→Int) (u:Bool) (a b:Nat→Int) (H:aa) (i:Nat)
theorem NU (j x v w:Int) (hx:0≤x) (hm:x<m) (hv:-1000≤v∧v≤1000) (hw:0≤w∧w≤1000) (hy:-1000≤y x.toNat∧y x.toNat≤1000) :
 cd (n+1) (.round 1 5) [.int .i64 x] (aG::jl m y u a b v w [(0,.loop (l5 s l t k d g j))]::H)=some (.bool true,aG::jl m y u a b (min v (y x.toNat-w)) (w+1) [(0,.loop (l5 s l t k d g j))]::H):=by
 have h1:exec (vD n 53 42 2 5) Gy (HL s l t k d g j x) (aG::aG::jl m y u a b v w [(0,.loop (l5 s l t k d g j))]::H)=some (.normal,Em x,aG::aG::jl m y u a b v w [(0,.loop (l5 s l t k d g j))]::H) :=
  py (N1 n s l k m t d g y u a b _ H j x v w) (aB n) (af _ _) (ag _ _) (Tr.bc rfl)
 have h2:exec (vD n 53 42 2 5) Gz (Em x) (aG::aG::jl m y u a b v w [(0,.loop { l5 s l t k d g j with state:=.busy })]::H)=some (.normal,[],aG::aG::jl m y u a b (min v (y x.toNat-w)) (w+1) [(0,.loop { l5 s l t k d g j with state:=.busy })]::H):=by
  refine py (N2 n m y u a b _ H x v w) (aB n) (af _ _) (ag _ _) ?_
  have e1:cB .i64 (y x.toNat) w=y x.toNat-w:=Aq (by omega) (by omega)
  have e2:bf .i64 w (Int.ofNat 1)=w+1:=Cu (by show _≤w+1;omega) (by show w+1≤_;omega)
  rw[L4 hx,e1,e2,oQ]
  generalize l5 s l t k d g j=L at *
  generalize y x.toNat=q at *
  generalize min v (q-w)=V at *
  exact wF
 exact sP (l:=l5 s l t k d g j) (l2:={ l5 s l t k d g j with state:=.busy }) rfl rfl rfl rfl h1 h2 rfl rfl
theorem EI {t e:Nat→Int} {i:Nat} {l:Nat} (hy:∀ j,j<l→-900≤e j∧e j≤900) (hi:i<l) (ht:∀ j,j<l→t j<l):∀ m,m≤31→(∀ q,q<m→0≤bO t q (i:Int))→-1000≤C4 t e i m∧C4 t e i m≤1000
 | 0,_,_=>by have:=hy i hi;show -1000≤e i∧e i≤1000;omega
 | m+1,hm,hp=>by
   have ih:=EI hy hi ht m (by omega) (fun q hq=>hp q (by omega))
   have h1:=hp m (by omega)
   have h2:=ia ht (show (i:Int)<l by omega) m
   have h3:=hy (bO t m (i:Int)).toNat (by omega)
   show -1000≤min (C4 t e i m) _∧min (C4 t e i m) _≤1000
   omega
theorem RZ (hl:l≤30) (hm:m=l) (ht:∀ j,j<l→t j<l) (hi:i<l) (hc:g9 l t=false) (hy:∀ j,j<l→-900≤y j∧y j≤900) :
 exec (bA (n+2) 53 42) (.rangeFunc (.tmp 25) #[26] Gy Gz) (uy s l t k d g (i:Nat)) (jl m y u a b (y i) 0 []::H)=some (.normal,uy s l t k d g (i:Nat),jl m y u a b (nQ l t y i) (pc l t i:Nat) [(0,.dead)]::H):=by
 subst hm
 obtain ⟨e1,e2,e3⟩:=pq hc i hi
 exact yN (cx:=bA (n+2) 53 42) (l:=l5 s m t k d g (i:Nat)) (f:=.tmp 25) (ps:=#[26]) (fr:=uy s m t k d g (i:Nat)) (H:=jl m y u a b (y i) 0 []::H) (g:=81) (a:=[]) (b:=[.ptrT none (.I .i64 [(i:Int)]) 0,.ptrT (some 0) (.G [dK (s+1) m t k d g]) 0]) rfl rfl rfl
  (Ki (n+1) m k t d g i (pc m t i) (fun c=>jl m y u a b (C4 t y i c) (c:Nat) [(0,.loop (l5 s m t k d g (i:Nat)))]::H) (s+1) (by omega) e2 e3 ht (by omega) hi (fun c hc=>by
    have h1:=e2 c hc
    have h2:=ia ht (show (i:Int)<m by omega) c
    have h3:=hy (bO t c (i:Int)).toNat (by omega)
    exact NU n s m k m t d g y u a b H _ _ _ _ h1 h2 (EI hy hi ht c (by omega) (fun q hq=>e2 q (by omega))) (by omega) (by omega))) rfl rfl rfl
theorem JX (z:Nat→Int) (j:Nat):c7 (fun i=>if i<j then z i else 0) j (z j)=fun i=>if i<j+1 then z i else 0:=by
 rw[kZ];funext i
 show (if i=j then z j else if i<j then z i else 0)=_
 by_cases c:i=j
 · subst c;rw[if_pos rfl,if_pos (by omega)]
 · rw[if_neg c]
   by_cases c2:i<j
   · rw[if_pos c2,if_pos (by omega)]
   · rw[if_neg c2,if_neg (by omega)]
def pb (l:Nat) (t e:Nat→Int) (j:Nat):Nat→Int:=fun i=>if i<j then nQ l t e i else 0
theorem Q5 (hl:l≤30) (hm:m=l) (ht:∀ j,j<l→t j<l) (hc:g9 l t=false) (hy:∀ j,j<l→-900≤y j∧y j≤900) :
 exec (bA (n+2) 53 42) (.block 0 (.loop (part Try.f53 [1,1,0,1,0,0]))) (tC s l t k d g 0) (tH m y u a (fun x=>Int.ofNat 0)::H)=some (.normal,tC s l t k d g (Int.ofNat l)++[(17,.bool false)],tH m y u a (pb l t y l)::H):=by
 refine ot (n:=n+2) (f:=53) (nt:=42) (c:=part Try.f53 [1,1,0,1,0,0]) 0 (fun j=>tC s l t k d g (j:Nat)) (fun j=>tH m y u a (pb l t y j)::H) l (tC s l t k d g (Int.ofNat l)++[(17,.bool false)],tH m y u a (pb l t y l)::H) (by omega) (fun j hj=>?_) ?_
 · have hx:=RZ n s l k m t d g y u a (pb l t y j) H j hl hm ht hj hc hy
   have he:=t53 (n+1) s l k m t d g y u a (pb l t y j) H (j:Nat) (nQ l t y j) (pc l t j:Nat)
   rw[nj] at he
   refine aO he (lj (n+1) 1) (af _ _) (wG (ag _ _) (fun f ps a b _ hm x hx2=>?_)) ?_
   · rw[Rr] at hm
     simp only[List.mem_cons,Prod.mk.injEq,List.not_mem_nil,or_false] at hm
     obtain ⟨rfl,rfl,rfl,rfl⟩:=hm
     rw[← Tr.ab hx2];exact hx
   · show Tr.all _ (fun x=>_∧tidy _ _ _=(tC s l t k d g ((j+1:Nat):Int),tH m y u a (pb l t y (j+1))::H))
     have hu:c7 (pb l t y j) j (nQ l t y j)=pb l t y (j+1):=JX (nQ l t y) j
     have e1:s4 (aA 2 (j:Int) 1) 2=j:=by rw[kG,kV];omega
     rw[ft (by omega)]
     simp only[e1,hu,nj]
     generalize nQ l t y j=V at *
     generalize pb l t y (j+1)=Y2 at *
     generalize pb l t y j=Y1 at *
     exact wF
 · obtain ⟨x,h1,rfl⟩:=aO (Q:=fun x=>x=(.exit 0,tC s l t k d g (Int.ofNat l)++[(17,.bool false)],tH m y u a (pb l t y l)::H)) (N3 (n+1) s l k m t d g y u a (pb l t y l) H (Int.ofNat l)) (lj (n+1) 1) (af _ _) (wG (ag _ _) (fun f ps a b _ hm x hx2=>(Tr.ae hx2).elim)) (by
    refine Tr.bn (fun hc=>?_) (fun hc=>Tr.bc rfl)
    simp (disch:=omega) only[nV,nW] at hc;omega)
   exact h1
theorem Mn (hl:l≤30) (hm:m=l) (ht:∀ j,j<l→t j<l) (hc:g9 l t=false) (hy:∀ j,j<l→-900≤y j∧y j≤900) :
 cd (n+3) (.fn 53) [dK s l t k d g,dc m y u] H=some (.agg (.M [.arr .i64 (bD (pb l t y l)) 30]),H):=by
 have hx:=Q5 n s l k m t d g y u (fun x=>Int.ofNat 0) H hl hm ht hc hy
 refine aR (n:=n+2) Try.func53 rfl rfl rfl (RB (n+2) s l k m t d g y u (pb l t y l) H) (aB _) (aW (af _ _) OZ (fun x hy=>cG hy hx)) (ag _ _) ?_
 generalize pb l t y l=Y at *
 exact wF
end
end Go.Eng
end
