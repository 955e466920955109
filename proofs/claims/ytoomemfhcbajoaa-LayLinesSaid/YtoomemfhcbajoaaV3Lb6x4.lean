/- Lay: way: its loop over all cells on the way from one. -/
import Derived.Test.YtoomemfhcbajoaaV3Lb3x3
set_option linter.unusedVariables false
set_option linter.unusedSimpArgs false
set_option maxRecDepth 100000
section
namespace Go.Eng
open Go.Proofs
noncomputable def xX (h s:Nat) (l:Nat) (t:Nat→Int) (k:Nat) (d g:Nat→Int) (x:Int):ao:=[(0,.yld 1 h),(2,.ptrT (some 1) (.G [dv s l t k d g]) 0),(4,.int .i64 x)]
noncomputable def vT (n f nt d i:Nat):Cx:=⟨Try.prog,cd n,100000,f,nt,KtL.kt f,some (d,i)⟩
theorem Qb:∀ b,(0,b) ∈ aJ (bm Try.f81)→b=.loop (part Try.f81 [1,0,0]):=fa (by kernel_rfl)
theorem L6 (s:Nat) (n l k:Nat) (t d g:Nat→Int) (G G':aa) (x:Int):aQ (bt n 81 21) (JS (il aH n 0) 1 5 [.int .i64 x] (aB::G) (.ok (.bool true,aB::G'))) aN aO (part Try.f81 [1,0,0]) (hints (xX 5 s l t k d g x)) (aB::G) =
 (fun (Z0:Nat×AV×Option Nat)=>Tr.ite (jF (Int.ofNat 0) x) (Tr.reqP ([AV.int .i64 x]=[AV.int .i64 x]∧aB::G=aB::G) (Tr.ite true (Tr.req (cS x l) (Tr.req (cJ (ar 0 x 1) l) (Tr.ok (Ex.normal,[(0,AV.yld 1 5,none),Z0,(4,AV.int .i64 (t (ar 0 x 1)),none)],aB::G')))) (Tr.ok (Ex.exit 0,[(0,AV.yld 1 5,none),Z0,(4,AV.int .i64 x,none),(12,AV.bool false,some 1)],aB::G')))) (Tr.ok (Ex.exit 0,[(0,AV.yld 1 5,none),Z0,(4,AV.int .i64 x,none),(12,AV.bool false,some 1)],aB::G))) (2,AV.ptrT (some 1) (Row.G [AV.ptrT (some s) (Row.M [ah.one (AV.slcT none (Row.M [ah.arr .i64 t l]) 1 l false),ah.one (AV.slcT none (Row.M [ah.arr .i64 d k]) 1 k false),ah.arr .i64 g 30]) 0]) 0,none):=by kernel_rfl
theorem J0 (s:Nat) (n l k:Nat) (t d g:Nat→Int) (G:aa) (x:Int):aQ (bt n 81 21) (il aH n 0) aN aO (part Try.f81 [1,0,0]) (hints (xX 5 s l t k d g x)) (aB::G) =
 Tr.ite (jF (Int.ofNat 0) x) Tr.bad (Tr.ok (Ex.exit 0,[(0,AV.yld 1 5,none),(2,AV.ptrT (some 1) (Row.G [AV.ptrT (some s) (Row.M [ah.one (AV.slcT none (Row.M [ah.arr .i64 t l]) 1 l false),ah.one (AV.slcT none (Row.M [ah.arr .i64 d k]) 1 k false),ah.arr .i64 g 30]) 0]) 0,none),(4,AV.int .i64 x,none),(12,AV.bool false,some 1)],aB::G)):=by kernel_rfl
theorem Ms (s:Nat) (n l k:Nat) (t d g:Nat→Int) (G G':aa) (i x:Int):aZ Try.prog (cd n) 100000 81 Try.f81 (KtL.kt 81) (il aH n 0) (bZ aN 0 (xX 5 s l t k d g i) (aB::G) (.ok (.normal,hints (xX 5 s l t k d g x++[(12,.bool false)]),aB::G'))) aO [(.yld 0 5,none),(.ptrT none (.I .i64 [i]) 0,none),(.ptrT (some 0) (.G [dv s l t k d g]) 0,none)] G =
 (fun (Z0:ao)=>Tr.reqP (Z0=Z0∧aB::G=aB::G) (Tr.ok ((AV.tup [],none),G'))) [(0,AV.yld 1 5),(2,AV.ptrT (some 1) (Row.G [AV.ptrT (some s) (Row.M [ah.one (AV.slcT none (Row.M [ah.arr .i64 t l]) 1 l false),ah.one (AV.slcT none (Row.M [ah.arr .i64 d k]) 1 k false),ah.arr .i64 g 30]) 0]) 0),(4,AV.int .i64 i)]:=by kernel_rfl
def qf (l:Nat) (t:Nat→Int) (i:Nat):Nat:=cn (fun m=>decide (0≤bX t m (i:Int))) l
theorem zB {t:Nat→Int} {x:Int} {m q:Nat} (h:m≤q) (h2:0≤bX t q x):0≤bX t m x:=by
 apply Int.not_lt.1
 intro hc
 have:=tz hc (q-m)
 rw[show m+(q-m)=q by omega] at this
 omega
theorem Lt {l:Nat} {t:Nat→Int} {x:Int} (h:bX t l x<0):∃ N,N≤l∧(∀ m,m<N→0≤bX t m x)∧bX t N x<0∧cn (fun m=>decide (0≤bX t m x)) l=N:=by
 induction l with
 | zero=>exact ⟨0,Nat.le_refl _,fun m hm=>by omega,h,rfl⟩
 | succ l ih =>
   by_cases c:bX t l x<0
   · obtain ⟨N,h1,h2,h3,h4⟩:=ih c
     refine ⟨N,by omega,h2,h3,?_⟩
     show cn (fun m=>decide (0≤bX t m x)) l+(decide (0≤bX t l x)).toNat=N
     rw[decide_eq_false (by omega)];simpa using h4
   · refine ⟨l+1,Nat.le_refl _,fun m hm=>zB (by omega) (by omega:0≤bX t l x),h,?_⟩
     have:∀ m,m≤l+1→cn (fun m=>decide (0≤bX t m x)) m=m:=by
      intro m
      induction m with
      | zero=>intro _;rfl
      | succ m ih2 =>
        intro hm
        show cn (fun m=>decide (0≤bX t m x)) m+(decide (0≤bX t m x)).toNat=_
        rw[ih2 (by omega),decide_eq_true (zB (by omega) (by omega:0≤bX t l x))];rfl
     exact this (l+1) (Nat.le_refl _)
theorem pM {l:Nat} {t:Nat→Int} (h:ig l t=false) (i:Nat) (hi:i<l):qf l t i≤l∧(∀ m,m<qf l t i→0≤bX t m (i:Int))∧bX t (qf l t i) (i:Int)<0:=by
 have h1:=gd h i hi
 rw[decide_eq_false_iff_not] at h1
 obtain ⟨N,a,b,c,e⟩:=Lt (l:=l) (t:=t) (x:=(i:Int)) (by omega)
 unfold qf
 rw[e];exact ⟨a,b,c⟩
theorem HI {t:Nat→Int} {m:Nat} {x:Int} (h:0≤bX t m x):bX t (m+1) x=t (bX t m x).toNat:=by
 show (if 0≤bX t m x then _ else _)=_
 rw[if_pos h]
section
variable (n l k:Nat) (t d g:Nat→Int) (i N:Nat) (St:Nat→aa)
theorem KC (s:Nat) (hN:N≤1000) (hp:∀ m,m<N→0≤bX t m (i:Int)) (hn:bX t N (i:Int)<0) (ht:∀ j,j<l→t j<l) (hl:l≤1000) (hi:i<l)
 (hr:∀ m,m<N→cd n (.round 1 5) [.int .i64 (bX t m (i:Int))] (aB::St m)=some (.bool true,aB::St (m+1))) :
 cd (n+1) (.fn 81) [.yld 0 5,.ptrT none (.I .i64 [(i:Int)]) 0,.ptrT (some 0) (.G [dv s l t k d g]) 0] (St 0)=some (.tup [],St N):=by
 have hx:=jD (n:=n) (f:=81) (nt:=21) (c:=part Try.f81 [1,0,0]) 0 (fun m=>xX 5 s l t k d g (bX t m (i:Int))) (fun m=>aB::St m) N (xX 5 s l t k d g (bX t N (i:Int))++[(12,.bool false)],aB::St N) (by omega) (fun m hm=>?_) ?_
 · refine aL (n:=n) Try.func81 rfl rfl rfl (Ms s n l k t d g (St 0) (St N) (i:Int) (bX t N (i:Int))) (av _) (aD (af _ _) Qb (fun x hy=>bL hy hx)) (ag _ _) ?_
   exact Tr.bn ⟨rfl,rfl⟩ (Tr.bk ⟨rfl,rfl⟩)
 · have h1:=hp m hm
   have h2:=jL ht (show (i:Int)<l by omega) m
   have h3:=HI h1
   refine aK (L6 s n l k t d g (St m) (St (m+1)) (bX t m (i:Int))) (s8 (av n) (fun x hy=>by rw[← Tr.ab hy];exact hr m hm)) (af _ _) (ag _ _) ?_
   rw[ME h1]
   show Tr.all _ (fun x=>_∧tidy _ _ _=(xX 5 s l t k d g (bX t (m+1) (i:Int)),_))
   rw[h3]
   generalize bX t m (i:Int)=x at *
   generalize St (m+1)=G' at *
   generalize St m=G at *
   exact wF
 · obtain ⟨x,h1,rfl⟩:=aK (Q:=fun x=>x=(.exit 0,xX 5 s l t k d g (bX t N (i:Int))++[(12,.bool false)],aB::St N)) (J0 s n l k t d g (St N) (bX t N (i:Int))) (av n) (af _ _) (ag _ _) (by
    refine Tr.bx (fun hc=>?_) (fun hc=>Tr.bk rfl)
    simp (disch:=omega) only[nV,nW] at hc;omega)
   exact h1
end
end Go.Eng
end
section
namespace Go.Eng
open Go.Proofs
noncomputable def Ng (s l:Nat) (t:Nat→Int) (k:Nat) (d g:Nat→Int) (j:Int):AV:=.fn (.func 81) [] [.ptrT none (.I .i64 [j]) 0,.ptrT (some 0) (.G [dv s l t k d g]) 0]
noncomputable def F2 (l:Nat) (t:Nat→Int) (k:Nat) (d:Nat→Int):Nat×ak:=(0,.row (.G [bP l t false,bP k d false]))
noncomputable def HY (x:Int):Nat×ak:=(0,.row (.I .i64 [x]))
noncomputable def PZ (m:Nat) (y:Nat→Int):Nat×ak:=(0,.row (.M [.arr .i64 y m]))
theorem SU (n l k:Nat) (t d g:Nat→Int) (H:aa):aZ Try.prog (cd n) 100000 51 Try.f51 (KtL.kt 51) (il (tX (tX aH 21 [cg l t k d] (.int .i64 0)) 57 [cg l t k d] (dv 0 l t k d g)) n 0) aN aO [(cg l t k d,none)] H =
 (fun (Z0:List AV)=>Tr.reqP (Z0=Z0) (Tr.ite (ay (bJ (Int.ofNat 0) (Int.ofNat 0))) (Tr.ok ((AV.tup [AV.nilp,AV.int .i64 (Int.ofNat 0)],none),H)) (Tr.reqP (Z0=Z0) (Tr.ok ((AV.tup [AV.ptrT (some 0) (Row.M [ah.one (AV.slcT none (Row.M [ah.arr .i64 t l]) 1 l false),ah.one (AV.slcT none (Row.M [ah.arr .i64 d k]) 1 k false),ah.arr .i64 g 30]) 0,AV.int .i64 (Int.ofNat 0)],none),H))))) [AV.agg (Row.G [AV.slcT none (Row.M [ah.arr .i64 t l]) 1 l false,AV.slcT none (Row.M [ah.arr .i64 d k]) 1 k false])]:=by kernel_rfl
theorem Pe (n l k:Nat) (t d:Nat→Int) (e:Int) (H:aa):aZ Try.prog (cd n) 100000 51 Try.f51 (KtL.kt 51) (il (tX aH 21 [cg l t k d] (.int .i64 e)) n 0) aN aO [(cg l t k d,none)] H =
 (fun (Z0:List AV)=>Tr.reqP (Z0=Z0) (Tr.ite (ay (bJ e (Int.ofNat 0))) (Tr.ok ((AV.tup [AV.nilp,AV.int .i64 e],none),H)) Tr.bad)) [AV.agg (Row.G [AV.slcT none (Row.M [ah.arr .i64 t l]) 1 l false,AV.slcT none (Row.M [ah.arr .i64 d k]) 1 k false])]:=by kernel_rfl
section
variable (n l k m:Nat) (t d g y:Nat→Int) (H:aa) (i:Nat)
end
end Go.Eng
end
section
namespace Go.Eng
open Go.Proofs
structure Sh (l:Nat) (t:Nat→Int) (k:Nat) (d:Nat→Int):Prop where
 l1:1≤l
 l30:l≤30
 kl:k=l
 tl:∀ j,j<l→t j<l
 tm:∀ j,j<l→-1≤t j
 tj:∀ j,j<l→t j≠(j:Int)
 d1:∀ j,j<l→1≤d j
 d40:∀ j,j<l→d j≤40
 cyc:ig l t=false
theorem tu {l k:Nat} {t d:Nat→Int} (h:jK l t k d=0):Sh l t k d:=by
 unfold jK at h
 by_cases h1:l<1∨30<l
 · rw[if_pos h1] at h;omega
 rw[if_neg h1] at h
 by_cases h2:k≠l
 · rw[if_pos h2] at h;omega
 rw[if_neg h2] at h
 cases h3:cU (kA l t d) l with
 | true=>rw[h3,if_pos rfl] at h;omega
 | false =>
   rw[h3,if_neg (by decide)] at h
   cases h4:ig l t with
   | true=>rw[h4,if_pos rfl] at h;omega
   | false =>
     have g:=gd h3
     have key:∀ j,j<l→(-1≤t j∧t j≤(l:Int)-1)∧t j≠(j:Int)∧1≤d j∧d j≤40:=fun j hj=>by
      have:=g j hj
      simp only[kA,eV,Bool.or_eq_false_iff,decide_eq_false_iff_not] at this
      exact ⟨⟨by omega,by omega⟩,by omega,by omega,by omega⟩
     exact ⟨by omega,by omega,by omega,fun j hj=>by have:=(key j hj).1;omega,fun j hj=>(key j hj).1.1,fun j hj=>(key j hj).2.1,fun j hj=>(key j hj).2.2.1,fun j hj=>(key j hj).2.2.2,h4⟩
theorem Ir {l k:Nat} {t d:Nat→Int} (h:Sh l t k d):jK l t k d=0:=by
 unfold jK
 rw[if_neg (by have:=h.l1;have:=h.l30;omega),if_neg (by have:=h.kl;omega),if_neg ?_,if_neg (by rw[h.cyc];decide)]
 rw[kI (fun j hj=>?_)]
 · decide
 · have a1:=h.tl j hj
   have a2:=h.tm j hj
   have a3:=h.tj j hj
   have a4:=h.d1 j hj
   have a5:=h.d40 j hj
   simp only[kA,eV,Bool.or_eq_false_iff,decide_eq_false_iff_not]
   omega
noncomputable def J6 (s:Nat) (l:Nat) (t:Nat→Int) (k:Nat) (d:Nat→Int):AV:=dv s l t k d (cw t l)
section
variable (n l k:Nat) (t d:Nat→Int) (H:aa)
theorem Gl (h:jK l t k d≠0):cd (n+8) (.fn 51) [cg l t k d] H=some (.tup [.nilp,.int .i64 (jK l t k d)],H):=by
 refine aL (n:=n+7) Try.func51 rfl rfl rfl (Pe (n+7) l k t d (jK l t k d) H) (aS _ (n+7) (bf (aG _) (fun H=>PN n l k t d H))) (af _ _) (ag _ _) ?_
 generalize jK l t k d=e at *
 exact wF
theorem KA (h:Sh l t k d):cd (n+8) (.fn 51) [cg l t k d] H=some (.tup [J6 0 l t k d,.int .i64 0],H):=by
 have h21:∀ H,cd (n+7) (.fn 21) [cg l t k d] H=some (.int .i64 0,H):=fun H=>by rw[PN,Ir h]
 refine aL (n:=n+7) Try.func51 rfl rfl rfl (SU (n+7) l k t d (cw t l) H) (aS _ (n+7) (bf (bf (aG _) h21) (fun H=>PQ (n+6) l k t d H h.l30 h.tl))) (af _ _) (ag _ _) ?_
 unfold J6
 generalize cw t l=g at *
 exact wF
end
end Go.Eng
end
section
namespace Go.Eng
open Go.Proofs
noncomputable def ua (s l:Nat) (t:Nat→Int) (k:Nat) (d g:Nat→Int) (j:Int):ao:=[(0,dv (s+1) l t k d g),(3,.ptr 0 0 0 0),(4,.ptr 0 1 0 0),(5,.ptr 0 2 0 0),(15,.int .i64 (Int.ofNat l)),(16,.int .i64 j)]
noncomputable def uU (s l:Nat) (t:Nat→Int) (k:Nat) (d g:Nat→Int) (j:Int):ao:=[(0,dv (s+1) l t k d g),(3,.ptr 0 0 0 0),(4,.ptr 0 1 0 0),(5,.ptr 0 2 0 0),(6,.int .i64 j),(7,.ptr 0 3 0 0),(8,.ptr 0 4 0 0),(15,.int .i64 (Int.ofNat l)),(16,.int .i64 j),(25,Ng (s+1) l t k d g j)]
noncomputable def H6 (s l:Nat) (t:Nat→Int) (k:Nat) (d g:Nat→Int) (j x:Int):ao:=[(0,dv (s+3) l t k d g),(3,.ptr 2 0 0 0),(4,.ptr 2 1 0 0),(5,.ptr 2 2 0 0),(6,.int .i64 j),(7,.ptr 2 3 0 0),(8,.ptr 2 4 0 0),(15,.int .i64 (Int.ofNat l)),(16,.int .i64 j),(25,.fn (.func 81) [] [.ptrT none (.I .i64 [j]) 0,.ptrT (some 2) (.G [dv (s+1) l t k d g]) 0]),(26,.int .i64 x)]
noncomputable def EE (x:Int):ao:=[(3,.ptr 2 0 0 0),(7,.ptr 2 3 0 0),(8,.ptr 2 4 0 0),(9,.int .i64 x)]
noncomputable def uf (m:Nat) (y:Nat→Int) (u:Bool) (a b:Nat→Int):aW:=⟨false,[(0,.row (.G [bP m y u])),(0,.row (.M [.arr .i64 a 30])),(0,.row (.M [.arr .i64 b 30]))]⟩
noncomputable def jr (m:Nat) (y:Nat→Int) (u:Bool) (a b:Nat→Int) (v w:Int) (L:List (Nat×ak)):aW:=⟨false,[(0,.row (.G [bP m y u])),(0,.row (.M [.arr .i64 a 30])),(0,.row (.M [.arr .i64 b 30])),HY v,HY w]++L⟩
theorem ON (n s l k m:Nat) (t d g y:Nat→Int) (u:Bool) (a b:Nat→Int) (L:gQ) (H:aa) (j x v w:Int):aQ (vT n 53 42 2 5) (il aH n 0) aN aO (part Try.f53 [1,1,0,1,0,0,1,1,0,0,1,1,0,1,0,0]) (hints (H6 s l t k d g j x)) (aB::aB::jr m y u a b v w [(0,.loop L)]::H) =
 Tr.ok (Ex.normal,[(3,AV.ptr 2 0 0 0,none),(7,AV.ptr 2 3 0 0,none),(8,AV.ptr 2 4 0 0,none),(9,AV.int .i64 x,none)],aB::aB::{ lock:=false,bs:=[(0,ak.row (Row.G [AV.slcT none (Row.M [ah.arr .i64 y m]) 1 m u])),(0,ak.row (Row.M [ah.arr .i64 a 30])),(0,ak.row (Row.M [ah.arr .i64 b 30])),(0,ak.row (Row.I .i64 [v])),(0,ak.row (Row.I .i64 [w])),(0,ak.loop L)] } :: H):=by kernel_rfl
theorem OO (n m:Nat) (y:Nat→Int) (u:Bool) (a b:Nat→Int) (L:gQ) (H:aa) (x v w:Int):aQ (vT n 53 42 2 5) (il aH n 0) aN aO (part Try.f53 [1,1,0,1,0,0,1,1,0,0,1,1,0,1,0,1]) (hints (EE x)) (aB::aB::jr m y u a b v w [(0,.loop L)]::H) =
 Tr.req (cS x m) (Tr.req (cJ (ar 0 x 1) m) (Tr.req (jP (ik 0 0) (ik 0 1)) (Tr.ok (Ex.normal,[],aB::aB::{ lock:=false,bs:=[(0,ak.row (Row.G [AV.slcT none (Row.M [ah.arr .i64 y m]) 1 m u])),(0,ak.row (Row.M [ah.arr .i64 a 30])),(0,ak.row (Row.M [ah.arr .i64 b 30])),(0,ak.row (Row.I .i64 [yM v (bB .i64 (y (ar 0 x 1)) w)])),(0,ak.row (Row.I .i64 [bE .i64 w (Int.ofNat 1)])),(0,ak.loop L)] } :: H)))):=by kernel_rfl
theorem t53 (n s l k m:Nat) (t d g y:Nat→Int) (u:Bool) (a b:Nat→Int) (H:aa) (j v w:Int):aQ (bt (n+1) 53 42) (il aH n 1) aN (Kn aO (fun _=>true) (uU s l t k d g j) (jr m y u a b (y (ar 0 j 1)) (Int.ofNat 0) []::H) (.ok (.normal,hints (uU s l t k d g j),jr m y u a b v w [(0,.dead)]::H))) (part Try.f53 [1,1,0,1,0,0]) (hints (ua s l t k d g j)) (uf m y u a b::H) =
 (fun (Z0:Row)=>((fun (Z1:ao)=>((fun (Z2:aW)=>Tr.ite (bV j (Int.ofNat l)) (Tr.req (cS j m) (Tr.req (cJ (ar 0 j 1) m) (Tr.reqP (Z1=Z1∧Z2::H=Z2::H) (Tr.req (cS j 30) (Tr.req (cu 0 0) (Tr.req (cJ (ar 0 j 1) 30) (Tr.ok (Ex.normal,[(0,AV.ptrT (some (Nat.succ s)) Z0 0,none),(3,AV.ptr 0 0 0 0,none),(4,AV.ptr 0 1 0 0,none),(5,AV.ptr 0 2 0 0,none),(15,AV.int .i64 (Int.ofNat l),none),(16,AV.int .i64 (bE .i64 j (Int.ofNat 1)),none)],{ lock:=false,bs:=[(0,ak.row (Row.G [AV.slcT none (Row.M [ah.arr .i64 y m]) 1 m u])),(0,ak.row (Row.M [ah.arr .i64 a 30])),(0,ak.row (Row.M [ah.arr .i64 (fH b (ar 0 j 1) v) 30])),(0,ak.row (Row.I .i64 [v])),(0,ak.row (Row.I .i64 [w])),(0,ak.dead)] } :: H)))))))) (Tr.ok (Ex.exit 0,[(0,AV.ptrT (some (Nat.succ s)) Z0 0,none),(3,AV.ptr 0 0 0 0,none),(4,AV.ptr 0 1 0 0,none),(5,AV.ptr 0 2 0 0,none),(15,AV.int .i64 (Int.ofNat l),none),(16,AV.int .i64 j,none),(17,AV.bool false,some 1)],{ lock:=false,bs:=[(0,ak.row (Row.G [AV.slcT none (Row.M [ah.arr .i64 y m]) 1 m u])),(0,ak.row (Row.M [ah.arr .i64 a 30])),(0,ak.row (Row.M [ah.arr .i64 b 30]))] } :: H))) { lock:=false,bs:=[(0,ak.row (Row.G [AV.slcT none (Row.M [ah.arr .i64 y m]) 1 m u])),(0,ak.row (Row.M [ah.arr .i64 a 30])),(0,ak.row (Row.M [ah.arr .i64 b 30])),(0,ak.row (Row.I .i64 [y (ar 0 j 1)])),(0,ak.row (Row.I .i64 [Int.ofNat 0]))] })) [(0,AV.ptrT (some (Nat.succ s)) Z0 0),(3,AV.ptr 0 0 0 0),(4,AV.ptr 0 1 0 0),(5,AV.ptr 0 2 0 0),(6,AV.int .i64 j),(7,AV.ptr 0 3 0 0),(8,AV.ptr 0 4 0 0),(15,AV.int .i64 (Int.ofNat l)),(16,AV.int .i64 j),(25,AV.fn (Fn.func 81) [] [AV.ptrT none (Row.I .i64 [j]) 0,AV.ptrT (some 0) (Row.G [AV.ptrT (some (Nat.succ s)) Z0 0]) 0])])) (Row.M [ah.one (AV.slcT none (Row.M [ah.arr .i64 t l]) 1 l false),ah.one (AV.slcT none (Row.M [ah.arr .i64 d k]) 1 k false),ah.arr .i64 g 30]):=by kernel_rfl
theorem OP (n s l k m:Nat) (t d g y:Nat→Int) (u:Bool) (a b:Nat→Int) (H:aa) (j:Int):aQ (bt (n+1) 53 42) (il aH n 1) aN (Kn aO (fun _=>true) [] [] .bad) (part Try.f53 [1,1,0,1,0,0]) (hints (ua s l t k d g j)) (uf m y u a b::H) =
 (fun (Z0:Row)=>Tr.ite (bV j (Int.ofNat l)) (Tr.req (cS j m) (Tr.req (cJ (ar 0 j 1) m) (Tr.reqP ([(0,AV.ptrT (some (Nat.succ s)) Z0 0),(3,AV.ptr 0 0 0 0),(4,AV.ptr 0 1 0 0),(5,AV.ptr 0 2 0 0),(6,AV.int .i64 j),(7,AV.ptr 0 3 0 0),(8,AV.ptr 0 4 0 0),(15,AV.int .i64 (Int.ofNat l)),(16,AV.int .i64 j),(25,AV.fn (Fn.func 81) [] [AV.ptrT none (Row.I .i64 [j]) 0,AV.ptrT (some 0) (Row.G [AV.ptrT (some (Nat.succ s)) Z0 0]) 0])]=[]∧{ lock:=false,bs:=[(0,ak.row (Row.G [AV.slcT none (Row.M [ah.arr .i64 y m]) 1 m u])),(0,ak.row (Row.M [ah.arr .i64 a 30])),(0,ak.row (Row.M [ah.arr .i64 b 30])),(0,ak.row (Row.I .i64 [y (ar 0 j 1)])),(0,ak.row (Row.I .i64 [Int.ofNat 0]))] } :: H=[]) Tr.bad))) (Tr.ok (Ex.exit 0,[(0,AV.ptrT (some (Nat.succ s)) Z0 0,none),(3,AV.ptr 0 0 0 0,none),(4,AV.ptr 0 1 0 0,none),(5,AV.ptr 0 2 0 0,none),(15,AV.int .i64 (Int.ofNat l),none),(16,AV.int .i64 j,none),(17,AV.bool false,some 1)],{ lock:=false,bs:=[(0,ak.row (Row.G [AV.slcT none (Row.M [ah.arr .i64 y m]) 1 m u])),(0,ak.row (Row.M [ah.arr .i64 a 30])),(0,ak.row (Row.M [ah.arr .i64 b 30]))] } :: H))) (Row.M [ah.one (AV.slcT none (Row.M [ah.arr .i64 t l]) 1 l false),ah.one (AV.slcT none (Row.M [ah.arr .i64 d k]) 1 k false),ah.arr .i64 g 30]):=by kernel_rfl
theorem SV (n s l k m:Nat) (t d g y:Nat→Int) (u:Bool) (b:Nat→Int) (H:aa):aZ Try.prog (cd n) 100000 53 Try.f53 (KtL.kt 53) (il aH n 0) (bZ aN 0 (ua s l t k d g 0) (uf m y u (fun x=>Int.ofNat 0) (fun x=>Int.ofNat 0)::H) (.ok (.normal,hints (ua s l t k d g (Int.ofNat l)++[(17,.bool false)]),uf m y u (fun x=>Int.ofNat 0) b::H))) aO [(dv s l t k d g,none),(bP m y u,none)] H =
 (fun (Z0:ao)=>((fun (Z1:aW)=>Tr.reqP (Z0=Z0∧Z1::H=Z1::H) (Tr.req (fW 0 30 0 30) (Tr.ok ((AV.agg (Row.M [ah.arr .i64 (dR (fun x=>Int.ofNat 0) 0 b 30) 30]),none),H)))) { lock:=false,bs:=[(0,ak.row (Row.G [AV.slcT none (Row.M [ah.arr .i64 y m]) 1 m u])),(0,ak.row (Row.M [ah.arr .i64 (fun x=>Int.ofNat 0) 30])),(0,ak.row (Row.M [ah.arr .i64 (fun x=>Int.ofNat 0) 30]))] })) [(0,AV.ptrT (some (Nat.succ s)) (Row.M [ah.one (AV.slcT none (Row.M [ah.arr .i64 t l]) 1 l false),ah.one (AV.slcT none (Row.M [ah.arr .i64 d k]) 1 k false),ah.arr .i64 g 30]) 0),(3,AV.ptr 0 0 0 0),(4,AV.ptr 0 1 0 0),(5,AV.ptr 0 2 0 0),(15,AV.int .i64 (Int.ofNat l)),(16,AV.int .i64 (Int.ofNat 0))]:=by kernel_rfl
theorem P6:∀ b,(0,b) ∈ aJ (bm Try.f53)→b=.loop (part Try.f53 [1,1,0,1,0,0]):=fa (by kernel_rfl)
theorem tc {n d i:Nat} {args:List AV} {H H2 R:aa} {l l2:gQ} {fr fr1 fr2:ao} {lv:aW}
 (hg:aq H d i=(0,.loop l)) (hl:au H d=false) (hs:l.state=.ready) (hp:lG l.nt (my (d+1) l.fr) l.params (args.map (fz 1))=some fr)
 (h1:exec (vT n l.fn l.nt (d+1) i) l.assign fr (aB::H)=some (.normal,fr1,aB::H))
 (h2:exec (vT n l.fn l.nt (d+1) i) l.body fr1 (eh (aB::H) (d+1) i (0,.loop { l with state:=.busy }))=some (.normal,fr2,lv::H2)) (hg2:aq H2 d i=(0,.loop l2)) (hR:R=eh H2 d i (0,.loop { l2 with state:=.ready,pending:=none })) :
 cd (n+1) (.round d i) args H=some (.bool true,R):=by
 rw[hR]
 exact FH (P:=Try.prog) (ora:=ld) (KT:=KtL.kt) (fu:=100000) (e:=.normal) hg hl hs hp h1 (by rw[show aq (aB::H) (d+1) i=aq H d i from rfl];exact hg) hs h2 hg2
theorem pR {n f nt d i:Nat} {c:Code} {callR:bG} {bl:gR} {rg:rP} {fr:ao} {H:aa} {T:Tr n6} (e:aQ (vT n f nt d i) callR bl rg c (hints fr) H=T) (hC:callR.Ok (cd n)) (hB:bl.Ok (vT n f nt d i) c) (hR:rg.Ok (vT n f nt d i) c) {y:Ex×ao×aa} (h:T.all fun x=>x.st=y):exec (vT n f nt d i) c fr H=some y:=by
 obtain ⟨x,h1,rfl⟩:=h
 have:=oA (cx:=vT n f nt d i) hC c hB hR (hints fr) H x (by rw[e];exact h1)
 rw[gZ] at this;exact this
noncomputable def GO:Code:=part Try.f53 [1,1,0,1,0,0,1,1,0,0,1,1,0,1,0,0]
noncomputable def GP:Code:=part Try.f53 [1,1,0,1,0,0,1,1,0,0,1,1,0,1,0,1]
theorem SI:dV (part Try.f53 [1,1,0,1,0,0])=[(.tmp 25,#[26],GO,GP)]:=by kernel_rfl
noncomputable def mj (s l:Nat) (t:Nat→Int) (k:Nat) (d g:Nat→Int) (j:Int):gQ:={ state:=.ready,pending:=none,fn:=53,nt:=42,fr:=uU s l t k d g j,params:=[26],assign:=GO,body:=GP }
def C9 (t e:Nat→Int) (i:Nat):Nat→Int
 | 0=>e i
 | m+1=>min (C9 t e i m) (e (bX t m (i:Int)).toNat-(m:Int))
def oO (l:Nat) (t e:Nat→Int) (i:Nat):Int:=C9 t e i (qf l t i)
section
variable (n s l k m:Nat) (t d g y:Nat→Int) (u:Bool) (a b:Nat→Int) (H:aa) (i:Nat)
theorem OE (j x v w:Int) (hx:0≤x) (hm:x<m) (hv:-1000≤v∧v≤1000) (hw:0≤w∧w≤1000) (hy:-1000≤y x.toNat∧y x.toNat≤1000) :
 cd (n+1) (.round 1 5) [.int .i64 x] (aB::jr m y u a b v w [(0,.loop (mj s l t k d g j))]::H)=some (.bool true,aB::jr m y u a b (min v (y x.toNat-w)) (w+1) [(0,.loop (mj s l t k d g j))]::H):=by
 have h1:exec (vT n 53 42 2 5) GO (H6 s l t k d g j x) (aB::aB::jr m y u a b v w [(0,.loop (mj s l t k d g j))]::H)=some (.normal,EE x,aB::aB::jr m y u a b v w [(0,.loop (mj s l t k d g j))]::H) :=
  pR (ON n s l k m t d g y u a b _ H j x v w) (av n) (af _ _) (ag _ _) (Tr.bk rfl)
 have h2:exec (vT n 53 42 2 5) GP (EE x) (aB::aB::jr m y u a b v w [(0,.loop { mj s l t k d g j with state:=.busy })]::H)=some (.normal,[],aB::aB::jr m y u a b (min v (y x.toNat-w)) (w+1) [(0,.loop { mj s l t k d g j with state:=.busy })]::H):=by
  refine pR (OO n m y u a b _ H x v w) (av n) (af _ _) (ag _ _) ?_
  have e1:bB .i64 (y x.toNat) w=y x.toNat-w:=qt (by omega) (by omega)
  have e2:bE .i64 w (Int.ofNat 1)=w+1:=Cz (by show _≤w+1;omega) (by show w+1≤_;omega)
  rw[ME hx,e1,e2,o5]
  generalize mj s l t k d g j=L at *
  generalize y x.toNat=q at *
  generalize min v (q-w)=V at *
  exact wF
 exact tc (l:=mj s l t k d g j) (l2:={ mj s l t k d g j with state:=.busy }) rfl rfl rfl rfl h1 h2 rfl rfl
theorem E0 {t e:Nat→Int} {i:Nat} {l:Nat} (hy:∀ j,j<l→-900≤e j∧e j≤900) (hi:i<l) (ht:∀ j,j<l→t j<l):∀ m,m≤31→(∀ q,q<m→0≤bX t q (i:Int))→-1000≤C9 t e i m∧C9 t e i m≤1000
 | 0,_,_=>by have:=hy i hi;show -1000≤e i∧e i≤1000;omega
 | m+1,hm,hp=>by
   have ih:=E0 hy hi ht m (by omega) (fun q hq=>hp q (by omega))
   have h1:=hp m (by omega)
   have h2:=jL ht (show (i:Int)<l by omega) m
   have h3:=hy (bX t m (i:Int)).toNat (by omega)
   show -1000≤min (C9 t e i m) _∧min (C9 t e i m) _≤1000
   omega
theorem Tl (hl:l≤30) (hm:m=l) (ht:∀ j,j<l→t j<l) (hi:i<l) (hc:ig l t=false) (hy:∀ j,j<l→-900≤y j∧y j≤900) :
 exec (bt (n+2) 53 42) (.rangeFunc (.tmp 25) #[26] GO GP) (uU s l t k d g (i:Nat)) (jr m y u a b (y i) 0 []::H)=some (.normal,uU s l t k d g (i:Nat),jr m y u a b (oO l t y i) (qf l t i:Nat) [(0,.dead)]::H):=by
 subst hm
 obtain ⟨e1,e2,e3⟩:=pM hc i hi
 exact zg (cx:=bt (n+2) 53 42) (l:=mj s m t k d g (i:Nat)) (f:=.tmp 25) (ps:=#[26]) (fr:=uU s m t k d g (i:Nat)) (H:=jr m y u a b (y i) 0 []::H) (g:=81) (a:=[]) (b:=[.ptrT none (.I .i64 [(i:Int)]) 0,.ptrT (some 0) (.G [dv (s+1) m t k d g]) 0]) rfl rfl rfl
  (KC (n+1) m k t d g i (qf m t i) (fun c=>jr m y u a b (C9 t y i c) (c:Nat) [(0,.loop (mj s m t k d g (i:Nat)))]::H) (s+1) (by omega) e2 e3 ht (by omega) hi (fun c hc=>by
    have h1:=e2 c hc
    have h2:=jL ht (show (i:Int)<m by omega) c
    have h3:=hy (bX t c (i:Int)).toNat (by omega)
    exact OE n s m k m t d g y u a b H _ _ _ _ h1 h2 (E0 hy hi ht c (by omega) (fun q hq=>e2 q (by omega))) (by omega) (by omega))) rfl rfl rfl
theorem Kb (z:Nat→Int) (j:Nat):fH (fun i=>if i<j then z i else 0) j (z j)=fun i=>if i<j+1 then z i else 0:=by
 rw[mT];funext i
 show (if i=j then z j else if i<j then z i else 0)=_
 by_cases c:i=j
 · subst c;rw[if_pos rfl,if_pos (by omega)]
 · rw[if_neg c]
   by_cases c2:i<j
   · rw[if_pos c2,if_pos (by omega)]
   · rw[if_neg c2,if_neg (by omega)]
def lJ (l:Nat) (t e:Nat→Int) (j:Nat):Nat→Int:=fun i=>if i<j then oO l t e i else 0
theorem Sm (hl:l≤30) (hm:m=l) (ht:∀ j,j<l→t j<l) (hc:ig l t=false) (hy:∀ j,j<l→-900≤y j∧y j≤900) :
 exec (bt (n+2) 53 42) (.block 0 (.loop (part Try.f53 [1,1,0,1,0,0]))) (ua s l t k d g 0) (uf m y u a (fun x=>Int.ofNat 0)::H)=some (.normal,ua s l t k d g (Int.ofNat l)++[(17,.bool false)],uf m y u a (lJ l t y l)::H):=by
 refine jD (n:=n+2) (f:=53) (nt:=42) (c:=part Try.f53 [1,1,0,1,0,0]) 0 (fun j=>ua s l t k d g (j:Nat)) (fun j=>uf m y u a (lJ l t y j)::H) l (ua s l t k d g (Int.ofNat l)++[(17,.bool false)],uf m y u a (lJ l t y l)::H) (by omega) (fun j hj=>?_) ?_
 · have hx:=Tl n s l k m t d g y u a (lJ l t y j) H j hl hm ht hj hc hy
   have he:=t53 (n+1) s l k m t d g y u a (lJ l t y j) H (j:Nat) (oO l t y j) (qf l t j:Nat)
   rw[jo] at he
   refine aK he (lD (n+1) 1) (af _ _) (wZ (ag _ _) (fun f ps a b _ hm x hx2=>?_)) ?_
   · rw[SI] at hm
     simp only[List.mem_cons,Prod.mk.injEq,List.not_mem_nil,or_false] at hm
     obtain ⟨rfl,rfl,rfl,rfl⟩:=hm
     rw[← Tr.ab hx2];exact hx
   · show Tr.all _ (fun x=>_∧tidy _ _ _=(ua s l t k d g ((j+1:Nat):Int),uf m y u a (lJ l t y (j+1))::H))
     have hu:fH (lJ l t y j) j (oO l t y j)=lJ l t y (j+1):=Kb (oO l t y) j
     have e1:tB (ar 2 (j:Int) 1) 2=j:=by rw[kQ,ll];omega
     rw[dx (by omega)]
     simp only[e1,hu,jo]
     generalize oO l t y j=V at *
     generalize lJ l t y (j+1)=Y2 at *
     generalize lJ l t y j=Y1 at *
     exact wF
 · obtain ⟨x,h1,rfl⟩:=aK (Q:=fun x=>x=(.exit 0,ua s l t k d g (Int.ofNat l)++[(17,.bool false)],uf m y u a (lJ l t y l)::H)) (OP (n+1) s l k m t d g y u a (lJ l t y l) H (Int.ofNat l)) (lD (n+1) 1) (af _ _) (wZ (ag _ _) (fun f ps a b _ hm x hx2=>(Tr.ae hx2).elim)) (by
    refine Tr.bx (fun hc=>?_) (fun hc=>Tr.bk rfl)
    simp (disch:=omega) only[nV,nW] at hc;omega)
   exact h1
theorem MC (hl:l≤30) (hm:m=l) (ht:∀ j,j<l→t j<l) (hc:ig l t=false) (hy:∀ j,j<l→-900≤y j∧y j≤900) :
 cd (n+3) (.fn 53) [dv s l t k d g,bP m y u] H=some (.agg (.M [.arr .i64 (br (lJ l t y l)) 30]),H):=by
 have hx:=Sm n s l k m t d g y u (fun x=>Int.ofNat 0) H hl hm ht hc hy
 refine aL (n:=n+2) Try.func53 rfl rfl rfl (SV (n+2) s l k m t d g y u (lJ l t y l) H) (av _) (aD (af _ _) P6 (fun x hy=>bL hy hx)) (ag _ _) ?_
 generalize lJ l t y l=Y at *
 exact wF
end
end Go.Eng
end
