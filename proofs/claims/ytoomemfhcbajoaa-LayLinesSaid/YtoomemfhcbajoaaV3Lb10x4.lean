/- Lay: how many have a last turn up to one, the least turn in which cells crowd. -/
import Derived.Test.YtoomemfhcbajoaaV3Lb6x4
set_option linter.unusedVariables false
set_option linter.unusedSimpArgs false
set_option maxRecDepth 100000
section
namespace Go.Eng
open Go.Proofs
noncomputable def v9 (l:Nat) (x c j:Int):ao:=[(2,.int .i64 x),(7,.ptr 0 0 0 0),(8,.int .i64 c),(18,.int .i64 (Int.ofNat l)),(19,.int .i64 j)]
noncomputable def v8 (s l:Nat) (t:Nat→Int) (k:Nat) (d g:Nat→Int) (x f j:Int):ao:=[(0,dv (s+1) l t k d g),(2,.int .i64 x),(7,.ptr 0 0 0 0),(8,.int .i64 f),(15,.int .i64 j)]
noncomputable def qK (s l:Nat) (t:Nat→Int) (k:Nat) (d g:Nat→Int) (x f T c j:Int):ao:=[(0,dv (s+1) l t k d g),(2,.int .i64 x),(7,.ptr 0 0 0 0),(8,.int .i64 f),(9,.int .i64 T),(10,.int .i64 c),(15,.int .i64 T),(23,.int .i64 (Int.ofNat l)),(24,.int .i64 j)]
theorem t71 (n l:Nat) (z:Nat→Int) (H:aa) (x c j:Int):aQ (bt n 71 31) (il aH n 0) aN aO (part Try.f71 [1,1,1,0,1,0,0]) (hints (v9 l x c j)) (eC z::H) =
 (fun (Z0:aW)=>Tr.ite (bV j (Int.ofNat l)) (Tr.req (cS j 30) (Tr.req (cu 0 0) (Tr.req (cJ (ar 0 j 1) 30) (Tr.ite (jF (z (ar 0 j 1)) x) (Tr.ok (Ex.normal,[(2,AV.int .i64 x,none),(7,AV.ptr 0 0 0 0,none),(8,AV.int .i64 (bE .i64 c (Int.ofNat 1)),none),(18,AV.int .i64 (Int.ofNat l),none),(19,AV.int .i64 (bE .i64 j (Int.ofNat 1)),none)],Z0::H)) (Tr.ok (Ex.normal,[(2,AV.int .i64 x,none),(7,AV.ptr 0 0 0 0,none),(8,AV.int .i64 c,none),(18,AV.int .i64 (Int.ofNat l),none),(19,AV.int .i64 (bE .i64 j (Int.ofNat 1)),none)],Z0::H)))))) (Tr.ok (Ex.exit 0,[(2,AV.int .i64 x,none),(7,AV.ptr 0 0 0 0,none),(8,AV.int .i64 c,none),(18,AV.int .i64 (Int.ofNat l),none),(19,AV.int .i64 j,none),(20,AV.bool false,some 1)],Z0::H))) { lock:=false,bs:=[(0,ak.row (Row.M [ah.arr .i64 z 30]))] }:=by kernel_rfl
theorem S6 (n s l k m:Nat) (t d g y z:Nat→Int) (u:Bool) (H:aa) (x c:Int):aZ Try.prog (cd n) 100000 71 Try.f71 (KtL.kt 71) (il (tX aH 53 [dv (s+1) l t k d g,bP m y u] (.agg (.M [.arr .i64 z 30]))) n 0) (bZ aN 0 (v9 l x 0 0) (eC (br z)::H) (.ok (.normal,hints (v9 l x c (Int.ofNat l)++[(20,.bool false)]),eC (br z)::H))) aO [(dv s l t k d g,none),(bP m y u,none),(.int .i64 x,none)] H =
 (fun (Z0:List AV)=>((fun (Z1:ao)=>((fun (Z2:aW)=>Tr.reqP (Z0=Z0) (Tr.req (fW 0 30 0 30) (Tr.reqP (Z1=Z1∧Z2::H=Z2::H) (Tr.ok ((AV.int .i64 c,none),H))))) { lock:=false,bs:=[(0,ak.row (Row.M [ah.arr .i64 (dR (fun x=>Int.ofNat 0) 0 z 30) 30]))] })) [(2,AV.int .i64 x),(7,AV.ptr 0 0 0 0),(8,AV.int .i64 (Int.ofNat 0)),(18,AV.int .i64 (Int.ofNat l)),(19,AV.int .i64 (Int.ofNat 0))])) [AV.ptrT (some (Nat.succ s)) (Row.M [ah.one (AV.slcT none (Row.M [ah.arr .i64 t l]) 1 l false),ah.one (AV.slcT none (Row.M [ah.arr .i64 d k]) 1 k false),ah.arr .i64 g 30]) 0,AV.slcT none (Row.M [ah.arr .i64 y m]) 1 m u]:=by kernel_rfl
theorem L2 (n s l k:Nat) (t d g z:Nat→Int) (H:aa) (x f T c j:Int):aQ (bt n 69 43) (il aH n 0) aN aO (part Try.f69 [1,0,1,1,1,0,1,0,0,1,1,0,0,1,1,1,0,0]) (hints (qK s l t k d g x f T c j)) (eC z::H) =
 (fun (Z0:Nat×AV×Option Nat)=>((fun (Z1:aW)=>Tr.ite (bV j (Int.ofNat l)) (Tr.req (cS j 30) (Tr.req (cu 0 0) (Tr.req (cJ (ar 0 j 1) 30) (Tr.ite (bV T (z (ar 0 j 1))) (Tr.ok (Ex.normal,[Z0,(2,AV.int .i64 x,none),(7,AV.ptr 0 0 0 0,none),(8,AV.int .i64 f,none),(9,AV.int .i64 T,none),(10,AV.int .i64 c,none),(15,AV.int .i64 T,none),(23,AV.int .i64 (Int.ofNat l),none),(24,AV.int .i64 (bE .i64 j (Int.ofNat 1)),none)],Z1::H)) (Tr.ite (bV (Df .i64 x T) (bE .i64 c (Int.ofNat 1))) (Tr.ok (Ex.exit 0,[(8,AV.int .i64 T,none)],Z1::H)) (Tr.ok (Ex.normal,[Z0,(2,AV.int .i64 x,none),(7,AV.ptr 0 0 0 0,none),(8,AV.int .i64 f,none),(9,AV.int .i64 T,none),(10,AV.int .i64 (bE .i64 c (Int.ofNat 1)),none),(15,AV.int .i64 T,none),(23,AV.int .i64 (Int.ofNat l),none),(24,AV.int .i64 (bE .i64 j (Int.ofNat 1)),none)],Z1::H))))))) (Tr.ok (Ex.exit 2,[Z0,(2,AV.int .i64 x,none),(7,AV.ptr 0 0 0 0,none),(8,AV.int .i64 f,none),(9,AV.int .i64 T,none),(10,AV.int .i64 c,none),(15,AV.int .i64 T,none),(23,AV.int .i64 (Int.ofNat l),none),(24,AV.int .i64 j,none),(25,AV.bool false,some 1)],Z1::H))) { lock:=false,bs:=[(0,ak.row (Row.M [ah.arr .i64 z 30]))] })) (0,AV.ptrT (some (Nat.succ s)) (Row.M [ah.one (AV.slcT none (Row.M [ah.arr .i64 t l]) 1 l false),ah.one (AV.slcT none (Row.M [ah.arr .i64 d k]) 1 k false),ah.arr .i64 g 30]) 0,none):=by kernel_rfl
theorem t69 (n s l k:Nat) (t d g z:Nat→Int) (H:aa) (x f j c:Int) (b:Bool):aQ (bt n 69 43) (il aH n 0) (bZ aN 2 (qK s l t k d g x f j 0 0) (eC z::H) (.ite b (.ok (.exit 0,hints [(8,.int .i64 j)],eC z::H)) (.ok (.normal,hints (qK s l t k d g x f j c (Int.ofNat l)++[(25,.bool false)]),eC z::H)))) aO (part Try.f69 [1,0,1,1,1,0,1,0,0]) (hints (v8 s l t k d g x f j)) (eC z::H) =
 (fun (Z0:Row)=>((fun (Z1:aW)=>((fun (Z2:ao)=>Tr.ite (bV j (Int.ofNat 41)) (Tr.reqP (Z2=Z2∧Z1::H=Z1::H) (Tr.ite b (Tr.ok (Ex.exit 0,[(8,AV.int .i64 j,none)],Z1::H)) (Tr.ok (Ex.normal,[(0,AV.ptrT (some (Nat.succ s)) Z0 0,none),(2,AV.int .i64 x,none),(7,AV.ptr 0 0 0 0,none),(8,AV.int .i64 f,none),(15,AV.int .i64 (bE .i64 j (Int.ofNat 1)),none)],Z1::H)))) (Tr.ok (Ex.exit 0,[(0,AV.ptrT (some (Nat.succ s)) Z0 0,none),(2,AV.int .i64 x,none),(7,AV.ptr 0 0 0 0,none),(8,AV.int .i64 f,none),(15,AV.int .i64 j,none),(16,AV.bool false,some 1)],Z1::H))) [(0,AV.ptrT (some (Nat.succ s)) Z0 0),(2,AV.int .i64 x),(7,AV.ptr 0 0 0 0),(8,AV.int .i64 f),(9,AV.int .i64 j),(10,AV.int .i64 (Int.ofNat 0)),(15,AV.int .i64 j),(23,AV.int .i64 (Int.ofNat l)),(24,AV.int .i64 (Int.ofNat 0))])) { lock:=false,bs:=[(0,ak.row (Row.M [ah.arr .i64 z 30]))] })) (Row.M [ah.one (AV.slcT none (Row.M [ah.arr .i64 t l]) 1 l false),ah.one (AV.slcT none (Row.M [ah.arr .i64 d k]) 1 k false),ah.arr .i64 g 30]):=by kernel_rfl
theorem OT (n s l k:Nat) (t d g z:Nat→Int) (H:aa) (x f j:Int):aQ (bt n 69 43) (il aH n 0) (mw aN 2) aO (part Try.f69 [1,0,1,1,1,0,1,0,0]) (hints (v8 s l t k d g x f j)) (eC z::H) =
 Tr.ite (bV j (Int.ofNat 41)) Tr.bad (Tr.ok (Ex.exit 0,[(0,AV.ptrT (some (Nat.succ s)) (Row.M [ah.one (AV.slcT none (Row.M [ah.arr .i64 t l]) 1 l false),ah.one (AV.slcT none (Row.M [ah.arr .i64 d k]) 1 k false),ah.arr .i64 g 30]) 0,none),(2,AV.int .i64 x,none),(7,AV.ptr 0 0 0 0,none),(8,AV.int .i64 f,none),(15,AV.int .i64 j,none),(16,AV.bool false,some 1)],{ lock:=false,bs:=[(0,ak.row (Row.M [ah.arr .i64 z 30]))] } :: H)):=by kernel_rfl
theorem S5 (n s l k m:Nat) (t d g y z:Nat→Int) (u:Bool) (H:aa) (x r:Int) (R:aI):aZ Try.prog (cd n) 100000 69 Try.f69 (KtL.kt 69) (il (tX aH 53 [dv (s+1) l t k d g,bP m y u] (.agg (.M [.arr .i64 z 30]))) n 0) (bZ aN 0 (v8 s l t k d g x (-1) 0) (eC (br z)::H) (.ok (.normal,(8,.int .i64 r,none)::[],eC (br z)::H))) aO [(dv s l t k d g,none),(bP m y u,none),(.int .i64 x,none)] H =
 (fun (Z0:Row)=>((fun (Z1:ao)=>((fun (Z2:aW)=>Tr.reqP ([AV.ptrT (some (Nat.succ s)) Z0 0,AV.slcT none (Row.M [ah.arr .i64 y m]) 1 m u]=[AV.ptrT (some (Nat.succ s)) Z0 0,AV.slcT none (Row.M [ah.arr .i64 y m]) 1 m u]) (Tr.req (fW 0 30 0 30) (Tr.reqP (Z1=Z1∧Z2::H=Z2::H) (Tr.ok ((AV.int .i64 r,none),H))))) { lock:=false,bs:=[(0,ak.row (Row.M [ah.arr .i64 (dR (fun x=>Int.ofNat 0) 0 z 30) 30]))] })) [(0,AV.ptrT (some (Nat.succ s)) Z0 0),(2,AV.int .i64 x),(7,AV.ptr 0 0 0 0),(8,AV.int .i64 (Int.negSucc 0)),(15,AV.int .i64 (Int.ofNat 0))])) (Row.M [ah.one (AV.slcT none (Row.M [ah.arr .i64 t l]) 1 l false),ah.one (AV.slcT none (Row.M [ah.arr .i64 d k]) 1 k false),ah.arr .i64 g 30]):=by kernel_rfl
theorem Pm (n s l k m:Nat) (t d g y z:Nat→Int) (u:Bool) (H:aa) (x:Int):aZ Try.prog (cd n) 100000 69 Try.f69 (KtL.kt 69) (il (tX aH 53 [dv (s+1) l t k d g,bP m y u] (.agg (.M [.arr .i64 z 30]))) n 0) (bZ aN 0 (v8 s l t k d g x (-1) 0) (eC (br z)::H) (.ok (.normal,hints (v8 s l t k d g x (-1) 41++[(16,.bool false)]),eC (br z)::H))) aO [(dv s l t k d g,none),(bP m y u,none),(.int .i64 x,none)] H =
 (fun (Z0:Row)=>((fun (Z1:ao)=>((fun (Z2:aW)=>Tr.reqP ([AV.ptrT (some (Nat.succ s)) Z0 0,AV.slcT none (Row.M [ah.arr .i64 y m]) 1 m u]=[AV.ptrT (some (Nat.succ s)) Z0 0,AV.slcT none (Row.M [ah.arr .i64 y m]) 1 m u]) (Tr.req (fW 0 30 0 30) (Tr.reqP (Z1=Z1∧Z2::H=Z2::H) (Tr.ok ((AV.int .i64 (Int.negSucc 0),none),H))))) { lock:=false,bs:=[(0,ak.row (Row.M [ah.arr .i64 (dR (fun x=>Int.ofNat 0) 0 z 30) 30]))] })) [(0,AV.ptrT (some (Nat.succ s)) Z0 0),(2,AV.int .i64 x),(7,AV.ptr 0 0 0 0),(8,AV.int .i64 (Int.negSucc 0)),(15,AV.int .i64 (Int.ofNat 0))])) (Row.M [ah.one (AV.slcT none (Row.M [ah.arr .i64 t l]) 1 l false),ah.one (AV.slcT none (Row.M [ah.arr .i64 d k]) 1 k false),ah.arr .i64 g 30]):=by kernel_rfl
theorem P9:∀ b,(0,b) ∈ aJ (bm Try.f71)→b=.loop (part Try.f71 [1,1,1,0,1,0,0]):=fa (by kernel_rfl)
theorem PL:∀ b,(0,b) ∈ aJ (bm Try.f69)→b=.loop (part Try.f69 [1,0,1,1,1,0,1,0,0]):=fa (by kernel_rfl)
theorem MS:∀ b,(2,b) ∈ aJ (part Try.f69 [1,0,1,1,1,0,1,0,0])→b=.loop (part Try.f69 [1,0,1,1,1,0,1,0,0,1,1,0,0,1,1,1,0,0]):=fa (by kernel_rfl)
def ia (l:Nat) (t e:Nat→Int) (T:Int):Nat:=cn (fun i=>decide (oO l t e i≤T)) l
def Em (l:Nat) (t e:Nat→Int) (h T:Int):Bool:=decide (h*T<ia l t e T)
def Af (l:Nat) (t e:Nat→Int) (h:Int):Int:=F5 (fun T=>Em l t e h (T:Nat)) 41
theorem Nh {n f nt:Nat} {c:Code} (id:Nat) (e:Ex) (F:Nat→ao) (G:Nat→aa) (N:Nat) (p:Nat→Bool) (X:Nat→ao×aa) (Y:ao×aa) (hN:N<99999) (hne:e≠.normal) (wg:∀ id',e=.exit id'→Nat.beq id' id=false) (hc:(match e with | .normal=>false | _=>true)=true)
 (hs:∀ j,j<N→∃ x,exec (bt n f nt) c (F j) (G j)=some x∧if p j=true then x=(e,X j) else x.1=.normal∧tidy (al (G 0)) x.2.1 x.2.2=(F (j+1),G (j+1)))
 (he:exec (bt n f nt) c (F N) (G N)=some (.exit id,Y)):exec (bt n f nt) (.block id (.loop c)) (F 0) (G 0)=some (cond (cU p N) (e,X (fN p N 0)) (.normal,Y)):=by
 have key:=mH (body:=exec (bt n f nt) c) (n:=al (G 0)) F G N p (fun j=>if j<N then (e,X j) else (.exit id,Y))
  (fun j hj hp=>by
    obtain ⟨x,h1,h2⟩:=hs j hj
    rw[if_neg (by rw[hp];simp)] at h2
    obtain ⟨e,f1,g1⟩:=x
    obtain ⟨rfl,h3⟩:=h2
    exact ⟨_,_,h1,h3⟩)
  (fun j hj hp=>by
    obtain ⟨x,h1,h2⟩:=hs j hj
    rw[if_pos hp] at h2
    subst h2
    rw[if_pos hj]
    exact ⟨h1,hne⟩)
  (by
    rw[if_neg (by omega)]
    exact ⟨he,by simp⟩) N 0 100000 (by omega) (by omega)
 cases hc:cU p N with
 | true =>
   have:=iK hc
   rw[if_pos this] at key
   exact eg wg key
 | false =>
   have:=pQ hc
   rw[if_neg (by omega)] at key
   exact dT key
theorem Ni {n f nt:Nat} {c:Code} (id:Nat) (F:Nat→ao) (G:Nat→aa) (N:Nat) (p:Nat→Bool) (X:Nat→ao×aa) (Y:ao×aa) (hN:N<99999)
 (hs:∀ j,j<N→∃ x,exec (bt n f nt) c (F j) (G j)=some x∧if p j=true then x=(.exit id,X j) else x.1=.normal∧tidy (al (G 0)) x.2.1 x.2.2=(F (j+1),G (j+1)))
 (he:exec (bt n f nt) c (F N) (G N)=some (.exit id,Y)):exec (bt n f nt) (.block id (.loop c)) (F 0) (G 0)=some (.normal,cond (cU p N) (X (fN p N 0)) Y):=by
 have key:=mH (body:=exec (bt n f nt) c) (n:=al (G 0)) F G N p (fun j=>if j<N then (.exit id,X j) else (.exit id,Y))
  (fun j hj hp=>by
    obtain ⟨x,h1,h2⟩:=hs j hj
    rw[if_neg (by rw[hp];simp)] at h2
    obtain ⟨e,f1,g1⟩:=x
    obtain ⟨rfl,h3⟩:=h2
    exact ⟨_,_,h1,h3⟩)
  (fun j hj hp=>by
    obtain ⟨x,h1,h2⟩:=hs j hj
    rw[if_pos hp] at h2
    subst h2
    rw[if_pos hj]
    exact ⟨h1,by simp⟩)
  (by
    rw[if_neg (by omega)]
    exact ⟨he,by simp⟩) N 0 100000 (by omega) (by omega)
 cases hc:cU p N with
 | true =>
   have:=iK hc
   rw[if_pos this] at key
   exact dT key
 | false =>
   have:=pQ hc
   rw[if_neg (by omega)] at key
   exact dT key
theorem rr {l:Nat} {z:Nat→Int} {j:Nat} (h:j<30):br (br z) j=z j:=by rw[mC _ _ h,mC _ _ h]
theorem wq {l:Nat} {t e:Nat→Int} {j:Nat} (h:j<l):lJ l t e l j=oO l t e j:=by unfold lJ;rw[if_pos h]
theorem Ef (p:Nat→Bool) (q:Int) (hq:0≤q):∀ l,cU (fun j=>p j && decide (q<(cn p j:Int)+1)) l=decide (q<(cn p l:Nat))
 | 0=>by
   rw[kI (fun j hj=>absurd hj (by omega))]
   exact (decide_eq_false (by show ¬ q<((0:Nat):Int);omega)).symm
 | l + 1 => by
   have ih:=Ef p q hq l
   have e:cn p (l+1)=cn p l+(p l).toNat:=rfl
   by_cases c:q<(cn p l:Nat)
   · rw[decide_eq_true c] at ih
     obtain ⟨j,hj,e2⟩:=(dI _ _).1 ih
     rw[(dI _ _).2 ⟨j,by omega,e2⟩,decide_eq_true (by omega)]
   · rw[decide_eq_false c] at ih
     have hn:=gd ih
     cases hp:p l with
     | true =>
       rw[hp] at e
       simp only[Bool.toNat_true] at e
       by_cases c2:q<((cn p (l+1):Nat):Int)
       · rw[decide_eq_true c2]
         exact (dI _ _).2 ⟨l,by omega,by simp only[hp,Bool.true_and,decide_eq_true_eq];omega⟩
       · rw[decide_eq_false c2]
         refine kI (fun j hj=>?_)
         by_cases ej:j=l
         · subst ej;simp only[hp,Bool.true_and,decide_eq_false_iff_not];omega
         · exact hn j (by omega)
     | false =>
       rw[hp] at e
       simp only[Bool.toNat_false,Nat.add_zero] at e
       rw[e,decide_eq_false c]
       refine kI (fun j hj=>?_)
       by_cases ej:j=l
       · subst ej;simp only[hp,Bool.false_and]
       · exact hn j (by omega)
section
variable (n s l k m:Nat) (t d g y:Nat→Int) (u:Bool) (H:aa) (h:Int)
theorem Sr (z:Nat→Int) (x:Int) (hl:l≤30):exec (bt n 71 31) (.block 0 (.loop (part Try.f71 [1,1,1,0,1,0,0]))) (v9 l x 0 0) (eC z::H)=some (.normal,v9 l x (cn (fun i=>decide (z i≤x)) l:Nat) (Int.ofNat l)++[(20,.bool false)],eC z::H):=by
 refine jD (n:=n) (f:=71) (nt:=31) (c:=part Try.f71 [1,1,1,0,1,0,0]) 0 (fun j=>v9 l x (cn (fun i=>decide (z i≤x)) j:Nat) (j:Nat)) (fun _=>eC z::H) l (v9 l x (cn (fun i=>decide (z i≤x)) l:Nat) (Int.ofNat l)++[(20,.bool false)],eC z::H) (by omega) (fun j hj=>?_) ?_
 · refine aK (t71 n l z H x (cn (fun i=>decide (z i≤x)) j:Nat) (j:Nat)) (av n) (af _ _) (ag _ _) ?_
   have hle:=m5 (fun i=>decide (z i≤x)) j
   show Tr.all _ (fun r=>_∧tidy _ _ _=(v9 l x ((cn (fun i=>decide (z i≤x)) j+(decide (z j≤x)).toNat:Nat):Int) ((j+1:Nat):Int),_))
   rw[dx (j:=j) (by omega),dx (by omega)]
   simp only[jo]
   generalize cn (fun i=>decide (z i≤x)) j=C at *
   generalize z j=q at *
   by_cases c:q≤x
   · rw[decide_eq_true c]
     exact wF
   · rw[decide_eq_false c]
     exact wF
 · obtain ⟨r,h1,rfl⟩:=aK (Q:=fun r=>r=(.exit 0,v9 l x (cn (fun i=>decide (z i≤x)) l:Nat) (Int.ofNat l)++[(20,.bool false)],eC z::H)) (t71 n l z H x (cn (fun i=>decide (z i≤x)) l:Nat) (Int.ofNat l)) (av n) (af _ _) (ag _ _) (by
    refine Tr.bx (fun hc=>?_) (fun hc=>Tr.bk rfl)
    simp (disch:=omega) only[nV,nW] at hc;omega)
   exact h1
theorem PU (x:Int) (hl:l≤30) (hm:m=l) (ht:∀ j,j<l→t j<l) (hc:ig l t=false) (hy:∀ j,j<l→-900≤y j∧y j≤900) :
 cd (n+4) (.fn 71) [dv s l t k d g,bP m y u,.int .i64 x] H=some (.int .i64 (ia l t y x:Nat),H):=by
 have hx:=Sr (n+3) l H (br (br (lJ l t y l))) x hl
 rw[eF (q:=fun i=>decide (oO l t y i≤x)) (fun j hj=>by rw[rr (l:=l) (by omega),wq hj])] at hx
 refine aL (n:=n+3) Try.func71 rfl rfl rfl (S6 (n+3) s l k m t d g y (br (lJ l t y l)) u H x (ia l t y x:Nat)) (aS _ (n+3) (bf (aG _) (fun H=>MC n (s+1) l k m t d g y u H hl hm ht hc hy))) (aD (af _ _) P9 (fun x hy=>bL hy hx)) (ag _ _) ?_
 generalize br (lJ l t y l)=z at *
 generalize ia l t y x=C at *
 exact wF
theorem N2 (z:Nat→Int) (f T:Int) (hl:l≤30) (hh:0≤h∧h≤1000) (hT:0≤T∧T≤1000):∃ c,exec (bt n 69 43) (.block 2 (.loop (part Try.f69 [1,0,1,1,1,0,1,0,0,1,1,0,0,1,1,1,0,0]))) (qK s l t k d g h f T 0 0) (eC z::H)=some (cond (decide (h*T<(cn (fun i=>decide (z i≤T)) l:Nat))) (.exit 0,[(8,.int .i64 T)],eC z::H) (.normal,qK s l t k d g h f T c (Int.ofNat l)++[(25,.bool false)],eC z::H)):=by
 have hm:=Int.mul_nonneg hh.1 hT.1
 have hm2:h*T≤1000*1000:=Int.mul_le_mul hh.2 hT.2 hT.1 (by omega)
 refine ⟨(cn (fun i=>decide (z i≤T)) l:Nat),?_⟩
 rw[← Ef _ _ hm l]
 refine Nh (n:=n) (f:=69) (nt:=43) (c:=part Try.f69 [1,0,1,1,1,0,1,0,0,1,1,0,0,1,1,1,0,0]) 2 (.exit 0) (fun j=>qK s l t k d g h f T (cn (fun i=>decide (z i≤T)) j:Nat) (j:Nat)) (fun _=>eC z::H) l (fun j=>decide (z j≤T) && decide (h*T<(cn (fun i=>decide (z i≤T)) j:Int)+1)) (fun j=>([(8,.int .i64 T)],eC z::H)) _ (by omega) (by simp) (fun id' h=>by cases h;rfl) rfl (fun j hj=>?_) ?_
 · refine aK (L2 n s l k t d g z H h f T (cn (fun i=>decide (z i≤T)) j:Nat) (j:Nat)) (av n) (af _ _) (ag _ _) ?_
   have hle:=m5 (fun i=>decide (z i≤T)) j
   have em:Df .i64 h T=h*T:=by rw[o7];exact pw (by omega) (by omega)
   show Tr.all _ (fun r=>if (decide (z j≤T) && decide (h*T<(cn (fun i=>decide (z i≤T)) j:Int)+1))=true then _ else _∧tidy _ _ _=(qK s l t k d g h f T ((cn (fun i=>decide (z i≤T)) j+(decide (z j≤T)).toNat:Nat):Int) ((j+1:Nat):Int),_))
   rw[dx (j:=j) (by omega),dx (by omega)]
   simp only[jo,em]
   generalize cn (fun i=>decide (z i≤T)) j=C at *
   generalize z j=q at *
   generalize h*T=P at *
   by_cases c:q≤T
   · by_cases c2:P<(C:Int)+1
     · simp only[decide_eq_true c,decide_eq_true c2,Bool.and_self,if_true]
       exact wF
     · simp only[decide_eq_true c,decide_eq_false c2,Bool.and_false,Bool.false_eq_true,if_false]
       exact wF
   · simp only[decide_eq_false c,Bool.false_and,Bool.false_eq_true,if_false]
     exact wF
 · obtain ⟨r,h1,rfl⟩:=aK (Q:=fun r=>r=(.exit 2,qK s l t k d g h f T (cn (fun i=>decide (z i≤T)) l:Nat) (Int.ofNat l)++[(25,.bool false)],eC z::H)) (L2 n s l k t d g z H h f T (cn (fun i=>decide (z i≤T)) l:Nat) (Int.ofNat l)) (av n) (af _ _) (ag _ _) (by
    refine Tr.bx (fun hc=>?_) (fun hc=>Tr.bk rfl)
    simp (disch:=omega) only[nV,nW] at hc;omega)
   exact h1
theorem Sq (z:Nat→Int) (hl:l≤30) (hh:0≤h∧h≤1000):exec (bt n 69 43) (.block 0 (.loop (part Try.f69 [1,0,1,1,1,0,1,0,0]))) (v8 s l t k d g h (-1) 0) (eC z::H)=some (.normal,cond (cU (fun T=>decide (h*(T:Int)<(cn (fun i=>decide (z i≤(T:Int))) l:Nat))) 41) ([(8,.int .i64 (fN (fun T=>decide (h*(T:Int)<(cn (fun i=>decide (z i≤(T:Int))) l:Nat))) 41 0:Nat))],eC z::H) (v8 s l t k d g h (-1) 41++[(16,.bool false)],eC z::H)):=by
 refine Ni (n:=n) (f:=69) (nt:=43) (c:=part Try.f69 [1,0,1,1,1,0,1,0,0]) 0 (fun j=>v8 s l t k d g h (-1) (j:Nat)) (fun _=>eC z::H) 41 (fun T=>decide (h*(T:Int)<(cn (fun i=>decide (z i≤(T:Int))) l:Nat))) (fun j=>([(8,.int .i64 (j:Nat))],eC z::H)) _ (by omega) (fun j hj=>?_) ?_
 · obtain ⟨c,hx⟩:=N2 n s l k t d g H h z (-1) (j:Nat) hl hh (by omega)
   have hp:(decide (h*(j:Int)<(cn (fun i=>decide (z i≤(j:Int))) l:Nat)))=(decide (h*(j:Int)<(cn (fun i=>decide (z i≤(j:Int))) l:Nat))):=rfl
   generalize hb:(decide (h*(j:Int)<(cn (fun i=>decide (z i≤(j:Int))) l:Nat)))=b at hx hp ⊢
   refine aK (t69 n s l k t d g z H h (-1) (j:Nat) c b) (av n) (aD (af _ _) MS (fun x hy=>fp hy hx)) (ag _ _) ?_
   show Tr.all _ (fun r=>if b=true then _ else _)
   rw[dx (j:=j) (by omega)]
   cases b with
   | true =>
     simp only[if_true]
     exact wF
   | false =>
     simp only[Bool.false_eq_true,if_false]
     exact wF
 · obtain ⟨r,h1,rfl⟩:=aK (Q:=fun r=>r=(.exit 0,v8 s l t k d g h (-1) 41++[(16,.bool false)],eC z::H)) (OT n s l k t d g z H h (-1) 41) (av n) (dW (af _ _) 2) (ag _ _) (by
    refine Tr.bx (fun hc=>?_) (fun hc=>Tr.bk rfl)
    simp (disch:=omega) only[nV,nW] at hc;omega)
   exact h1
theorem PT (hl:l≤30) (hm:m=l) (ht:∀ j,j<l→t j<l) (hc:ig l t=false) (hy:∀ j,j<l→-900≤y j∧y j≤900) (hh:0≤h∧h≤1000) :
 cd (n+4) (.fn 69) [dv s l t k d g,bP m y u,.int .i64 h] H=some (.int .i64 (Af l t y h),H):=by
 have hx:=Sq (n+3) s l k t d g H h (br (br (lJ l t y l))) hl hh
 rw[show (fun T:Nat=>decide (h*(T:Int)<(cn (fun i=>decide (br (br (lJ l t y l)) i≤(T:Int))) l:Nat)))=fun T:Nat=>Em l t y h (T:Nat) from by
  funext T
  rw[eF (q:=fun i=>decide (oO l t y i≤(T:Nat))) (fun j hj=>by rw[rr (l:=l) (by omega),wq hj])]
  rfl] at hx
 have hC:(tX aH 53 [dv (s+1) l t k d g,bP m y u] (.agg (.M [.arr .i64 (br (lJ l t y l)) 30]))).Ok (cd (n+3)):=bf (aG _) (fun H=>MC n (s+1) l k m t d g y u H hl hm ht hc hy)
 cases e:cU (fun T:Nat=>Em l t y h (T:Nat)) 41 with
 | true =>
   rw[e] at hx
   have hr:Af l t y h=(fN (fun T:Nat=>Em l t y h (T:Nat)) 41 0:Nat):=by unfold Af F5;rw[if_pos e]
   rw[← hr] at hx
   refine aL (n:=n+3) Try.func69 rfl rfl rfl (S5 (n+3) s l k m t d g y (br (lJ l t y l)) u H h (Af l t y h) []) (aS _ (n+3) hC) (aD (af _ _) PL (fun x hy=>bL hy hx)) (ag _ _) ?_
   generalize br (lJ l t y l)=z at *
   generalize Af l t y h=C at *
   exact wF
 | false =>
   rw[e] at hx
   have hr:Af l t y h=-1:=by unfold Af F5;rw[if_neg (by rw[e];decide)]
   rw[hr]
   refine aL (n:=n+3) Try.func69 rfl rfl rfl (Pm (n+3) s l k m t d g y (br (lJ l t y l)) u H h) (aS _ (n+3) hC) (aD (af _ _) PL (fun x hy=>bL hy hx)) (ag _ _) ?_
   generalize br (lJ l t y l)=z at *
   exact wF
end
end Go.Eng
end
section
namespace Go.Eng
open Go.Proofs
noncomputable def Db (l:Nat) (t:Nat→Int) (k:Nat) (d:Nat→Int):aW:=⟨false,[F2 l t k d]⟩
noncomputable def Oe (l:Nat) (t:Nat→Int) (k:Nat) (d:Nat→Int) (z:Nat→Int):aW:=⟨false,[F2 l t k d,(0,.row (.M [.arr .i64 z 30]))]⟩
theorem t54 (n:Nat) (H:aa) (q:Nat) (z:Nat→Int) (b0:Nat×ak):aQ (bt n 54 8) (il aH n 0) aN aO (bm Try.f54) (hints [(0,.slc 1 1 0 0 1 (Nat.succ q) (some 30))]) (aB::⟨false,[b0,(0,.row (.M [.arr .i64 z 30]))]⟩::H) =
 Tr.ite false (Tr.ok (Ex.ret,[(2,AV.nils,none)],aB::{ lock:=false,bs:=[b0,(0,ak.row (Row.M [ah.arr .i64 z 30]))] } :: H)) (Tr.req (gx 0 (Nat.succ q) 8) (Tr.req (cu 0 0) (Tr.req (ik (Nat.succ q) (Nat.succ q)) (Tr.req (fW 0 (Nat.succ q) 0 30) (Tr.ite (cJ 0 (bY 0 (Nat.succ q))) (Tr.req (cu 0 0) (Tr.req (ik 0 0) (Tr.ok (Ex.ret,[(2,AV.slc 0 1 0 0 1 (bY 0 (Nat.succ q)) none,none)],{ lock:=false,bs:=[(0,ak.row (Row.I .i64 [])),(0,ak.row (Row.M [ah.arr .i64 (lO (aA []) 0 (dE z 0)) (bY 0 (Nat.succ q))]))] } :: { lock:=false,bs:=[b0,(0,ak.row (Row.M [ah.arr .i64 z 30]))] } :: H)))) (Tr.req (cu 0 0) Tr.bad)))))):=by kernel_rfl
theorem SK (n l k:Nat) (t d g z z2:Nat→Int) (H:aa):aZ Try.prog (cd n) 100000 19 Try.f19 (KtL.kt 19) (il (Ag (tX (tX aH 51 [cg l t k d] (.tup [dv 0 l t k d g,.int .i64 0])) 53 [dv 0 l t k d g,bP k d false] (.agg (.M [.arr .i64 z 30]))) 54 [.slc 0 1 0 0 1 l (some 30)] (Oe l t k d (br z)::H) (.ok (.slc 0 2 0 0 1 l none,⟨false,[F2 l t k d,(0,.row (.M [.arr .i64 (br z) 30])),PZ l z2]⟩::H))) n 0) aN aO [(cg l t k d,none)] H =
 (fun (Z0:Row)=>((fun (Z1:List AV)=>((fun (Z2:aW)=>Tr.reqP ([AV.agg Z0]=[AV.agg Z0]) (Tr.ite (ay (bJ (Int.ofNat 0) (Int.ofNat 0))) (Tr.ok ((AV.tup [AV.nils,AV.int .i64 (Int.ofNat 0)],none),H)) (Tr.reqP (Z1=Z1) (Tr.req (fW 0 30 0 30) (Tr.req (lQ (Int.ofNat l) 30) (Tr.reqP ([AV.slc 0 1 0 0 1 (dg (Int.ofNat l)) (some 30)]=[AV.slc 0 1 0 0 1 l (some 30)]∧Z2::H=Z2::H) (Tr.req (cu 0 0) (Tr.req (fW 0 l 0 l) (Tr.ok ((AV.tup [AV.slcT none (Row.M [ah.arr .i64 (dE z2 0) l]) 1 l false,AV.int .i64 (Int.ofNat 0)],none),H)))))))))) { lock:=false,bs:=[(0,ak.row Z0),(0,ak.row (Row.M [ah.arr .i64 (dR (fun x=>Int.ofNat 0) 0 z 30) 30]))] })) [AV.ptrT (some 0) (Row.M [ah.one (AV.slcT none (Row.M [ah.arr .i64 t l]) 1 l false),ah.one (AV.slcT none (Row.M [ah.arr .i64 d k]) 1 k false),ah.arr .i64 g 30]) 0,AV.slcT none (Row.M [ah.arr .i64 d k]) 1 k false])) (Row.G [AV.slcT none (Row.M [ah.arr .i64 t l]) 1 l false,AV.slcT none (Row.M [ah.arr .i64 d k]) 1 k false]):=by kernel_rfl
theorem O2 (n l k:Nat) (t d:Nat→Int) (e:Int) (H:aa):aZ Try.prog (cd n) 100000 19 Try.f19 (KtL.kt 19) (il (tX aH 51 [cg l t k d] (.tup [.nilp,.int .i64 e])) n 0) aN aO [(cg l t k d,none)] H =
 (fun (Z0:List AV)=>Tr.reqP (Z0=Z0) (Tr.ite (ay (bJ e (Int.ofNat 0))) (Tr.ok ((AV.tup [AV.nils,AV.int .i64 e],none),H)) Tr.bad)) [AV.agg (Row.G [AV.slcT none (Row.M [ah.arr .i64 t l]) 1 l false,AV.slcT none (Row.M [ah.arr .i64 d k]) 1 k false])]:=by kernel_rfl
def kJ (z:Nat→Int) (j:Nat):List Int:=(List.range j).map z
theorem Bm (z:Nat→Int) (j:Nat):(kJ z j).length=j:=by simp[kJ]
theorem GA (z:Nat→Int) (j:Nat):kJ z (j+1)=kJ z j++[z j]:=by simp[kJ,List.range_succ]
theorem Bl (z:Nat→Int) (j:Nat):lO (dE (aA (kJ z j)) 0) j (aA [z j])=aA (kJ z (j+1)):=by
 have:=wu (kJ z j) (z j)
 rw[Bm,← GA] at this;exact this
theorem Al (z:Nat→Int) {j i:Nat} (h:i<j):aA (kJ z j) i=z i:=by
 rw[JB _ _ (by rw[Bm];exact h)];simp[kJ]
theorem Gd (z:Nat→Int):lO (aA []) 0 z=z:=by rw[oa];funext i;simp
structure Fw (l:Nat) (t:Nat→Int):Prop where
 l30:l≤30
 tl:∀ j,j<l→t j<l
 cyc:ig l t=false
theorem Sh.fw {l k:Nat} {t d:Nat→Int} (h:Sh l t k d):Fw l t:=⟨h.l30,h.tl,h.cyc⟩
def Bd (l:Nat) (e:Nat→Int):Prop:=∀ j,j<l→-900≤e j∧e j≤900
theorem Sh.bd {l k:Nat} {t d:Nat→Int} (h:Sh l t k d):Bd l d:=fun j hj=>by
 have:=h.d1 j hj
 have:=h.d40 j hj
 omega
section
variable (n l k:Nat) (t d:Nat→Int) (H:aa)
theorem Je {n:Nat} {args:List AV} {l1:aW} {H:aa} {fn:Func} {c:Code} (hf:Try.prog.funcs[54]?=some fn) (hb:fn.body=some c) (hle:Nat.ble args.length fn.ntmps=true) {e:Ex} {fr:ao} {l:aW} {j ver off sz len:Nat} {cap:Option Nat} {q:Row}
 (h:exec (bt n 54 fn.ntmps) c (ef 0 args) (⟨false,[]⟩::l1::H)=some (e,fr,l::l1::H)) (he:e=.normal∨e=.ret) (hv:gv Try.prog fr (l::l1::H) fn.results.toList=some [.slc 0 j ver off sz len cap]) (hq:dy (l::l1::H) 0 j ver=some q) (h0:l.lock=false) (h1:l1.lock=false) :
 cd (n+1) (.fn 54) args (l1::H)=some (.slc 0 l1.bs.length 0 off sz len cap,bF (l1::H) 0 (.row (kn 1 q))):=by
 have:ld (cd n) 54 args (l1::H)=some (.slc 0 l1.bs.length 0 off sz len cap,bF (l1::H) 0 (.row (kn 1 q))):=by
  show na Try.prog KtL.kt 100000 54 (cd n) args (l1::H)=_
  unfold na
  rw[hf];dsimp only
  rw[hb];dsimp only
  rw[if_pos hle,cI]
  rw[show exec (⟨Try.prog,cd n,100000,54,fn.ntmps,KtL.kt 54,none⟩:Cx) c (ef 0 args) (⟨false,[]⟩::l1::H)=_ from h]
  dsimp only
  rcases he with rfl | rfl<;>(simp only[hv,hq,h0,h1,Bool.or_self,Bool.false_eq_true,if_false])
 unfold cd
 rw[show cM Try.prog ld KtL.kt 100000 (n+1) (.fn 54) args (l1::H)=(match ld (cd n) 54 args (l1::H) with
  | some r=>some r
  | none=>_) from rfl,this]
theorem Qq (q:Nat) (z:Nat→Int) (b0:Nat×ak) (hq:q<30):cd (n+1) (.fn 54) [.slc 0 1 0 0 1 (q+1) (some 30)] (⟨false,[b0,(0,.row (.M [.arr .i64 z 30]))]⟩::H)=some (.slc 0 2 0 0 1 (q+1) none,⟨false,[b0,(0,.row (.M [.arr .i64 z 30])),PZ (q+1) z]⟩::H):=by
 obtain ⟨x,hx,hy⟩:=aK (Q:=fun x=>x=(.ret,[(2,.slc 0 1 0 0 1 (q+1) none)],(⟨false,[(0,.row (.I .i64 [])),(0,.row (.M [.arr .i64 z (q+1)]))]⟩:aW)::⟨false,[b0,(0,.row (.M [.arr .i64 z 30]))]⟩::H)) (fr:=[(0,.slc 1 1 0 0 1 (q+1) (some 30))]) (t54 n H q z b0) (av n) (af _ _) (ag _ _) (by
  rw[c5,Gd,show bY 0 (Nat.succ q)=q+1 by rw[bH,Nat.zero_add]]
  exact wF)
 subst hy
 have e8:Try.f54.ntmps=8:=by kernel_rfl
 have eb:Try.f54.body=some (bm Try.f54):=by kernel_rfl
 have er:Try.f54.results.toList=[.tmp 2]:=by kernel_rfl
 refine Je (fn:=Try.f54) (c:=bm Try.f54) (l1:=⟨false,[b0,(0,.row (.M [.arr .i64 z 30]))]⟩) Try.func54 eb (by rw[e8];rfl) (e:=.ret) (fr:=[(2,.slc 0 1 0 0 1 (q+1) none)]) (l:=⟨false,[(0,.row (.I .i64 [])),(0,.row (.M [.arr .i64 z (q+1)]))]⟩) (j:=1) (ver:=0) (q:=.M [.arr .i64 z (q+1)]) (by rw[e8];exact hx) (.inr rfl) (by rw[er];rfl) rfl rfl rfl
noncomputable def Od:AV:=if jK l t k d=0 then .tup [bP l (br (br (lJ l t d l))) false,.int .i64 0] else .tup [.nils,.int .i64 (jK l t k d)]
theorem Qh:cd (n+9) (.fn 19) [cg l t k d] H=some (Od l k t d,H):=by
 unfold Od
 by_cases h:jK l t k d=0
 · rw[if_pos h]
   have hs:=tu h
   have hl1:=hs.l1
   have hl2:=hs.l30
   have hb:=hs.bd
   obtain ⟨q,rfl⟩:∃ q,l=q+1:=⟨l-1,by omega⟩
   refine aL (n:=n+8) Try.func19 rfl rfl rfl (SK (n+8) (q+1) k t d (cw t (q+1)) (br (lJ (q+1) t d (q+1))) (br (br (lJ (q+1) t d (q+1)))) H) (aS _ (n+8) (ie (bf (bf (aG _) (fun H=>KA n (q+1) k t d H hs)) (fun H=>MC (n+5) 0 (q+1) k k t d _ d false H hs.l30 hs.kl hs.tl hs.cyc hb)) (fun x hy=>by rw[← Tr.ab hy];exact Qq (n+7) H q _ _ (by omega)))) (af _ _) (ag _ _) ?_
   rw[show dg (Int.ofNat (q+1))=q+1 from lu _,c5]
   generalize br (lJ (q+1) t d (q+1))=z at *
   generalize cw t (q+1)=g at *
   exact wF
 · rw[if_neg h]
   refine aL (n:=n+8) Try.func19 rfl rfl rfl (O2 (n+8) l k t d (jK l t k d) H) (aS _ (n+8) (bf (aG _) (fun H=>Gl n l k t d H h))) (af _ _) (ag _ _) ?_
   generalize jK l t k d=e at *
   exact wF
end
end Go.Eng
end
section
namespace Go.Eng
open Go.Proofs
section
variable (n:Nat) (H:aa)
variable (l k:Nat) (t d:Nat→Int)
end
end Go.Eng
end
section
namespace Go.Eng
open Go.Proofs
theorem P1 (n l k:Nat) (t d g:Nat→Int) (W:Int→Int→Nat→(Nat→Int)→Bool) (h:Int) (H:aa):aZ Try.prog (cd n) 100000 66 Try.f66 (KtL.kt 66) (il (jf (tX aH 51 [cg l t k d] (.tup [dv 0 l t k d g,.int .i64 0])) 56 (K6 W)) n 0) aN aO [(cg l t k d,none),(.int .i64 h,none)] H =
 (fun (Z0:AV×Option Nat)=>((fun (Z1:List AV)=>((fun (Z2:AV×Option Nat)=>Tr.reqP (Z1=Z1) (Tr.ite (ay (bJ (Int.ofNat 0) (Int.ofNat 0))) (Tr.ok ((AV.tup [AV.nilp,AV.int .i64 (Int.ofNat 0)],none),H)) (Tr.ite (bV h (Int.ofNat 1)) (Tr.ite (ay false) (Tr.ok (Z2,H)) (Tr.ok (Z0,H))) (Tr.ite (bV (Int.ofNat 10) h) (Tr.ite (ay false) (Tr.ok (Z2,H)) (Tr.ok (Z0,H))) (Tr.ite (ay true) (Tr.ok (Z2,H)) (Tr.ok (Z0,H))))))) (AV.tup [AV.nilp,AV.int .i64 (Int.ofNat 2)],none))) [AV.agg (Row.G [AV.slcT none (Row.M [ah.arr .i64 t l]) 1 l false,AV.slcT none (Row.M [ah.arr .i64 d k]) 1 k false])])) (AV.tup [AV.ptrT (some 0) (Row.M [ah.one (AV.slcT none (Row.M [ah.arr .i64 t l]) 1 l false),ah.one (AV.slcT none (Row.M [ah.arr .i64 d k]) 1 k false),ah.arr .i64 g 30]) 0,AV.int .i64 (Int.ofNat 0)],none):=by kernel_rfl
theorem Pl (n l k:Nat) (t d:Nat→Int) (e h:Int) (H:aa):aZ Try.prog (cd n) 100000 66 Try.f66 (KtL.kt 66) (il (tX aH 51 [cg l t k d] (.tup [.nilp,.int .i64 e])) n 0) aN aO [(cg l t k d,none),(.int .i64 h,none)] H =
 (fun (Z0:List AV)=>Tr.reqP (Z0=Z0) (Tr.ite (ay (bJ e (Int.ofNat 0))) (Tr.ok ((AV.tup [AV.nilp,AV.int .i64 e],none),H)) Tr.bad)) [AV.agg (Row.G [AV.slcT none (Row.M [ah.arr .i64 t l]) 1 l false,AV.slcT none (Row.M [ah.arr .i64 d k]) 1 k false])]:=by kernel_rfl
theorem u64 (n l k:Nat) (t d:Nat→Int) (e h:Int) (H:aa):aZ Try.prog (cd n) 100000 64 Try.f64 (KtL.kt 64) (il (tX aH 22 [cg l t k d] (.int .i64 e)) n 0) aN aO [(cg l t k d,none),(.int .i64 h,none)] H =
 (fun (Z0:List AV)=>Tr.reqP (Z0=Z0) (Tr.ite (ay (bJ e (Int.ofNat 0))) (Tr.reqP (Z0=Z0) (Tr.ok ((AV.int .i64 e,none),H))) (Tr.ite (bV h (Int.ofNat 1)) (Tr.ok ((AV.int .i64 (Int.ofNat 2),some 1),H)) (Tr.ite (bV (Int.ofNat 10) h) (Tr.ok ((AV.int .i64 (Int.ofNat 2),some 1),H)) (Tr.ok ((AV.int .i64 (Int.ofNat 0),some 1),H)))))) [AV.agg (Row.G [AV.slcT none (Row.M [ah.arr .i64 t l]) 1 l false,AV.slcT none (Row.M [ah.arr .i64 d k]) 1 k false])]:=by kernel_rfl
theorem S2 (n l k:Nat) (t d g:Nat→Int) (H:aa) (h a c:Int):aZ Try.prog (cd n) 100000 61 Try.f61 (KtL.kt 61) (il (tX (tX aH 66 [cg l t k d,.int .i64 h] (.tup [dv 0 l t k d g,.int .i64 0])) 69 [dv 0 l t k d g,bP k d false,.int .i64 h] (.int .i64 c)) n 0) aN aO [(cg l t k d,none),(.int .i64 h,none),(.int .i64 a,none)] H =
 (fun (Z0:Row)=>((fun (Z1:List AV)=>((fun (Z2:List AV)=>Tr.reqP (Z1=Z1) (Tr.ite (ay (bJ (Int.ofNat 0) (Int.ofNat 0))) (Tr.ok ((AV.tup [AV.nilp,AV.int .i64 (Int.ofNat 0)],none),H)) (Tr.ite (ay (bJ a (Int.ofNat 0))) (Tr.ok ((AV.tup [AV.nilp,AV.int .i64 a],none),H)) (Tr.reqP (Z2=Z2) (Tr.ite (jF (Int.ofNat 0) c) (Tr.ok ((AV.tup [AV.nilp,AV.int .i64 (Int.ofNat 13)],none),H)) (Tr.ok ((AV.tup [AV.ptrT (some 0) Z0 0,AV.int .i64 (Int.ofNat 0)],none),H))))))) [AV.ptrT (some 0) Z0 0,AV.slcT none (Row.M [ah.arr .i64 d k]) 1 k false,AV.int .i64 h])) [AV.agg (Row.G [AV.slcT none (Row.M [ah.arr .i64 t l]) 1 l false,AV.slcT none (Row.M [ah.arr .i64 d k]) 1 k false]),AV.int .i64 h])) (Row.M [ah.one (AV.slcT none (Row.M [ah.arr .i64 t l]) 1 l false),ah.one (AV.slcT none (Row.M [ah.arr .i64 d k]) 1 k false),ah.arr .i64 g 30]):=by kernel_rfl
theorem Pk (n l k:Nat) (t d:Nat→Int) (H:aa) (h a e:Int):aZ Try.prog (cd n) 100000 61 Try.f61 (KtL.kt 61) (il (tX aH 66 [cg l t k d,.int .i64 h] (.tup [.nilp,.int .i64 e])) n 0) aN aO [(cg l t k d,none),(.int .i64 h,none),(.int .i64 a,none)] H =
 (fun (Z0:List AV)=>Tr.reqP (Z0=Z0) (Tr.ite (ay (bJ e (Int.ofNat 0))) (Tr.ok ((AV.tup [AV.nilp,AV.int .i64 e],none),H)) (Tr.ite (ay (bJ a (Int.ofNat 0))) (Tr.ok ((AV.tup [AV.nilp,AV.int .i64 a],none),H)) Tr.bad))) [AV.agg (Row.G [AV.slcT none (Row.M [ah.arr .i64 t l]) 1 l false,AV.slcT none (Row.M [ah.arr .i64 d k]) 1 k false]),AV.int .i64 h]:=by kernel_rfl
theorem cW {n f nt:Nat} {c:Code} {callR:bG} {bl:gR} {rg:rP} {fr:ao} {H:aa} {b:Bool} {A:Tr n6} {y:n6} (e:aQ (bt n f nt) callR bl rg c (hints fr) H=.ite b A (.ok y)) (hC:callR.Ok (cd n)) (hB:bl.Ok (bt n f nt) c) (hR:rg.Ok (bt n f nt) c) (hb:b=false):exec (bt n f nt) c fr H=some y.st:=by
 obtain ⟨x,h1,rfl⟩:=aK (Q:=fun x=>x=y.st) e hC hB hR (Tr.bx (fun h=>by rw[hb] at h;cases h) (fun _=>Tr.bk rfl))
 exact h1
def jc (l:Nat) (t:Nat→Int) (k:Nat) (d:Nat→Int) (h:Int):Int:=if jK l t k d=0 then (if h<1∨10<h then 2 else 0) else jK l t k d
theorem z6 {l k:Nat} {t d:Nat→Int} {h:Int} (e:jc l t k d h=0):Sh l t k d∧1≤h∧h≤10:=by
 unfold jc at e
 by_cases c:jK l t k d=0
 · rw[if_pos c] at e
   refine ⟨tu c,?_⟩
   by_cases c2:h<1∨10<h
   · rw[if_pos c2] at e;omega
   · omega
 · rw[if_neg c] at e;exact absurd e c
theorem IV {l k:Nat} {t d:Nat→Int} {h:Int} (e:Sh l t k d) (h1:1≤h) (h2:h≤10):jc l t k d h=0:=by
 unfold jc
 rw[if_pos (Ir e),if_neg (by omega)]
def cV (l:Nat) (t e:Nat→Int) (h:Int):Bool:=!cU (fun T=>Em l t e h (T:Nat)) 41
theorem Bh (l:Nat) (t e:Nat→Int) (h:Int):(Af l t e h<0↔cV l t e h=true)∧(0≤Af l t e h↔cV l t e h=false):=by
 unfold Af F5 cV
 cases cU (fun T:Nat=>Em l t e h (T:Nat)) 41 with
 | true=>rw[if_pos rfl];constructor<;>simp<;>omega
 | false=>rw[if_neg (by decide)];constructor<;>simp
section
variable (n l k:Nat) (t d:Nat→Int) (H:aa) (h:Int)
theorem Qv (e:jc l t k d h=0):cd (n+10) (.fn 66) [cg l t k d,.int .i64 h] H=some (.tup [J6 0 l t k d,.int .i64 0],H):=by
 obtain ⟨hs,h1,h2⟩:=z6 e
 refine aL (n:=n+9) Try.func66 rfl rfl rfl (P1 (n+9) l k t d (cw t l) Cy h H) (aS _ (n+9) (pV (c:=n+3) (bf (aG _) (fun H=>KA (n+1) l k t d H hs)))) (af _ _) (ag _ _) ?_
 unfold J6
 generalize cw t l=g at *
 exact wF
theorem M7 (e:jc l t k d h≠0):cd (n+10) (.fn 66) [cg l t k d,.int .i64 h] H=some (.tup [.nilp,.int .i64 (jc l t k d h)],H):=by
 by_cases c:jK l t k d=0
 · have hs:=tu c
   have ea:jc l t k d h=if h<1∨10<h then 2 else 0:=by unfold jc;rw[if_pos c]
   by_cases c2:h<1∨10<h
   · rw[ea,if_pos c2]
     refine aL (n:=n+9) Try.func66 rfl rfl rfl (P1 (n+9) l k t d (cw t l) Cy h H) (aS _ (n+9) (pV (c:=n+3) (bf (aG _) (fun H=>KA (n+1) l k t d H hs)))) (af _ _) (ag _ _) ?_
     generalize cw t l=g at *
     exact wF
   · rw[ea,if_neg c2] at e;exact absurd rfl e
 · have ea:jc l t k d h=jK l t k d:=by unfold jc;rw[if_neg c]
   rw[ea]
   refine aL (n:=n+9) Try.func66 rfl rfl rfl (Pl (n+9) l k t d (jK l t k d) h H) (aS _ (n+9) (bf (aG _) (fun H=>Gl (n+1) l k t d H c))) (af _ _) (ag _ _) ?_
   generalize jK l t k d=e at *
   exact wF
def fi:Int:=if jc l t k d h=0 then (if cV l t d h=true then 0 else 13) else jc l t k d h
theorem BT {l k:Nat} {t d:Nat→Int} {h:Int} (e:fi l k t d h=0):jc l t k d h=0∧cV l t d h=true:=by
 unfold fi at e
 by_cases c:jc l t k d h=0
 · rw[if_pos c] at e
   refine ⟨c,?_⟩
   by_cases c2:cV l t d h=true
   · exact c2
   · rw[if_neg c2] at e;omega
 · rw[if_neg c] at e;exact absurd e c
theorem PS (a:Int) (e:jc l t k d h=0):cd (n+11) (.fn 61) [cg l t k d,.int .i64 h,.int .i64 a] H=some (if a=0 then (if cV l t d h=true then .tup [J6 0 l t k d,.int .i64 0] else .tup [.nilp,.int .i64 13]) else .tup [.nilp,.int .i64 a],H):=by
 obtain ⟨hs,h1,h2⟩:=z6 e
 refine aL (n:=n+10) Try.func61 rfl rfl rfl (S2 (n+10) l k t d (cw t l) H h a (Af l t d h)) (aS _ (n+10) (bf (bf (aG _) (fun H=>Qv n l k t d H h e)) (fun H=>PT (n+6) 0 l k k t d _ d false H h hs.l30 hs.kl hs.tl hs.cyc hs.bd (by omega)))) (af _ _) (ag _ _) ?_
 obtain ⟨q1,q2⟩:=Bh l t d h
 unfold J6
 generalize cw t l=g at *
 generalize Af l t d h=C at *
 by_cases c:a=0
 · rw[if_pos c]
   cases hB:cV l t d h with
   | true =>
     have:=q1.2 hB
     simp only[if_true]
     exact wF
   | false =>
     have:=q2.2 hB
     simp only[Bool.false_eq_true,if_false]
     exact wF
 · rw[if_neg c]
   exact wF
theorem MX (a:Int) (e:jc l t k d h≠0):cd (n+11) (.fn 61) [cg l t k d,.int .i64 h,.int .i64 a] H=some (.tup [.nilp,.int .i64 (jc l t k d h)],H):=by
 refine aL (n:=n+10) Try.func61 rfl rfl rfl (Pk (n+10) l k t d H h a (jc l t k d h)) (aS _ (n+10) (bf (aG _) (fun H=>M7 n l k t d H h e))) (af _ _) (ag _ _) ?_
 generalize jc l t k d h=e at *
 exact wF
end
end Go.Eng
end
