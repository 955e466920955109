/- Lay: how many have a last turn up to one, the least turn in which cells crowd. -/
import Derived.Test.YtoomemfhcbajoaaV8Lb6x4
set_option linter.unusedVariables false
set_option linter.unusedSimpArgs false
set_option maxRecDepth 100000
section
namespace Go.Eng
open Go.Proofs
noncomputable def vO (l:Nat) (x c j:Int):aq:=[(2,.int .i64 x),(7,.ptr 0 0 0 0),(8,.int .i64 c),(18,.int .i64 (Int.ofNat l)),(19,.int .i64 j)]
noncomputable def vN (s l:Nat) (t:Nat→Int) (k:Nat) (d g:Nat→Int) (x f j:Int):aq:=[(0,dK (s+1) l t k d g),(2,.int .i64 x),(7,.ptr 0 0 0 0),(8,.int .i64 f),(15,.int .i64 j)]
noncomputable def qo (s l:Nat) (t:Nat→Int) (k:Nat) (d g:Nat→Int) (x f T c j:Int):aq:=[(0,dK (s+1) l t k d g),(2,.int .i64 x),(7,.ptr 0 0 0 0),(8,.int .i64 f),(9,.int .i64 T),(10,.int .i64 c),(15,.int .i64 T),(23,.int .i64 (Int.ofNat l)),(24,.int .i64 j)]
theorem t71 (n l:Nat) (z:Nat→Int) (H:aa) (x c j:Int):aN (bA n 71 31) (il aQ n 0) aT aU (part Try.f71 [1,1,1,0,1,0,0]) (hints (vO l x c j)) (eh z::H) =
 (fun (Z0:aV)=>Tr.ite (cF j (Int.ofNat l)) (Tr.req (dJ j 30) (Tr.req (cT 0 0) (Tr.req (dg (aA 0 j 1) 30) (Tr.ite (mU (z (aA 0 j 1)) x) (Tr.ok (Ex.normal,[(2,AV.int .i64 x,none),(7,AV.ptr 0 0 0 0,none),(8,AV.int .i64 (bf .i64 c (Int.ofNat 1)),none),(18,AV.int .i64 (Int.ofNat l),none),(19,AV.int .i64 (bf .i64 j (Int.ofNat 1)),none)],Z0::H)) (Tr.ok (Ex.normal,[(2,AV.int .i64 x,none),(7,AV.ptr 0 0 0 0,none),(8,AV.int .i64 c,none),(18,AV.int .i64 (Int.ofNat l),none),(19,AV.int .i64 (bf .i64 j (Int.ofNat 1)),none)],Z0::H)))))) (Tr.ok (Ex.exit 0,[(2,AV.int .i64 x,none),(7,AV.ptr 0 0 0 0,none),(8,AV.int .i64 c,none),(18,AV.int .i64 (Int.ofNat l),none),(19,AV.int .i64 j,none),(20,AV.bool false,some 1)],Z0::H))) { lock:=false,bs:=[(0,ak.row (Row.M [ah.arr .i64 z 30]))] }:=by kernel_rfl
theorem RK (n s l k m:Nat) (t d g y z:Nat→Int) (u:Bool) (H:aa) (x c:Int):bz Try.prog (cd n) 100000 71 Try.f71 (KtL.kt 71) (il (tX aQ 53 [dK (s+1) l t k d g,dc m y u] (.agg (.M [.arr .i64 z 30]))) n 0) (dp aT 0 (vO l x 0 0) (eh (bD z)::H) (.ok (.normal,hints (vO l x c (Int.ofNat l)++[(20,.bool false)]),eh (bD z)::H))) aU [(dK s l t k d g,none),(dc m y u,none),(.int .i64 x,none)] H =
 (fun (Z0:List AV)=>((fun (Z1:aq)=>((fun (Z2:aV)=>Tr.reqP (Z0=Z0) (Tr.req (kH 0 30 0 30) (Tr.reqP (Z1=Z1∧Z2::H=Z2::H) (Tr.ok ((AV.int .i64 c,none),H))))) { lock:=false,bs:=[(0,ak.row (Row.M [ah.arr .i64 (ik (fun x=>Int.ofNat 0) 0 z 30) 30]))] })) [(2,AV.int .i64 x),(7,AV.ptr 0 0 0 0),(8,AV.int .i64 (Int.ofNat 0)),(18,AV.int .i64 (Int.ofNat l)),(19,AV.int .i64 (Int.ofNat 0))])) [AV.ptrT (some (Nat.succ s)) (Row.M [ah.one (AV.slcT none (Row.M [ah.arr .i64 t l]) 1 l false),ah.one (AV.slcT none (Row.M [ah.arr .i64 d k]) 1 k false),ah.arr .i64 g 30]) 0,AV.slcT none (Row.M [ah.arr .i64 y m]) 1 m u]:=by kernel_rfl
theorem Ly (n s l k:Nat) (t d g z:Nat→Int) (H:aa) (x f T c j:Int):aN (bA n 69 43) (il aQ n 0) aT aU (part Try.f69 [1,0,1,1,1,0,1,0,0,1,1,0,0,1,1,1,0,0]) (hints (qo s l t k d g x f T c j)) (eh z::H) =
 (fun (Z0:Nat×AV×Option Nat)=>((fun (Z1:aV)=>Tr.ite (cF j (Int.ofNat l)) (Tr.req (dJ j 30) (Tr.req (cT 0 0) (Tr.req (dg (aA 0 j 1) 30) (Tr.ite (cF T (z (aA 0 j 1))) (Tr.ok (Ex.normal,[Z0,(2,AV.int .i64 x,none),(7,AV.ptr 0 0 0 0,none),(8,AV.int .i64 f,none),(9,AV.int .i64 T,none),(10,AV.int .i64 c,none),(15,AV.int .i64 T,none),(23,AV.int .i64 (Int.ofNat l),none),(24,AV.int .i64 (bf .i64 j (Int.ofNat 1)),none)],Z1::H)) (Tr.ite (cF (fg .i64 x T) (bf .i64 c (Int.ofNat 1))) (Tr.ok (Ex.exit 0,[(8,AV.int .i64 T,none)],Z1::H)) (Tr.ok (Ex.normal,[Z0,(2,AV.int .i64 x,none),(7,AV.ptr 0 0 0 0,none),(8,AV.int .i64 f,none),(9,AV.int .i64 T,none),(10,AV.int .i64 (bf .i64 c (Int.ofNat 1)),none),(15,AV.int .i64 T,none),(23,AV.int .i64 (Int.ofNat l),none),(24,AV.int .i64 (bf .i64 j (Int.ofNat 1)),none)],Z1::H))))))) (Tr.ok (Ex.exit 2,[Z0,(2,AV.int .i64 x,none),(7,AV.ptr 0 0 0 0,none),(8,AV.int .i64 f,none),(9,AV.int .i64 T,none),(10,AV.int .i64 c,none),(15,AV.int .i64 T,none),(23,AV.int .i64 (Int.ofNat l),none),(24,AV.int .i64 j,none),(25,AV.bool false,some 1)],Z1::H))) { lock:=false,bs:=[(0,ak.row (Row.M [ah.arr .i64 z 30]))] })) (0,AV.ptrT (some (Nat.succ s)) (Row.M [ah.one (AV.slcT none (Row.M [ah.arr .i64 t l]) 1 l false),ah.one (AV.slcT none (Row.M [ah.arr .i64 d k]) 1 k false),ah.arr .i64 g 30]) 0,none):=by kernel_rfl
theorem t69 (n s l k:Nat) (t d g z:Nat→Int) (H:aa) (x f j c:Int) (b:Bool):aN (bA n 69 43) (il aQ n 0) (dp aT 2 (qo s l t k d g x f j 0 0) (eh z::H) (.ite b (.ok (.exit 0,hints [(8,.int .i64 j)],eh z::H)) (.ok (.normal,hints (qo s l t k d g x f j c (Int.ofNat l)++[(25,.bool false)]),eh z::H)))) aU (part Try.f69 [1,0,1,1,1,0,1,0,0]) (hints (vN s l t k d g x f j)) (eh z::H) =
 (fun (Z0:Row)=>((fun (Z1:aV)=>((fun (Z2:aq)=>Tr.ite (cF j (Int.ofNat 41)) (Tr.reqP (Z2=Z2∧Z1::H=Z1::H) (Tr.ite b (Tr.ok (Ex.exit 0,[(8,AV.int .i64 j,none)],Z1::H)) (Tr.ok (Ex.normal,[(0,AV.ptrT (some (Nat.succ s)) Z0 0,none),(2,AV.int .i64 x,none),(7,AV.ptr 0 0 0 0,none),(8,AV.int .i64 f,none),(15,AV.int .i64 (bf .i64 j (Int.ofNat 1)),none)],Z1::H)))) (Tr.ok (Ex.exit 0,[(0,AV.ptrT (some (Nat.succ s)) Z0 0,none),(2,AV.int .i64 x,none),(7,AV.ptr 0 0 0 0,none),(8,AV.int .i64 f,none),(15,AV.int .i64 j,none),(16,AV.bool false,some 1)],Z1::H))) [(0,AV.ptrT (some (Nat.succ s)) Z0 0),(2,AV.int .i64 x),(7,AV.ptr 0 0 0 0),(8,AV.int .i64 f),(9,AV.int .i64 j),(10,AV.int .i64 (Int.ofNat 0)),(15,AV.int .i64 j),(23,AV.int .i64 (Int.ofNat l)),(24,AV.int .i64 (Int.ofNat 0))])) { lock:=false,bs:=[(0,ak.row (Row.M [ah.arr .i64 z 30]))] })) (Row.M [ah.one (AV.slcT none (Row.M [ah.arr .i64 t l]) 1 l false),ah.one (AV.slcT none (Row.M [ah.arr .i64 d k]) 1 k false),ah.arr .i64 g 30]):=by kernel_rfl
theorem N5 (n s l k:Nat) (t d g z:Nat→Int) (H:aa) (x f j:Int):aN (bA n 69 43) (il aQ n 0) (m4 aT 2) aU (part Try.f69 [1,0,1,1,1,0,1,0,0]) (hints (vN s l t k d g x f j)) (eh z::H) =
 Tr.ite (cF j (Int.ofNat 41)) Tr.bad (Tr.ok (Ex.exit 0,[(0,AV.ptrT (some (Nat.succ s)) (Row.M [ah.one (AV.slcT none (Row.M [ah.arr .i64 t l]) 1 l false),ah.one (AV.slcT none (Row.M [ah.arr .i64 d k]) 1 k false),ah.arr .i64 g 30]) 0,none),(2,AV.int .i64 x,none),(7,AV.ptr 0 0 0 0,none),(8,AV.int .i64 f,none),(15,AV.int .i64 j,none),(16,AV.bool false,some 1)],{ lock:=false,bs:=[(0,ak.row (Row.M [ah.arr .i64 z 30]))] } :: H)):=by kernel_rfl
theorem RJ (n s l k m:Nat) (t d g y z:Nat→Int) (u:Bool) (H:aa) (x r:Int) (R:aC):bz Try.prog (cd n) 100000 69 Try.f69 (KtL.kt 69) (il (tX aQ 53 [dK (s+1) l t k d g,dc m y u] (.agg (.M [.arr .i64 z 30]))) n 0) (dp aT 0 (vN s l t k d g x (-1) 0) (eh (bD z)::H) (.ok (.normal,(8,.int .i64 r,none)::[],eh (bD z)::H))) aU [(dK s l t k d g,none),(dc m y u,none),(.int .i64 x,none)] H =
 (fun (Z0:Row)=>((fun (Z1:aq)=>((fun (Z2:aV)=>Tr.reqP ([AV.ptrT (some (Nat.succ s)) Z0 0,AV.slcT none (Row.M [ah.arr .i64 y m]) 1 m u]=[AV.ptrT (some (Nat.succ s)) Z0 0,AV.slcT none (Row.M [ah.arr .i64 y m]) 1 m u]) (Tr.req (kH 0 30 0 30) (Tr.reqP (Z1=Z1∧Z2::H=Z2::H) (Tr.ok ((AV.int .i64 r,none),H))))) { lock:=false,bs:=[(0,ak.row (Row.M [ah.arr .i64 (ik (fun x=>Int.ofNat 0) 0 z 30) 30]))] })) [(0,AV.ptrT (some (Nat.succ s)) Z0 0),(2,AV.int .i64 x),(7,AV.ptr 0 0 0 0),(8,AV.int .i64 (Int.negSucc 0)),(15,AV.int .i64 (Int.ofNat 0))])) (Row.M [ah.one (AV.slcT none (Row.M [ah.arr .i64 t l]) 1 l false),ah.one (AV.slcT none (Row.M [ah.arr .i64 d k]) 1 k false),ah.arr .i64 g 30]):=by kernel_rfl
theorem Ol (n s l k m:Nat) (t d g y z:Nat→Int) (u:Bool) (H:aa) (x:Int):bz Try.prog (cd n) 100000 69 Try.f69 (KtL.kt 69) (il (tX aQ 53 [dK (s+1) l t k d g,dc m y u] (.agg (.M [.arr .i64 z 30]))) n 0) (dp aT 0 (vN s l t k d g x (-1) 0) (eh (bD z)::H) (.ok (.normal,hints (vN s l t k d g x (-1) 41++[(16,.bool false)]),eh (bD z)::H))) aU [(dK s l t k d g,none),(dc m y u,none),(.int .i64 x,none)] H =
 (fun (Z0:Row)=>((fun (Z1:aq)=>((fun (Z2:aV)=>Tr.reqP ([AV.ptrT (some (Nat.succ s)) Z0 0,AV.slcT none (Row.M [ah.arr .i64 y m]) 1 m u]=[AV.ptrT (some (Nat.succ s)) Z0 0,AV.slcT none (Row.M [ah.arr .i64 y m]) 1 m u]) (Tr.req (kH 0 30 0 30) (Tr.reqP (Z1=Z1∧Z2::H=Z2::H) (Tr.ok ((AV.int .i64 (Int.negSucc 0),none),H))))) { lock:=false,bs:=[(0,ak.row (Row.M [ah.arr .i64 (ik (fun x=>Int.ofNat 0) 0 z 30) 30]))] })) [(0,AV.ptrT (some (Nat.succ s)) Z0 0),(2,AV.int .i64 x),(7,AV.ptr 0 0 0 0),(8,AV.int .i64 (Int.negSucc 0)),(15,AV.int .i64 (Int.ofNat 0))])) (Row.M [ah.one (AV.slcT none (Row.M [ah.arr .i64 t l]) 1 l false),ah.one (AV.slcT none (Row.M [ah.arr .i64 d k]) 1 k false),ah.arr .i64 g 30]):=by kernel_rfl
theorem O2:∀ b,(0,b) ∈ aM (bR Try.f71)→b=.loop (part Try.f71 [1,1,1,0,1,0,0]):=g7 (by kernel_rfl)
theorem OK:∀ b,(0,b) ∈ aM (bR Try.f69)→b=.loop (part Try.f69 [1,0,1,1,1,0,1,0,0]):=g7 (by kernel_rfl)
theorem Mh:∀ b,(2,b) ∈ aM (part Try.f69 [1,0,1,1,1,0,1,0,0])→b=.loop (part Try.f69 [1,0,1,1,1,0,1,0,0,1,1,0,0,1,1,1,0,0]):=g7 (by kernel_rfl)
def jE (l:Nat) (t e:Nat→Int) (T:Int):Nat:=cn (fun i=>decide (nQ l t e i≤T)) l
def D7 (l:Nat) (t e:Nat→Int) (h T:Int):Bool:=decide (h*T<jE l t e T)
def zQ (l:Nat) (t e:Nat→Int) (h:Int):Int:=FQ (fun T=>D7 l t e h (T:Nat)) 41
theorem MB {n f nt:Nat} {c:Code} (id:Nat) (e:Ex) (F:Nat→aq) (G:Nat→aa) (N:Nat) (p:Nat→Bool) (X:Nat→aq×aa) (Y:aq×aa) (hN:N<99999) (hne:e≠.normal) (vS:∀ id',e=.exit id'→Nat.beq id' id=false) (hc:(match e with | .normal=>false | _=>true)=true)
 (hs:∀ j,j<N→∃ x,exec (bA n f nt) c (F j) (G j)=some x∧if p j=true then x=(e,X j) else x.1=.normal∧tidy (al (G 0)) x.2.1 x.2.2=(F (j+1),G (j+1)))
 (he:exec (bA n f nt) c (F N) (G N)=some (.exit id,Y)):exec (bA n f nt) (.block id (.loop c)) (F 0) (G 0)=some (cond (dC p N) (e,X (fN p N 0)) (.normal,Y)):=by
 have key:=mq (body:=exec (bA n f nt) c) (n:=al (G 0)) F G N p (fun j=>if j<N then (e,X j) else (.exit id,Y))
  (fun j hj hp=>by
    obtain ⟨x,h1,h2⟩:=hs j hj
    rw[if_neg (by rw[hp];simp)] at h2
    obtain ⟨e,f1,g1⟩:=x
    obtain ⟨rfl,h3⟩:=h2
    exact ⟨_,_,h1,h3⟩)
  (fun j hj hp=>by
    obtain ⟨x,h1,h2⟩:=hs j hj
    rw[if_pos hp] at h2
    subst h2
    rw[if_pos hj]
    exact ⟨h1,hne⟩)
  (by
    rw[if_neg (by omega)]
    exact ⟨he,by simp⟩) N 0 100000 (by omega) (by omega)
 cases hc:dC p N with
 | true =>
   have:=iH hc
   rw[if_pos this] at key
   exact cR vS key
 | false =>
   have:=px hc
   rw[if_neg (by omega)] at key
   exact cW key
theorem MC {n f nt:Nat} {c:Code} (id:Nat) (F:Nat→aq) (G:Nat→aa) (N:Nat) (p:Nat→Bool) (X:Nat→aq×aa) (Y:aq×aa) (hN:N<99999)
 (hs:∀ j,j<N→∃ x,exec (bA n f nt) c (F j) (G j)=some x∧if p j=true then x=(.exit id,X j) else x.1=.normal∧tidy (al (G 0)) x.2.1 x.2.2=(F (j+1),G (j+1)))
 (he:exec (bA n f nt) c (F N) (G N)=some (.exit id,Y)):exec (bA n f nt) (.block id (.loop c)) (F 0) (G 0)=some (.normal,cond (dC p N) (X (fN p N 0)) Y):=by
 have key:=mq (body:=exec (bA n f nt) c) (n:=al (G 0)) F G N p (fun j=>if j<N then (.exit id,X j) else (.exit id,Y))
  (fun j hj hp=>by
    obtain ⟨x,h1,h2⟩:=hs j hj
    rw[if_neg (by rw[hp];simp)] at h2
    obtain ⟨e,f1,g1⟩:=x
    obtain ⟨rfl,h3⟩:=h2
    exact ⟨_,_,h1,h3⟩)
  (fun j hj hp=>by
    obtain ⟨x,h1,h2⟩:=hs j hj
    rw[if_pos hp] at h2
    subst h2
    rw[if_pos hj]
    exact ⟨h1,by simp⟩)
  (by
    rw[if_neg (by omega)]
    exact ⟨he,by simp⟩) N 0 100000 (by omega) (by omega)
 cases hc:dC p N with
 | true =>
   have:=iH hc
   rw[if_pos this] at key
   exact cW key
 | false =>
   have:=px hc
   rw[if_neg (by omega)] at key
   exact cW key
theorem vB {l:Nat} {z:Nat→Int} {j:Nat} (h:j<30):bD (bD z) j=z j:=by rw[mh _ _ h,mh _ _ h]
theorem z9 {l:Nat} {t e:Nat→Int} {j:Nat} (h:j<l):pb l t e l j=nQ l t e j:=by unfold pb;rw[if_pos h]
theorem D0 (p:Nat→Bool) (q:Int) (hq:0≤q):∀ l,dC (fun j=>p j && decide (q<(cn p j:Int)+1)) l=decide (q<(cn p l:Nat))
 | 0=>by
   rw[jx (fun j hj=>absurd hj (by omega))]
   exact (decide_eq_false (by show ¬ q<((0:Nat):Int);omega)).symm
 | l + 1 => by
   have ih:=D0 p q hq l
   have e:cn p (l+1)=cn p l+(p l).toNat:=rfl
   by_cases c:q<(cn p l:Nat)
   · rw[decide_eq_true c] at ih
     obtain ⟨j,hj,e2⟩:=(dY _ _).1 ih
     rw[(dY _ _).2 ⟨j,by omega,e2⟩,decide_eq_true (by omega)]
   · rw[decide_eq_false c] at ih
     have hn:=gI ih
     cases hp:p l with
     | true =>
       rw[hp] at e
       simp only[Bool.toNat_true] at e
       by_cases c2:q<((cn p (l+1):Nat):Int)
       · rw[decide_eq_true c2]
         exact (dY _ _).2 ⟨l,by omega,by simp only[hp,Bool.true_and,decide_eq_true_eq];omega⟩
       · rw[decide_eq_false c2]
         refine jx (fun j hj=>?_)
         by_cases ej:j=l
         · subst ej;simp only[hp,Bool.true_and,decide_eq_false_iff_not];omega
         · exact hn j (by omega)
     | false =>
       rw[hp] at e
       simp only[Bool.toNat_false,Nat.add_zero] at e
       rw[e,decide_eq_false c]
       refine jx (fun j hj=>?_)
       by_cases ej:j=l
       · subst ej;simp only[hp,Bool.false_and]
       · exact hn j (by omega)
section
variable (n s l k m:Nat) (t d g y:Nat→Int) (u:Bool) (H:aa) (h:Int)
theorem Q9 (z:Nat→Int) (x:Int) (hl:l≤30):exec (bA n 71 31) (.block 0 (.loop (part Try.f71 [1,1,1,0,1,0,0]))) (vO l x 0 0) (eh z::H)=some (.normal,vO l x (cn (fun i=>decide (z i≤x)) l:Nat) (Int.ofNat l)++[(20,.bool false)],eh z::H):=by
 refine ot (n:=n) (f:=71) (nt:=31) (c:=part Try.f71 [1,1,1,0,1,0,0]) 0 (fun j=>vO l x (cn (fun i=>decide (z i≤x)) j:Nat) (j:Nat)) (fun _=>eh z::H) l (vO l x (cn (fun i=>decide (z i≤x)) l:Nat) (Int.ofNat l)++[(20,.bool false)],eh z::H) (by omega) (fun j hj=>?_) ?_
 · refine aO (t71 n l z H x (cn (fun i=>decide (z i≤x)) j:Nat) (j:Nat)) (aB n) (af _ _) (ag _ _) ?_
   have hle:=lB (fun i=>decide (z i≤x)) j
   show Tr.all _ (fun r=>_∧tidy _ _ _=(vO l x ((cn (fun i=>decide (z i≤x)) j+(decide (z j≤x)).toNat:Nat):Int) ((j+1:Nat):Int),_))
   rw[ft (j:=j) (by omega),ft (by omega)]
   simp only[nj]
   generalize cn (fun i=>decide (z i≤x)) j=C at *
   generalize z j=q at *
   by_cases c:q≤x
   · rw[decide_eq_true c]
     exact wF
   · rw[decide_eq_false c]
     exact wF
 · obtain ⟨r,h1,rfl⟩:=aO (Q:=fun r=>r=(.exit 0,vO l x (cn (fun i=>decide (z i≤x)) l:Nat) (Int.ofNat l)++[(20,.bool false)],eh z::H)) (t71 n l z H x (cn (fun i=>decide (z i≤x)) l:Nat) (Int.ofNat l)) (aB n) (af _ _) (ag _ _) (by
    refine Tr.bn (fun hc=>?_) (fun hc=>Tr.bc rfl)
    simp (disch:=omega) only[nV,nW] at hc;omega)
   exact h1
theorem OQ (x:Int) (hl:l≤30) (hm:m=l) (ht:∀ j,j<l→t j<l) (hc:g9 l t=false) (hy:∀ j,j<l→-900≤y j∧y j≤900) :
 cd (n+4) (.fn 71) [dK s l t k d g,dc m y u,.int .i64 x] H=some (.int .i64 (jE l t y x:Nat),H):=by
 have hx:=Q9 (n+3) l H (bD (bD (pb l t y l))) x hl
 rw[dq (q:=fun i=>decide (nQ l t y i≤x)) (fun j hj=>by rw[vB (l:=l) (by omega),z9 hj])] at hx
 refine aR (n:=n+3) Try.func71 rfl rfl rfl (RK (n+3) s l k m t d g y (bD (pb l t y l)) u H x (jE l t y x:Nat)) (bj _ (n+3) (cL (aX _) (fun H=>Mn n (s+1) l k m t d g y u H hl hm ht hc hy))) (aW (af _ _) O2 (fun x hy=>cG hy hx)) (ag _ _) ?_
 generalize bD (pb l t y l)=z at *
 generalize jE l t y x=C at *
 exact wF
theorem No (z:Nat→Int) (f T:Int) (hl:l≤30) (hh:0≤h∧h≤1000) (hT:0≤T∧T≤1000):∃ c,exec (bA n 69 43) (.block 2 (.loop (part Try.f69 [1,0,1,1,1,0,1,0,0,1,1,0,0,1,1,1,0,0]))) (qo s l t k d g h f T 0 0) (eh z::H)=some (cond (decide (h*T<(cn (fun i=>decide (z i≤T)) l:Nat))) (.exit 0,[(8,.int .i64 T)],eh z::H) (.normal,qo s l t k d g h f T c (Int.ofNat l)++[(25,.bool false)],eh z::H)):=by
 have hm:=Int.mul_nonneg hh.1 hT.1
 have hm2:h*T≤1000*1000:=Int.mul_le_mul hh.2 hT.2 hT.1 (by omega)
 refine ⟨(cn (fun i=>decide (z i≤T)) l:Nat),?_⟩
 rw[← D0 _ _ hm l]
 refine MB (n:=n) (f:=69) (nt:=43) (c:=part Try.f69 [1,0,1,1,1,0,1,0,0,1,1,0,0,1,1,1,0,0]) 2 (.exit 0) (fun j=>qo s l t k d g h f T (cn (fun i=>decide (z i≤T)) j:Nat) (j:Nat)) (fun _=>eh z::H) l (fun j=>decide (z j≤T) && decide (h*T<(cn (fun i=>decide (z i≤T)) j:Int)+1)) (fun j=>([(8,.int .i64 T)],eh z::H)) _ (by omega) (by simp) (fun id' h=>by cases h;rfl) rfl (fun j hj=>?_) ?_
 · refine aO (Ly n s l k t d g z H h f T (cn (fun i=>decide (z i≤T)) j:Nat) (j:Nat)) (aB n) (af _ _) (ag _ _) ?_
   have hle:=lB (fun i=>decide (z i≤T)) j
   have em:fg .i64 h T=h*T:=by rw[mA];exact lq (by omega) (by omega)
   show Tr.all _ (fun r=>if (decide (z j≤T) && decide (h*T<(cn (fun i=>decide (z i≤T)) j:Int)+1))=true then _ else _∧tidy _ _ _=(qo s l t k d g h f T ((cn (fun i=>decide (z i≤T)) j+(decide (z j≤T)).toNat:Nat):Int) ((j+1:Nat):Int),_))
   rw[ft (j:=j) (by omega),ft (by omega)]
   simp only[nj,em]
   generalize cn (fun i=>decide (z i≤T)) j=C at *
   generalize z j=q at *
   generalize h*T=P at *
   by_cases c:q≤T
   · by_cases c2:P<(C:Int)+1
     · simp only[decide_eq_true c,decide_eq_true c2,Bool.and_self,if_true]
       exact wF
     · simp only[decide_eq_true c,decide_eq_false c2,Bool.and_false,Bool.false_eq_true,if_false]
       exact wF
   · simp only[decide_eq_false c,Bool.false_and,Bool.false_eq_true,if_false]
     exact wF
 · obtain ⟨r,h1,rfl⟩:=aO (Q:=fun r=>r=(.exit 2,qo s l t k d g h f T (cn (fun i=>decide (z i≤T)) l:Nat) (Int.ofNat l)++[(25,.bool false)],eh z::H)) (Ly n s l k t d g z H h f T (cn (fun i=>decide (z i≤T)) l:Nat) (Int.ofNat l)) (aB n) (af _ _) (ag _ _) (by
    refine Tr.bn (fun hc=>?_) (fun hc=>Tr.bc rfl)
    simp (disch:=omega) only[nV,nW] at hc;omega)
   exact h1
theorem Q8 (z:Nat→Int) (hl:l≤30) (hh:0≤h∧h≤1000):exec (bA n 69 43) (.block 0 (.loop (part Try.f69 [1,0,1,1,1,0,1,0,0]))) (vN s l t k d g h (-1) 0) (eh z::H)=some (.normal,cond (dC (fun T=>decide (h*(T:Int)<(cn (fun i=>decide (z i≤(T:Int))) l:Nat))) 41) ([(8,.int .i64 (fN (fun T=>decide (h*(T:Int)<(cn (fun i=>decide (z i≤(T:Int))) l:Nat))) 41 0:Nat))],eh z::H) (vN s l t k d g h (-1) 41++[(16,.bool false)],eh z::H)):=by
 refine MC (n:=n) (f:=69) (nt:=43) (c:=part Try.f69 [1,0,1,1,1,0,1,0,0]) 0 (fun j=>vN s l t k d g h (-1) (j:Nat)) (fun _=>eh z::H) 41 (fun T=>decide (h*(T:Int)<(cn (fun i=>decide (z i≤(T:Int))) l:Nat))) (fun j=>([(8,.int .i64 (j:Nat))],eh z::H)) _ (by omega) (fun j hj=>?_) ?_
 · obtain ⟨c,hx⟩:=No n s l k t d g H h z (-1) (j:Nat) hl hh (by omega)
   have hp:(decide (h*(j:Int)<(cn (fun i=>decide (z i≤(j:Int))) l:Nat)))=(decide (h*(j:Int)<(cn (fun i=>decide (z i≤(j:Int))) l:Nat))):=rfl
   generalize hb:(decide (h*(j:Int)<(cn (fun i=>decide (z i≤(j:Int))) l:Nat)))=b at hx hp ⊢
   refine aO (t69 n s l k t d g z H h (-1) (j:Nat) c b) (aB n) (aW (af _ _) Mh (fun x hy=>jf hy hx)) (ag _ _) ?_
   show Tr.all _ (fun r=>if b=true then _ else _)
   rw[ft (j:=j) (by omega)]
   cases b with
   | true =>
     simp only[if_true]
     exact wF
   | false =>
     simp only[Bool.false_eq_true,if_false]
     exact wF
 · obtain ⟨r,h1,rfl⟩:=aO (Q:=fun r=>r=(.exit 0,vN s l t k d g h (-1) 41++[(16,.bool false)],eh z::H)) (N5 n s l k t d g z H h (-1) 41) (aB n) (eK (af _ _) 2) (ag _ _) (by
    refine Tr.bn (fun hc=>?_) (fun hc=>Tr.bc rfl)
    simp (disch:=omega) only[nV,nW] at hc;omega)
   exact h1
theorem OP (hl:l≤30) (hm:m=l) (ht:∀ j,j<l→t j<l) (hc:g9 l t=false) (hy:∀ j,j<l→-900≤y j∧y j≤900) (hh:0≤h∧h≤1000) :
 cd (n+4) (.fn 69) [dK s l t k d g,dc m y u,.int .i64 h] H=some (.int .i64 (zQ l t y h),H):=by
 have hx:=Q8 (n+3) s l k t d g H h (bD (bD (pb l t y l))) hl hh
 rw[show (fun T:Nat=>decide (h*(T:Int)<(cn (fun i=>decide (bD (bD (pb l t y l)) i≤(T:Int))) l:Nat)))=fun T:Nat=>D7 l t y h (T:Nat) from by
  funext T
  rw[dq (q:=fun i=>decide (nQ l t y i≤(T:Nat))) (fun j hj=>by rw[vB (l:=l) (by omega),z9 hj])]
  rfl] at hx
 have hC:(tX aQ 53 [dK (s+1) l t k d g,dc m y u] (.agg (.M [.arr .i64 (bD (pb l t y l)) 30]))).Ok (cd (n+3)):=cL (aX _) (fun H=>Mn n (s+1) l k m t d g y u H hl hm ht hc hy)
 cases e:dC (fun T:Nat=>D7 l t y h (T:Nat)) 41 with
 | true =>
   rw[e] at hx
   have hr:zQ l t y h=(fN (fun T:Nat=>D7 l t y h (T:Nat)) 41 0:Nat):=by unfold zQ FQ;rw[if_pos e]
   rw[← hr] at hx
   refine aR (n:=n+3) Try.func69 rfl rfl rfl (RJ (n+3) s l k m t d g y (bD (pb l t y l)) u H h (zQ l t y h) []) (bj _ (n+3) hC) (aW (af _ _) OK (fun x hy=>cG hy hx)) (ag _ _) ?_
   generalize bD (pb l t y l)=z at *
   generalize zQ l t y h=C at *
   exact wF
 | false =>
   rw[e] at hx
   have hr:zQ l t y h=-1:=by unfold zQ FQ;rw[if_neg (by rw[e];decide)]
   rw[hr]
   refine aR (n:=n+3) Try.func69 rfl rfl rfl (Ol (n+3) s l k m t d g y (bD (pb l t y l)) u H h) (bj _ (n+3) hC) (aW (af _ _) OK (fun x hy=>cG hy hx)) (ag _ _) ?_
   generalize bD (pb l t y l)=z at *
   exact wF
end
end Go.Eng
end
section
namespace Go.Eng
open Go.Proofs
noncomputable def C5 (l:Nat) (t:Nat→Int) (k:Nat) (d:Nat→Int):aV:=⟨false,[Ml l t k d]⟩
def kz (z:Nat→Int) (j:Nat):List Int:=(List.range j).map z
theorem Ba (z:Nat→Int) (j:Nat):(kz z j).length=j:=by simp[kz]
theorem Gk (z:Nat→Int) (j:Nat):kz z (j+1)=kz z j++[z j]:=by simp[kz,List.range_succ]
theorem A9 (z:Nat→Int) (j:Nat):w8 (ep (aK (kz z j)) 0) j (aK [z j])=aK (kz z (j+1)):=by
 have:=BB (kz z j) (z j)
 rw[Ba,← Gk] at this;exact this
theorem zV (z:Nat→Int) {j i:Nat} (h:i<j):aK (kz z j) i=z i:=by
 rw[Jl _ _ (by rw[Ba];exact h)];simp[kz]
structure Fw (l:Nat) (t:Nat→Int):Prop where
 l30:l≤30
 tl:∀ j,j<l→t j<l
 cyc:g9 l t=false
theorem Sh.fw {l k:Nat} {t d:Nat→Int} (h:Sh l t k d):Fw l t:=⟨h.l30,h.tl,h.cyc⟩
def Bd (l:Nat) (e:Nat→Int):Prop:=∀ j,j<l→-900≤e j∧e j≤900
theorem Sh.bd {l k:Nat} {t d:Nat→Int} (h:Sh l t k d):Bd l d:=fun j hj=>by
 have:=h.d1 j hj
 have:=h.d40 j hj
 omega
section
variable (n l k:Nat) (t d:Nat→Int) (H:aa)
end
end Go.Eng
end
section
namespace Go.Eng
open Go.Proofs
section
variable (n:Nat) (H:aa)
variable (l k:Nat) (t d:Nat→Int)
end
end Go.Eng
end
section
namespace Go.Eng
open Go.Proofs
theorem OV (n l k:Nat) (t d g:Nat→Int) (W:Int→Int→Nat→(Nat→Int)→Bool) (h:Int) (H:aa):bz Try.prog (cd n) 100000 66 Try.f66 (KtL.kt 66) (il (jb (tX aQ 51 [dV l t k d] (.tup [dK 0 l t k d g,.int .i64 0])) 56 (KL W)) n 0) aT aU [(dV l t k d,none),(.int .i64 h,none)] H =
 (fun (Z0:AV×Option Nat)=>((fun (Z1:List AV)=>((fun (Z2:AV×Option Nat)=>Tr.reqP (Z1=Z1) (Tr.ite (bx (dX (Int.ofNat 0) (Int.ofNat 0))) (Tr.ok ((AV.tup [AV.nilp,AV.int .i64 (Int.ofNat 0)],none),H)) (Tr.ite (cF h (Int.ofNat 1)) (Tr.ite (bx false) (Tr.ok (Z2,H)) (Tr.ok (Z0,H))) (Tr.ite (cF (Int.ofNat 10) h) (Tr.ite (bx false) (Tr.ok (Z2,H)) (Tr.ok (Z0,H))) (Tr.ite (bx true) (Tr.ok (Z2,H)) (Tr.ok (Z0,H))))))) (AV.tup [AV.nilp,AV.int .i64 (Int.ofNat 2)],none))) [AV.agg (Row.G [AV.slcT none (Row.M [ah.arr .i64 t l]) 1 l false,AV.slcT none (Row.M [ah.arr .i64 d k]) 1 k false])])) (AV.tup [AV.ptrT (some 0) (Row.M [ah.one (AV.slcT none (Row.M [ah.arr .i64 t l]) 1 l false),ah.one (AV.slcT none (Row.M [ah.arr .i64 d k]) 1 k false),ah.arr .i64 g 30]) 0,AV.int .i64 (Int.ofNat 0)],none):=by kernel_rfl
theorem Oj (n l k:Nat) (t d:Nat→Int) (e h:Int) (H:aa):bz Try.prog (cd n) 100000 66 Try.f66 (KtL.kt 66) (il (tX aQ 51 [dV l t k d] (.tup [.nilp,.int .i64 e])) n 0) aT aU [(dV l t k d,none),(.int .i64 h,none)] H =
 (fun (Z0:List AV)=>Tr.reqP (Z0=Z0) (Tr.ite (bx (dX e (Int.ofNat 0))) (Tr.ok ((AV.tup [AV.nilp,AV.int .i64 e],none),H)) Tr.bad)) [AV.agg (Row.G [AV.slcT none (Row.M [ah.arr .i64 t l]) 1 l false,AV.slcT none (Row.M [ah.arr .i64 d k]) 1 k false])]:=by kernel_rfl
theorem u64 (n l k:Nat) (t d:Nat→Int) (e h:Int) (H:aa):bz Try.prog (cd n) 100000 64 Try.f64 (KtL.kt 64) (il (tX aQ 22 [dV l t k d] (.int .i64 e)) n 0) aT aU [(dV l t k d,none),(.int .i64 h,none)] H =
 (fun (Z0:List AV)=>Tr.reqP (Z0=Z0) (Tr.ite (bx (dX e (Int.ofNat 0))) (Tr.reqP (Z0=Z0) (Tr.ok ((AV.int .i64 e,none),H))) (Tr.ite (cF h (Int.ofNat 1)) (Tr.ok ((AV.int .i64 (Int.ofNat 2),some 1),H)) (Tr.ite (cF (Int.ofNat 10) h) (Tr.ok ((AV.int .i64 (Int.ofNat 2),some 1),H)) (Tr.ok ((AV.int .i64 (Int.ofNat 0),some 1),H)))))) [AV.agg (Row.G [AV.slcT none (Row.M [ah.arr .i64 t l]) 1 l false,AV.slcT none (Row.M [ah.arr .i64 d k]) 1 k false])]:=by kernel_rfl
theorem RG (n l k:Nat) (t d g:Nat→Int) (H:aa) (h a c:Int):bz Try.prog (cd n) 100000 61 Try.f61 (KtL.kt 61) (il (tX (tX aQ 66 [dV l t k d,.int .i64 h] (.tup [dK 0 l t k d g,.int .i64 0])) 69 [dK 0 l t k d g,dc k d false,.int .i64 h] (.int .i64 c)) n 0) aT aU [(dV l t k d,none),(.int .i64 h,none),(.int .i64 a,none)] H =
 (fun (Z0:Row)=>((fun (Z1:List AV)=>((fun (Z2:List AV)=>Tr.reqP (Z1=Z1) (Tr.ite (bx (dX (Int.ofNat 0) (Int.ofNat 0))) (Tr.ok ((AV.tup [AV.nilp,AV.int .i64 (Int.ofNat 0)],none),H)) (Tr.ite (bx (dX a (Int.ofNat 0))) (Tr.ok ((AV.tup [AV.nilp,AV.int .i64 a],none),H)) (Tr.reqP (Z2=Z2) (Tr.ite (mU (Int.ofNat 0) c) (Tr.ok ((AV.tup [AV.nilp,AV.int .i64 (Int.ofNat 13)],none),H)) (Tr.ok ((AV.tup [AV.ptrT (some 0) Z0 0,AV.int .i64 (Int.ofNat 0)],none),H))))))) [AV.ptrT (some 0) Z0 0,AV.slcT none (Row.M [ah.arr .i64 d k]) 1 k false,AV.int .i64 h])) [AV.agg (Row.G [AV.slcT none (Row.M [ah.arr .i64 t l]) 1 l false,AV.slcT none (Row.M [ah.arr .i64 d k]) 1 k false]),AV.int .i64 h])) (Row.M [ah.one (AV.slcT none (Row.M [ah.arr .i64 t l]) 1 l false),ah.one (AV.slcT none (Row.M [ah.arr .i64 d k]) 1 k false),ah.arr .i64 g 30]):=by kernel_rfl
theorem Oi (n l k:Nat) (t d:Nat→Int) (H:aa) (h a e:Int):bz Try.prog (cd n) 100000 61 Try.f61 (KtL.kt 61) (il (tX aQ 66 [dV l t k d,.int .i64 h] (.tup [.nilp,.int .i64 e])) n 0) aT aU [(dV l t k d,none),(.int .i64 h,none),(.int .i64 a,none)] H =
 (fun (Z0:List AV)=>Tr.reqP (Z0=Z0) (Tr.ite (bx (dX e (Int.ofNat 0))) (Tr.ok ((AV.tup [AV.nilp,AV.int .i64 e],none),H)) (Tr.ite (bx (dX a (Int.ofNat 0))) (Tr.ok ((AV.tup [AV.nilp,AV.int .i64 a],none),H)) Tr.bad))) [AV.agg (Row.G [AV.slcT none (Row.M [ah.arr .i64 t l]) 1 l false,AV.slcT none (Row.M [ah.arr .i64 d k]) 1 k false]),AV.int .i64 h]:=by kernel_rfl
theorem hJ {n f nt:Nat} {c:Code} {callR:bB} {bl:gN} {rg:rr} {fr:aq} {H:aa} {b:Bool} {A:Tr nS} {y:nS} (e:aN (bA n f nt) callR bl rg c (hints fr) H=.ite b A (.ok y)) (hC:callR.Ok (cd n)) (hB:bl.Ok (bA n f nt) c) (hR:rg.Ok (bA n f nt) c) (hb:b=false):exec (bA n f nt) c fr H=some y.st:=by
 obtain ⟨x,h1,rfl⟩:=aO (Q:=fun x=>x=y.st) e hC hB hR (Tr.bn (fun h=>by rw[hb] at h;cases h) (fun _=>Tr.bc rfl))
 exact h1
def iX (l:Nat) (t:Nat→Int) (k:Nat) (d:Nat→Int) (h:Int):Int:=if mP l t k d=0 then (if h<1∨10<h then 2 else 0) else mP l t k d
theorem zI {l k:Nat} {t d:Nat→Int} {h:Int} (e:iX l t k d h=0):Sh l t k d∧1≤h∧h≤10:=by
 unfold iX at e
 by_cases c:mP l t k d=0
 · rw[if_pos c] at e
   refine ⟨za c,?_⟩
   by_cases c2:h<1∨10<h
   · rw[if_pos c2] at e;omega
   · omega
 · rw[if_neg c] at e;exact absurd e c
theorem Iy {l k:Nat} {t d:Nat→Int} {h:Int} (e:Sh l t k d) (h1:1≤h) (h2:h≤10):iX l t k d h=0:=by
 unfold iX
 rw[if_pos (H5 e),if_neg (by omega)]
def bV (l:Nat) (t e:Nat→Int) (h:Int):Bool:=!dC (fun T=>D7 l t e h (T:Nat)) 41
theorem A0 (l:Nat) (t e:Nat→Int) (h:Int):(zQ l t e h<0↔bV l t e h=true)∧(0≤zQ l t e h↔bV l t e h=false):=by
 unfold zQ FQ bV
 cases dC (fun T:Nat=>D7 l t e h (T:Nat)) 41 with
 | true=>rw[if_pos rfl];constructor<;>simp<;>omega
 | false=>rw[if_neg (by decide)];constructor<;>simp
section
variable (n l k:Nat) (t d:Nat→Int) (H:aa) (h:Int)
theorem Pk (e:iX l t k d h=0):cd (n+10) (.fn 66) [dV l t k d,.int .i64 h] H=some (.tup [JR 0 l t k d,.int .i64 0],H):=by
 obtain ⟨hs,h1,h2⟩:=zI e
 refine aR (n:=n+9) Try.func66 rfl rfl rfl (OV (n+9) l k t d (cu t l) Ct h H) (bj _ (n+9) (pC (c:=n+3) (cL (aX _) (fun H=>Mm (n+1) l k t d H hs)))) (af _ _) (ag _ _) ?_
 unfold JR
 generalize cu t l=g at *
 exact wF
theorem Mr (e:iX l t k d h≠0):cd (n+10) (.fn 66) [dV l t k d,.int .i64 h] H=some (.tup [.nilp,.int .i64 (iX l t k d h)],H):=by
 by_cases c:mP l t k d=0
 · have hs:=za c
   have ea:iX l t k d h=if h<1∨10<h then 2 else 0:=by unfold iX;rw[if_pos c]
   by_cases c2:h<1∨10<h
   · rw[ea,if_pos c2]
     refine aR (n:=n+9) Try.func66 rfl rfl rfl (OV (n+9) l k t d (cu t l) Ct h H) (bj _ (n+9) (pC (c:=n+3) (cL (aX _) (fun H=>Mm (n+1) l k t d H hs)))) (af _ _) (ag _ _) ?_
     generalize cu t l=g at *
     exact wF
   · rw[ea,if_neg c2] at e;exact absurd rfl e
 · have ea:iX l t k d h=mP l t k d:=by unfold iX;rw[if_neg c]
   rw[ea]
   refine aR (n:=n+9) Try.func66 rfl rfl rfl (Oj (n+9) l k t d (mP l t k d) h H) (bj _ (n+9) (cL (aX _) (fun H=>Kg (n+1) l k t d H c))) (af _ _) (ag _ _) ?_
   generalize mP l t k d=e at *
   exact wF
def eU:Int:=if iX l t k d h=0 then (if bV l t d h=true then 0 else 13) else iX l t k d h
theorem BM {l k:Nat} {t d:Nat→Int} {h:Int} (e:eU l k t d h=0):iX l t k d h=0∧bV l t d h=true:=by
 unfold eU at e
 by_cases c:iX l t k d h=0
 · rw[if_pos c] at e
   refine ⟨c,?_⟩
   by_cases c2:bV l t d h=true
   · exact c2
   · rw[if_neg c2] at e;omega
 · rw[if_neg c] at e;exact absurd e c
theorem OO (a:Int) (e:iX l t k d h=0):cd (n+11) (.fn 61) [dV l t k d,.int .i64 h,.int .i64 a] H=some (if a=0 then (if bV l t d h=true then .tup [JR 0 l t k d,.int .i64 0] else .tup [.nilp,.int .i64 13]) else .tup [.nilp,.int .i64 a],H):=by
 obtain ⟨hs,h1,h2⟩:=zI e
 refine aR (n:=n+10) Try.func61 rfl rfl rfl (RG (n+10) l k t d (cu t l) H h a (zQ l t d h)) (bj _ (n+10) (cL (cL (aX _) (fun H=>Pk n l k t d H h e)) (fun H=>OP (n+6) 0 l k k t d _ d false H h hs.l30 hs.kl hs.tl hs.cyc hs.bd (by omega)))) (af _ _) (ag _ _) ?_
 obtain ⟨q1,q2⟩:=A0 l t d h
 unfold JR
 generalize cu t l=g at *
 generalize zQ l t d h=C at *
 by_cases c:a=0
 · rw[if_pos c]
   cases hB:bV l t d h with
   | true =>
     have:=q1.2 hB
     simp only[if_true]
     exact wF
   | false =>
     have:=q2.2 hB
     simp only[Bool.false_eq_true,if_false]
     exact wF
 · rw[if_neg c]
   exact wF
theorem Mo (a:Int) (e:iX l t k d h≠0):cd (n+11) (.fn 61) [dV l t k d,.int .i64 h,.int .i64 a] H=some (.tup [.nilp,.int .i64 (iX l t k d h)],H):=by
 refine aR (n:=n+10) Try.func61 rfl rfl rfl (Oi (n+10) l k t d H h a (iX l t k d h)) (bj _ (n+10) (cL (aX _) (fun H=>Mr n l k t d H h e))) (af _ _) (ag _ _) ?_
 generalize iX l t k d h=e at *
 exact wF
end
end Go.Eng
end
