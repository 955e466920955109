/- Lay: how many have a last turn up to one, the least turn in which cells crowd. -/
import Derived.Test.YtoomemfhcbajoaaV7Lb6x4
set_option linter.unusedVariables false
set_option linter.unusedSimpArgs false
set_option maxRecDepth 100000
section
namespace Go.Eng
open Go.Proofs
noncomputable def wO (l:Nat) (x c j:Int):ao:=[(2,.int .i64 x),(7,.ptr 0 0 0 0),(8,.int .i64 c),(18,.int .i64 (Int.ofNat l)),(19,.int .i64 j)]
noncomputable def wN (s l:Nat) (t:Nat→Int) (k:Nat) (d g:Nat→Int) (x f j:Int):ao:=[(0,eA (s+1) l t k d g),(2,.int .i64 x),(7,.ptr 0 0 0 0),(8,.int .i64 f),(15,.int .i64 j)]
noncomputable def qS (s l:Nat) (t:Nat→Int) (k:Nat) (d g:Nat→Int) (x f T c j:Int):ao:=[(0,eA (s+1) l t k d g),(2,.int .i64 x),(7,.ptr 0 0 0 0),(8,.int .i64 f),(9,.int .i64 T),(10,.int .i64 c),(15,.int .i64 T),(23,.int .i64 (Int.ofNat l)),(24,.int .i64 j)]
theorem t71 (n l:Nat) (z:Nat→Int) (H:aa) (x c j:Int):aM (bp n 71 31) (il aD n 0) aK aL (part Try.f71 [1,1,1,0,1,0,0]) (hints (wO l x c j)) (eK z::H) =
 (fun (Z0:aV)=>Tr.ite (bQ j (Int.ofNat l)) (Tr.req (cN j 30) (Tr.req (cL 0 0) (Tr.req (cw (au 0 j 1) 30) (Tr.ite (lM (z (au 0 j 1)) x) (Tr.ok (Ex.normal,[(2,AV.int .i64 x,none),(7,AV.ptr 0 0 0 0,none),(8,AV.int .i64 (bG .i64 c (Int.ofNat 1)),none),(18,AV.int .i64 (Int.ofNat l),none),(19,AV.int .i64 (bG .i64 j (Int.ofNat 1)),none)],Z0::H)) (Tr.ok (Ex.normal,[(2,AV.int .i64 x,none),(7,AV.ptr 0 0 0 0,none),(8,AV.int .i64 c,none),(18,AV.int .i64 (Int.ofNat l),none),(19,AV.int .i64 (bG .i64 j (Int.ofNat 1)),none)],Z0::H)))))) (Tr.ok (Ex.exit 0,[(2,AV.int .i64 x,none),(7,AV.ptr 0 0 0 0,none),(8,AV.int .i64 c,none),(18,AV.int .i64 (Int.ofNat l),none),(19,AV.int .i64 j,none),(20,AV.bool false,some 1)],Z0::H))) { lock:=false,bs:=[(0,aj.row (Row.M [ah.arr .i64 z 30]))] }:=by kernel_rfl
theorem T5 (n s l k m:Nat) (t d g y z:Nat→Int) (u:Bool) (H:aa) (x c:Int):aX Try.prog (cd n) 100000 71 Try.f71 (KtL.kt 71) (il (tX aD 53 [eA (s+1) l t k d g,cA m y u] (.agg (.M [.arr .i64 z 30]))) n 0) (bX aK 0 (wO l x 0 0) (eK (bH z)::H) (.ok (.normal,hints (wO l x c (Int.ofNat l)++[(20,.bool false)]),eK (bH z)::H))) aL [(eA s l t k d g,none),(cA m y u,none),(.int .i64 x,none)] H =
 (fun (Z0:List AV)=>((fun (Z1:ao)=>((fun (Z2:aV)=>Tr.reqP (Z0=Z0) (Tr.req (gF 0 30 0 30) (Tr.reqP (Z1=Z1∧Z2::H=Z2::H) (Tr.ok ((AV.int .i64 c,none),H))))) { lock:=false,bs:=[(0,aj.row (Row.M [ah.arr .i64 (eC (fun x=>Int.ofNat 0) 0 z 30) 30]))] })) [(2,AV.int .i64 x),(7,AV.ptr 0 0 0 0),(8,AV.int .i64 (Int.ofNat 0)),(18,AV.int .i64 (Int.ofNat l)),(19,AV.int .i64 (Int.ofNat 0))])) [AV.ptrT (some (Nat.succ s)) (Row.M [ah.one (AV.slcT none (Row.M [ah.arr .i64 t l]) 1 l false),ah.one (AV.slcT none (Row.M [ah.arr .i64 d k]) 1 k false),ah.arr .i64 g 30]) 0,AV.slcT none (Row.M [ah.arr .i64 y m]) 1 m u]:=by kernel_rfl
theorem MQ (n s l k:Nat) (t d g z:Nat→Int) (H:aa) (x f T c j:Int):aM (bp n 69 43) (il aD n 0) aK aL (part Try.f69 [1,0,1,1,1,0,1,0,0,1,1,0,0,1,1,1,0,0]) (hints (qS s l t k d g x f T c j)) (eK z::H) =
 (fun (Z0:Nat×AV×Option Nat)=>((fun (Z1:aV)=>Tr.ite (bQ j (Int.ofNat l)) (Tr.req (cN j 30) (Tr.req (cL 0 0) (Tr.req (cw (au 0 j 1) 30) (Tr.ite (bQ T (z (au 0 j 1))) (Tr.ok (Ex.normal,[Z0,(2,AV.int .i64 x,none),(7,AV.ptr 0 0 0 0,none),(8,AV.int .i64 f,none),(9,AV.int .i64 T,none),(10,AV.int .i64 c,none),(15,AV.int .i64 T,none),(23,AV.int .i64 (Int.ofNat l),none),(24,AV.int .i64 (bG .i64 j (Int.ofNat 1)),none)],Z1::H)) (Tr.ite (bQ (rE .i64 x T) (bG .i64 c (Int.ofNat 1))) (Tr.ok (Ex.exit 0,[(8,AV.int .i64 T,none)],Z1::H)) (Tr.ok (Ex.normal,[Z0,(2,AV.int .i64 x,none),(7,AV.ptr 0 0 0 0,none),(8,AV.int .i64 f,none),(9,AV.int .i64 T,none),(10,AV.int .i64 (bG .i64 c (Int.ofNat 1)),none),(15,AV.int .i64 T,none),(23,AV.int .i64 (Int.ofNat l),none),(24,AV.int .i64 (bG .i64 j (Int.ofNat 1)),none)],Z1::H))))))) (Tr.ok (Ex.exit 2,[Z0,(2,AV.int .i64 x,none),(7,AV.ptr 0 0 0 0,none),(8,AV.int .i64 f,none),(9,AV.int .i64 T,none),(10,AV.int .i64 c,none),(15,AV.int .i64 T,none),(23,AV.int .i64 (Int.ofNat l),none),(24,AV.int .i64 j,none),(25,AV.bool false,some 1)],Z1::H))) { lock:=false,bs:=[(0,aj.row (Row.M [ah.arr .i64 z 30]))] })) (0,AV.ptrT (some (Nat.succ s)) (Row.M [ah.one (AV.slcT none (Row.M [ah.arr .i64 t l]) 1 l false),ah.one (AV.slcT none (Row.M [ah.arr .i64 d k]) 1 k false),ah.arr .i64 g 30]) 0,none):=by kernel_rfl
theorem t69 (n s l k:Nat) (t d g z:Nat→Int) (H:aa) (x f j c:Int) (b:Bool):aM (bp n 69 43) (il aD n 0) (bX aK 2 (qS s l t k d g x f j 0 0) (eK z::H) (.ite b (.ok (.exit 0,hints [(8,.int .i64 j)],eK z::H)) (.ok (.normal,hints (qS s l t k d g x f j c (Int.ofNat l)++[(25,.bool false)]),eK z::H)))) aL (part Try.f69 [1,0,1,1,1,0,1,0,0]) (hints (wN s l t k d g x f j)) (eK z::H) =
 (fun (Z0:Row)=>((fun (Z1:aV)=>((fun (Z2:ao)=>Tr.ite (bQ j (Int.ofNat 41)) (Tr.reqP (Z2=Z2∧Z1::H=Z1::H) (Tr.ite b (Tr.ok (Ex.exit 0,[(8,AV.int .i64 j,none)],Z1::H)) (Tr.ok (Ex.normal,[(0,AV.ptrT (some (Nat.succ s)) Z0 0,none),(2,AV.int .i64 x,none),(7,AV.ptr 0 0 0 0,none),(8,AV.int .i64 f,none),(15,AV.int .i64 (bG .i64 j (Int.ofNat 1)),none)],Z1::H)))) (Tr.ok (Ex.exit 0,[(0,AV.ptrT (some (Nat.succ s)) Z0 0,none),(2,AV.int .i64 x,none),(7,AV.ptr 0 0 0 0,none),(8,AV.int .i64 f,none),(15,AV.int .i64 j,none),(16,AV.bool false,some 1)],Z1::H))) [(0,AV.ptrT (some (Nat.succ s)) Z0 0),(2,AV.int .i64 x),(7,AV.ptr 0 0 0 0),(8,AV.int .i64 f),(9,AV.int .i64 j),(10,AV.int .i64 (Int.ofNat 0)),(15,AV.int .i64 j),(23,AV.int .i64 (Int.ofNat l)),(24,AV.int .i64 (Int.ofNat 0))])) { lock:=false,bs:=[(0,aj.row (Row.M [ah.arr .i64 z 30]))] })) (Row.M [ah.one (AV.slcT none (Row.M [ah.arr .i64 t l]) 1 l false),ah.one (AV.slcT none (Row.M [ah.arr .i64 d k]) 1 k false),ah.arr .i64 g 30]):=by kernel_rfl
theorem PO (n s l k:Nat) (t d g z:Nat→Int) (H:aa) (x f j:Int):aM (bp n 69 43) (il aD n 0) (nB aK 2) aL (part Try.f69 [1,0,1,1,1,0,1,0,0]) (hints (wN s l t k d g x f j)) (eK z::H) =
 Tr.ite (bQ j (Int.ofNat 41)) Tr.bad (Tr.ok (Ex.exit 0,[(0,AV.ptrT (some (Nat.succ s)) (Row.M [ah.one (AV.slcT none (Row.M [ah.arr .i64 t l]) 1 l false),ah.one (AV.slcT none (Row.M [ah.arr .i64 d k]) 1 k false),ah.arr .i64 g 30]) 0,none),(2,AV.int .i64 x,none),(7,AV.ptr 0 0 0 0,none),(8,AV.int .i64 f,none),(15,AV.int .i64 j,none),(16,AV.bool false,some 1)],{ lock:=false,bs:=[(0,aj.row (Row.M [ah.arr .i64 z 30]))] } :: H)):=by kernel_rfl
theorem T3 (n s l k m:Nat) (t d g y z:Nat→Int) (u:Bool) (H:aa) (x r:Int) (R:aN):aX Try.prog (cd n) 100000 69 Try.f69 (KtL.kt 69) (il (tX aD 53 [eA (s+1) l t k d g,cA m y u] (.agg (.M [.arr .i64 z 30]))) n 0) (bX aK 0 (wN s l t k d g x (-1) 0) (eK (bH z)::H) (.ok (.normal,(8,.int .i64 r,none)::[],eK (bH z)::H))) aL [(eA s l t k d g,none),(cA m y u,none),(.int .i64 x,none)] H =
 (fun (Z0:Row)=>((fun (Z1:ao)=>((fun (Z2:aV)=>Tr.reqP ([AV.ptrT (some (Nat.succ s)) Z0 0,AV.slcT none (Row.M [ah.arr .i64 y m]) 1 m u]=[AV.ptrT (some (Nat.succ s)) Z0 0,AV.slcT none (Row.M [ah.arr .i64 y m]) 1 m u]) (Tr.req (gF 0 30 0 30) (Tr.reqP (Z1=Z1∧Z2::H=Z2::H) (Tr.ok ((AV.int .i64 r,none),H))))) { lock:=false,bs:=[(0,aj.row (Row.M [ah.arr .i64 (eC (fun x=>Int.ofNat 0) 0 z 30) 30]))] })) [(0,AV.ptrT (some (Nat.succ s)) Z0 0),(2,AV.int .i64 x),(7,AV.ptr 0 0 0 0),(8,AV.int .i64 (Int.negSucc 0)),(15,AV.int .i64 (Int.ofNat 0))])) (Row.M [ah.one (AV.slcT none (Row.M [ah.arr .i64 t l]) 1 l false),ah.one (AV.slcT none (Row.M [ah.arr .i64 d k]) 1 k false),ah.arr .i64 g 30]):=by kernel_rfl
theorem Qc (n s l k m:Nat) (t d g y z:Nat→Int) (u:Bool) (H:aa) (x:Int):aX Try.prog (cd n) 100000 69 Try.f69 (KtL.kt 69) (il (tX aD 53 [eA (s+1) l t k d g,cA m y u] (.agg (.M [.arr .i64 z 30]))) n 0) (bX aK 0 (wN s l t k d g x (-1) 0) (eK (bH z)::H) (.ok (.normal,hints (wN s l t k d g x (-1) 41++[(16,.bool false)]),eK (bH z)::H))) aL [(eA s l t k d g,none),(cA m y u,none),(.int .i64 x,none)] H =
 (fun (Z0:Row)=>((fun (Z1:ao)=>((fun (Z2:aV)=>Tr.reqP ([AV.ptrT (some (Nat.succ s)) Z0 0,AV.slcT none (Row.M [ah.arr .i64 y m]) 1 m u]=[AV.ptrT (some (Nat.succ s)) Z0 0,AV.slcT none (Row.M [ah.arr .i64 y m]) 1 m u]) (Tr.req (gF 0 30 0 30) (Tr.reqP (Z1=Z1∧Z2::H=Z2::H) (Tr.ok ((AV.int .i64 (Int.negSucc 0),none),H))))) { lock:=false,bs:=[(0,aj.row (Row.M [ah.arr .i64 (eC (fun x=>Int.ofNat 0) 0 z 30) 30]))] })) [(0,AV.ptrT (some (Nat.succ s)) Z0 0),(2,AV.int .i64 x),(7,AV.ptr 0 0 0 0),(8,AV.int .i64 (Int.negSucc 0)),(15,AV.int .i64 (Int.ofNat 0))])) (Row.M [ah.one (AV.slcT none (Row.M [ah.arr .i64 t l]) 1 l false),ah.one (AV.slcT none (Row.M [ah.arr .i64 d k]) 1 k false),ah.arr .i64 g 30]):=by kernel_rfl
theorem QW:∀ b,(0,b) ∈ aJ (bn Try.f71)→b=.loop (part Try.f71 [1,1,1,0,1,0,0]):=eJ (by kernel_rfl)
theorem QA:∀ b,(0,b) ∈ aJ (bn Try.f69)→b=.loop (part Try.f69 [1,0,1,1,1,0,1,0,0]):=eJ (by kernel_rfl)
theorem NQ:∀ b,(2,b) ∈ aJ (part Try.f69 [1,0,1,1,1,0,1,0,0])→b=.loop (part Try.f69 [1,0,1,1,1,0,1,0,0,1,1,0,0,1,1,1,0,0]):=eJ (by kernel_rfl)
def AK (l:Nat) (t e:Nat→Int) (T:Int):Nat:=cn (fun i=>decide (gv l t e i≤T)) l
def rM (l:Nat) (t e:Nat→Int) (h T:Int):Bool:=decide (h*T<AK l t e T)
def pW (l:Nat) (t e:Nat→Int) (h:Int):Int:=A0 (fun T=>rM l t e h (T:Nat)) 41
theorem N9 {n f nt:Nat} {c:Code} (id:Nat) (e:Ex) (F:Nat→ao) (G:Nat→aa) (N:Nat) (p:Nat→Bool) (X:Nat→ao×aa) (Y:ao×aa) (hN:N<99999) (hne:e≠.normal) (wS:∀ id',e=.exit id'→Nat.beq id' id=false) (hc:(match e with | .normal=>false | _=>true)=true)
 (hs:∀ j,j<N→∃ x,exec (bp n f nt) c (F j) (G j)=some x∧if p j=true then x=(e,X j) else x.1=.normal∧tidy (al (G 0)) x.2.1 x.2.2=(F (j+1),G (j+1)))
 (he:exec (bp n f nt) c (F N) (G N)=some (.exit id,Y)):exec (bp n f nt) (.block id (.loop c)) (F 0) (G 0)=some (cond (bV p N) (e,X (fN p N 0)) (.normal,Y)):=by
 have key:=mV (body:=exec (bp n f nt) c) (n:=al (G 0)) F G N p (fun j=>if j<N then (e,X j) else (.exit id,Y))
  (fun j hj hp=>by
    obtain ⟨x,h1,h2⟩:=hs j hj
    rw[if_neg (by rw[hp];simp)] at h2
    obtain ⟨e,f1,g1⟩:=x
    obtain ⟨rfl,h3⟩:=h2
    exact ⟨_,_,h1,h3⟩)
  (fun j hj hp=>by
    obtain ⟨x,h1,h2⟩:=hs j hj
    rw[if_pos hp] at h2
    subst h2
    rw[if_pos hj]
    exact ⟨h1,hne⟩)
  (by
    rw[if_neg (by omega)]
    exact ⟨he,by simp⟩) N 0 100000 (by omega) (by omega)
 cases hc:bV p N with
 | true =>
   have:=ig hc
   rw[if_pos this] at key
   exact eD wS key
 | false =>
   have:=pZ hc
   rw[if_neg (by omega)] at key
   exact dZ key
theorem Oa {n f nt:Nat} {c:Code} (id:Nat) (F:Nat→ao) (G:Nat→aa) (N:Nat) (p:Nat→Bool) (X:Nat→ao×aa) (Y:ao×aa) (hN:N<99999)
 (hs:∀ j,j<N→∃ x,exec (bp n f nt) c (F j) (G j)=some x∧if p j=true then x=(.exit id,X j) else x.1=.normal∧tidy (al (G 0)) x.2.1 x.2.2=(F (j+1),G (j+1)))
 (he:exec (bp n f nt) c (F N) (G N)=some (.exit id,Y)):exec (bp n f nt) (.block id (.loop c)) (F 0) (G 0)=some (.normal,cond (bV p N) (X (fN p N 0)) Y):=by
 have key:=mV (body:=exec (bp n f nt) c) (n:=al (G 0)) F G N p (fun j=>if j<N then (.exit id,X j) else (.exit id,Y))
  (fun j hj hp=>by
    obtain ⟨x,h1,h2⟩:=hs j hj
    rw[if_neg (by rw[hp];simp)] at h2
    obtain ⟨e,f1,g1⟩:=x
    obtain ⟨rfl,h3⟩:=h2
    exact ⟨_,_,h1,h3⟩)
  (fun j hj hp=>by
    obtain ⟨x,h1,h2⟩:=hs j hj
    rw[if_pos hp] at h2
    subst h2
    rw[if_pos hj]
    exact ⟨h1,by simp⟩)
  (by
    rw[if_neg (by omega)]
    exact ⟨he,by simp⟩) N 0 100000 (by omega) (by omega)
 cases hc:bV p N with
 | true =>
   have:=ig hc
   rw[if_pos this] at key
   exact dZ key
 | false =>
   have:=pZ hc
   rw[if_neg (by omega)] at key
   exact dZ key
theorem wy {l:Nat} {z:Nat→Int} {j:Nat} (h:j<30):bH (bH z) j=z j:=by rw[mR _ _ h,mR _ _ h]
theorem A5 {l:Nat} {t e:Nat→Int} {j:Nat} (h:j<l):pK l t e l j=gv l t e j:=by unfold pK;rw[if_pos h]
theorem EK (p:Nat→Bool) (q:Int) (hq:0≤q):∀ l,bV (fun j=>p j && decide (q<(cn p j:Int)+1)) l=decide (q<(cn p l:Nat))
 | 0=>by
   rw[jN (fun j hj=>absurd hj (by omega))]
   exact (decide_eq_false (by show ¬ q<((0:Nat):Int);omega)).symm
 | l + 1 => by
   have ih:=EK p q hq l
   have e:cn p (l+1)=cn p l+(p l).toNat:=rfl
   by_cases c:q<(cn p l:Nat)
   · rw[decide_eq_true c] at ih
     obtain ⟨j,hj,e2⟩:=(dj _ _).1 ih
     rw[(dj _ _).2 ⟨j,by omega,e2⟩,decide_eq_true (by omega)]
   · rw[decide_eq_false c] at ih
     have hn:=dN ih
     cases hp:p l with
     | true =>
       rw[hp] at e
       simp only[Bool.toNat_true] at e
       by_cases c2:q<((cn p (l+1):Nat):Int)
       · rw[decide_eq_true c2]
         exact (dj _ _).2 ⟨l,by omega,by simp only[hp,Bool.true_and,decide_eq_true_eq];omega⟩
       · rw[decide_eq_false c2]
         refine jN (fun j hj=>?_)
         by_cases ej:j=l
         · subst ej;simp only[hp,Bool.true_and,decide_eq_false_iff_not];omega
         · exact hn j (by omega)
     | false =>
       rw[hp] at e
       simp only[Bool.toNat_false,Nat.add_zero] at e
       rw[e,decide_eq_false c]
       refine jN (fun j hj=>?_)
       by_cases ej:j=l
       · subst ej;simp only[hp,Bool.false_and]
       · exact hn j (by omega)
section
variable (n s l k m:Nat) (t d g y:Nat→Int) (u:Bool) (H:aa) (h:Int)
theorem Tm (z:Nat→Int) (x:Int) (hl:l≤30):exec (bp n 71 31) (.block 0 (.loop (part Try.f71 [1,1,1,0,1,0,0]))) (wO l x 0 0) (eK z::H)=some (.normal,wO l x (cn (fun i=>decide (z i≤x)) l:Nat) (Int.ofNat l)++[(20,.bool false)],eK z::H):=by
 refine j8 (n:=n) (f:=71) (nt:=31) (c:=part Try.f71 [1,1,1,0,1,0,0]) 0 (fun j=>wO l x (cn (fun i=>decide (z i≤x)) j:Nat) (j:Nat)) (fun _=>eK z::H) l (wO l x (cn (fun i=>decide (z i≤x)) l:Nat) (Int.ofNat l)++[(20,.bool false)],eK z::H) (by omega) (fun j hj=>?_) ?_
 · refine aH (t71 n l z H x (cn (fun i=>decide (z i≤x)) j:Nat) (j:Nat)) (ar n) (af _ _) (ag _ _) ?_
   have hle:=lY (fun i=>decide (z i≤x)) j
   show Tr.all _ (fun r=>_∧tidy _ _ _=(wO l x ((cn (fun i=>decide (z i≤x)) j+(decide (z j≤x)).toNat:Nat):Int) ((j+1:Nat):Int),_))
   rw[db (j:=j) (by omega),db (by omega)]
   simp only[jB]
   generalize cn (fun i=>decide (z i≤x)) j=C at *
   generalize z j=q at *
   by_cases c:q≤x
   · rw[decide_eq_true c]
     exact wF
   · rw[decide_eq_false c]
     exact wF
 · obtain ⟨r,h1,rfl⟩:=aH (Q:=fun r=>r=(.exit 0,wO l x (cn (fun i=>decide (z i≤x)) l:Nat) (Int.ofNat l)++[(20,.bool false)],eK z::H)) (t71 n l z H x (cn (fun i=>decide (z i≤x)) l:Nat) (Int.ofNat l)) (ar n) (af _ _) (ag _ _) (by
    refine Tr.bh (fun hc=>?_) (fun hc=>Tr.ba rfl)
    simp (disch:=omega) only[nV,nW] at hc;omega)
   exact h1
theorem Rl (x:Int) (hl:l≤30) (hm:m=l) (ht:∀ j,j<l→t j<l) (hc:iB l t=false) (hy:∀ j,j<l→-900≤y j∧y j≤900) :
 cd (n+4) (.fn 71) [eA s l t k d g,cA m y u,.int .i64 x] H=some (.int .i64 (AK l t y x:Nat),H):=by
 have hx:=Tm (n+3) l H (bH (bH (pK l t y l))) x hl
 rw[dD (q:=fun i=>decide (gv l t y i≤x)) (fun j hj=>by rw[wy (l:=l) (by omega),A5 hj])] at hx
 refine aC (n:=n+3) Try.func71 rfl rfl rfl (T5 (n+3) s l k m t d g y (bH (pK l t y l)) u H x (AK l t y x:Nat)) (aQ _ (n+3) (bo (aB _) (fun H=>NV n (s+1) l k m t d g y u H hl hm ht hc hy))) (aF (af _ _) QW (fun x hy=>bY hy hx)) (ag _ _) ?_
 generalize bH (pK l t y l)=z at *
 generalize AK l t y x=C at *
 exact wF
theorem OX (z:Nat→Int) (f T:Int) (hl:l≤30) (hh:0≤h∧h≤1000) (hT:0≤T∧T≤1000):∃ c,exec (bp n 69 43) (.block 2 (.loop (part Try.f69 [1,0,1,1,1,0,1,0,0,1,1,0,0,1,1,1,0,0]))) (qS s l t k d g h f T 0 0) (eK z::H)=some (cond (decide (h*T<(cn (fun i=>decide (z i≤T)) l:Nat))) (.exit 0,[(8,.int .i64 T)],eK z::H) (.normal,qS s l t k d g h f T c (Int.ofNat l)++[(25,.bool false)],eK z::H)):=by
 have hm:=Int.mul_nonneg hh.1 hT.1
 have hm2:h*T≤1000*1000:=Int.mul_le_mul hh.2 hT.2 hT.1 (by omega)
 refine ⟨(cn (fun i=>decide (z i≤T)) l:Nat),?_⟩
 rw[← EK _ _ hm l]
 refine N9 (n:=n) (f:=69) (nt:=43) (c:=part Try.f69 [1,0,1,1,1,0,1,0,0,1,1,0,0,1,1,1,0,0]) 2 (.exit 0) (fun j=>qS s l t k d g h f T (cn (fun i=>decide (z i≤T)) j:Nat) (j:Nat)) (fun _=>eK z::H) l (fun j=>decide (z j≤T) && decide (h*T<(cn (fun i=>decide (z i≤T)) j:Int)+1)) (fun j=>([(8,.int .i64 T)],eK z::H)) _ (by omega) (by simp) (fun id' h=>by cases h;rfl) rfl (fun j hj=>?_) ?_
 · refine aH (MQ n s l k t d g z H h f T (cn (fun i=>decide (z i≤T)) j:Nat) (j:Nat)) (ar n) (af _ _) (ag _ _) ?_
   have hle:=lY (fun i=>decide (z i≤T)) j
   have em:rE .i64 h T=h*T:=by rw[lh];exact nD (by omega) (by omega)
   show Tr.all _ (fun r=>if (decide (z j≤T) && decide (h*T<(cn (fun i=>decide (z i≤T)) j:Int)+1))=true then _ else _∧tidy _ _ _=(qS s l t k d g h f T ((cn (fun i=>decide (z i≤T)) j+(decide (z j≤T)).toNat:Nat):Int) ((j+1:Nat):Int),_))
   rw[db (j:=j) (by omega),db (by omega)]
   simp only[jB,em]
   generalize cn (fun i=>decide (z i≤T)) j=C at *
   generalize z j=q at *
   generalize h*T=P at *
   by_cases c:q≤T
   · by_cases c2:P<(C:Int)+1
     · simp only[decide_eq_true c,decide_eq_true c2,Bool.and_self,if_true]
       exact wF
     · simp only[decide_eq_true c,decide_eq_false c2,Bool.and_false,Bool.false_eq_true,if_false]
       exact wF
   · simp only[decide_eq_false c,Bool.false_and,Bool.false_eq_true,if_false]
     exact wF
 · obtain ⟨r,h1,rfl⟩:=aH (Q:=fun r=>r=(.exit 2,qS s l t k d g h f T (cn (fun i=>decide (z i≤T)) l:Nat) (Int.ofNat l)++[(25,.bool false)],eK z::H)) (MQ n s l k t d g z H h f T (cn (fun i=>decide (z i≤T)) l:Nat) (Int.ofNat l)) (ar n) (af _ _) (ag _ _) (by
    refine Tr.bh (fun hc=>?_) (fun hc=>Tr.ba rfl)
    simp (disch:=omega) only[nV,nW] at hc;omega)
   exact h1
theorem Tk (z:Nat→Int) (hl:l≤30) (hh:0≤h∧h≤1000):exec (bp n 69 43) (.block 0 (.loop (part Try.f69 [1,0,1,1,1,0,1,0,0]))) (wN s l t k d g h (-1) 0) (eK z::H)=some (.normal,cond (bV (fun T=>decide (h*(T:Int)<(cn (fun i=>decide (z i≤(T:Int))) l:Nat))) 41) ([(8,.int .i64 (fN (fun T=>decide (h*(T:Int)<(cn (fun i=>decide (z i≤(T:Int))) l:Nat))) 41 0:Nat))],eK z::H) (wN s l t k d g h (-1) 41++[(16,.bool false)],eK z::H)):=by
 refine Oa (n:=n) (f:=69) (nt:=43) (c:=part Try.f69 [1,0,1,1,1,0,1,0,0]) 0 (fun j=>wN s l t k d g h (-1) (j:Nat)) (fun _=>eK z::H) 41 (fun T=>decide (h*(T:Int)<(cn (fun i=>decide (z i≤(T:Int))) l:Nat))) (fun j=>([(8,.int .i64 (j:Nat))],eK z::H)) _ (by omega) (fun j hj=>?_) ?_
 · obtain ⟨c,hx⟩:=OX n s l k t d g H h z (-1) (j:Nat) hl hh (by omega)
   have hp:(decide (h*(j:Int)<(cn (fun i=>decide (z i≤(j:Int))) l:Nat)))=(decide (h*(j:Int)<(cn (fun i=>decide (z i≤(j:Int))) l:Nat))):=rfl
   generalize hb:(decide (h*(j:Int)<(cn (fun i=>decide (z i≤(j:Int))) l:Nat)))=b at hx hp ⊢
   refine aH (t69 n s l k t d g z H h (-1) (j:Nat) c b) (ar n) (aF (af _ _) NQ (fun x hy=>dz hy hx)) (ag _ _) ?_
   show Tr.all _ (fun r=>if b=true then _ else _)
   rw[db (j:=j) (by omega)]
   cases b with
   | true =>
     simp only[if_true]
     exact wF
   | false =>
     simp only[Bool.false_eq_true,if_false]
     exact wF
 · obtain ⟨r,h1,rfl⟩:=aH (Q:=fun r=>r=(.exit 0,wN s l t k d g h (-1) 41++[(16,.bool false)],eK z::H)) (PO n s l k t d g z H h (-1) 41) (ar n) (eV (af _ _) 2) (ag _ _) (by
    refine Tr.bh (fun hc=>?_) (fun hc=>Tr.ba rfl)
    simp (disch:=omega) only[nV,nW] at hc;omega)
   exact h1
theorem NZ (hl:l≤30) (hm:m=l) (ht:∀ j,j<l→t j<l) (hc:iB l t=false) (hy:∀ j,j<l→-900≤y j∧y j≤900) (hh:0≤h∧h≤1000) :
 cd (n+4) (.fn 69) [eA s l t k d g,cA m y u,.int .i64 h] H=some (.int .i64 (pW l t y h),H):=by
 have hx:=Tk (n+3) s l k t d g H h (bH (bH (pK l t y l))) hl hh
 rw[show (fun T:Nat=>decide (h*(T:Int)<(cn (fun i=>decide (bH (bH (pK l t y l)) i≤(T:Int))) l:Nat)))=fun T:Nat=>rM l t y h (T:Nat) from by
  funext T
  rw[dD (q:=fun i=>decide (gv l t y i≤(T:Nat))) (fun j hj=>by rw[wy (l:=l) (by omega),A5 hj])]
  rfl] at hx
 have hC:(tX aD 53 [eA (s+1) l t k d g,cA m y u] (.agg (.M [.arr .i64 (bH (pK l t y l)) 30]))).Ok (cd (n+3)):=bo (aB _) (fun H=>NV n (s+1) l k m t d g y u H hl hm ht hc hy)
 cases e:bV (fun T:Nat=>rM l t y h (T:Nat)) 41 with
 | true =>
   rw[e] at hx
   have hr:pW l t y h=(fN (fun T:Nat=>rM l t y h (T:Nat)) 41 0:Nat):=by unfold pW A0;rw[if_pos e]
   rw[← hr] at hx
   refine aC (n:=n+3) Try.func69 rfl rfl rfl (T3 (n+3) s l k m t d g y (bH (pK l t y l)) u H h (pW l t y h) []) (aQ _ (n+3) hC) (aF (af _ _) QA (fun x hy=>bY hy hx)) (ag _ _) ?_
   generalize bH (pK l t y l)=z at *
   generalize pW l t y h=C at *
   exact wF
 | false =>
   rw[e] at hx
   have hr:pW l t y h=-1:=by unfold pW A0;rw[if_neg (by rw[e];decide)]
   rw[hr]
   refine aC (n:=n+3) Try.func69 rfl rfl rfl (Qc (n+3) s l k m t d g y (bH (pK l t y l)) u H h) (aQ _ (n+3) hC) (aF (af _ _) QA (fun x hy=>bY hy hx)) (ag _ _) ?_
   generalize bH (pK l t y l)=z at *
   exact wF
end
end Go.Eng
end
section
namespace Go.Eng
open Go.Proofs
noncomputable def rC (o:AV) (j:Int):ao:=[(1,.ptr 0 0 0 0),(3,o),(4,.int .i64 j)]
noncomputable def iH (o:AV) (j v c x:Int):ao:=[(1,.ptr 0 0 0 0),(3,o),(4,.int .i64 j),(5,.int .i64 v),(6,.int .i64 c),(7,.int .i64 x)]
noncomputable def qo (l:Nat) (t:Nat→Int) (k:Nat) (d:Nat→Int) (v m:Nat) (y:Nat→Int):aV:=⟨false,[II l t k d,(v,.row (.M [.arr .i64 y m]))]⟩
noncomputable def mn (l:Nat) (t:Nat→Int) (k:Nat) (d:Nat→Int):aV:=⟨false,[II l t k d]⟩
theorem I9 (n l k:Nat) (t d:Nat→Int) (H:aa) (j w c x:Int):aM (bp n 55 44) (il aD n 0) aK aL (part Try.f55 [1,1,0,1,0,0,1,0,0,1,0,1,0,0]) (hints (iH .nils j w c x)) (mn l t k d::H) =
 (fun (Z0:aV)=>Tr.ite (lM (Int.ofNat 0) x) (Tr.req (cN x k) (Tr.req (cw (au 0 x 1) k) (Tr.req (cN x l) (Tr.req (cw (au 0 x 1) l) (Tr.ok (Ex.normal,[(1,AV.ptr 0 0 0 0,none),(3,AV.nils,none),(4,AV.int .i64 j,none),(5,AV.int .i64 (uO w (bC .i64 (d (au 0 x 1)) c)),none),(6,AV.int .i64 (bG .i64 c (Int.ofNat 1)),none),(7,AV.int .i64 (t (au 0 x 1)),none)],Z0::H)))))) (Tr.ok (Ex.exit 2,[(1,AV.ptr 0 0 0 0,none),(3,AV.nils,none),(4,AV.int .i64 j,none),(5,AV.int .i64 w,none),(6,AV.int .i64 c,none),(7,AV.int .i64 x,none),(22,AV.bool false,some 1)],Z0::H))) { lock:=false,bs:=[(0,aj.row (Row.G [AV.slcT none (Row.M [ah.arr .i64 t l]) 1 l false,AV.slcT none (Row.M [ah.arr .i64 d k]) 1 k false]))] }:=by kernel_rfl
theorem PI (n l k:Nat) (t d:Nat→Int) (H:aa) (j w c x:Int):aM (bp n 55 44) (il aD n 0) (bX aK 2 (iH .nils j (d (au 0 j 1)) 0 j) (mn l t k d::H) (.ok (.normal,hints (iH .nils j w c x++[(22,.bool false)]),mn l t k d::H))) aL (part Try.f55 [1,1,0,1,0,0]) (hints (rC .nils j)) (mn l t k d::H) =
 (fun (Z0:Nat×aj)=>((fun (Z1:ao)=>Tr.ite (bQ j (Int.ofNat l)) (Tr.req (cN j k) (Tr.req (cw (au 0 j 1) k) (Tr.reqP (Z1=Z1∧{ lock:=false,bs:=[Z0] } :: H={ lock:=false,bs:=[Z0] } :: H) (Tr.req (iv 0 1 8) (Tr.req (cL 0 0) (Tr.req (iO 1 1) (Tr.ok (Ex.normal,[(1,AV.ptr 0 0 0 0,none),(3,AV.slc 0 2 0 0 1 1 none,none),(4,AV.int .i64 (bG .i64 j (Int.ofNat 1)),none)],{ lock:=false,bs:=[Z0,(0,aj.row (Row.I .i64 [w])),(0,aj.row (Row.M [ah.arr .i64 (aA [w]) 1]))] } :: H)))))))) (Tr.ok (Ex.exit 0,[(1,AV.ptr 0 0 0 0,none),(3,AV.nils,none),(4,AV.int .i64 j,none),(12,AV.bool false,some 1)],{ lock:=false,bs:=[Z0] } :: H))) [(1,AV.ptr 0 0 0 0),(3,AV.nils),(4,AV.int .i64 j),(5,AV.int .i64 (d (au 0 j 1))),(6,AV.int .i64 (Int.ofNat 0)),(7,AV.int .i64 j)])) (0,aj.row (Row.G [AV.slcT none (Row.M [ah.arr .i64 t l]) 1 l false,AV.slcT none (Row.M [ah.arr .i64 d k]) 1 k false])):=by kernel_rfl
theorem Ja (n l k:Nat) (t d:Nat→Int) (v m:Nat) (y:Nat→Int) (H:aa) (j w c x:Int):aM (bp n 55 44) (il aD n 0) aK aL (part Try.f55 [1,1,0,1,0,0,1,0,0,1,0,1,0,0]) (hints (iH (.slc 0 1 v 0 1 m none) j w c x)) (qo l t k d v m y::H) =
 (fun (Z0:aV)=>Tr.ite (lM (Int.ofNat 0) x) (Tr.req (cN x k) (Tr.req (cw (au 0 x 1) k) (Tr.req (cN x l) (Tr.req (cw (au 0 x 1) l) (Tr.ok (Ex.normal,[(1,AV.ptr 0 0 0 0,none),(3,AV.slc 0 1 v 0 1 m none,none),(4,AV.int .i64 j,none),(5,AV.int .i64 (uO w (bC .i64 (d (au 0 x 1)) c)),none),(6,AV.int .i64 (bG .i64 c (Int.ofNat 1)),none),(7,AV.int .i64 (t (au 0 x 1)),none)],Z0::H)))))) (Tr.ok (Ex.exit 2,[(1,AV.ptr 0 0 0 0,none),(3,AV.slc 0 1 v 0 1 m none,none),(4,AV.int .i64 j,none),(5,AV.int .i64 w,none),(6,AV.int .i64 c,none),(7,AV.int .i64 x,none),(22,AV.bool false,some 1)],Z0::H))) { lock:=false,bs:=[(0,aj.row (Row.G [AV.slcT none (Row.M [ah.arr .i64 t l]) 1 l false,AV.slcT none (Row.M [ah.arr .i64 d k]) 1 k false])),(v,aj.row (Row.M [ah.arr .i64 y m]))] }:=by kernel_rfl
theorem PJ (n l k:Nat) (t d:Nat→Int) (v m:Nat) (y:Nat→Int) (H:aa) (j w c x:Int):aM (bp n 55 44) (il aD n 0) (bX aK 2 (iH (.slc 0 1 v 0 1 m none) j (d (au 0 j 1)) 0 j) (qo l t k d v m y::H) (.ok (.normal,hints (iH (.slc 0 1 v 0 1 m none) j w c x++[(22,.bool false)]),qo l t k d v m y::H))) aL (part Try.f55 [1,1,0,1,0,0]) (hints (rC (.slc 0 1 v 0 1 m none) j)) (qo l t k d v m y::H) =
 (fun (Z0:aV)=>((fun (Z1:ao)=>Tr.ite (bQ j (Int.ofNat l)) (Tr.req (cN j k) (Tr.req (cw (au 0 j 1) k) (Tr.reqP (Z1=Z1∧Z0::H=Z0::H) (Tr.req (iv m 1 8) (Tr.req (cL 0 0) (Tr.req (iO 1 1) (Tr.req (cL v v) (Tr.req (cL (b9 0 m) m) (Tr.ok (Ex.normal,[(1,AV.ptr 0 0 0 0,none),(3,AV.slc 0 1 (Nat.succ v) 0 1 (b9 m 1) none,none),(4,AV.int .i64 (bG .i64 j (Int.ofNat 1)),none)],{ lock:=false,bs:=[(0,aj.row (Row.G [AV.slcT none (Row.M [ah.arr .i64 t l]) 1 l false,AV.slcT none (Row.M [ah.arr .i64 d k]) 1 k false])),(Nat.succ v,aj.row (Row.M [ah.arr .i64 (oD (dW y 0) m (aA [w])) (b9 m 1)])),(0,aj.row (Row.I .i64 [w]))] } :: H)))))))))) (Tr.ok (Ex.exit 0,[(1,AV.ptr 0 0 0 0,none),(3,AV.slc 0 1 v 0 1 m none,none),(4,AV.int .i64 j,none),(12,AV.bool false,some 1)],Z0::H))) [(1,AV.ptr 0 0 0 0),(3,AV.slc 0 1 v 0 1 m none),(4,AV.int .i64 j),(5,AV.int .i64 (d (au 0 j 1))),(6,AV.int .i64 (Int.ofNat 0)),(7,AV.int .i64 j)])) { lock:=false,bs:=[(0,aj.row (Row.G [AV.slcT none (Row.M [ah.arr .i64 t l]) 1 l false,AV.slcT none (Row.M [ah.arr .i64 d k]) 1 k false])),(v,aj.row (Row.M [ah.arr .i64 y m]))] }:=by kernel_rfl
theorem PK (n l k:Nat) (t d:Nat→Int) (v m:Nat) (y:Nat→Int) (H:aa) (j:Int):aM (bp n 55 44) (il aD n 0) (nB aK 2) aL (part Try.f55 [1,1,0,1,0,0]) (hints (rC (.slc 0 1 v 0 1 m none) j)) (qo l t k d v m y::H) =
 Tr.ite (bQ j (Int.ofNat l)) (Tr.req (cN j k) (Tr.req (cw (au 0 j 1) k) Tr.bad)) (Tr.ok (Ex.exit 0,[(1,AV.ptr 0 0 0 0,none),(3,AV.slc 0 1 v 0 1 m none,none),(4,AV.int .i64 j,none),(12,AV.bool false,some 1)],{ lock:=false,bs:=[(0,aj.row (Row.G [AV.slcT none (Row.M [ah.arr .i64 t l]) 1 l false,AV.slcT none (Row.M [ah.arr .i64 d k]) 1 k false])),(v,aj.row (Row.M [ah.arr .i64 y m]))] } :: H)):=by kernel_rfl
theorem TR (n l k q:Nat) (t d y:Nat→Int) (H:aa):aX Try.prog (cd n) 100000 55 Try.f55 (KtL.kt 55) (il aD n 0) (bX aK 0 (rC .nils 0) (mn l t k d::H) (.ok (.normal,hints (rC (.slc 0 1 q 0 1 (q+1) none) (Int.ofNat l)++[(12,.bool false)]),qo l t k d q (q+1) y::H))) aL [(bR l t k d,none)] H =
 (fun (Z0:aV)=>Tr.reqP ([(1,AV.ptr 0 0 0 0),(3,AV.nils),(4,AV.int .i64 (Int.ofNat 0))]=[(1,AV.ptr 0 0 0 0),(3,AV.nils),(4,AV.int .i64 (Int.ofNat 0))]∧Z0::H=Z0::H) (Tr.req (cL q q) (Tr.req (gF 0 (Nat.succ q) 0 (Nat.succ q)) (Tr.ok ((AV.slcT none (Row.M [ah.arr .i64 (dW y 0) (Nat.succ q)]) 1 (Nat.succ q) false,none),H))))) { lock:=false,bs:=[(0,aj.row (Row.G [AV.slcT none (Row.M [ah.arr .i64 t l]) 1 l false,AV.slcT none (Row.M [ah.arr .i64 d k]) 1 k false]))] }:=by kernel_rfl
theorem QS:∀ b,(0,b) ∈ aJ (bn Try.f55)→b=.loop (part Try.f55 [1,1,0,1,0,0]):=eJ (by kernel_rfl)
theorem Lh:∀ b,(2,b) ∈ aJ (part Try.f55 [1,1,0,1,0,0])→b=.loop (part Try.f55 [1,1,0,1,0,0,1,0,0,1,0,1,0,0]):=eJ (by kernel_rfl)
def iA (z:Nat→Int) (j:Nat):List Int:=(List.range j).map z
theorem BP (z:Nat→Int) (j:Nat):(iA z j).length=j:=by simp[iA]
theorem Hf (z:Nat→Int) (j:Nat):iA z (j+1)=iA z j++[z j]:=by simp[iA,List.range_succ]
theorem wK (z:Nat→Int) (j:Nat):oD (dW (aA (iA z j)) 0) j (aA [z j])=aA (iA z (j+1)):=by
 have:=Ck (iA z j) (z j)
 rw[BP,← Hf] at this;exact this
theorem wL (z:Nat→Int) {j i:Nat} (h:i<j):aA (iA z j) i=z i:=by
 rw[Kg _ _ (by rw[BP];exact h)];simp[iA]
noncomputable def NA:Nat→AV
 | 0=>.nils
 | q+1=>.slc 0 1 q 0 1 (q+1) none
noncomputable def HF (l:Nat) (t:Nat→Int) (k:Nat) (d:Nat→Int) (z:Nat→Int):Nat→aV
 | 0=>mn l t k d
 | q+1=>qo l t k d q (q+1) (aA (iA z (q+1)))
structure Fw (l:Nat) (t:Nat→Int):Prop where
 l30:l≤30
 tl:∀ j,j<l→t j<l
 cyc:iB l t=false
theorem Sh.fw {l k:Nat} {t d:Nat→Int} (h:Sh l t k d):Fw l t:=⟨h.l30,h.tl,h.cyc⟩
def Bd (l:Nat) (e:Nat→Int):Prop:=∀ j,j<l→-900≤e j∧e j≤900
theorem Sh.bd {l k:Nat} {t d:Nat→Int} (h:Sh l t k d):Bd l d:=fun j hj=>by
 have:=h.d1 j hj
 have:=h.d40 j hj
 omega
section
variable (n l k:Nat) (t d:Nat→Int) (H:aa)
theorem LZ (j:Nat) (h:Fw l t) (hk:k=l) (hb:Bd l d) (hj:j<l):exec (bp n 55 44) (.block 2 (.loop (part Try.f55 [1,1,0,1,0,0,1,0,0,1,0,1,0,0]))) (iH .nils (j:Nat) (d j) 0 (j:Nat)) (mn l t k d::H)=some (.normal,iH .nils (j:Nat) (gv l t d j) (iX l t j:Nat) (bE t (iX l t j) (j:Nat))++[(22,.bool false)],mn l t k d::H):=by
 obtain ⟨e1,e2,e3⟩:=l5 h.cyc j hj
 have hl:=h.l30
 refine j8 (n:=n) (f:=55) (nt:=44) (c:=part Try.f55 [1,1,0,1,0,0,1,0,0,1,0,1,0,0]) 2 (fun p=>iH .nils (j:Nat) (uJ t d j p) (p:Nat) (bE t p (j:Nat))) (fun _=>mn l t k d::H) (iX l t j) _ (by omega) (fun p hp=>?_) ?_
 · have h1:=e2 p hp
   have h2:=gA h.tl (show (j:Int)<l by omega) p
   have h3:=r7 h1
   have h4:=hb (bE t p (j:Nat)).toNat (by omega)
   have h5:bC .i64 (d (bE t p (j:Nat)).toNat) (p:Int)=d (bE t p (j:Nat)).toNat-(p:Int):=rH (by omega) (by omega)
   refine aH (I9 n l k t d H (j:Nat) (uJ t d j p) (p:Nat) (bE t p (j:Nat))) (ar n) (af _ _) (ag _ _) ?_
   rw[db (j:=p) (by omega),K8 h1,h5,ki]
   show Tr.all _ (fun r=>_∧tidy _ _ _=(iH .nils (j:Nat) (min (uJ t d j p) (d (bE t p (j:Int)).toNat-(p:Int))) ((p+1:Nat):Int) (bE t (p+1) (j:Nat)),_))
   rw[h3]
   generalize min (uJ t d j p) (d (bE t p (j:Int)).toNat-(p:Int))=V at *
   generalize bE t p (j:Nat)=x at *
   exact wF
 · obtain ⟨r,h1,rfl⟩:=aH (Q:=fun r=>r=(.exit 2,iH .nils (j:Nat) (gv l t d j) (iX l t j:Nat) (bE t (iX l t j) (j:Nat))++[(22,.bool false)],mn l t k d::H)) (I9 n l k t d H (j:Nat) (gv l t d j) (iX l t j:Nat) (bE t (iX l t j) (j:Nat))) (ar n) (af _ _) (ag _ _) (by
    refine Tr.bh (fun hc=>?_) (fun hc=>Tr.ba rfl)
    simp (disch:=omega) only[nV,nW] at hc;omega)
   exact h1
theorem L0 (v m:Nat) (y:Nat→Int) (j:Nat) (h:Fw l t) (hk:k=l) (hb:Bd l d) (hj:j<l):exec (bp n 55 44) (.block 2 (.loop (part Try.f55 [1,1,0,1,0,0,1,0,0,1,0,1,0,0]))) (iH (.slc 0 1 v 0 1 m none) (j:Nat) (d j) 0 (j:Nat)) (qo l t k d v m y::H)=some (.normal,iH (.slc 0 1 v 0 1 m none) (j:Nat) (gv l t d j) (iX l t j:Nat) (bE t (iX l t j) (j:Nat))++[(22,.bool false)],qo l t k d v m y::H):=by
 obtain ⟨e1,e2,e3⟩:=l5 h.cyc j hj
 have hl:=h.l30
 refine j8 (n:=n) (f:=55) (nt:=44) (c:=part Try.f55 [1,1,0,1,0,0,1,0,0,1,0,1,0,0]) 2 (fun p=>iH (.slc 0 1 v 0 1 m none) (j:Nat) (uJ t d j p) (p:Nat) (bE t p (j:Nat))) (fun _=>qo l t k d v m y::H) (iX l t j) _ (by omega) (fun p hp=>?_) ?_
 · have h1:=e2 p hp
   have h2:=gA h.tl (show (j:Int)<l by omega) p
   have h3:=r7 h1
   have h4:=hb (bE t p (j:Nat)).toNat (by omega)
   have h5:bC .i64 (d (bE t p (j:Nat)).toNat) (p:Int)=d (bE t p (j:Nat)).toNat-(p:Int):=rH (by omega) (by omega)
   refine aH (Ja n l k t d v m y H (j:Nat) (uJ t d j p) (p:Nat) (bE t p (j:Nat))) (ar n) (af _ _) (ag _ _) ?_
   rw[db (j:=p) (by omega),K8 h1,h5,ki]
   show Tr.all _ (fun r=>_∧tidy _ _ _=(iH (.slc 0 1 v 0 1 m none) (j:Nat) (min (uJ t d j p) (d (bE t p (j:Int)).toNat-(p:Int))) ((p+1:Nat):Int) (bE t (p+1) (j:Nat)),_))
   rw[h3]
   generalize min (uJ t d j p) (d (bE t p (j:Int)).toNat-(p:Int))=V at *
   generalize bE t p (j:Nat)=x at *
   exact wF
 · obtain ⟨r,h1,rfl⟩:=aH (Q:=fun r=>r=(.exit 2,iH (.slc 0 1 v 0 1 m none) (j:Nat) (gv l t d j) (iX l t j:Nat) (bE t (iX l t j) (j:Nat))++[(22,.bool false)],qo l t k d v m y::H)) (Ja n l k t d v m y H (j:Nat) (gv l t d j) (iX l t j:Nat) (bE t (iX l t j) (j:Nat))) (ar n) (af _ _) (ag _ _) (by
    refine Tr.bh (fun hc=>?_) (fun hc=>Tr.ba rfl)
    simp (disch:=omega) only[nV,nW] at hc;omega)
   exact h1
theorem Tg (h:Fw l t) (h0:0<l) (hk:k=l) (hb:Bd l d):exec (bp n 55 44) (.block 0 (.loop (part Try.f55 [1,1,0,1,0,0]))) (rC .nils 0) (mn l t k d::H)=some (.normal,rC (NA l) (Int.ofNat l)++[(12,.bool false)],HF l t k d (fun i=>gv l t d i) l::H):=by
 have hl:=h.l30
 refine j8 (n:=n) (f:=55) (nt:=44) (c:=part Try.f55 [1,1,0,1,0,0]) 0 (fun j=>rC (NA j) (j:Nat)) (fun j=>HF l t k d (fun i=>gv l t d i) j::H) l (rC (NA l) (Int.ofNat l)++[(12,.bool false)],HF l t k d (fun i=>gv l t d i) l::H) (by omega) (fun j hj=>?_) ?_
 · cases j with
   | zero =>
     have hx:=LZ n l k t d H 0 h hk hb hj
     have he:=PI n l k t d H (0:Nat) (gv l t d 0) (iX l t 0:Nat) (bE t (iX l t 0) (0:Nat))
     rw[jB] at he
     refine aH he (ar n) (aF (af _ _) Lh (fun x hy=>bY hy hx)) (ag _ _) ?_
     show Tr.all _ (fun x=>_∧tidy _ _ _=(rC (.slc 0 1 0 0 1 1 none) ((0+1:Nat):Int),qo l t k d 0 1 (aA [gv l t d 0])::H))
     rw[db (j:=0) (by omega)]
     generalize gv l t d 0=W at *
     generalize iX l t 0=N at *
     exact wF
   | succ j =>
     have hx:=L0 n l k t d H j (j+1) (aA (iA (fun i=>gv l t d i) (j+1))) (j+1) h hk hb hj
     have he:=PJ n l k t d j (j+1) (aA (iA (fun i=>gv l t d i) (j+1))) H (j+1:Nat) (gv l t d (j+1)) (iX l t (j+1):Nat) (bE t (iX l t (j+1)) (j+1:Nat))
     rw[jB] at he
     refine aH he (ar n) (aF (af _ _) Lh (fun x hy=>bY hy hx)) (ag _ _) ?_
     show Tr.all _ (fun x=>_∧tidy _ _ _=(rC (.slc 0 1 (j+1) 0 1 (j+1+1) none) ((j+1+1:Nat):Int),qo l t k d (j+1) (j+1+1) (aA (iA (fun i=>gv l t d i) (j+1+1)))::H))
     have hap:=wK (fun i=>gv l t d i) (j+1)
     have ea:b9 (j+1) 1=j+1+1:=bJ _ _
     try dsimp only at hap
     rw[db (j:=j+1) (by omega),hap,ea]
     generalize aA (iA (fun i=>gv l t d i) (j+1+1))=Y2 at *
     generalize aA (iA (fun i=>gv l t d i) (j+1))=Y at *
     generalize gv l t d (j+1)=W at *
     generalize iX l t (j+1)=N at *
     exact wF
 · obtain ⟨q,rfl⟩:∃ q,l=q+1:=⟨l-1,by omega⟩
   obtain ⟨x,h1,rfl⟩:=aH (Q:=fun x=>x=(.exit 0,rC (NA (q+1)) (Int.ofNat (q+1))++[(12,.bool false)],HF (q+1) t k d (fun i=>gv (q+1) t d i) (q+1)::H)) (PK n (q+1) k t d q (q+1) (aA (iA (fun i=>gv (q+1) t d i) (q+1))) H (Int.ofNat (q+1))) (ar n) (eV (af _ _) 2) (ag _ _) (by
    refine Tr.bh (fun hc=>?_) (fun hc=>Tr.ba rfl)
    simp (disch:=omega) only[nV,nW] at hc;omega)
   exact h1
theorem Rd (h:Fw l t) (h0:0<l) (hk:k=l) (hb:Bd l d):cd (n+1) (.fn 55) [bR l t k d] H=some (cA l (aA (iA (fun i=>gv l t d i) l)) false,H):=by
 have hx:=Tg n l k t d H h h0 hk hb
 obtain ⟨q,rfl⟩:∃ q,l=q+1:=⟨l-1,by omega⟩
 refine aC (n:=n) Try.func55 rfl rfl rfl (TR n (q+1) k q t d (aA (iA (fun i=>gv (q+1) t d i) (q+1))) H) (ar _) (aF (af _ _) QS (fun x hy=>bY hy hx)) (ag _ _) ?_
 rw[dF]
 generalize aA (iA (fun i=>gv (q+1) t d i) (q+1))=Y at *
 exact wF
end
end Go.Eng
end
section
namespace Go.Eng
open Go.Proofs
section
variable (n:Nat) (H:aa)
variable (l k:Nat) (t d:Nat→Int)
end
end Go.Eng
end
