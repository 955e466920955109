/- Lay: how a plan is made: in each turn those that wait and have the least last turns. -/
import Derived.Test.YtoomemfhcbajoaaV4Lb14x6
set_option linter.unusedVariables false
set_option linter.unusedSimpArgs false
set_option maxRecDepth 100000
section
namespace Go.Eng
def kE (z:Nat→Int) (w:Nat→Bool):Nat→Option Nat
 | 0=>none
 | j+1=>match kE z w j with
   | none=>if w j=true then some j else none
   | some i=>if w j=true∧z j<z i then some j else some i
theorem kn (z:Nat→Int) (w:Nat→Bool):∀ l,(match kE z w l with | none=>∀ j,j<l→w j=false | some i=>i<l∧w i=true∧∀ j,j<l→w j=true→z i<z j∨(z i=z j∧i≤j))
 | 0=>fun j hj=>by omega
 | l + 1 => by
   have ih:=kn z w l
   unfold kE
   cases hm:kE z w l with
   | none =>
     rw[hm] at ih
     dsimp only at ih ⊢
     by_cases c:w l=true
     · rw[if_pos c]
       refine ⟨by omega,c,fun j hj hw=>?_⟩
       by_cases e:j=l
       · subst e;exact .inr ⟨rfl,Nat.le_refl _⟩
       · have:=ih j (by omega);rw[this] at hw;cases hw
     · rw[if_neg c]
       intro j hj
       by_cases e:j=l
       · subst e
         cases h:w j with
         | true=>exact absurd h c
         | false=>rfl
       · exact ih j (by omega)
   | some i =>
     rw[hm] at ih
     dsimp only at ih ⊢
     obtain ⟨h1,h2,h3⟩:=ih
     by_cases c:w l=true∧z l<z i
     · rw[if_pos c]
       refine ⟨by omega,c.1,fun j hj hw=>?_⟩
       by_cases e:j=l
       · subst e;exact .inr ⟨rfl,Nat.le_refl _⟩
       · have:=h3 j (by omega) hw
         exact .inl (by omega)
     · rw[if_neg c]
       refine ⟨by omega,h2,fun j hj hw=>?_⟩
       by_cases e:j=l
       · subst e
         have:¬ z j<z i:=fun hx=>c ⟨hw,hx⟩
         by_cases e2:z i=z j
         · exact .inr ⟨e2,by omega⟩
         · exact .inl (by omega)
       · exact h3 j (by omega) hw
def nr (w:Nat→Bool) (i:Nat):Nat→Bool:=fun j=>if j=i then false else w j
def jy (w:Nat→Bool) (i:Nat):Nat→Bool:=fun j=>if j=i then true else w j
def rU (t:Nat→Int) (s:(Nat→Int)×(Nat→Bool)) (c:Nat):(Nat→Int)×(Nat→Bool) :=
 if t c<0 then s else
  (uI s.1 (t c).toNat (s.1 (t c).toNat-1),if s.1 (t c).toNat-1=0 then jy s.2 (t c).toNat else s.2)
end Go.Eng
end
section
namespace Go.Eng
open Go.Proofs
theorem yd (a:Int) (r:List Int) (T:Int):kI (dC (au (a::r)) 0) (r.length+1) (au [T])=au (a::(r++[T])):=by
 have:=w6 (a::r) T
 simpa using this
section
variable (n l k:Nat) (t d:Nat→Int) (H:aa) (h:Int)
end
end Go.Eng
end
section
namespace Go.Eng
open Go.Proofs
section
variable (n l k:Nat) (t d:Nat→Int) (H:aa) (h c:Int)
end
end Go.Eng
end
section
namespace Go.Eng
open Go.Proofs
theorem Uq (n l k:Nat) (t d:Nat→Int) (H:aa):aT Try.prog (cd n) 100000 15 Try.f15 (KtL.kt 15) (il aB n 0) aG aH [(bw l t k d,none)] H =
 Tr.ite (bT (Int.ofNat 40) (Int.ofNat l)) (Tr.ok ((AV.bool true,some 1),H)) (Tr.ok ((AV.bool (bT (Int.ofNat 40) (Int.ofNat k)),none),H)):=by kernel_rfl
section
variable (n l k:Nat) (t d:Nat→Int) (H:aa)
theorem RP:cd (n+1) (.fn 15) [bw l t k d] H=some (.bool (decide (40<l) || decide (40<k)),H):=by
 refine aE (n:=n) Try.func15 rfl rfl rfl (Uq n l k t d H) (al _) (af _ _) (ag _ _) ?_
 have e:bT (Int.ofNat 40) (Int.ofNat k)=decide (40<k):=by rw[dj,decide_eq_decide];show (40:Int)<(k:Int)↔_;omega
 rw[e]
 by_cases c:40<l
 · rw[decide_eq_true c,Bool.true_or]
   exact wF
 · rw[decide_eq_false c,Bool.false_or]
   exact wF
end
end Go.Eng
end
section
namespace Go.Eng
open Go.Proofs
noncomputable def cA (m:Nat) (f:Nat→Nat→Int) (g:Nat→Nat):AV:=.slcT none (.F (fun j=>bU (g j) (f j) false) m) 1 m false
noncomputable def oU (m:Nat) (f:Nat→Nat→Int) (g:Nat→Nat) (s j:Int):ar:=[(0,cA m f g),(3,.int .i64 s),(9,cA m f g),(10,.int .i64 (Int.ofNat m)),(11,.int .i64 j)]
noncomputable def kb (m:Nat) (f:Nat→Nat→Int) (g:Nat→Nat) (o:AV) (j:Int):ar:=[(6,o),(25,cA m f g),(26,.int .i64 (Int.ofNat m)),(27,.int .i64 j)]
theorem t95 (n:Nat) (k:Int) (l1:aX) (H:aa):aJ (bo n 95 27) (il aB n 0) aG aH (bh Try.f95) (hints [(0,.nils),(1,.int .i64 k)]) (az::l1::H) =
 Tr.ite (bT k (Int.ofNat 0)) Tr.bad (Tr.ite (bT (Int.ofNat 0) (bC .i64 k (bC .i64 (Int.ofNat 0) (Int.ofNat 0)))) (Tr.req (nh (Int.ofNat 0) 0) (Tr.req (DW (bC .i64 k (bC .i64 (Int.ofNat 0) (Int.ofNat 0))) (bC .i64 k (bC .i64 (Int.ofNat 0) (Int.ofNat 0))) 8) (Tr.ite (cw (bC .i64 k (bC .i64 (Int.ofNat 0) (Int.ofNat 0))) (Int.ofNat 0)) (Tr.req (nh (Int.ofNat 0) 0) (Tr.ok (Ex.ret,[(4,AV.nils,none)],az::l1::H))) (Tr.req (nh (Int.ofNat 0) (dD (bC .i64 k (bC .i64 (Int.ofNat 0) (Int.ofNat 0))))) (Tr.ok (Ex.ret,[(4,AV.slc 0 0 0 0 1 (dD (Int.ofNat 0)) none,none)],{ lock:=false,bs:=[(0,ai.row (Row.M [ah.arr .i64 (au []) 0]))] } :: l1::H)))))) (Tr.ok (Ex.ret,[(4,AV.nils,none)],az::l1::H))):=by kernel_rfl
theorem U5 (n:Nat) (H:aa):aT Try.prog (cd n) 100000 95 Try.f95 (KtL.kt 95) (il aB n 0) aG aH [(.nils,none),(.int .i64 0,some 0)] H =
 Tr.ite (bT (Int.ofNat 0) (bC .i64 (Int.ofNat 0) (bC .i64 (Int.ofNat 0) (Int.ofNat 0)))) (Tr.req (nh (Int.ofNat 0) 0) (Tr.req (DW (bC .i64 (Int.ofNat 0) (bC .i64 (Int.ofNat 0) (Int.ofNat 0))) (bC .i64 (Int.ofNat 0) (bC .i64 (Int.ofNat 0) (Int.ofNat 0))) 8) (Tr.ite (cw (bC .i64 (Int.ofNat 0) (bC .i64 (Int.ofNat 0) (Int.ofNat 0))) (Int.ofNat 0)) (Tr.req (nh (Int.ofNat 0) 0) (Tr.ok ((AV.nils,none),H))) (Tr.req (nh (Int.ofNat 0) (dD (bC .i64 (Int.ofNat 0) (bC .i64 (Int.ofNat 0) (Int.ofNat 0))))) (Tr.req (b6 0 0) (Tr.req (ga 0 (dD (Int.ofNat 0)) 0 0) (Tr.ok ((AV.slcT none (Row.M [ah.arr .i64 (dC (au []) 0) (dD (Int.ofNat 0))]) 1 (dD (Int.ofNat 0)) false,none),H)))))))) (Tr.ok ((AV.nils,none),H)):=by kernel_rfl
theorem Np (n m:Nat) (f:Nat→Nat→Int) (g:Nat→Nat) (s j:Int) (H:aa):aJ (bo n 84 36) (il aB n 0) aG aH (part Try.f84 [1,1,0,1,0,0]) (hints (oU m f g s j)) (az::H) =
 (fun (Z0:Row)=>Tr.ite (bT j (Int.ofNat m)) (Tr.req (b8 j m) (Tr.req (bV (an 0 j 1) m) (Tr.ite (bT (bu .i64 s (Int.ofNat (g (an 0 j 1)))) (Int.ofNat 0)) Tr.bad (Tr.ok (Ex.normal,[(0,AV.slcT none Z0 1 m false,none),(3,AV.int .i64 (bu .i64 s (Int.ofNat (g (an 0 j 1)))),none),(9,AV.slcT none Z0 1 m false,none),(10,AV.int .i64 (Int.ofNat m),none),(11,AV.int .i64 (bu .i64 j (Int.ofNat 1)),none)],az::H))))) (Tr.ok (Ex.exit 0,[(0,AV.slcT none Z0 1 m false,none),(3,AV.int .i64 s,none),(9,AV.slcT none Z0 1 m false,none),(10,AV.int .i64 (Int.ofNat m),none),(11,AV.int .i64 j,none),(12,AV.bool false,some 1)],az::H))) (Row.F (fun j=>AV.slcT none (Row.M [ah.arr .i64 (f j) (g j)]) 1 (g j) false) m):=by kernel_rfl
theorem Nr (n m:Nat) (f:Nat→Nat→Int) (g:Nat→Nat) (j:Int) (H:aa):aJ (bo n 84 36) (il aB n 0) aG aH (part Try.f84 [1,1,1,1,0,1,0,0]) (hints (kb m f g .nils j)) (az::H) =
 (fun (Z0:Nat×AV×Option Nat)=>Tr.ite (bT j (Int.ofNat m)) (Tr.req (b8 j m) (Tr.req (bV (an 0 j 1) m) (Tr.ite (b6 (g (an 0 j 1)) 0) (Tr.ok (Ex.normal,[(6,AV.nils,none),Z0,(26,AV.int .i64 (Int.ofNat m),none),(27,AV.int .i64 (bu .i64 j (Int.ofNat 1)),none)],az::H)) (Tr.req (eD 0 (g (an 0 j 1)) 8) (Tr.req (gH (g (an 0 j 1)) (g (an 0 j 1))) (Tr.req (gH (bN 0 (g (an 0 j 1))) (g (an 0 j 1))) (Tr.ok (Ex.normal,[(6,AV.slc 0 0 0 0 1 (g (an 0 j 1)) none,none),Z0,(26,AV.int .i64 (Int.ofNat m),none),(27,AV.int .i64 (bu .i64 j (Int.ofNat 1)),none)],{ lock:=false,bs:=[(0,ai.row (Row.M [ah.arr .i64 (f (an 0 j 1)) (g (an 0 j 1))]))] } :: H)))))))) (Tr.ok (Ex.exit 2,[(6,AV.nils,none),Z0,(26,AV.int .i64 (Int.ofNat m),none),(27,AV.int .i64 j,none),(28,AV.bool false,some 1)],az::H))) (25,AV.slcT none (Row.F (fun j=>AV.slcT none (Row.M [ah.arr .i64 (f j) (g j)]) 1 (g j) false) m) 1 m false,none):=by kernel_rfl
theorem Nq (n m:Nat) (f:Nat→Nat→Int) (g:Nat→Nat) (v q:Nat) (y:Nat→Int) (j:Int) (H:aa):aJ (bo n 84 36) (il aB n 0) aG aH (part Try.f84 [1,1,1,1,0,1,0,0]) (hints (kb m f g (.slc 0 0 v 0 1 q none) j)) (zp v q y::H) =
 (fun (Z0:Nat×AV×Option Nat)=>Tr.ite (bT j (Int.ofNat m)) (Tr.req (b8 j m) (Tr.req (bV (an 0 j 1) m) (Tr.ite (b6 (g (an 0 j 1)) 0) (Tr.ok (Ex.normal,[(6,AV.slc 0 0 v 0 1 q none,none),Z0,(26,AV.int .i64 (Int.ofNat m),none),(27,AV.int .i64 (bu .i64 j (Int.ofNat 1)),none)],{ lock:=false,bs:=[(v,ai.row (Row.M [ah.arr .i64 y q]))] } :: H)) (Tr.req (eD q (g (an 0 j 1)) 8) (Tr.req (gH (g (an 0 j 1)) (g (an 0 j 1))) (Tr.req (gH (bN 0 (g (an 0 j 1))) (g (an 0 j 1))) (Tr.req (b6 v v) (Tr.req (b6 (bN 0 q) q) (Tr.ok (Ex.normal,[(6,AV.slc 0 0 (Nat.succ v) 0 1 (bN q (g (an 0 j 1))) none,none),Z0,(26,AV.int .i64 (Int.ofNat m),none),(27,AV.int .i64 (bu .i64 j (Int.ofNat 1)),none)],{ lock:=false,bs:=[(Nat.succ v,ai.row (Row.M [ah.arr .i64 (kI (dC y 0) q (f (an 0 j 1))) (bN q (g (an 0 j 1)))]))] } :: H)))))))))) (Tr.ok (Ex.exit 2,[(6,AV.slc 0 0 v 0 1 q none,none),Z0,(26,AV.int .i64 (Int.ofNat m),none),(27,AV.int .i64 j,none),(28,AV.bool false,some 1)],{ lock:=false,bs:=[(v,ai.row (Row.M [ah.arr .i64 y q]))] } :: H))) (25,AV.slcT none (Row.F (fun j=>AV.slcT none (Row.M [ah.arr .i64 (f j) (g j)]) 1 (g j) false) m) 1 m false,none):=by kernel_rfl
theorem QN (n m:Nat) (f:Nat→Nat→Int) (g:Nat→Nat) (H:aa):aT Try.prog (cd n) 100000 84 Try.f84 (KtL.kt 84) (il (yk aB 95 [.nils,.int .i64 0] (az::H) (.ok (.nils,az::H))) n 0) (bG (bG aG 2 (kb m f g .nils 0) (az::H) (.ok (.normal,hints (kb m f g .nils (Int.ofNat m)++[(28,.bool false)]),az::H))) 0 (oU m f g 0 0) (az::H) (.ok (.normal,hints (oU m f g 0 (Int.ofNat m)++[(12,.bool false)]),az::H))) aH [(cA m f g,none)] H =
 (fun (Z0:Row)=>((fun (Z1:ar)=>((fun (Z2:ar)=>Tr.reqP (Z1=Z1∧az::H=az::H) (Tr.reqP ([AV.nils,AV.int .i64 (Int.ofNat 0)]=[AV.nils,AV.int .i64 (Int.ofNat 0)]∧az::H=az::H) (Tr.reqP (Z2=Z2∧az::H=az::H) (Tr.ok ((AV.nils,none),H))))) [(6,AV.nils),(25,AV.slcT none Z0 1 m false),(26,AV.int .i64 (Int.ofNat m)),(27,AV.int .i64 (Int.ofNat 0))])) [(0,AV.slcT none Z0 1 m false),(3,AV.int .i64 (Int.ofNat 0)),(9,AV.slcT none Z0 1 m false),(10,AV.int .i64 (Int.ofNat m)),(11,AV.int .i64 (Int.ofNat 0))])) (Row.F (fun j=>AV.slcT none (Row.M [ah.arr .i64 (f j) (g j)]) 1 (g j) false) m):=by kernel_rfl
theorem UX (n m:Nat) (f:Nat→Nat→Int) (g:Nat→Nat) (s:Int) (v q:Nat) (y:Nat→Int) (H:aa):aT Try.prog (cd n) 100000 84 Try.f84 (KtL.kt 84) (il (yk aB 95 [.nils,.int .i64 s] (az::H) (.ok (.slc 0 0 0 0 1 0 none,zp 0 0 (au [])::H))) n 0) (bG (bG aG 2 (kb m f g (.slc 0 0 0 0 1 0 none) 0) (zp 0 0 (au [])::H) (.ok (.normal,hints (kb m f g (.slc 0 0 v 0 1 q none) (Int.ofNat m)++[(28,.bool false)]),zp v q y::H))) 0 (oU m f g 0 0) (az::H) (.ok (.normal,hints (oU m f g s (Int.ofNat m)++[(12,.bool false)]),az::H))) aH [(cA m f g,none)] H =
 (fun (Z0:Row)=>((fun (Z1:ar)=>((fun (Z2:ar)=>Tr.reqP (Z1=Z1∧az::H=az::H) (Tr.reqP ([AV.nils,AV.int .i64 s]=[AV.nils,AV.int .i64 s]∧az::H=az::H) (Tr.reqP (Z2=Z2∧{ lock:=false,bs:=[(0,ai.row (Row.M [ah.arr .i64 (au []) 0]))] } :: H={ lock:=false,bs:=[(0,ai.row (Row.M [ah.arr .i64 (au []) 0]))] } :: H) (Tr.req (b6 v v) (Tr.req (ga 0 q 0 q) (Tr.ok ((AV.slcT none (Row.M [ah.arr .i64 (dC y 0) q]) 1 q false,none),H))))))) [(6,AV.slc 0 0 0 0 1 0 none),(25,AV.slcT none Z0 1 m false),(26,AV.int .i64 (Int.ofNat m)),(27,AV.int .i64 (Int.ofNat 0))])) [(0,AV.slcT none Z0 1 m false),(3,AV.int .i64 (Int.ofNat 0)),(9,AV.slcT none Z0 1 m false),(10,AV.int .i64 (Int.ofNat m)),(11,AV.int .i64 (Int.ofNat 0))])) (Row.F (fun j=>AV.slcT none (Row.M [ah.arr .i64 (f j) (g j)]) 1 (g j) false) m):=by kernel_rfl
theorem t24 (n m:Nat) (f:Nat→Nat→Int) (g:Nat→Nat) (j:Int) (H:aa):aJ (bo n 24 19) (il aB n 0) aG aH (part Try.f24 [1,1,0,1,0,0]) (hints [(0,cA m f g),(3,.int .i64 j)]) (az::H) =
 (fun (Z0:Nat×AV×Option Nat)=>Tr.ite (bT j (Int.ofNat m)) (Tr.req (b8 j m) (Tr.req (bV (an 0 j 1) m) (Tr.ite (bT (Int.ofNat 40) (Int.ofNat (g (an 0 j 1)))) (Tr.ok (Ex.ret,[(2,AV.bool true,some 1)],az::H)) (Tr.ok (Ex.normal,[Z0,(3,AV.int .i64 (bu .i64 j (Int.ofNat 1)),none)],az::H))))) (Tr.ok (Ex.exit 0,[Z0,(3,AV.int .i64 j,none),(10,AV.bool false,some 1)],az::H))) (0,AV.slcT none (Row.F (fun j=>AV.slcT none (Row.M [ah.arr .i64 (f j) (g j)]) 1 (g j) false) m) 1 m false,none):=by kernel_rfl
theorem Uu (n m:Nat) (f:Nat→Nat→Int) (g:Nat→Nat) (b:Bool) (H:aa):aT Try.prog (cd n) 100000 24 Try.f24 (KtL.kt 24) (il aB n 0) (bG aG 0 [(0,cA m f g),(3,.int .i64 0)] (az::H) (.ite b (.ok (.ret,[(2,.bool true,some 1)],az::H)) (.ok (.normal,hints [(0,cA m f g),(3,.int .i64 (Int.ofNat m)),(10,.bool false)],az::H)))) aH [(cA m f g,none)] H =
 (fun (Z0:ar)=>Tr.ite (bT (Int.ofNat 50) (Int.ofNat m)) (Tr.ok ((AV.bool true,some 1),H)) (Tr.reqP (Z0=Z0∧az::H=az::H) (Tr.ite b (Tr.ok ((AV.bool true,some 1),H)) (Tr.ok ((AV.bool false,some 1),H))))) [(0,AV.slcT none (Row.F (fun j=>AV.slcT none (Row.M [ah.arr .i64 (f j) (g j)]) 1 (g j) false) m) 1 m false),(3,AV.int .i64 (Int.ofNat 0))]:=by kernel_rfl
theorem Qj (n m:Nat) (f:Nat→Nat→Int) (g:Nat→Nat) (H:aa):aT Try.prog (cd n) 100000 24 Try.f24 (KtL.kt 24) (il aB n 0) (lM aG 0) aH [(cA m f g,none)] H =
 Tr.ite (bT (Int.ofNat 50) (Int.ofNat m)) (Tr.ok ((AV.bool true,some 1),H)) Tr.bad:=by kernel_rfl
theorem Rz:∀ b,(0,b) ∈ aF (bh Try.f24)→b=.loop (part Try.f24 [1,1,0,1,0,0]):=dw (by kernel_rfl)
theorem Lz:∀ b,(0,b) ∈ aF (bh Try.f84)→b=.loop (part Try.f84 [1,1,0,1,0,0]):=dw (by kernel_rfl)
theorem LA:∀ b,(2,b) ∈ aF (bh Try.f84)→b=.loop (part Try.f84 [1,1,1,1,0,1,0,0]):=dw (by kernel_rfl)
def bD (g:Nat→Nat):Nat→Nat
 | 0=>0
 | j+1=>bD g j+g j
noncomputable def lZ (f:Nat→Nat→Int) (g:Nat→Nat):Nat→(Nat→Int)
 | 0=>au []
 | j+1=>if g j=0 then lZ f g j else kI (lZ f g j) (bD g j) (f j)
def AB (g:Nat→Nat):Nat→Nat
 | 0=>0
 | j+1=>if g j=0 then AB g j else AB g j+1
theorem pE {g:Nat→Nat} {B:Nat}:∀ m,(∀ j,j<m→g j≤B)→bD g m≤m*B
 | 0,_=>by show 0≤_;omega
 | m+1,h=>by
   have h1:=pE m (fun j hj=>h j (by omega))
   have h2:=h m (by omega)
   show bD g m+g m≤(m+1)*B
   rw[Nat.add_mul,Nat.one_mul];omega
theorem Em (g:Nat→Nat) {a b:Nat} (h:a≤b):bD g a≤bD g b:=by
 induction b with
 | zero =>
   have e:a=0:=Nat.le_zero.1 h
   rw[e];exact Nat.le_refl _
 | succ b ih =>
   by_cases c:a=b+1
   · subst c;exact Nat.le_refl _
   · have:=ih (by omega)
     show _≤bD g b+g b
     omega
theorem wy (f:Nat→Nat→Int) (g:Nat→Nat) (p:Int→Prop):∀ m,(∀ i,i<bD g m→p (lZ f g m i))↔∀ j,j<m→∀ i,i<g j→p (f j i)
 | 0=>⟨fun _ j hj=>by omega,fun _ i hi=>by exact absurd hi (by show ¬ i<0;omega)⟩
 | m + 1 => by
   have ih:=wy f g p m
   have et:bD g (m+1)=bD g m+g m:=rfl
   by_cases c:g m=0
   · have ez:lZ f g (m+1)=lZ f g m:=by show (if g m=0 then _ else _)=_;rw[if_pos c]
     rw[ez,et,c,Nat.add_zero,ih]
     constructor
     · intro h j hj i hi
       by_cases e:j=m
       · subst e;omega
       · exact h j (by omega) i hi
     · intro h j hj i hi;exact h j (by omega) i hi
   · have ez:lZ f g (m+1)=kI (lZ f g m) (bD g m) (f m):=by show (if g m=0 then _ else _)=_;rw[if_neg c]
     have ea:∀ i,lZ f g (m+1) i=if i<bD g m then lZ f g m i else f m (i-bD g m):=fun i=>by rw[ez,rM]
     rw[et]
     constructor
     · intro h j hj i hi
       by_cases e:j=m
       · subst e
         have:=h (bD g j+i) (by omega)
         rw[ea,if_neg (by omega),show bD g j+i-bD g j=i by omega] at this
         exact this
       · refine ih.1 (fun q hq=>?_) j (by omega) i hi
         have:=h q (by omega)
         rw[ea,if_pos hq] at this;exact this
     · intro h i hi
       rw[ea]
       by_cases e:i<bD g m
       · rw[if_pos e]
         exact ih.2 (fun j hj=>h j (by omega)) i e
       · rw[if_neg e]
         exact h m (by omega) _ (by omega)
section
variable (n m:Nat) (f:Nat→Nat→Int) (g:Nat→Nat) (H:aa)
theorem RR:cd (n+1) (.fn 24) [cA m f g] H=some (.bool (decide (50<m) || bX (fun j=>decide (40<g j)) m),H):=by
 by_cases c:50<m
 · rw[decide_eq_true c,Bool.true_or]
   refine aE (n:=n) Try.func24 rfl rfl rfl (Qj n m f g H) (al _) (dK (af _ _) 0) (ag _ _) ?_
   exact wF
 · rw [decide_eq_false c,Bool.false_or]
   have hx:=gJ (n:=n) (f:=24) (nt:=19) (c:=part Try.f24 [1,1,0,1,0,0]) 0 (fun j=>[(0,cA m f g),(3,.int .i64 (j:Nat))]) (fun _=>az::H) m (fun j=>decide (40<g j)) (fun j=>([(2,.bool true)],az::H)) ([(0,cA m f g),(3,.int .i64 (Int.ofNat m)),(10,.bool false)],az::H) (by omega) (fun j hj=>?_) ?_
   · refine aE (n:=n) Try.func24 rfl rfl rfl (Uu n m f g (bX (fun j=>decide (40<g j)) m) H) (al _) (ay (af _ _) Rz (fun x hy=>df hy hx)) (ag _ _) ?_
     generalize bX (fun j=>decide (40<g j)) m=B at *
     cases B
     all_goals
      exact wF
   · refine aC (t24 n m f g (j:Nat) H) (al n) (af _ _) (ag _ _) ?_
     show Tr.all _ (fun r=>if decide (40<g j)=true then _ else _)
     rw[cK (j:=j) (by omega)]
     simp only[gK]
     by_cases e:40<g j
     · simp only[e,decide_true,if_true]
       exact wF
     · simp only[e,decide_false,Bool.false_eq_true,if_false]
       exact wF
   · exact cr (t24 n m f g (Int.ofNat m) H) (al n) (af _ _) (ag _ _) (by first | (simp (disch:=omega) only[nV,nW];done) | (simp (disch:=omega) only[nV,nW];omega))
theorem Pl (hm:m≤1000) (hg:∀ j,j<m→g j≤1000):exec (bo n 84 36) (.block 0 (.loop (part Try.f84 [1,1,0,1,0,0]))) (oU m f g 0 0) (az::H)=some (.normal,oU m f g (bD g m:Nat) (Int.ofNat m)++[(12,.bool false)],az::H):=by
 refine iM (n:=n) (f:=84) (nt:=36) (c:=part Try.f84 [1,1,0,1,0,0]) 0 (fun j=>oU m f g (bD g j:Nat) (j:Nat)) (fun _=>az::H) m _ (by omega) (fun j hj=>?_) ?_
 · have h1:=pE (g:=g) (B:=1000) j (fun i hi=>hg i (by omega))
   have h2:=hg j hj
   have h3:j*1000≤1000*1000:=Nat.mul_le_mul_right 1000 (by omega)
   have e1:bu .i64 (bD g j:Nat) (Int.ofNat (g j))=((bD g j+g j:Nat):Int):=by rw[Ev (by show _≤(bD g j:Int)+(g j:Int);omega) (by show (bD g j:Int)+(g j:Int)≤_;omega)];show (bD g j:Int)+(g j:Int)=_;omega
   refine aC (Np n m f g (bD g j:Nat) (j:Nat) H) (al n) (af _ _) (ag _ _) ?_
   show Tr.all _ (fun r=>_∧tidy _ _ _=(oU m f g ((bD g j+g j:Nat):Int) ((j+1:Nat):Int),_))
   rw[cK (j:=j) (by omega)]
   simp only[gK,e1]
   generalize bD g j+g j=S at *
   generalize bD g j=S0 at *
   exact wF
 · exact cr (Np n m f g (bD g m:Nat) (Int.ofNat m) H) (al n) (af _ _) (ag _ _) (by first | (simp (disch:=omega) only[nV,nW];done) | (simp (disch:=omega) only[nV,nW];omega))
theorem Pm (hm:m≤1000) (hg:∀ j,j<m→g j≤1000):exec (bo n 84 36) (.block 2 (.loop (part Try.f84 [1,1,1,1,0,1,0,0]))) (kb m f g (.slc 0 0 0 0 1 0 none) 0) (zp 0 0 (au [])::H)=some (.normal,kb m f g (.slc 0 0 (AB g m) 0 1 (bD g m) none) (Int.ofNat m)++[(28,.bool false)],zp (AB g m) (bD g m) (lZ f g m)::H):=by
 refine iM (n:=n) (f:=84) (nt:=36) (c:=part Try.f84 [1,1,1,1,0,1,0,0]) 2 (fun j=>kb m f g (.slc 0 0 (AB g j) 0 1 (bD g j) none) (j:Nat)) (fun j=>zp (AB g j) (bD g j) (lZ f g j)::H) m _ (by omega) (fun j hj=>?_) ?_
 · have h1:=pE (g:=g) (B:=1000) j (fun i hi=>hg i (by omega))
   have h2:=hg j hj
   have h3:j*1000≤1000*1000:=Nat.mul_le_mul_right 1000 (by omega)
   refine aC (Nq n m f g (AB g j) (bD g j) (lZ f g j) (j:Nat) H) (al n) (af _ _) (ag _ _) ?_
   have ez:lZ f g (j+1)=if g j=0 then lZ f g j else kI (lZ f g j) (bD g j) (f j):=rfl
   have ev:AB g (j+1)=if g j=0 then AB g j else AB g j+1:=rfl
   show Tr.all _ (fun r=>_∧tidy _ _ _=(kb m f g (.slc 0 0 (AB g (j+1)) 0 1 (bD g j+g j) none) ((j+1:Nat):Int),zp (AB g (j+1)) (bD g j+g j) (lZ f g (j+1))::H))
   have ea:bN (bD g j) (g j)=bD g j+g j:=bF _ _
   rw[ez,ev,cK (j:=j) (by omega),c5]
   simp only[gK,ea]
   by_cases c:g j=0
   · rw[if_pos c,if_pos c,c,Nat.add_zero]
     generalize lZ f g j=Z at *
     generalize bD g j=S at *
     generalize AB g j=V at *
     exact wF
   · rw[if_neg c,if_neg c]
     generalize kI (lZ f g j) (bD g j) (f j)=Z2 at *
     generalize lZ f g j=Z at *
     generalize bD g j=S at *
     generalize AB g j=V at *
     generalize g j=G at *
     exact wF
 · exact cr (Nq n m f g (AB g m) (bD g m) (lZ f g m) (Int.ofNat m) H) (al n) (af _ _) (ag _ _) (by first | (simp (disch:=omega) only[nV,nW];done) | (simp (disch:=omega) only[nV,nW];omega))
theorem Pn (hm:m≤1000) (hg:∀ j,j<m→g j=0):exec (bo n 84 36) (.block 2 (.loop (part Try.f84 [1,1,1,1,0,1,0,0]))) (kb m f g .nils 0) (az::H)=some (.normal,kb m f g .nils (Int.ofNat m)++[(28,.bool false)],az::H):=by
 refine iM (n:=n) (f:=84) (nt:=36) (c:=part Try.f84 [1,1,1,1,0,1,0,0]) 2 (fun j=>kb m f g .nils (j:Nat)) (fun j=>az::H) m _ (by omega) (fun j hj=>?_) ?_
 · have h2:=hg j hj
   refine aC (Nr n m f g (j:Nat) H) (al n) (af _ _) (ag _ _) ?_
   rw[cK (j:=j) (by omega)]
   simp only[gK,h2]
   exact wF
 · exact cr (Nr n m f g (Int.ofNat m) H) (al n) (af _ _) (ag _ _) (by first | (simp (disch:=omega) only[nV,nW];done) | (simp (disch:=omega) only[nV,nW];omega))
theorem Jc (args:List AV):nn (cd n) 95 args H=rh Try.prog KtL.kt 100000 95 (cd n) args H:=rfl
theorem Vb (k:Int) (hk:0<k) (hk2:k≤1000000) (l1:aX):exec (bo n 95 27) (bh Try.f95) [(0,.nils),(1,.int .i64 k)] (az::l1::H)=some (.ret,[(4,.slc 0 0 0 0 1 0 none)],(⟨false,[(0,.row (.M [.arr .i64 (au []) 0]))]⟩:aX)::l1::H):=by
 obtain ⟨x,hx,rfl⟩:=aC (Q:=fun x=>x=(.ret,[(4,.slc 0 0 0 0 1 0 none)],(⟨false,[(0,.row (.M [.arr .i64 (au []) 0]))]⟩:aX)::l1::H)) (t95 n k l1 H) (al n) (af _ _) (ag _ _) (by
  have e1:bC .i64 (Int.ofNat 0) (Int.ofNat 0)=0:=qB (by decide) (by decide)
  have e2:bC .i64 k 0=k:=by rw[qB (by omega) (by omega),Int.sub_zero]
  have e3:dD (Int.ofNat 0)=0:=by rw[mK];rfl
  have e4:dD k=k.toNat:=mK k
  have e5:DW k k 8=true:=by rw[xh,decide_eq_true_eq];unfold room;omega
  simp only[e1,e2,e3,e4,e5]
  exact wF)
 exact hx
theorem Sk (k:Int) (hk:0<k) (hk2:k≤1000000) (bs:List (Nat×ai)):cd (n+1) (.fn 95) [.nils,.int .i64 k] (⟨false,bs⟩::H)=some (.slc 0 bs.length 0 0 1 0 none,⟨false,bs++[(0,.row (.M [.arr .i64 (au []) 0]))]⟩::H):=by
 have hx:=Vb n H k hk hk2 ⟨false,bs⟩
 have e8:Try.f95.ntmps=27:=by kernel_rfl
 have eb:Try.f95.body=some (bh Try.f95):=by kernel_rfl
 have er:Try.f95.results.toList=[.tmp 4]:=by kernel_rfl
 have:nn (cd n) 95 [.nils,.int .i64 k] (⟨false,bs⟩::H)=some (.slc 0 bs.length 0 0 1 0 none,⟨false,bs++[(0,.row (.M [.arr .i64 (au []) 0]))]⟩::H):=by
  rw[Jc]
  unfold rh
  rw[Try.func95];dsimp only
  rw[eb];dsimp only
  rw[if_pos (by rw[e8];rfl),cY,e8]
  rw[show exec (⟨Try.prog,cd n,100000,95,27,KtL.kt 95,none⟩:Cx) (bh Try.f95) (fq 0 [.nils,.int .i64 k]) (⟨false,[]⟩::⟨false,bs⟩::H)=_ from hx]
  dsimp only
  rw[er];rfl
 unfold cd
 rw[show cW Try.prog nn KtL.kt 100000 (n+1) (.fn 95) [.nils,.int .i64 k] (⟨false,bs⟩::H)=(match nn (cd n) 95 [.nils,.int .i64 k] (⟨false,bs⟩::H) with
  | some r=>some r
  | none=>_) from rfl,this]
theorem Ot (bs:List (Nat×ai)):cd (n+1) (.fn 95) [.nils,.int .i64 0] (⟨false,bs⟩::H)=some (.nils,⟨false,bs⟩::H):=by
 have e8:Try.f95.ntmps=27:=by kernel_rfl
 have eb:Try.f95.body=some (bh Try.f95):=by kernel_rfl
 have er:Try.f95.results.toList=[.tmp 4]:=by kernel_rfl
 have hx:exec (bo n 95 27) (bh Try.f95) [(0,.nils),(1,.int .i64 0)] (az::⟨false,bs⟩::H)=some (.ret,[(4,.nils)],az::⟨false,bs⟩::H):=by
  obtain ⟨x,hx,rfl⟩:=aC (Q:=fun x=>x=(.ret,[(4,.nils)],az::(⟨false,bs⟩:aX)::H)) (t95 n 0 ⟨false,bs⟩ H) (al n) (af _ _) (ag _ _) (by
   have e1:bC .i64 (Int.ofNat 0) (Int.ofNat 0)=0:=qB (by decide) (by decide)
   have e2:bC .i64 0 0=0:=qB (by decide) (by decide)
   simp only[e1,e2]
   exact wF)
  exact hx
 have ho:nn (cd n) 95 (pO [(.nils,none),(.int .i64 0,some 0)]) (⟨false,bs⟩::H)=none:=by
  rw[Jc]
  unfold rh
  rw[Try.func95];dsimp only
  rw[eb];dsimp only
  rw[if_pos (by rw[e8];rfl),cY,e8]
  rw[show exec (⟨Try.prog,cd n,100000,95,27,KtL.kt 95,none⟩:Cx) (bh Try.f95) (fq 0 (pO [(.nils,none),(.int .i64 0,some 0)])) (⟨false,[]⟩::⟨false,bs⟩::H)=_ from hx]
  dsimp only
  rw[er];rfl
 obtain ⟨y,h1,h2,h3⟩:Tr.all (aT Try.prog (cd n) 100000 95 Try.f95 (KtL.kt 95) (il aB n 0) aG aH [(.nils,none),(.int .i64 0,some 0)] (⟨false,bs⟩::H)) (fun y=>y.1.1=.nils∧y.2=⟨false,bs⟩::H):=by
  rw[U5]
  exact wF
 have:=sk (f:=95) Try.func95 rfl ho rfl (al n) (af _ _) (ag _ _) h1
 rw[h2,h3] at this
 exact this
noncomputable def JV (m:Nat) (f:Nat→Nat→Int) (g:Nat→Nat):AV:=if bD g m=0 then .nils else bU (bD g m) (lZ f g m) false
theorem En {g:Nat→Nat} {m:Nat} (h:bD g m=0):∀ j,j<m→g j=0:=fun j hj=>by
 have:=Em g (show j+1≤m by omega)
 have e:bD g (j+1)=bD g j+g j:=rfl
 omega
theorem R9 (hm:m≤100) (hg:∀ j,j<m→g j≤1000):cd (n+2) (.fn 84) [cA m f g] H=some (JV m f g,H):=by
 have hxa:=Pl (n+1) m f g H (by omega) hg
 have ht:=pE (g:=g) (B:=1000) m hg
 unfold JV
 by_cases c:bD g m=0
 · rw[if_pos c]
   rw[c] at hxa
   have hxb:=Pn (n+1) m f g H (by omega) (En c)
   refine aE (n:=n+1) Try.func84 rfl rfl rfl (QN (n+1) m f g H) (aM _ (n+1) (fK (aD _) (fun x hy=>by rw[← Tr.ab hy];exact Ot n H []))) (ay (ay (af _ _) LA (fun x hy=>bI hy hxb)) Lz (fun x hy=>bI hy hxa)) (ag _ _) ?_
   exact wF
 · rw[if_neg c]
   have hxb:=Pm (n+1) m f g H (by omega) hg
   refine aE (n:=n+1) Try.func84 rfl rfl rfl (UX (n+1) m f g (bD g m:Nat) (AB g m) (bD g m) (lZ f g m) H) (aM _ (n+1) (fK (aD _) (fun x hy=>by rw[← Tr.ab hy];exact Sk n H _ (by omega) (by omega) []))) (ay (ay (af _ _) LA (fun x hy=>bI hy hxb)) Lz (fun x hy=>bI hy hxa)) (ag _ _) ?_
   rw[c5]
   generalize lZ f g m=Z at *
   generalize bD g m=S at *
   generalize AB g m=V at *
   exact wF
end
end Go.Eng
end
