/- Lay: lists of lists; Grow, Concat. -/
import Derived.Test.YtoomemfhcbajoaaV6Lb16x7
import Derived.Test.YtoomemfhcbajoaaV6EngRnFx5
set_option linter.unusedVariables false
set_option linter.unusedSimpArgs false
set_option maxRecDepth 100000
section
namespace Go.Eng
open Go.Proofs
noncomputable def dA (m:Nat) (f:Nat→Nat→Int) (g:Nat→Nat):AV:=.slcT none (.F (fun j=>b6 (g j) (f j) false) m) 1 m false
noncomputable def o9 (m:Nat) (f:Nat→Nat→Int) (g:Nat→Nat) (s j:Int):aq:=[(0,dA m f g),(3,.int .i64 s),(9,dA m f g),(10,.int .i64 (Int.ofNat m)),(11,.int .i64 j)]
noncomputable def kg (m:Nat) (f:Nat→Nat→Int) (g:Nat→Nat) (o:AV) (j:Int):aq:=[(6,o),(25,dA m f g),(26,.int .i64 (Int.ofNat m)),(27,.int .i64 j)]
theorem t95 (n:Nat) (k:Int) (l1:aT) (H:aa):aJ (bn n 95 27) (il aE n 0) aG aH (bj Try.f95) (hints [(0,.nils),(1,.int .i64 k)]) (av::l1::H) =
 Tr.ite (bK k (Int.ofNat 0)) Tr.bad (Tr.ite (bK (Int.ofNat 0) (br .i64 k (br .i64 (Int.ofNat 0) (Int.ofNat 0)))) (Tr.req (mb (Int.ofNat 0) 0) (Tr.req (D7 (br .i64 k (br .i64 (Int.ofNat 0) (Int.ofNat 0))) (br .i64 k (br .i64 (Int.ofNat 0) (Int.ofNat 0))) 8) (Tr.ite (b7 (br .i64 k (br .i64 (Int.ofNat 0) (Int.ofNat 0))) (Int.ofNat 0)) (Tr.req (mb (Int.ofNat 0) 0) (Tr.ok (Ex.ret,[(4,AV.nils,none)],av::l1::H))) (Tr.req (mb (Int.ofNat 0) (dr (br .i64 k (br .i64 (Int.ofNat 0) (Int.ofNat 0))))) (Tr.ok (Ex.ret,[(4,AV.slc 0 0 0 0 1 (dr (Int.ofNat 0)) none,none)],{ lock:=false,bs:=[(0,ai.row (Row.M [ah.arr .i64 (ay []) 0]))] } :: l1::H)))))) (Tr.ok (Ex.ret,[(4,AV.nils,none)],av::l1::H))):=by kernel_rfl
theorem Vr (n:Nat) (H:aa):aX Try.prog (cd n) 100000 95 Try.f95 (KtL.kt 95) (il aE n 0) aG aH [(.nils,none),(.int .i64 0,some 0)] H =
 Tr.ite (bK (Int.ofNat 0) (br .i64 (Int.ofNat 0) (br .i64 (Int.ofNat 0) (Int.ofNat 0)))) (Tr.req (mb (Int.ofNat 0) 0) (Tr.req (D7 (br .i64 (Int.ofNat 0) (br .i64 (Int.ofNat 0) (Int.ofNat 0))) (br .i64 (Int.ofNat 0) (br .i64 (Int.ofNat 0) (Int.ofNat 0))) 8) (Tr.ite (b7 (br .i64 (Int.ofNat 0) (br .i64 (Int.ofNat 0) (Int.ofNat 0))) (Int.ofNat 0)) (Tr.req (mb (Int.ofNat 0) 0) (Tr.ok ((AV.nils,none),H))) (Tr.req (mb (Int.ofNat 0) (dr (br .i64 (Int.ofNat 0) (br .i64 (Int.ofNat 0) (Int.ofNat 0))))) (Tr.req (b9 0 0) (Tr.req (gq 0 (dr (Int.ofNat 0)) 0 0) (Tr.ok ((AV.slcT none (Row.M [ah.arr .i64 (dD (ay []) 0) (dr (Int.ofNat 0))]) 1 (dr (Int.ofNat 0)) false,none),H)))))))) (Tr.ok ((AV.nils,none),H)):=by kernel_rfl
theorem NU (n m:Nat) (f:Nat→Nat→Int) (g:Nat→Nat) (s j:Int) (H:aa):aJ (bn n 84 36) (il aE n 0) aG aH (part Try.f84 [1,1,0,1,0,0]) (hints (o9 m f g s j)) (av::H) =
 (fun (Z0:Row)=>Tr.ite (bK j (Int.ofNat m)) (Tr.req (cE j m) (Tr.req (cr (au 0 j 1) m) (Tr.ite (bK (bA .i64 s (Int.ofNat (g (au 0 j 1)))) (Int.ofNat 0)) Tr.bad (Tr.ok (Ex.normal,[(0,AV.slcT none Z0 1 m false,none),(3,AV.int .i64 (bA .i64 s (Int.ofNat (g (au 0 j 1)))),none),(9,AV.slcT none Z0 1 m false,none),(10,AV.int .i64 (Int.ofNat m),none),(11,AV.int .i64 (bA .i64 j (Int.ofNat 1)),none)],av::H))))) (Tr.ok (Ex.exit 0,[(0,AV.slcT none Z0 1 m false,none),(3,AV.int .i64 s,none),(9,AV.slcT none Z0 1 m false,none),(10,AV.int .i64 (Int.ofNat m),none),(11,AV.int .i64 j,none),(12,AV.bool false,some 1)],av::H))) (Row.F (fun j=>AV.slcT none (Row.M [ah.arr .i64 (f j) (g j)]) 1 (g j) false) m):=by kernel_rfl
theorem NW (n m:Nat) (f:Nat→Nat→Int) (g:Nat→Nat) (j:Int) (H:aa):aJ (bn n 84 36) (il aE n 0) aG aH (part Try.f84 [1,1,1,1,0,1,0,0]) (hints (kg m f g .nils j)) (av::H) =
 (fun (Z0:Nat×AV×Option Nat)=>Tr.ite (bK j (Int.ofNat m)) (Tr.req (cE j m) (Tr.req (cr (au 0 j 1) m) (Tr.ite (b9 (g (au 0 j 1)) 0) (Tr.ok (Ex.normal,[(6,AV.nils,none),Z0,(26,AV.int .i64 (Int.ofNat m),none),(27,AV.int .i64 (bA .i64 j (Int.ofNat 1)),none)],av::H)) (Tr.req (eO 0 (g (au 0 j 1)) 8) (Tr.req (gM (g (au 0 j 1)) (g (au 0 j 1))) (Tr.req (gM (bO 0 (g (au 0 j 1))) (g (au 0 j 1))) (Tr.ok (Ex.normal,[(6,AV.slc 0 0 0 0 1 (g (au 0 j 1)) none,none),Z0,(26,AV.int .i64 (Int.ofNat m),none),(27,AV.int .i64 (bA .i64 j (Int.ofNat 1)),none)],{ lock:=false,bs:=[(0,ai.row (Row.M [ah.arr .i64 (f (au 0 j 1)) (g (au 0 j 1))]))] } :: H)))))))) (Tr.ok (Ex.exit 2,[(6,AV.nils,none),Z0,(26,AV.int .i64 (Int.ofNat m),none),(27,AV.int .i64 j,none),(28,AV.bool false,some 1)],av::H))) (25,AV.slcT none (Row.F (fun j=>AV.slcT none (Row.M [ah.arr .i64 (f j) (g j)]) 1 (g j) false) m) 1 m false,none):=by kernel_rfl
theorem NV (n m:Nat) (f:Nat→Nat→Int) (g:Nat→Nat) (v q:Nat) (y:Nat→Int) (j:Int) (H:aa):aJ (bn n 84 36) (il aE n 0) aG aH (part Try.f84 [1,1,1,1,0,1,0,0]) (hints (kg m f g (.slc 0 0 v 0 1 q none) j)) (vc v q y::H) =
 (fun (Z0:Nat×AV×Option Nat)=>Tr.ite (bK j (Int.ofNat m)) (Tr.req (cE j m) (Tr.req (cr (au 0 j 1) m) (Tr.ite (b9 (g (au 0 j 1)) 0) (Tr.ok (Ex.normal,[(6,AV.slc 0 0 v 0 1 q none,none),Z0,(26,AV.int .i64 (Int.ofNat m),none),(27,AV.int .i64 (bA .i64 j (Int.ofNat 1)),none)],{ lock:=false,bs:=[(v,ai.row (Row.M [ah.arr .i64 y q]))] } :: H)) (Tr.req (eO q (g (au 0 j 1)) 8) (Tr.req (gM (g (au 0 j 1)) (g (au 0 j 1))) (Tr.req (gM (bO 0 (g (au 0 j 1))) (g (au 0 j 1))) (Tr.req (b9 v v) (Tr.req (b9 (bO 0 q) q) (Tr.ok (Ex.normal,[(6,AV.slc 0 0 (Nat.succ v) 0 1 (bO q (g (au 0 j 1))) none,none),Z0,(26,AV.int .i64 (Int.ofNat m),none),(27,AV.int .i64 (bA .i64 j (Int.ofNat 1)),none)],{ lock:=false,bs:=[(Nat.succ v,ai.row (Row.M [ah.arr .i64 (kO (dD y 0) q (f (au 0 j 1))) (bO q (g (au 0 j 1)))]))] } :: H)))))))))) (Tr.ok (Ex.exit 2,[(6,AV.slc 0 0 v 0 1 q none,none),Z0,(26,AV.int .i64 (Int.ofNat m),none),(27,AV.int .i64 j,none),(28,AV.bool false,some 1)],{ lock:=false,bs:=[(v,ai.row (Row.M [ah.arr .i64 y q]))] } :: H))) (25,AV.slcT none (Row.F (fun j=>AV.slcT none (Row.M [ah.arr .i64 (f j) (g j)]) 1 (g j) false) m) 1 m false,none):=by kernel_rfl
theorem Rq (n m:Nat) (f:Nat→Nat→Int) (g:Nat→Nat) (H:aa):aX Try.prog (cd n) 100000 84 Try.f84 (KtL.kt 84) (il (uG aE 95 [.nils,.int .i64 0] (av::H) (.ok (.nils,av::H))) n 0) (bS (bS aG 2 (kg m f g .nils 0) (av::H) (.ok (.normal,hints (kg m f g .nils (Int.ofNat m)++[(28,.bool false)]),av::H))) 0 (o9 m f g 0 0) (av::H) (.ok (.normal,hints (o9 m f g 0 (Int.ofNat m)++[(12,.bool false)]),av::H))) aH [(dA m f g,none)] H =
 (fun (Z0:Row)=>((fun (Z1:aq)=>((fun (Z2:aq)=>Tr.reqP (Z1=Z1∧av::H=av::H) (Tr.reqP ([AV.nils,AV.int .i64 (Int.ofNat 0)]=[AV.nils,AV.int .i64 (Int.ofNat 0)]∧av::H=av::H) (Tr.reqP (Z2=Z2∧av::H=av::H) (Tr.ok ((AV.nils,none),H))))) [(6,AV.nils),(25,AV.slcT none Z0 1 m false),(26,AV.int .i64 (Int.ofNat m)),(27,AV.int .i64 (Int.ofNat 0))])) [(0,AV.slcT none Z0 1 m false),(3,AV.int .i64 (Int.ofNat 0)),(9,AV.slcT none Z0 1 m false),(10,AV.int .i64 (Int.ofNat m)),(11,AV.int .i64 (Int.ofNat 0))])) (Row.F (fun j=>AV.slcT none (Row.M [ah.arr .i64 (f j) (g j)]) 1 (g j) false) m):=by kernel_rfl
theorem Vj (n m:Nat) (f:Nat→Nat→Int) (g:Nat→Nat) (s:Int) (v q:Nat) (y:Nat→Int) (H:aa):aX Try.prog (cd n) 100000 84 Try.f84 (KtL.kt 84) (il (uG aE 95 [.nils,.int .i64 s] (av::H) (.ok (.slc 0 0 0 0 1 0 none,vc 0 0 (ay [])::H))) n 0) (bS (bS aG 2 (kg m f g (.slc 0 0 0 0 1 0 none) 0) (vc 0 0 (ay [])::H) (.ok (.normal,hints (kg m f g (.slc 0 0 v 0 1 q none) (Int.ofNat m)++[(28,.bool false)]),vc v q y::H))) 0 (o9 m f g 0 0) (av::H) (.ok (.normal,hints (o9 m f g s (Int.ofNat m)++[(12,.bool false)]),av::H))) aH [(dA m f g,none)] H =
 (fun (Z0:Row)=>((fun (Z1:aq)=>((fun (Z2:aq)=>Tr.reqP (Z1=Z1∧av::H=av::H) (Tr.reqP ([AV.nils,AV.int .i64 s]=[AV.nils,AV.int .i64 s]∧av::H=av::H) (Tr.reqP (Z2=Z2∧{ lock:=false,bs:=[(0,ai.row (Row.M [ah.arr .i64 (ay []) 0]))] } :: H={ lock:=false,bs:=[(0,ai.row (Row.M [ah.arr .i64 (ay []) 0]))] } :: H) (Tr.req (b9 v v) (Tr.req (gq 0 q 0 q) (Tr.ok ((AV.slcT none (Row.M [ah.arr .i64 (dD y 0) q]) 1 q false,none),H))))))) [(6,AV.slc 0 0 0 0 1 0 none),(25,AV.slcT none Z0 1 m false),(26,AV.int .i64 (Int.ofNat m)),(27,AV.int .i64 (Int.ofNat 0))])) [(0,AV.slcT none Z0 1 m false),(3,AV.int .i64 (Int.ofNat 0)),(9,AV.slcT none Z0 1 m false),(10,AV.int .i64 (Int.ofNat m)),(11,AV.int .i64 (Int.ofNat 0))])) (Row.F (fun j=>AV.slcT none (Row.M [ah.arr .i64 (f j) (g j)]) 1 (g j) false) m):=by kernel_rfl
theorem t24 (n m:Nat) (f:Nat→Nat→Int) (g:Nat→Nat) (j:Int) (H:aa):aJ (bn n 24 19) (il aE n 0) aG aH (part Try.f24 [1,1,0,1,0,0]) (hints [(0,dA m f g),(3,.int .i64 j)]) (av::H) =
 (fun (Z0:Nat×AV×Option Nat)=>Tr.ite (bK j (Int.ofNat m)) (Tr.req (cE j m) (Tr.req (cr (au 0 j 1) m) (Tr.ite (bK (Int.ofNat 40) (Int.ofNat (g (au 0 j 1)))) (Tr.ok (Ex.ret,[(2,AV.bool true,some 1)],av::H)) (Tr.ok (Ex.normal,[Z0,(3,AV.int .i64 (bA .i64 j (Int.ofNat 1)),none)],av::H))))) (Tr.ok (Ex.exit 0,[Z0,(3,AV.int .i64 j,none),(10,AV.bool false,some 1)],av::H))) (0,AV.slcT none (Row.F (fun j=>AV.slcT none (Row.M [ah.arr .i64 (f j) (g j)]) 1 (g j) false) m) 1 m false,none):=by kernel_rfl
theorem US (n m:Nat) (f:Nat→Nat→Int) (g:Nat→Nat) (b:Bool) (H:aa):aX Try.prog (cd n) 100000 24 Try.f24 (KtL.kt 24) (il aE n 0) (bS aG 0 [(0,dA m f g),(3,.int .i64 0)] (av::H) (.ite b (.ok (.ret,[(2,.bool true,some 1)],av::H)) (.ok (.normal,hints [(0,dA m f g),(3,.int .i64 (Int.ofNat m)),(10,.bool false)],av::H)))) aH [(dA m f g,none)] H =
 (fun (Z0:aq)=>Tr.ite (bK (Int.ofNat 50) (Int.ofNat m)) (Tr.ok ((AV.bool true,some 1),H)) (Tr.reqP (Z0=Z0∧av::H=av::H) (Tr.ite b (Tr.ok ((AV.bool true,some 1),H)) (Tr.ok ((AV.bool false,some 1),H))))) [(0,AV.slcT none (Row.F (fun j=>AV.slcT none (Row.M [ah.arr .i64 (f j) (g j)]) 1 (g j) false) m) 1 m false),(3,AV.int .i64 (Int.ofNat 0))]:=by kernel_rfl
theorem Q3 (n m:Nat) (f:Nat→Nat→Int) (g:Nat→Nat) (H:aa):aX Try.prog (cd n) 100000 24 Try.f24 (KtL.kt 24) (il aE n 0) (nK aG 0) aH [(dA m f g,none)] H =
 Tr.ite (bK (Int.ofNat 50) (Int.ofNat m)) (Tr.ok ((AV.bool true,some 1),H)) Tr.bad:=by kernel_rfl
theorem R8:∀ b,(0,b) ∈ aI (bj Try.f24)→b=.loop (part Try.f24 [1,1,0,1,0,0]):=ep (by kernel_rfl)
theorem LY:∀ b,(0,b) ∈ aI (bj Try.f84)→b=.loop (part Try.f84 [1,1,0,1,0,0]):=ep (by kernel_rfl)
theorem LZ:∀ b,(2,b) ∈ aI (bj Try.f84)→b=.loop (part Try.f84 [1,1,1,1,0,1,0,0]):=ep (by kernel_rfl)
def bw (g:Nat→Nat):Nat→Nat
 | 0=>0
 | j+1=>bw g j+g j
noncomputable def mc (f:Nat→Nat→Int) (g:Nat→Nat):Nat→(Nat→Int)
 | 0=>ay []
 | j+1=>if g j=0 then mc f g j else kO (mc f g j) (bw g j) (f j)
def AK (g:Nat→Nat):Nat→Nat
 | 0=>0
 | j+1=>if g j=0 then AK g j else AK g j+1
theorem pR {g:Nat→Nat} {B:Nat}:∀ m,(∀ j,j<m→g j≤B)→bw g m≤m*B
 | 0,_=>by show 0≤_;omega
 | m+1,h=>by
   have h1:=pR m (fun j hj=>h j (by omega))
   have h2:=h m (by omega)
   show bw g m+g m≤(m+1)*B
   rw[Nat.add_mul,Nat.one_mul];omega
theorem EA (g:Nat→Nat) {a b:Nat} (h:a≤b):bw g a≤bw g b:=by
 induction b with
 | zero =>
   have e:a=0:=Nat.le_zero.1 h
   rw[e];exact Nat.le_refl _
 | succ b ih =>
   by_cases c:a=b+1
   · subst c;exact Nat.le_refl _
   · have:=ih (by omega)
     show _≤bw g b+g b
     omega
theorem wN (f:Nat→Nat→Int) (g:Nat→Nat) (p:Int→Prop):∀ m,(∀ i,i<bw g m→p (mc f g m i))↔∀ j,j<m→∀ i,i<g j→p (f j i)
 | 0=>⟨fun _ j hj=>by omega,fun _ i hi=>by exact absurd hi (by show ¬ i<0;omega)⟩
 | m + 1 => by
   have ih:=wN f g p m
   have et:bw g (m+1)=bw g m+g m:=rfl
   by_cases c:g m=0
   · have ez:mc f g (m+1)=mc f g m:=by show (if g m=0 then _ else _)=_;rw[if_pos c]
     rw[ez,et,c,Nat.add_zero,ih]
     constructor
     · intro h j hj i hi
       by_cases e:j=m
       · subst e;omega
       · exact h j (by omega) i hi
     · intro h j hj i hi;exact h j (by omega) i hi
   · have ez:mc f g (m+1)=kO (mc f g m) (bw g m) (f m):=by show (if g m=0 then _ else _)=_;rw[if_neg c]
     have ea:∀ i,mc f g (m+1) i=if i<bw g m then mc f g m i else f m (i-bw g m):=fun i=>by rw[ez,oI]
     rw[et]
     constructor
     · intro h j hj i hi
       by_cases e:j=m
       · subst e
         have:=h (bw g j+i) (by omega)
         rw[ea,if_neg (by omega),show bw g j+i-bw g j=i by omega] at this
         exact this
       · refine ih.1 (fun q hq=>?_) j (by omega) i hi
         have:=h q (by omega)
         rw[ea,if_pos hq] at this;exact this
     · intro h i hi
       rw[ea]
       by_cases e:i<bw g m
       · rw[if_pos e]
         exact ih.2 (fun j hj=>h j (by omega)) i e
       · rw[if_neg e]
         exact h m (by omega) _ (by omega)
section
variable (n m:Nat) (f:Nat→Nat→Int) (g:Nat→Nat) (H:aa)
theorem Sn:cd (n+1) (.fn 24) [dA m f g] H=some (.bool (decide (50<m) || bV (fun j=>decide (40<g j)) m),H):=by
 by_cases c:50<m
 · rw[decide_eq_true c,Bool.true_or]
   refine aD (n:=n) Try.func24 rfl rfl rfl (Q3 n m f g H) (ao _) (fc (af _ _) 0) (ag _ _) ?_
   exact wF
 · rw [decide_eq_false c,Bool.false_or]
   have hx:=iv (n:=n) (f:=24) (nt:=19) (c:=part Try.f24 [1,1,0,1,0,0]) 0 (fun j=>[(0,dA m f g),(3,.int .i64 (j:Nat))]) (fun _=>av::H) m (fun j=>decide (40<g j)) (fun j=>([(2,.bool true)],av::H)) ([(0,dA m f g),(3,.int .i64 (Int.ofNat m)),(10,.bool false)],av::H) (by omega) (fun j hj=>?_) ?_
   · refine aD (n:=n) Try.func24 rfl rfl rfl (US n m f g (bV (fun j=>decide (40<g j)) m) H) (ao _) (aA (af _ _) R8 (fun x hy=>dk hy hx)) (ag _ _) ?_
     generalize bV (fun j=>decide (40<g j)) m=B at *
     cases B
     all_goals
      exact wF
   · refine aB (t24 n m f g (j:Nat) H) (ao n) (af _ _) (ag _ _) ?_
     show Tr.all _ (fun r=>if decide (40<g j)=true then _ else _)
     rw[c7 (j:=j) (by omega)]
     simp only[iS]
     by_cases e:40<g j
     · simp only[e,decide_true,if_true]
       exact wF
     · simp only[e,decide_false,Bool.false_eq_true,if_false]
       exact wF
   · exact cO (t24 n m f g (Int.ofNat m) H) (ao n) (af _ _) (ag _ _) (by first | (simp (disch:=omega) only[nV,nW];done) | (simp (disch:=omega) only[nV,nW];omega))
theorem P1 (hm:m≤1000) (hg:∀ j,j<m→g j≤1000):exec (bn n 84 36) (.block 0 (.loop (part Try.f84 [1,1,0,1,0,0]))) (o9 m f g 0 0) (av::H)=some (.normal,o9 m f g (bw g m:Nat) (Int.ofNat m)++[(12,.bool false)],av::H):=by
 refine jf (n:=n) (f:=84) (nt:=36) (c:=part Try.f84 [1,1,0,1,0,0]) 0 (fun j=>o9 m f g (bw g j:Nat) (j:Nat)) (fun _=>av::H) m _ (by omega) (fun j hj=>?_) ?_
 · have h1:=pR (g:=g) (B:=1000) j (fun i hi=>hg i (by omega))
   have h2:=hg j hj
   have h3:j*1000≤1000*1000:=Nat.mul_le_mul_right 1000 (by omega)
   have e1:bA .i64 (bw g j:Nat) (Int.ofNat (g j))=((bw g j+g j:Nat):Int):=by rw[EJ (by show _≤(bw g j:Int)+(g j:Int);omega) (by show (bw g j:Int)+(g j:Int)≤_;omega)];show (bw g j:Int)+(g j:Int)=_;omega
   refine aB (NU n m f g (bw g j:Nat) (j:Nat) H) (ao n) (af _ _) (ag _ _) ?_
   show Tr.all _ (fun r=>_∧tidy _ _ _=(o9 m f g ((bw g j+g j:Nat):Int) ((j+1:Nat):Int),_))
   rw[c7 (j:=j) (by omega)]
   simp only[iS,e1]
   generalize bw g j+g j=S at *
   generalize bw g j=S0 at *
   exact wF
 · exact cO (NU n m f g (bw g m:Nat) (Int.ofNat m) H) (ao n) (af _ _) (ag _ _) (by first | (simp (disch:=omega) only[nV,nW];done) | (simp (disch:=omega) only[nV,nW];omega))
theorem P3 (hm:m≤1000) (hg:∀ j,j<m→g j≤1000):exec (bn n 84 36) (.block 2 (.loop (part Try.f84 [1,1,1,1,0,1,0,0]))) (kg m f g (.slc 0 0 0 0 1 0 none) 0) (vc 0 0 (ay [])::H)=some (.normal,kg m f g (.slc 0 0 (AK g m) 0 1 (bw g m) none) (Int.ofNat m)++[(28,.bool false)],vc (AK g m) (bw g m) (mc f g m)::H):=by
 refine jf (n:=n) (f:=84) (nt:=36) (c:=part Try.f84 [1,1,1,1,0,1,0,0]) 2 (fun j=>kg m f g (.slc 0 0 (AK g j) 0 1 (bw g j) none) (j:Nat)) (fun j=>vc (AK g j) (bw g j) (mc f g j)::H) m _ (by omega) (fun j hj=>?_) ?_
 · have h1:=pR (g:=g) (B:=1000) j (fun i hi=>hg i (by omega))
   have h2:=hg j hj
   have h3:j*1000≤1000*1000:=Nat.mul_le_mul_right 1000 (by omega)
   refine aB (NV n m f g (AK g j) (bw g j) (mc f g j) (j:Nat) H) (ao n) (af _ _) (ag _ _) ?_
   have ez:mc f g (j+1)=if g j=0 then mc f g j else kO (mc f g j) (bw g j) (f j):=rfl
   have ev:AK g (j+1)=if g j=0 then AK g j else AK g j+1:=rfl
   show Tr.all _ (fun r=>_∧tidy _ _ _=(kg m f g (.slc 0 0 (AK g (j+1)) 0 1 (bw g j+g j) none) ((j+1:Nat):Int),vc (AK g (j+1)) (bw g j+g j) (mc f g (j+1))::H))
   have ea:bO (bw g j) (g j)=bw g j+g j:=bH _ _
   rw[ez,ev,c7 (j:=j) (by omega),cT]
   simp only[iS,ea]
   by_cases c:g j=0
   · rw[if_pos c,if_pos c,c,Nat.add_zero]
     generalize mc f g j=Z at *
     generalize bw g j=S at *
     generalize AK g j=V at *
     exact wF
   · rw[if_neg c,if_neg c]
     generalize kO (mc f g j) (bw g j) (f j)=Z2 at *
     generalize mc f g j=Z at *
     generalize bw g j=S at *
     generalize AK g j=V at *
     generalize g j=G at *
     exact wF
 · exact cO (NV n m f g (AK g m) (bw g m) (mc f g m) (Int.ofNat m) H) (ao n) (af _ _) (ag _ _) (by first | (simp (disch:=omega) only[nV,nW];done) | (simp (disch:=omega) only[nV,nW];omega))
theorem P4 (hm:m≤1000) (hg:∀ j,j<m→g j=0):exec (bn n 84 36) (.block 2 (.loop (part Try.f84 [1,1,1,1,0,1,0,0]))) (kg m f g .nils 0) (av::H)=some (.normal,kg m f g .nils (Int.ofNat m)++[(28,.bool false)],av::H):=by
 refine jf (n:=n) (f:=84) (nt:=36) (c:=part Try.f84 [1,1,1,1,0,1,0,0]) 2 (fun j=>kg m f g .nils (j:Nat)) (fun j=>av::H) m _ (by omega) (fun j hj=>?_) ?_
 · have h2:=hg j hj
   refine aB (NW n m f g (j:Nat) H) (ao n) (af _ _) (ag _ _) ?_
   rw[c7 (j:=j) (by omega)]
   simp only[iS,h2]
   exact wF
 · exact cO (NW n m f g (Int.ofNat m) H) (ao n) (af _ _) (ag _ _) (by first | (simp (disch:=omega) only[nV,nW];done) | (simp (disch:=omega) only[nV,nW];omega))
theorem Jy (args:List AV):lF (cd n) 95 args H=nG Try.prog KtL.kt 100000 95 (cd n) args H:=rfl
theorem Vx (k:Int) (hk:0<k) (hk2:k≤1000000) (l1:aT):exec (bn n 95 27) (bj Try.f95) [(0,.nils),(1,.int .i64 k)] (av::l1::H)=some (.ret,[(4,.slc 0 0 0 0 1 0 none)],(⟨false,[(0,.row (.M [.arr .i64 (ay []) 0]))]⟩:aT)::l1::H):=by
 obtain ⟨x,hx,rfl⟩:=aB (Q:=fun x=>x=(.ret,[(4,.slc 0 0 0 0 1 0 none)],(⟨false,[(0,.row (.M [.arr .i64 (ay []) 0]))]⟩:aT)::l1::H)) (t95 n k l1 H) (ao n) (af _ _) (ag _ _) (by
  have e1:br .i64 (Int.ofNat 0) (Int.ofNat 0)=0:=qM (by decide) (by decide)
  have e2:br .i64 k 0=k:=by rw[qM (by omega) (by omega),Int.sub_zero]
  have e3:dr (Int.ofNat 0)=0:=by rw[lP];rfl
  have e4:dr k=k.toNat:=lP k
  have e5:D7 k k 8=true:=by rw[xr,decide_eq_true_eq];unfold room;omega
  simp only[e1,e2,e3,e4,e5]
  exact wF)
 exact hx
theorem SP (k:Int) (hk:0<k) (hk2:k≤1000000) (bs:List (Nat×ai)):cd (n+1) (.fn 95) [.nils,.int .i64 k] (⟨false,bs⟩::H)=some (.slc 0 bs.length 0 0 1 0 none,⟨false,bs++[(0,.row (.M [.arr .i64 (ay []) 0]))]⟩::H):=by
 have hx:=Vx n H k hk hk2 ⟨false,bs⟩
 have e8:Try.f95.ntmps=27:=by kernel_rfl
 have eb:Try.f95.body=some (bj Try.f95):=by kernel_rfl
 have er:Try.f95.results.toList=[.tmp 4]:=by kernel_rfl
 have:lF (cd n) 95 [.nils,.int .i64 k] (⟨false,bs⟩::H)=some (.slc 0 bs.length 0 0 1 0 none,⟨false,bs++[(0,.row (.M [.arr .i64 (ay []) 0]))]⟩::H):=by
  rw[Jy]
  unfold nG
  rw[Try.func95];dsimp only
  rw[eb];dsimp only
  rw[if_pos (by rw[e8];rfl),cP,e8]
  rw[show exec (⟨Try.prog,cd n,100000,95,27,KtL.kt 95,none⟩:Cx) (bj Try.f95) (eF 0 [.nils,.int .i64 k]) (⟨false,[]⟩::⟨false,bs⟩::H)=_ from hx]
  dsimp only
  rw[er];rfl
 unfold cd
 rw[show cU Try.prog lF KtL.kt 100000 (n+1) (.fn 95) [.nils,.int .i64 k] (⟨false,bs⟩::H)=(match lF (cd n) 95 [.nils,.int .i64 k] (⟨false,bs⟩::H) with
  | some r=>some r
  | none=>_) from rfl,this]
theorem OZ (bs:List (Nat×ai)):cd (n+1) (.fn 95) [.nils,.int .i64 0] (⟨false,bs⟩::H)=some (.nils,⟨false,bs⟩::H):=by
 have e8:Try.f95.ntmps=27:=by kernel_rfl
 have eb:Try.f95.body=some (bj Try.f95):=by kernel_rfl
 have er:Try.f95.results.toList=[.tmp 4]:=by kernel_rfl
 have hx:exec (bn n 95 27) (bj Try.f95) [(0,.nils),(1,.int .i64 0)] (av::⟨false,bs⟩::H)=some (.ret,[(4,.nils)],av::⟨false,bs⟩::H):=by
  obtain ⟨x,hx,rfl⟩:=aB (Q:=fun x=>x=(.ret,[(4,.nils)],av::(⟨false,bs⟩:aT)::H)) (t95 n 0 ⟨false,bs⟩ H) (ao n) (af _ _) (ag _ _) (by
   have e1:br .i64 (Int.ofNat 0) (Int.ofNat 0)=0:=qM (by decide) (by decide)
   have e2:br .i64 0 0=0:=qM (by decide) (by decide)
   simp only[e1,e2]
   exact wF)
  exact hx
 have ho:lF (cd n) 95 (p6 [(.nils,none),(.int .i64 0,some 0)]) (⟨false,bs⟩::H)=none:=by
  rw[Jy]
  unfold nG
  rw[Try.func95];dsimp only
  rw[eb];dsimp only
  rw[if_pos (by rw[e8];rfl),cP,e8]
  rw[show exec (⟨Try.prog,cd n,100000,95,27,KtL.kt 95,none⟩:Cx) (bj Try.f95) (eF 0 (p6 [(.nils,none),(.int .i64 0,some 0)])) (⟨false,[]⟩::⟨false,bs⟩::H)=_ from hx]
  dsimp only
  rw[er];rfl
 obtain ⟨y,h1,h2,h3⟩:Tr.all (aX Try.prog (cd n) 100000 95 Try.f95 (KtL.kt 95) (il aE n 0) aG aH [(.nils,none),(.int .i64 0,some 0)] (⟨false,bs⟩::H)) (fun y=>y.1.1=.nils∧y.2=⟨false,bs⟩::H):=by
  rw[Vr]
  exact wF
 have:=sv (f:=95) Try.func95 rfl ho rfl (ao n) (af _ _) (ag _ _) h1
 rw[h2,h3] at this
 exact this
noncomputable def Ki (m:Nat) (f:Nat→Nat→Int) (g:Nat→Nat):AV:=if bw g m=0 then .nils else b6 (bw g m) (mc f g m) false
theorem EB {g:Nat→Nat} {m:Nat} (h:bw g m=0):∀ j,j<m→g j=0:=fun j hj=>by
 have:=EA g (show j+1≤m by omega)
 have e:bw g (j+1)=bw g j+g j:=rfl
 omega
theorem SF (hm:m≤100) (hg:∀ j,j<m→g j≤1000):cd (n+2) (.fn 84) [dA m f g] H=some (Ki m f g,H):=by
 have hxa:=P1 (n+1) m f g H (by omega) hg
 have ht:=pR (g:=g) (B:=1000) m hg
 unfold Ki
 by_cases c:bw g m=0
 · rw[if_pos c]
   rw[c] at hxa
   have hxb:=P4 (n+1) m f g H (by omega) (EB c)
   refine aD (n:=n+1) Try.func84 rfl rfl rfl (Rq (n+1) m f g H) (aO _ (n+1) (dQ (aF _) (fun x hy=>by rw[← Tr.ab hy];exact OZ n H []))) (aA (aA (af _ _) LZ (fun x hy=>bN hy hxb)) LY (fun x hy=>bN hy hxa)) (ag _ _) ?_
   exact wF
 · rw[if_neg c]
   have hxb:=P3 (n+1) m f g H (by omega) hg
   refine aD (n:=n+1) Try.func84 rfl rfl rfl (Vj (n+1) m f g (bw g m:Nat) (AK g m) (bw g m) (mc f g m) H) (aO _ (n+1) (dQ (aF _) (fun x hy=>by rw[← Tr.ab hy];exact SP n H _ (by omega) (by omega) []))) (aA (aA (af _ _) LZ (fun x hy=>bN hy hxb)) LY (fun x hy=>bN hy hxa)) (ag _ _) ?_
   rw[cT]
   generalize mc f g m=Z at *
   generalize bw g m=S at *
   generalize AK g m=V at *
   exact wF
end
end Go.Eng
end
section
namespace Go.Eng
open Go.Proofs
noncomputable def rI (x y:Int):Nat×ai:=(0,.row (.I .i64 [x,y]))
noncomputable def f89:AV:=.fn (.func 89) [] []
noncomputable def Jm (i:Nat) (x:Bool):aq:=[(0,.map 1 i),(1,f89),(4,.ptr 0 0 0 0),(6,.ptr 0 1 0 0),(7,.bool x)]
noncomputable def Mz (i:Nat):aq:=[(0,.map 1 i),(1,f89),(4,.ptr 0 0 0 0),(6,.ptr 0 1 0 0),(7,.bool false),(9,.map 1 i),(10,.ptr 0 2 0 0)]
noncomputable def MA:aq:=[(1,f89),(4,.ptr 0 0 0 0),(6,.ptr 0 1 0 0),(7,.bool true),(10,.ptr 0 2 0 0)]
noncomputable def Pb (L:Int→Int→Int→Int→Bool):List AV→Option (Prop×AV)
 | [.agg (.I .i64 [a,b]),.agg (.I .i64 [x,y])]=>some (True,.bool (L a b x y))
 | _=>none
theorem Qt (n i:Nat) (H:aa):aJ (bn n 90 26) (il aE n 0) aG aH (Rf.cR [0] Rf.eR) (hints [(0,.map 1 i),(1,f89)]) (av::H) =
 Tr.ok (Ex.normal,[(0,AV.map 1 i,none),(1,AV.fn (Fn.func 89) [] [],none),(4,AV.ptr 0 0 0 0,none)],{ lock:=false,bs:=[(0,ai.row (Row.I .i64 [Int.ofNat 0,Int.ofNat 0]))] } :: H):=by kernel_rfl
theorem Vn (n:Nat) (a b x y:Int) (H:aa):aX Try.prog (cd n) 100000 89 Try.f89 (KtL.kt 89) (il aE n 0) aG aH [(.agg (.I .i64 [a,b]),none),(.agg (.I .i64 [x,y]),none)] H =
 Tr.ite (aP (b7 a x)) (Tr.ok ((AV.bool (bK a x),none),H)) (Tr.ok ((AV.bool (bK b y),none),H)):=by kernel_rfl
theorem Qu (n i:Nat) (H:aa):aJ (bn n 90 26) (il aE n 0) aG aH (Rf.cR [1,0] Rf.eR) (hints [(0,.map 1 i),(1,f89),(4,.ptr 0 0 0 0)]) (⟨false,[rI 0 0]⟩::H) =
 Tr.ok (Ex.normal,[(0,AV.map 1 i,none),(1,AV.fn (Fn.func 89) [] [],none),(4,AV.ptr 0 0 0 0,none),(6,AV.ptr 0 1 0 0,none)],{ lock:=false,bs:=[(0,ai.row (Row.I .i64 [Int.ofNat 0,Int.ofNat 0])),(0,ai.row (Row.I .i64 [Int.ofNat 0,Int.ofNat 0]))] } :: H):=by kernel_rfl
theorem Qv (n i:Nat) (H:aa):aJ (bn n 90 26) (il aE n 0) aG aH (Rf.cR [1,1,0] Rf.eR) (hints [(0,.map 1 i),(1,f89),(4,.ptr 0 0 0 0),(6,.ptr 0 1 0 0)]) (⟨false,[rI 0 0,rI 0 0]⟩::H) =
 Tr.ok (Ex.normal,[(0,AV.map 1 i,none),(1,AV.fn (Fn.func 89) [] [],none),(4,AV.ptr 0 0 0 0,none),(6,AV.ptr 0 1 0 0,none),(7,AV.bool false,some 1)],{ lock:=false,bs:=[(0,ai.row (Row.I .i64 [Int.ofNat 0,Int.ofNat 0])),(0,ai.row (Row.I .i64 [Int.ofNat 0,Int.ofNat 0]))] } :: H):=by kernel_rfl
theorem Qw (n i:Nat) (H:aa):Rf.da.Nm (bn n 90 26) (il aE n 0) (hints (Jm i false)) (⟨false,[rI 0 0,rI 0 0]⟩::H) =
 Tr.ok ([(0,AV.map 1 i,none),(1,AV.fn (Fn.func 89) [] [],none),(4,AV.ptr 0 0 0 0,none),(6,AV.ptr 0 1 0 0,none),(7,AV.bool false,none),(9,AV.map 1 i,none)],{ lock:=false,bs:=[(0,ai.row (Row.I .i64 [Int.ofNat 0,Int.ofNat 0])),(0,ai.row (Row.I .i64 [Int.ofNat 0,Int.ofNat 0]))] } :: H):=by kernel_rfl
theorem Nj (n i:Nat) (R:aa) (a b v:Int):Rf.bD.tZ (bn n 90 26) (il aE n 0) aG aH 2 3 (.agg (.I .i64 [a,b]),.int .i64 v) (hints (Mz i)) (⟨false,[rI 0 0,rI 0 0,(0,.dead)]⟩::R) =
 Tr.ite (aP false) (Tr.ok ([(1,AV.fn (Fn.func 89) [] [],none),(4,AV.ptr 0 0 0 0,none),(6,AV.ptr 0 1 0 0,none),(7,AV.bool true,some 1),(10,AV.ptr 0 2 0 0,none)],{ lock:=false,bs:=[(0,ai.row (Row.I .i64 [Int.ofNat 0,Int.ofNat 0])),(0,ai.row (Row.I .i64 [a,b])),(0,ai.dead)] } :: R)) Tr.bad:=by kernel_rfl
theorem Jz (n:Nat) (R:aa) (a b v x y:Int) (L:Int→Int→Int→Int→Bool):Rf.bD.tZ (bn n 90 26) (il (wQ aE 89 (Pb L)) n 0) aG aH 2 3 (.agg (.I .i64 [a,b]),.int .i64 v) (hints MA) (⟨false,[rI 0 0,rI x y,(0,.dead)]⟩::R) =
 (fun (Z0:aN)=>((fun (Z1:aT)=>Tr.ite (aP true) (Tr.ok (Z0,Z1::R)) (Tr.reqP True (Tr.ite (L a b x y) (Tr.ok (Z0,Z1::R)) (Tr.ok ([(1,AV.fn (Fn.func 89) [] [],none),(4,AV.ptr 0 0 0 0,none),(6,AV.ptr 0 1 0 0,none),(7,AV.bool true,none),(10,AV.ptr 0 2 0 0,none)],{ lock:=false,bs:=[(0,ai.row (Row.I .i64 [Int.ofNat 0,Int.ofNat 0])),(0,ai.row (Row.I .i64 [x,y])),(0,ai.dead)] } :: R))))) { lock:=false,bs:=[(0,ai.row (Row.I .i64 [Int.ofNat 0,Int.ofNat 0])),(0,ai.row (Row.I .i64 [a,b])),(0,ai.dead)] })) [(1,AV.fn (Fn.func 89) [] [],none),(4,AV.ptr 0 0 0 0,none),(6,AV.ptr 0 1 0 0,none),(7,AV.bool true,some 1),(10,AV.ptr 0 2 0 0,none)]:=by kernel_rfl
theorem Nh (n i:Nat) (R:aa):Rf.bD.zm (bn n 90 26) (il aE n 0) (hints (Mz i)) (⟨false,[rI 0 0,rI 0 0,(0,.dead)]⟩::R) =
 Tr.ok ([(0,AV.map 1 i,none),(1,AV.fn (Fn.func 89) [] [],none),(4,AV.ptr 0 0 0 0,none),(6,AV.ptr 0 1 0 0,none),(7,AV.bool false,none),(9,AV.map 1 i,none),(10,AV.ptr 0 2 0 0,none),(11,AV.tup [AV.bool false],none),(12,AV.bool false,none)],{ lock:=false,bs:=[(0,ai.row (Row.I .i64 [Int.ofNat 0,Int.ofNat 0])),(0,ai.row (Row.I .i64 [Int.ofNat 0,Int.ofNat 0])),(0,ai.dead)] } :: R):=by kernel_rfl
theorem Ni (n:Nat) (R:aa) (x y:Int):Rf.bD.zm (bn n 90 26) (il aE n 0) (hints MA) (⟨false,[rI 0 0,rI x y,(0,.dead)]⟩::R) =
 Tr.ok ([(1,AV.fn (Fn.func 89) [] [],none),(4,AV.ptr 0 0 0 0,none),(6,AV.ptr 0 1 0 0,none),(7,AV.bool true,none),(10,AV.ptr 0 2 0 0,none),(11,AV.tup [AV.bool false],none),(12,AV.bool false,none)],{ lock:=false,bs:=[(0,ai.row (Row.I .i64 [Int.ofNat 0,Int.ofNat 0])),(0,ai.row (Row.I .i64 [x,y])),(0,ai.dead)] } :: R):=by kernel_rfl
theorem Nk (n i:Nat) (R:aa):aJ (bn n 90 26) (il aE n 0) aG aH Rf.pick.suf (hints (Mz i++[(11,.tup [.bool false]),(12,.bool false)])) (⟨false,[rI 0 0,rI 0 0,(0,.dead)]⟩::R) =
 Tr.ok (Ex.ret,[(4,AV.ptr 0 0 0 0,none),(5,AV.bool false,none)],{ lock:=false,bs:=[(0,ai.row (Row.I .i64 [Int.ofNat 0,Int.ofNat 0])),(0,ai.row (Row.I .i64 [Int.ofNat 0,Int.ofNat 0])),(0,ai.dead)] } :: R):=by kernel_rfl
theorem Nl (n:Nat) (R:aa) (x y:Int):aJ (bn n 90 26) (il aE n 0) aG aH Rf.pick.suf (hints (MA++[(11,.tup [.bool false]),(12,.bool false)])) (⟨false,[rI 0 0,rI x y,(0,.dead)]⟩::R) =
 Tr.ok (Ex.ret,[(4,AV.ptr 0 0 0 0,none),(5,AV.bool true,none)],{ lock:=false,bs:=[(0,ai.row (Row.I .i64 [x,y])),(0,ai.row (Row.I .i64 [x,y])),(0,ai.dead)] } :: R):=by kernel_rfl
def ft (a b x y:Int):Bool:=if a=x then decide (b<y) else decide (a<x)
theorem SK (n:Nat) (a b x y:Int) (H:aa):cd (n+1) (.fn 89) [.agg (.I .i64 [a,b]),.agg (.I .i64 [x,y])] H=some (.bool (ft a b x y),H):=by
 refine aD (n:=n) Try.func89 rfl rfl rfl (Vn n a b x y H) (ao _) (af _ _) (ag _ _) ?_
 rw[cY,cY]
 unfold ft
 by_cases c:a=x
 · rw[if_pos c]
   exact wF
 · rw[if_neg c]
   exact wF
theorem FV (n:Nat):(wQ aE 89 (Pb ft)).Ok (cd (n+1)):=by
 refine mf (aF _) (fun args p v hg hp H=>?_)
 unfold Pb at hg
 split at hg
 · simp only[nP] at hg
   obtain ⟨_,rfl⟩:=hg
   exact SK n _ _ _ _ H
 · cases hg
def CL (o:Option (Int×Int)) (e:Int×Int×Int):Option (Int×Int) :=
 match o with
 | none=>some (e.1,e.2.1)
 | some m=>if ft e.1 e.2.1 m.1 m.2=true then some (e.1,e.2.1) else some m
noncomputable def LI (e:Int×Int×Int):AV×AV:=(.agg (.I .i64 [e.1,e.2.1]),.int .i64 e.2.2)
noncomputable def EF (i:Nat) (o:Option (Int×Int)):aq×aT :=
 match o with
 | none=>(Mz i,⟨false,[rI 0 0,rI 0 0,(0,.dead)]⟩)
 | some m=>(MA,⟨false,[rI 0 0,rI m.1 m.2,(0,.dead)]⟩)
theorem GH {L:bu} {cx:Cx} {callR:bJ} {bl:ik} {rg:sl} {k n:Nat} {kv:AV×AV} {fr fr':aq} {l l':aT} {R:aa} {T:Tr (aN×aa)} (e:L.tZ cx callR bl rg k n kv (hints fr) (l::R)=T) (hC:callR.Ok cx.call) (hB:bl.Ok cx L.rest) (hR:rg.Ok cx L.rest)
 (h:T.all fun y=>strip y.1=fr'∧y.2=l'::R):dW L cx k n R kv (fr,l)=some (fr',l'):=by
 obtain ⟨y,h1,h2,h3⟩:=h
 have:=bu.Em hC hB hR (by rw[e];exact h1)
 rw[iy,h2,h3] at this
 unfold dW
 rw[this]
theorem Qz (n i:Nat) (R:aa) (o:Option (Int×Int)) (e:Int×Int×Int):dW Rf.bD (bn (n+1) 90 26) 2 3 R (LI e) (EF i o)=some (EF i (CL o e)):=by
 obtain ⟨a,b,v⟩:=e
 cases o with
 | none =>
   refine GH (Nj (n+1) i R a b v) (ao _) (af _ _) (ag _ _) ?_
   exact wF
 | some m =>
   obtain ⟨x,y⟩:=m
   have hm:CL (some (x,y)) (a,b,v)=if ft a b x y=true then some (a,b) else some (x,y):=rfl
   rw[hm]
   by_cases c:ft a b x y=true
   · rw[if_pos c]
     refine GH (Jz (n+1) R a b v x y ft) (aO _ (n+1) (FV n)) (af _ _) (ag _ _) ?_
     rw[c]
     exact wF
   · rw[if_neg c]
     refine GH (Jz (n+1) R a b v x y ft) (aO _ (n+1) (FV n)) (af _ _) (ag _ _) ?_
     rw[show ft a b x y=false by cases h:ft a b x y with
      | true=>exact absurd h c
      | false=>rfl]
     exact wF
theorem FL (n i:Nat) (R:aa):∀ (l:List (Int×Int×Int)) (o:Option (Int×Int)),fC Rf.bD (bn (n+1) 90 26) 2 3 R (l.map LI) (EF i o)=some (EF i (l.foldl CL o))
 | [],o=>rfl
 | e::l,o=>by
   show (match dW Rf.bD (bn (n+1) 90 26) 2 3 R (LI e) (EF i o) with
    | some t=>fC Rf.bD (bn (n+1) 90 26) 2 3 R (l.map LI) t
    | none=>none)=_
   rw[Qz]
   exact FL n i R l (CL o e)
noncomputable def HL (i:Nat) (o:Option (Int×Int)):aq×aT :=
 match o with
 | none=>(Mz i++[(11,.tup [.bool false]),(12,.bool false)],⟨false,[rI 0 0,rI 0 0,(0,.dead)]⟩)
 | some m=>(MA++[(11,.tup [.bool false]),(12,.bool false)],⟨false,[rI 0 0,rI m.1 m.2,(0,.dead)]⟩)
theorem Cv {L:bu} {cx:Cx} {callR:bJ} {fr:aq} {H:aa} {T:Tr (aN×aa)} (e:L.zm cx callR (hints fr) H=T) (hC:callR.Ok cx.call) {y:aq×aa} (h:T.all fun z=>(strip z.1,z.2)=y):L.last cx fr H=some y:=by
 obtain ⟨z,h1,rfl⟩:=h
 have:=bu.F8 hC (by rw[e];exact h1)
 rw[iy] at this;exact this
theorem P8 (n i:Nat) (R:aa) (o:Option (Int×Int)):Rf.bD.last (bn n 90 26) (EF i o).1 ((EF i o).2::R)=some ((HL i o).1,(HL i o).2::R):=by
 cases o with
 | none=>exact Cv (Nh n i R) (ao _) (Tr.bf rfl)
 | some m=>exact Cv (Ni n R m.1 m.2) (ao _) (Tr.bf rfl)
theorem Ga (a b:Int):ft a b a b=false:=by unfold ft;rw[if_pos rfl];exact decide_eq_false (by omega)
theorem zq {a b x y:Int} (h1:ft a b x y=false) (h2:ft x y a b=false):a=x∧b=y:=by
 unfold ft at h1 h2
 by_cases c:a=x
 · rw[if_pos c] at h1
   rw[if_pos c.symm] at h2
   simp only[decide_eq_false_iff_not] at h1 h2
   omega
 · rw[if_neg c] at h1
   rw[if_neg (fun e=>c e.symm)] at h2
   simp only[decide_eq_false_iff_not] at h1 h2
   omega
theorem po (a b x y:Int):ft a b x y=true↔a<x∨(a=x∧b<y):=by
 unfold ft
 by_cases c:a=x
 · rw[if_pos c,decide_eq_true_eq];omega
 · rw[if_neg c,decide_eq_true_eq];omega
theorem zp {a b x y u v:Int} (h1:ft a b x y=false) (h2:ft u v x y=true):ft a b u v=false:=by
 cases c:ft a b u v with
 | false=>rfl
 | true =>
   exfalso
   have c:=(po _ _ _ _).1 c
   have h2:=(po _ _ _ _).1 h2
   have:ft a b x y=true:=(po _ _ _ _).2 (by omega)
   rw[h1] at this;cases this
theorem CM:∀ (l:List (Int×Int×Int)) (o:Option (Int×Int)),(l.foldl CL o=none↔o=none∧l=[])∧∀ m,l.foldl CL o=some m→((o=some m∨∃ e ∈ l,(e.1,e.2.1)=m)∧(∀ e ∈ l,ft e.1 e.2.1 m.1 m.2=false)∧∀ p,o=some p→ft p.1 p.2 m.1 m.2=false)
 | [],o=>⟨⟨fun h=>⟨h,rfl⟩,fun h=>h.1⟩,fun m hm=>⟨.inl hm,fun e he=>(by cases he),fun p hp=>(by
   have hm:o=some m:=hm
   rw[hm] at hp;cases hp;exact Ga _ _)⟩⟩
 | e :: l, o=>by
   obtain ⟨i1,i2⟩:=CM l (CL o e)
   have hne:CL o e≠none:=by unfold CL;split<;>(try split)<;>simp
   refine ⟨⟨fun h=>absurd (i1.1 h).1 hne,fun h=>by cases h.2⟩,fun m hm=>?_⟩
   obtain ⟨j1,j2,j3⟩:=i2 m hm
   have hk:(CL o e=some (e.1,e.2.1)∧∀ p,o=some p→ft e.1 e.2.1 p.1 p.2=true)∨∃ p,o=some p∧CL o e=some p∧ft e.1 e.2.1 p.1 p.2=false:=by
    cases o with
    | none=>exact .inl ⟨rfl,fun p hp=>by cases hp⟩
    | some p =>
      have hx:CL (some p) e=if ft e.1 e.2.1 p.1 p.2=true then some (e.1,e.2.1) else some p:=rfl
      by_cases c:ft e.1 e.2.1 p.1 p.2=true
      · rw[if_pos c] at hx
        exact .inl ⟨hx,fun q hq=>by cases hq;exact c⟩
      · rw[if_neg c] at hx
        exact .inr ⟨p,rfl,hx,by cases h:ft e.1 e.2.1 p.1 p.2 with
         | true=>exact absurd h c
         | false=>rfl⟩
   rcases hk with ⟨h1,h2⟩ | ⟨p,rfl,h1,h2⟩
   · have h3:=j3 _ h1
     refine ⟨.inr ?_,fun x hx=>?_,fun p hp=>?_⟩
     · rcases j1 with j1 | ⟨x,hx,rfl⟩
       · rw[h1] at j1
         exact ⟨e,by simp,Option.some.inj j1⟩
       · exact ⟨x,by simp[hx],rfl⟩
     · rcases List.mem_cons.1 hx with rfl | hx
       · exact h3
       · exact j2 x hx
     · have h4:=h2 p hp
       cases c:ft p.1 p.2 m.1 m.2 with
       | false=>rfl
       | true =>
         exfalso
         have:=zp (a:=e.1) (b:=e.2.1) (x:=m.1) (y:=m.2) (u:=p.1) (v:=p.2) h3 c
         rw[h4] at this;cases this
   · have h3:=j3 _ h1
     refine ⟨?_,fun x hx=>?_,fun q hq=>by cases hq;exact h3⟩
     · rcases j1 with j1 | ⟨x,hx,rfl⟩
       · rw[h1] at j1;exact .inl j1
       · exact .inr ⟨x,by simp[hx],rfl⟩
     · rcases List.mem_cons.1 hx with rfl | hx
       · cases c:ft x.1 x.2.1 m.1 m.2 with
         | false=>rfl
         | true =>
           exfalso
           have:=zp (a:=p.1) (b:=p.2) (x:=m.1) (y:=m.2) (u:=x.1) (v:=x.2.1) h3 c
           have h5:=zq this h2
           rw[h5.1,h5.2,c] at h3;cases h3
       · exact j2 x hx
theorem zN:∀ (n:Nat) (vs:List Nat),vs.Nodup→(∀ j ∈ vs,j<n)→vs.length≤n
 | 0,vs,_,h=>by
   cases vs with
   | nil=>exact Nat.le_refl _
   | cons a r=>have:=h a (by simp);omega
 | n+1,vs,hn,h=>by
   have h1:=zN n (vs.erase n) (hn.erase n) (fun j hj=>by
    rw[hn.mem_erase_iff] at hj
    have:=h j hj.2
    omega)
   rw[List.length_erase] at h1
   split at h1<;>omega
theorem HR {vs:List Nat} {n:Nat} (hn:vs.Nodup) (hl:vs.length=n) (hb:∀ j ∈ vs,j<n) {j:Nat} (hj:j<n):j ∈ vs:=by
 apply Classical.byContradiction
 intro hc
 have:=zN n (j::vs) (List.nodup_cons.2 ⟨hc,hn⟩) (fun i hi=>by
  rcases List.mem_cons.1 hi with rfl | hi
  · exact hj
  · exact hb i hi)
 simp only[List.length_cons] at this
 omega
theorem Mm {es:List (AV×AV)} {h:List Int→Bool} {g:List Int→Int} {c:Nat} (hE:wI (.str 2) es h g c):∀ vs:List Nat,(∀ j ∈ vs,j<es.length) →
 ∃ l:List (Int×Int×Int),(vs.map fun j=>(es.map fun e=>(fM (0+1) e.1,fM (0+1) e.2)).getD j (.undef,.undef))=l.map LI∧(∀ e ∈ l,h [e.1,e.2.1]=true)∧(∀ j ∈ vs,∀ n,(es.getD j (.undef,.undef)).1=dL (.str 2) n→∃ e ∈ l,n=[e.1,e.2.1])∧l.length=vs.length
 | [],_=>⟨[],rfl,fun e he=>(by cases he),fun j hj=>(by cases hj),rfl⟩
 | j :: vs,hv=>by
   obtain ⟨l,l1,l2,l3,l4⟩:=Mm hE vs (fun i hi=>hv i (List.mem_cons_of_mem _ hi))
   have hj:=hv j (by simp)
   obtain ⟨n,e1,e2⟩:=hE.ent j hj
   have hf:=hE.fit e2
   have hlen:n.length=2:=Nat.eq_of_beq_eq_true hf
   obtain ⟨a,b,rfl⟩:∃ a b,n=[a,b]:=by
    match n,hlen with
    | [a,b],_=>exact ⟨a,b,rfl⟩
   refine ⟨(a,b,g [a,b])::l,?_,fun e he=>?_,fun i hi n' hn'=>?_,by simp[l4]⟩
   · rw[List.map_cons,List.map_cons,l1]
     congr 1
     have:(es.map fun e=>(fM (0+1) e.1,fM (0+1) e.2)).getD j (.undef,.undef)=(fM (0+1) (es.getD j (.undef,.undef)).1,fM (0+1) (es.getD j (.undef,.undef)).2):=by
      simp[List.getD_eq_getElem?_getD,List.getElem?_eq_getElem hj]
     rw[this,e1];rfl
   · rcases List.mem_cons.1 he with rfl | he
     · exact e2
     · exact l2 e he
   · rcases List.mem_cons.1 hi with rfl | hi
     · rw[e1] at hn'
       have hn':dL (.str 2) [a,b]=dL (.str 2) n':=hn'
       have:[a,b]=n':=by unfold dL at hn';simpa using hn'
       exact ⟨(a,b,g [a,b]),by simp,this.symm⟩
     · obtain ⟨e,he,h'⟩:=l3 i hi n' hn'
       exact ⟨e,by simp[he],h'⟩
def wJ (h:List Int→Bool) (o:Option (Int×Int)):Prop :=
 match o with
 | none=>∀ a b,h [a,b]=false
 | some m=>h [m.1,m.2]=true∧∀ a b,h [a,b]=true→ft a b m.1 m.2=false
theorem HQ {es:List (AV×AV)} {h:List Int→Bool} {g:List Int→Int} {c:Nat} (hE:wI (.str 2) es h g c) {o:Option (Int×Int)} (ho:wJ h o) {vs:List Nat} (v1:vs.Nodup) (v2:vs.length=es.length) (v3:∀ j ∈ vs,j<es.length) :
 ∃ l:List (Int×Int×Int),(vs.map fun j=>(es.map fun e=>(fM (0+1) e.1,fM (0+1) e.2)).getD j (.undef,.undef))=l.map LI∧l.foldl CL none=o:=by
 obtain ⟨l,l1,l2,l3,l4⟩:=Mm hE vs v3
 refine ⟨l,l1,?_⟩
 obtain ⟨s1,s2⟩:=CM l none
 have cov:∀ a b,h [a,b]=true→∃ e ∈ l,(a,b)=(e.1,e.2.1):=fun a b hab=>by
  obtain ⟨_,j,j1,j2⟩:=hE.all _ hab
  obtain ⟨e,he,e2⟩:=l3 j (HR v1 v2 v3 j1) _ j2
  refine ⟨e,he,?_⟩
  simp only[List.cons.injEq,and_true] at e2
  rw[e2.1,e2.2]
 cases o with
 | none =>
   cases l with
   | nil=>rfl
   | cons e l =>
     have:=l2 e (by simp)
     rw[ho] at this;cases this
 | some m =>
   obtain ⟨h1,h2⟩:=ho
   obtain ⟨e,he,e2⟩:=cov m.1 m.2 h1
   cases hf:l.foldl CL none with
   | none =>
     have:=(s1.1 hf).2
     rw[this] at he;cases he
   | some m' =>
     obtain ⟨t1,t2,_⟩:=s2 m' hf
     rcases t1 with t1 | ⟨x,hx,rfl⟩
     · cases t1
     have a1:=t2 e he
     have a2:=h2 x.1 x.2.1 (l2 x hx)
     rw[← (Prod.mk.inj e2).1,← (Prod.mk.inj e2).2] at a1
     obtain ⟨b1,b2⟩:=zq a1 a2
     have e5:(x.1,x.2.1)=m:=Prod.ext b1.symm b2.symm
     rw[e5]
noncomputable def Qx (o:Option (Int×Int)):AV :=
 match o with
 | none=>.tup [.agg (.I .i64 [0,0]),.bool false]
 | some m=>.tup [.agg (.I .i64 [m.1,m.2]),.bool true]
section
variable (n i:Nat) (H:aa)
theorem Ru (o:Option (Int×Int)):∃ b,exec (bn n 90 26) Rf.pick.suf (HL i o).1 ((HL i o).2::H)=some (.ret,[(4,.ptr 0 0 0 0),(5,.bool b)],⟨false,[rI (o.getD (0,0)).1 (o.getD (0,0)).2,rI (o.getD (0,0)).1 (o.getD (0,0)).2,(0,.dead)]⟩::H)∧b=o.isSome:=by
 cases o with
 | none =>
   obtain ⟨x,hx,rfl⟩:=aB (Q:=fun x=>x=(.ret,[(4,.ptr 0 0 0 0),(5,.bool false)],(⟨false,[rI 0 0,rI 0 0,(0,.dead)]⟩:aT)::H)) (Nk n i H) (ao n) (af _ _) (ag _ _) (Tr.bf rfl)
   exact ⟨false,hx,rfl⟩
 | some m =>
   obtain ⟨x,hx,rfl⟩:=aB (Q:=fun x=>x=(.ret,[(4,.ptr 0 0 0 0),(5,.bool true)],(⟨false,[rI m.1 m.2,rI m.1 m.2,(0,.dead)]⟩:aT)::H)) (Nl n H m.1 m.2) (ao n) (af _ _) (ag _ _) (Tr.bf rfl)
   exact ⟨true,hx,rfl⟩
theorem IG {h:List Int→Bool} {g:List Int→Int} {c:Nat} {es:List (AV×AV)} (hg:ar H 0 i=(0,.fmap (.str 2) h g c)) (hE:wI (.str 2) es h g c) {o:Option (Int×Int)} (ho:wJ h o) :
 kA (bn (n+1) 90 26) Rf.da Rf.bD (Jm i false) (⟨false,[rI 0 0,rI 0 0]⟩::H)=some ((HL i o).1,(HL i o).2::H):=by
 have hp:dE (bn (n+1) 90 26).P (bn (n+1) 90 26).nt (bn (n+1) 90 26).call Rf.da.ops0 Rf.da.pre (Jm i false) (⟨false,[rI 0 0,rI 0 0]⟩::H)=some ([(0,.map 1 i),(1,f89),(4,.ptr 0 0 0 0),(6,.ptr 0 1 0 0),(7,.bool false),(9,.map 1 i)],⟨false,[rI 0 0,rI 0 0]⟩::H):=by
  have:=cN.ID (S:=Rf.da) (cx:=bn (n+1) 90 26) (callR:=il aE (n+1) 0) (ao _) (fr:=hints (Jm i false)) (H:=⟨false,[rI 0 0,rI 0 0]⟩::H) (by rw[Qw];rfl)
  rw[iy] at this
  exact this
 have hg1:ar ((⟨false,[rI 0 0,rI 0 0]⟩:aT)::H) 1 i=(0,.fmap (.str 2) h g c):=hg
 have hm:Rf.da.m=9:=rfl
 have hit:Rf.bD.it=10:=rfl
 have r1:mL (bn (n+1) 90 26) Rf.da Rf.bD (Jm i false) (⟨false,[rI 0 0,rI 0 0]⟩::H)=none:=by
  unfold mL
  rw[hp];rfl
 have r2:kC (bn (n+1) 90 26) Rf.da Rf.bD (Jm i false) (⟨false,[rI 0 0,rI 0 0]⟩::H)=none:=by
  unfold kC
  rw[hp]
  show (match ar ((⟨false,[rI 0 0,rI 0 0]⟩:aT)::H) 1 i with
   | (0,.map es)=>_
   | _=>none)=none
  rw[hg1];rfl
 have hends:ym (bn (n+1) 90 26) Rf.bD 0 2 (aC H) (EF i none) (.str 2) h g c (HL i o):=by
  refine ⟨rfl,fun es hE vs v1 v2 v3=>?_⟩
  obtain ⟨l,l1,l2⟩:=HQ hE ho v1 v2 v3
  refine ⟨EF i o,?_,P8 (n+1) i _ o⟩
  rw[l1,FL,l2]
 have r3:kD (bn (n+1) 90 26) Rf.da Rf.bD (Jm i false) (⟨false,[rI 0 0,rI 0 0]⟩::H)=some ((HL i o).1,(HL i o).2::H):=by
  unfold kD
  rw[hp]
  show (match ar ((⟨false,[rI 0 0,rI 0 0]⟩:aT)::H) 1 i with
   | (0,.fmap q h g c)=>@dite _ (∃ y,ym (bn (n+1) 90 26) Rf.bD 0 2 (aC H) (EF i none) q h g c y) (Classical.propDecidable _) (fun hx=>some ((Classical.choose hx).1,(Classical.choose hx).2::H)) (fun _=>none)
   | _=>none)=_
  rw[hg1]
  refine (dif_pos (show ∃ y,ym (bn (n+1) 90 26) Rf.bD 0 2 (aC H) (EF i none) (.str 2) h g c y from ⟨_,hends⟩)).trans ?_
  have hc:=Classical.choose_spec (show ∃ y,ym (bn (n+1) 90 26) Rf.bD 0 2 (aC H) (EF i none) (.str 2) h g c y from ⟨_,hends⟩)
  obtain ⟨s1,e1,e2⟩:=hc.2 es hE (List.range es.length) List.nodup_range (by simp) (fun j hj=>by simpa using hj)
  obtain ⟨s2,f1,f2⟩:=hends.2 es hE (List.range es.length) List.nodup_range (by simp) (fun j hj=>by simpa using hj)
  rw[e1] at f1
  obtain rfl:=Option.some.inj f1
  rw[e2] at f2
  simp only[Option.some.injEq,Prod.mk.injEq,List.cons.injEq,and_true] at f2
  rw[f2.1,f2.2]
 unfold kA kB
 rw[r1,r2,r3]
theorem SL {h:List Int→Bool} {g:List Int→Int} {c:Nat} {es:List (AV×AV)} (hg:ar H 0 i=(0,.fmap (.str 2) h g c)) (hE:wI (.str 2) es h g c) {o:Option (Int×Int)} (ho:wJ h o) :
 cd (n+2) (.fn 90) [.map 0 i,f89] H=some (Qx o,H):=by
 have e26:Try.f90.ntmps=26:=by kernel_rfl
 have er:Try.f90.results.toList=Try.f90.results.toList:=rfl
 obtain ⟨xa,ha,rfl⟩:=aB (Q:=fun x=>x=(.normal,[(0,.map 1 i),(1,f89),(4,.ptr 0 0 0 0)],(⟨false,[rI 0 0]⟩:aT)::H)) (Qt (n+1) i H) (ao _) (af _ _) (ag _ _) (Tr.bf rfl)
 obtain ⟨xb,hb,rfl⟩:=aB (Q:=fun x=>x=(.normal,[(0,.map 1 i),(1,f89),(4,.ptr 0 0 0 0),(6,.ptr 0 1 0 0)],(⟨false,[rI 0 0,rI 0 0]⟩:aT)::H)) (Qu (n+1) i H) (ao _) (af _ _) (ag _ _) (Tr.bf rfl)
 obtain ⟨xc,hc,rfl⟩:=aB (Q:=fun x=>x=(.normal,Jm i false,(⟨false,[rI 0 0,rI 0 0]⟩:aT)::H)) (Qv (n+1) i H) (ao _) (af _ _) (ag _ _) (Tr.bf rfl)
 have hr:=IG n i H hg hE ho
 obtain ⟨b,hs,hbb⟩:=Ru (n+1) i H o
 have hpc:fL (bn (n+1) 90 26) Rf.pick.S Rf.pick.L Rf.pick.suf Rf.pick.pre [(0,.map 1 i),(1,f89)] (av::H)=some (.ret,[(4,.ptr 0 0 0 0),(5,.bool b)],⟨false,[rI (o.getD (0,0)).1 (o.getD (0,0)).2,rI (o.getD (0,0)).1 (o.getD (0,0)).2,(0,.dead)]⟩::H):=by
  show fL (bn (n+1) 90 26) Rf.da Rf.bD Rf.pick.suf [Rf.cR [0] Rf.eR,Rf.cR [1,0] Rf.eR,Rf.cR [1,1,0] Rf.eR] _ _=_
  unfold fL
  rw[cP,ha]
  dsimp only
  unfold fL
  rw[cP,hb]
  dsimp only
  unfold fL
  rw[cP,hc]
  dsimp only
  unfold fL
  rw[hr]
  dsimp only
  rw[cP]
  exact hs
 have ho2:lF (cd (n+1)) 90 [.map 0 i,f89] H=some (Qx o,H):=by
  show tT Try.prog KtL.kt 100000 Rf.pick (cd (n+1)) [.map 0 i,f89] H=_
  unfold tT
  rw[show Try.prog.funcs[Rf.pick.f]?=some Try.f90 from Try.func90]
  dsimp only
  rw[if_pos (by rw[e26];rfl),e26]
  rw[show fL (⟨Try.prog,cd (n+1),100000,Rf.pick.f,26,KtL.kt Rf.pick.f,none⟩:Cx) Rf.pick.S Rf.pick.L Rf.pick.suf Rf.pick.pre (eF 0 [.map 0 i,f89]) (⟨false,[]⟩::H)=_ from hpc]
  dsimp only
  rw[hbb]
  cases o with
  | none=>kernel_rfl
  | some m=>kernel_rfl
 unfold cd
 rw[show cU Try.prog lF KtL.kt 100000 (n+1+1) (.fn 90) [.map 0 i,f89] H=(match lF (cd (n+1)) 90 [.map 0 i,f89] H with
  | some r=>some r
  | none=>_) from rfl,ho2]
end
end Go.Eng
end
