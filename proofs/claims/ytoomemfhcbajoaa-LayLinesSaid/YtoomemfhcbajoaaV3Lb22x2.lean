/- Lay: lists of lists; Grow, Concat. -/
import Derived.Test.YtoomemfhcbajoaaV3Lb14x10
import Derived.Test.YtoomemfhcbajoaaV3EngRnFx5
set_option linter.unusedVariables false
set_option linter.unusedSimpArgs false
set_option maxRecDepth 100000
section
namespace Go.Eng
open Go.Proofs
noncomputable def fF (m:Nat) (f:Nat→Nat→Int) (g:Nat→Nat):AV:=.slcT none (.F (fun j=>bP (g j) (f j) false) m) 1 m false
noncomputable def oE (m:Nat) (f:Nat→Nat→Int) (g:Nat→Nat) (s j:Int):ao:=[(0,fF m f g),(3,.int .i64 s),(9,fF m f g),(10,.int .i64 (Int.ofNat m)),(11,.int .i64 j)]
noncomputable def jX (m:Nat) (f:Nat→Nat→Int) (g:Nat→Nat) (o:AV) (j:Int):ao:=[(6,o),(25,fF m f g),(26,.int .i64 (Int.ofNat m)),(27,.int .i64 j)]
theorem t95 (n:Nat) (k:Int) (l1:aW) (H:aa):aQ (bt n 95 27) (il aH n 0) aN aO (bm Try.f95) (hints [(0,.nils),(1,.int .i64 k)]) (aB::l1::H) =
 Tr.ite (bV k (Int.ofNat 0)) Tr.bad (Tr.ite (bV (Int.ofNat 0) (bB .i64 k (bB .i64 (Int.ofNat 0) (Int.ofNat 0)))) (Tr.req (lQ (Int.ofNat 0) 0) (Tr.req (De (bB .i64 k (bB .i64 (Int.ofNat 0) (Int.ofNat 0))) (bB .i64 k (bB .i64 (Int.ofNat 0) (Int.ofNat 0))) 8) (Tr.ite (bJ (bB .i64 k (bB .i64 (Int.ofNat 0) (Int.ofNat 0))) (Int.ofNat 0)) (Tr.req (lQ (Int.ofNat 0) 0) (Tr.ok (Ex.ret,[(4,AV.nils,none)],aB::l1::H))) (Tr.req (lQ (Int.ofNat 0) (dg (bB .i64 k (bB .i64 (Int.ofNat 0) (Int.ofNat 0))))) (Tr.ok (Ex.ret,[(4,AV.slc 0 0 0 0 1 (dg (Int.ofNat 0)) none,none)],{ lock:=false,bs:=[(0,ak.row (Row.M [ah.arr .i64 (aA []) 0]))] } :: l1::H)))))) (Tr.ok (Ex.ret,[(4,AV.nils,none)],aB::l1::H))):=by kernel_rfl
theorem Tg (n:Nat) (H:aa):aZ Try.prog (cd n) 100000 95 Try.f95 (KtL.kt 95) (il aH n 0) aN aO [(.nils,none),(.int .i64 0,some 0)] H =
 Tr.ite (bV (Int.ofNat 0) (bB .i64 (Int.ofNat 0) (bB .i64 (Int.ofNat 0) (Int.ofNat 0)))) (Tr.req (lQ (Int.ofNat 0) 0) (Tr.req (De (bB .i64 (Int.ofNat 0) (bB .i64 (Int.ofNat 0) (Int.ofNat 0))) (bB .i64 (Int.ofNat 0) (bB .i64 (Int.ofNat 0) (Int.ofNat 0))) 8) (Tr.ite (bJ (bB .i64 (Int.ofNat 0) (bB .i64 (Int.ofNat 0) (Int.ofNat 0))) (Int.ofNat 0)) (Tr.req (lQ (Int.ofNat 0) 0) (Tr.ok ((AV.nils,none),H))) (Tr.req (lQ (Int.ofNat 0) (dg (bB .i64 (Int.ofNat 0) (bB .i64 (Int.ofNat 0) (Int.ofNat 0))))) (Tr.req (cu 0 0) (Tr.req (fW 0 (dg (Int.ofNat 0)) 0 0) (Tr.ok ((AV.slcT none (Row.M [ah.arr .i64 (dE (aA []) 0) (dg (Int.ofNat 0))]) 1 (dg (Int.ofNat 0)) false,none),H)))))))) (Tr.ok ((AV.nils,none),H)):=by kernel_rfl
theorem L7 (n m:Nat) (f:Nat→Nat→Int) (g:Nat→Nat) (s j:Int) (H:aa):aQ (bt n 84 36) (il aH n 0) aN aO (part Try.f84 [1,1,0,1,0,0]) (hints (oE m f g s j)) (aB::H) =
 (fun (Z0:Row)=>Tr.ite (bV j (Int.ofNat m)) (Tr.req (cS j m) (Tr.req (cJ (ar 0 j 1) m) (Tr.ite (bV (bE .i64 s (Int.ofNat (g (ar 0 j 1)))) (Int.ofNat 0)) Tr.bad (Tr.ok (Ex.normal,[(0,AV.slcT none Z0 1 m false,none),(3,AV.int .i64 (bE .i64 s (Int.ofNat (g (ar 0 j 1)))),none),(9,AV.slcT none Z0 1 m false,none),(10,AV.int .i64 (Int.ofNat m),none),(11,AV.int .i64 (bE .i64 j (Int.ofNat 1)),none)],aB::H))))) (Tr.ok (Ex.exit 0,[(0,AV.slcT none Z0 1 m false,none),(3,AV.int .i64 s,none),(9,AV.slcT none Z0 1 m false,none),(10,AV.int .i64 (Int.ofNat m),none),(11,AV.int .i64 j,none),(12,AV.bool false,some 1)],aB::H))) (Row.F (fun j=>AV.slcT none (Row.M [ah.arr .i64 (f j) (g j)]) 1 (g j) false) m):=by kernel_rfl
theorem L9 (n m:Nat) (f:Nat→Nat→Int) (g:Nat→Nat) (j:Int) (H:aa):aQ (bt n 84 36) (il aH n 0) aN aO (part Try.f84 [1,1,1,1,0,1,0,0]) (hints (jX m f g .nils j)) (aB::H) =
 (fun (Z0:Nat×AV×Option Nat)=>Tr.ite (bV j (Int.ofNat m)) (Tr.req (cS j m) (Tr.req (cJ (ar 0 j 1) m) (Tr.ite (cu (g (ar 0 j 1)) 0) (Tr.ok (Ex.normal,[(6,AV.nils,none),Z0,(26,AV.int .i64 (Int.ofNat m),none),(27,AV.int .i64 (bE .i64 j (Int.ofNat 1)),none)],aB::H)) (Tr.req (gx 0 (g (ar 0 j 1)) 8) (Tr.req (ik (g (ar 0 j 1)) (g (ar 0 j 1))) (Tr.req (ik (bY 0 (g (ar 0 j 1))) (g (ar 0 j 1))) (Tr.ok (Ex.normal,[(6,AV.slc 0 0 0 0 1 (g (ar 0 j 1)) none,none),Z0,(26,AV.int .i64 (Int.ofNat m),none),(27,AV.int .i64 (bE .i64 j (Int.ofNat 1)),none)],{ lock:=false,bs:=[(0,ak.row (Row.M [ah.arr .i64 (f (ar 0 j 1)) (g (ar 0 j 1))]))] } :: H)))))))) (Tr.ok (Ex.exit 2,[(6,AV.nils,none),Z0,(26,AV.int .i64 (Int.ofNat m),none),(27,AV.int .i64 j,none),(28,AV.bool false,some 1)],aB::H))) (25,AV.slcT none (Row.F (fun j=>AV.slcT none (Row.M [ah.arr .i64 (f j) (g j)]) 1 (g j) false) m) 1 m false,none):=by kernel_rfl
theorem L8 (n m:Nat) (f:Nat→Nat→Int) (g:Nat→Nat) (v q:Nat) (y:Nat→Int) (j:Int) (H:aa):aQ (bt n 84 36) (il aH n 0) aN aO (part Try.f84 [1,1,1,1,0,1,0,0]) (hints (jX m f g (.slc 0 0 v 0 1 q none) j)) (yF v q y::H) =
 (fun (Z0:Nat×AV×Option Nat)=>Tr.ite (bV j (Int.ofNat m)) (Tr.req (cS j m) (Tr.req (cJ (ar 0 j 1) m) (Tr.ite (cu (g (ar 0 j 1)) 0) (Tr.ok (Ex.normal,[(6,AV.slc 0 0 v 0 1 q none,none),Z0,(26,AV.int .i64 (Int.ofNat m),none),(27,AV.int .i64 (bE .i64 j (Int.ofNat 1)),none)],{ lock:=false,bs:=[(v,ak.row (Row.M [ah.arr .i64 y q]))] } :: H)) (Tr.req (gx q (g (ar 0 j 1)) 8) (Tr.req (ik (g (ar 0 j 1)) (g (ar 0 j 1))) (Tr.req (ik (bY 0 (g (ar 0 j 1))) (g (ar 0 j 1))) (Tr.req (cu v v) (Tr.req (cu (bY 0 q) q) (Tr.ok (Ex.normal,[(6,AV.slc 0 0 (Nat.succ v) 0 1 (bY q (g (ar 0 j 1))) none,none),Z0,(26,AV.int .i64 (Int.ofNat m),none),(27,AV.int .i64 (bE .i64 j (Int.ofNat 1)),none)],{ lock:=false,bs:=[(Nat.succ v,ak.row (Row.M [ah.arr .i64 (lO (dE y 0) q (f (ar 0 j 1))) (bY q (g (ar 0 j 1)))]))] } :: H)))))))))) (Tr.ok (Ex.exit 2,[(6,AV.slc 0 0 v 0 1 q none,none),Z0,(26,AV.int .i64 (Int.ofNat m),none),(27,AV.int .i64 j,none),(28,AV.bool false,some 1)],{ lock:=false,bs:=[(v,ak.row (Row.M [ah.arr .i64 y q]))] } :: H))) (25,AV.slcT none (Row.F (fun j=>AV.slcT none (Row.M [ah.arr .i64 (f j) (g j)]) 1 (g j) false) m) 1 m false,none):=by kernel_rfl
theorem Pq (n m:Nat) (f:Nat→Nat→Int) (g:Nat→Nat) (H:aa):aZ Try.prog (cd n) 100000 84 Try.f84 (KtL.kt 84) (il (Ag aH 95 [.nils,.int .i64 0] (aB::H) (.ok (.nils,aB::H))) n 0) (bZ (bZ aN 2 (jX m f g .nils 0) (aB::H) (.ok (.normal,hints (jX m f g .nils (Int.ofNat m)++[(28,.bool false)]),aB::H))) 0 (oE m f g 0 0) (aB::H) (.ok (.normal,hints (oE m f g 0 (Int.ofNat m)++[(12,.bool false)]),aB::H))) aO [(fF m f g,none)] H =
 (fun (Z0:Row)=>((fun (Z1:ao)=>((fun (Z2:ao)=>Tr.reqP (Z1=Z1∧aB::H=aB::H) (Tr.reqP ([AV.nils,AV.int .i64 (Int.ofNat 0)]=[AV.nils,AV.int .i64 (Int.ofNat 0)]∧aB::H=aB::H) (Tr.reqP (Z2=Z2∧aB::H=aB::H) (Tr.ok ((AV.nils,none),H))))) [(6,AV.nils),(25,AV.slcT none Z0 1 m false),(26,AV.int .i64 (Int.ofNat m)),(27,AV.int .i64 (Int.ofNat 0))])) [(0,AV.slcT none Z0 1 m false),(3,AV.int .i64 (Int.ofNat 0)),(9,AV.slcT none Z0 1 m false),(10,AV.int .i64 (Int.ofNat m)),(11,AV.int .i64 (Int.ofNat 0))])) (Row.F (fun j=>AV.slcT none (Row.M [ah.arr .i64 (f j) (g j)]) 1 (g j) false) m):=by kernel_rfl
theorem S9 (n m:Nat) (f:Nat→Nat→Int) (g:Nat→Nat) (s:Int) (v q:Nat) (y:Nat→Int) (H:aa):aZ Try.prog (cd n) 100000 84 Try.f84 (KtL.kt 84) (il (Ag aH 95 [.nils,.int .i64 s] (aB::H) (.ok (.slc 0 0 0 0 1 0 none,yF 0 0 (aA [])::H))) n 0) (bZ (bZ aN 2 (jX m f g (.slc 0 0 0 0 1 0 none) 0) (yF 0 0 (aA [])::H) (.ok (.normal,hints (jX m f g (.slc 0 0 v 0 1 q none) (Int.ofNat m)++[(28,.bool false)]),yF v q y::H))) 0 (oE m f g 0 0) (aB::H) (.ok (.normal,hints (oE m f g s (Int.ofNat m)++[(12,.bool false)]),aB::H))) aO [(fF m f g,none)] H =
 (fun (Z0:Row)=>((fun (Z1:ao)=>((fun (Z2:ao)=>Tr.reqP (Z1=Z1∧aB::H=aB::H) (Tr.reqP ([AV.nils,AV.int .i64 s]=[AV.nils,AV.int .i64 s]∧aB::H=aB::H) (Tr.reqP (Z2=Z2∧{ lock:=false,bs:=[(0,ak.row (Row.M [ah.arr .i64 (aA []) 0]))] } :: H={ lock:=false,bs:=[(0,ak.row (Row.M [ah.arr .i64 (aA []) 0]))] } :: H) (Tr.req (cu v v) (Tr.req (fW 0 q 0 q) (Tr.ok ((AV.slcT none (Row.M [ah.arr .i64 (dE y 0) q]) 1 q false,none),H))))))) [(6,AV.slc 0 0 0 0 1 0 none),(25,AV.slcT none Z0 1 m false),(26,AV.int .i64 (Int.ofNat m)),(27,AV.int .i64 (Int.ofNat 0))])) [(0,AV.slcT none Z0 1 m false),(3,AV.int .i64 (Int.ofNat 0)),(9,AV.slcT none Z0 1 m false),(10,AV.int .i64 (Int.ofNat m)),(11,AV.int .i64 (Int.ofNat 0))])) (Row.F (fun j=>AV.slcT none (Row.M [ah.arr .i64 (f j) (g j)]) 1 (g j) false) m):=by kernel_rfl
theorem t24 (n m:Nat) (f:Nat→Nat→Int) (g:Nat→Nat) (j:Int) (H:aa):aQ (bt n 24 19) (il aH n 0) aN aO (part Try.f24 [1,1,0,1,0,0]) (hints [(0,fF m f g),(3,.int .i64 j)]) (aB::H) =
 (fun (Z0:Nat×AV×Option Nat)=>Tr.ite (bV j (Int.ofNat m)) (Tr.req (cS j m) (Tr.req (cJ (ar 0 j 1) m) (Tr.ite (bV (Int.ofNat 40) (Int.ofNat (g (ar 0 j 1)))) (Tr.ok (Ex.ret,[(2,AV.bool true,some 1)],aB::H)) (Tr.ok (Ex.normal,[Z0,(3,AV.int .i64 (bE .i64 j (Int.ofNat 1)),none)],aB::H))))) (Tr.ok (Ex.exit 0,[Z0,(3,AV.int .i64 j,none),(10,AV.bool false,some 1)],aB::H))) (0,AV.slcT none (Row.F (fun j=>AV.slcT none (Row.M [ah.arr .i64 (f j) (g j)]) 1 (g j) false) m) 1 m false,none):=by kernel_rfl
theorem SN (n m:Nat) (f:Nat→Nat→Int) (g:Nat→Nat) (b:Bool) (H:aa):aZ Try.prog (cd n) 100000 24 Try.f24 (KtL.kt 24) (il aH n 0) (bZ aN 0 [(0,fF m f g),(3,.int .i64 0)] (aB::H) (.ite b (.ok (.ret,[(2,.bool true,some 1)],aB::H)) (.ok (.normal,hints [(0,fF m f g),(3,.int .i64 (Int.ofNat m)),(10,.bool false)],aB::H)))) aO [(fF m f g,none)] H =
 (fun (Z0:ao)=>Tr.ite (bV (Int.ofNat 50) (Int.ofNat m)) (Tr.ok ((AV.bool true,some 1),H)) (Tr.reqP (Z0=Z0∧aB::H=aB::H) (Tr.ite b (Tr.ok ((AV.bool true,some 1),H)) (Tr.ok ((AV.bool false,some 1),H))))) [(0,AV.slcT none (Row.F (fun j=>AV.slcT none (Row.M [ah.arr .i64 (f j) (g j)]) 1 (g j) false) m) 1 m false),(3,AV.int .i64 (Int.ofNat 0))]:=by kernel_rfl
theorem O4 (n m:Nat) (f:Nat→Nat→Int) (g:Nat→Nat) (H:aa):aZ Try.prog (cd n) 100000 24 Try.f24 (KtL.kt 24) (il aH n 0) (mw aN 0) aO [(fF m f g,none)] H =
 Tr.ite (bV (Int.ofNat 50) (Int.ofNat m)) (Tr.ok ((AV.bool true,some 1),H)) Tr.bad:=by kernel_rfl
theorem P3:∀ b,(0,b) ∈ aJ (bm Try.f24)→b=.loop (part Try.f24 [1,1,0,1,0,0]):=fa (by kernel_rfl)
theorem Kx:∀ b,(0,b) ∈ aJ (bm Try.f84)→b=.loop (part Try.f84 [1,1,0,1,0,0]):=fa (by kernel_rfl)
theorem Ky:∀ b,(2,b) ∈ aJ (bm Try.f84)→b=.loop (part Try.f84 [1,1,1,1,0,1,0,0]):=fa (by kernel_rfl)
def bD (g:Nat→Nat):Nat→Nat
 | 0=>0
 | j+1=>bD g j+g j
noncomputable def lR (f:Nat→Nat→Int) (g:Nat→Nat):Nat→(Nat→Int)
 | 0=>aA []
 | j+1=>if g j=0 then lR f g j else lO (lR f g j) (bD g j) (f j)
def zR (g:Nat→Nat):Nat→Nat
 | 0=>0
 | j+1=>if g j=0 then zR g j else zR g j+1
theorem pq {g:Nat→Nat} {B:Nat}:∀ m,(∀ j,j<m→g j≤B)→bD g m≤m*B
 | 0,_=>by show 0≤_;omega
 | m+1,h=>by
   have h1:=pq m (fun j hj=>h j (by omega))
   have h2:=h m (by omega)
   show bD g m+g m≤(m+1)*B
   rw[Nat.add_mul,Nat.one_mul];omega
theorem DH (g:Nat→Nat) {a b:Nat} (h:a≤b):bD g a≤bD g b:=by
 induction b with
 | zero =>
   have e:a=0:=Nat.le_zero.1 h
   rw[e];exact Nat.le_refl _
 | succ b ih =>
   by_cases c:a=b+1
   · subst c;exact Nat.le_refl _
   · have:=ih (by omega)
     show _≤bD g b+g b
     omega
theorem vR (f:Nat→Nat→Int) (g:Nat→Nat) (p:Int→Prop):∀ m,(∀ i,i<bD g m→p (lR f g m i))↔∀ j,j<m→∀ i,i<g j→p (f j i)
 | 0=>⟨fun _ j hj=>by omega,fun _ i hi=>by exact absurd hi (by show ¬ i<0;omega)⟩
 | m + 1 => by
   have ih:=vR f g p m
   have et:bD g (m+1)=bD g m+g m:=rfl
   by_cases c:g m=0
   · have ez:lR f g (m+1)=lR f g m:=by show (if g m=0 then _ else _)=_;rw[if_pos c]
     rw[ez,et,c,Nat.add_zero,ih]
     constructor
     · intro h j hj i hi
       by_cases e:j=m
       · subst e;omega
       · exact h j (by omega) i hi
     · intro h j hj i hi;exact h j (by omega) i hi
   · have ez:lR f g (m+1)=lO (lR f g m) (bD g m) (f m):=by show (if g m=0 then _ else _)=_;rw[if_neg c]
     have ea:∀ i,lR f g (m+1) i=if i<bD g m then lR f g m i else f m (i-bD g m):=fun i=>by rw[ez,oa]
     rw[et]
     constructor
     · intro h j hj i hi
       by_cases e:j=m
       · subst e
         have:=h (bD g j+i) (by omega)
         rw[ea,if_neg (by omega),show bD g j+i-bD g j=i by omega] at this
         exact this
       · refine ih.1 (fun q hq=>?_) j (by omega) i hi
         have:=h q (by omega)
         rw[ea,if_pos hq] at this;exact this
     · intro h i hi
       rw[ea]
       by_cases e:i<bD g m
       · rw[if_pos e]
         exact ih.2 (fun j hj=>h j (by omega)) i e
       · rw[if_neg e]
         exact h m (by omega) _ (by omega)
section
variable (n m:Nat) (f:Nat→Nat→Int) (g:Nat→Nat) (H:aa)
theorem Qj:cd (n+1) (.fn 24) [fF m f g] H=some (.bool (decide (50<m) || cU (fun j=>decide (40<g j)) m),H):=by
 by_cases c:50<m
 · rw[decide_eq_true c,Bool.true_or]
   refine aL (n:=n) Try.func24 rfl rfl rfl (O4 n m f g H) (av _) (dW (af _ _) 0) (ag _ _) ?_
   exact wF
 · rw [decide_eq_false c,Bool.false_or]
   have hx:=lA (n:=n) (f:=24) (nt:=19) (c:=part Try.f24 [1,1,0,1,0,0]) 0 (fun j=>[(0,fF m f g),(3,.int .i64 (j:Nat))]) (fun _=>aB::H) m (fun j=>decide (40<g j)) (fun j=>([(2,.bool true)],aB::H)) ([(0,fF m f g),(3,.int .i64 (Int.ofNat m)),(10,.bool false)],aB::H) (by omega) (fun j hj=>?_) ?_
   · refine aL (n:=n) Try.func24 rfl rfl rfl (SN n m f g (cU (fun j=>decide (40<g j)) m) H) (av _) (aD (af _ _) P3 (fun x hy=>fp hy hx)) (ag _ _) ?_
     generalize cU (fun j=>decide (40<g j)) m=B at *
     cases B
     all_goals
      exact wF
   · refine aK (t24 n m f g (j:Nat) H) (av n) (af _ _) (ag _ _) ?_
     show Tr.all _ (fun r=>if decide (40<g j)=true then _ else _)
     rw[dx (j:=j) (by omega)]
     simp only[jo]
     by_cases e:40<g j
     · simp only[e,decide_true,if_true]
       exact wF
     · simp only[e,decide_false,Bool.false_eq_true,if_false]
       exact wF
   · exact cW (t24 n m f g (Int.ofNat m) H) (av n) (af _ _) (ag _ _) (by first | (simp (disch:=omega) only[nV,nW];done) | (simp (disch:=omega) only[nV,nW];omega))
theorem N5 (hm:m≤1000) (hg:∀ j,j<m→g j≤1000):exec (bt n 84 36) (.block 0 (.loop (part Try.f84 [1,1,0,1,0,0]))) (oE m f g 0 0) (aB::H)=some (.normal,oE m f g (bD g m:Nat) (Int.ofNat m)++[(12,.bool false)],aB::H):=by
 refine jD (n:=n) (f:=84) (nt:=36) (c:=part Try.f84 [1,1,0,1,0,0]) 0 (fun j=>oE m f g (bD g j:Nat) (j:Nat)) (fun _=>aB::H) m _ (by omega) (fun j hj=>?_) ?_
 · have h1:=pq (g:=g) (B:=1000) j (fun i hi=>hg i (by omega))
   have h2:=hg j hj
   have h3:j*1000≤1000*1000:=Nat.mul_le_mul_right 1000 (by omega)
   have e1:bE .i64 (bD g j:Nat) (Int.ofNat (g j))=((bD g j+g j:Nat):Int):=by rw[Cz (by show _≤(bD g j:Int)+(g j:Int);omega) (by show (bD g j:Int)+(g j:Int)≤_;omega)];show (bD g j:Int)+(g j:Int)=_;omega
   refine aK (L7 n m f g (bD g j:Nat) (j:Nat) H) (av n) (af _ _) (ag _ _) ?_
   show Tr.all _ (fun r=>_∧tidy _ _ _=(oE m f g ((bD g j+g j:Nat):Int) ((j+1:Nat):Int),_))
   rw[dx (j:=j) (by omega)]
   simp only[jo,e1]
   generalize bD g j+g j=S at *
   generalize bD g j=S0 at *
   exact wF
 · exact cW (L7 n m f g (bD g m:Nat) (Int.ofNat m) H) (av n) (af _ _) (ag _ _) (by first | (simp (disch:=omega) only[nV,nW];done) | (simp (disch:=omega) only[nV,nW];omega))
theorem N6 (hm:m≤1000) (hg:∀ j,j<m→g j≤1000):exec (bt n 84 36) (.block 2 (.loop (part Try.f84 [1,1,1,1,0,1,0,0]))) (jX m f g (.slc 0 0 0 0 1 0 none) 0) (yF 0 0 (aA [])::H)=some (.normal,jX m f g (.slc 0 0 (zR g m) 0 1 (bD g m) none) (Int.ofNat m)++[(28,.bool false)],yF (zR g m) (bD g m) (lR f g m)::H):=by
 refine jD (n:=n) (f:=84) (nt:=36) (c:=part Try.f84 [1,1,1,1,0,1,0,0]) 2 (fun j=>jX m f g (.slc 0 0 (zR g j) 0 1 (bD g j) none) (j:Nat)) (fun j=>yF (zR g j) (bD g j) (lR f g j)::H) m _ (by omega) (fun j hj=>?_) ?_
 · have h1:=pq (g:=g) (B:=1000) j (fun i hi=>hg i (by omega))
   have h2:=hg j hj
   have h3:j*1000≤1000*1000:=Nat.mul_le_mul_right 1000 (by omega)
   refine aK (L8 n m f g (zR g j) (bD g j) (lR f g j) (j:Nat) H) (av n) (af _ _) (ag _ _) ?_
   have ez:lR f g (j+1)=if g j=0 then lR f g j else lO (lR f g j) (bD g j) (f j):=rfl
   have ev:zR g (j+1)=if g j=0 then zR g j else zR g j+1:=rfl
   show Tr.all _ (fun r=>_∧tidy _ _ _=(jX m f g (.slc 0 0 (zR g (j+1)) 0 1 (bD g j+g j) none) ((j+1:Nat):Int),yF (zR g (j+1)) (bD g j+g j) (lR f g (j+1))::H))
   have ea:bY (bD g j) (g j)=bD g j+g j:=bH _ _
   rw[ez,ev,dx (j:=j) (by omega),c5]
   simp only[jo,ea]
   by_cases c:g j=0
   · rw[if_pos c,if_pos c,c,Nat.add_zero]
     generalize lR f g j=Z at *
     generalize bD g j=S at *
     generalize zR g j=V at *
     exact wF
   · rw[if_neg c,if_neg c]
     generalize lO (lR f g j) (bD g j) (f j)=Z2 at *
     generalize lR f g j=Z at *
     generalize bD g j=S at *
     generalize zR g j=V at *
     generalize g j=G at *
     exact wF
 · exact cW (L8 n m f g (zR g m) (bD g m) (lR f g m) (Int.ofNat m) H) (av n) (af _ _) (ag _ _) (by first | (simp (disch:=omega) only[nV,nW];done) | (simp (disch:=omega) only[nV,nW];omega))
theorem N7 (hm:m≤1000) (hg:∀ j,j<m→g j=0):exec (bt n 84 36) (.block 2 (.loop (part Try.f84 [1,1,1,1,0,1,0,0]))) (jX m f g .nils 0) (aB::H)=some (.normal,jX m f g .nils (Int.ofNat m)++[(28,.bool false)],aB::H):=by
 refine jD (n:=n) (f:=84) (nt:=36) (c:=part Try.f84 [1,1,1,1,0,1,0,0]) 2 (fun j=>jX m f g .nils (j:Nat)) (fun j=>aB::H) m _ (by omega) (fun j hj=>?_) ?_
 · have h2:=hg j hj
   refine aK (L9 n m f g (j:Nat) H) (av n) (af _ _) (ag _ _) ?_
   rw[dx (j:=j) (by omega)]
   simp only[jo,h2]
   exact wF
 · exact cW (L9 n m f g (Int.ofNat m) H) (av n) (af _ _) (ag _ _) (by first | (simp (disch:=omega) only[nV,nW];done) | (simp (disch:=omega) only[nV,nW];omega))
theorem Im (args:List AV):ld (cd n) 95 args H=na Try.prog KtL.kt 100000 95 (cd n) args H:=rfl
theorem Tm (k:Int) (hk:0<k) (hk2:k≤1000000) (l1:aW):exec (bt n 95 27) (bm Try.f95) [(0,.nils),(1,.int .i64 k)] (aB::l1::H)=some (.ret,[(4,.slc 0 0 0 0 1 0 none)],(⟨false,[(0,.row (.M [.arr .i64 (aA []) 0]))]⟩:aW)::l1::H):=by
 obtain ⟨x,hx,rfl⟩:=aK (Q:=fun x=>x=(.ret,[(4,.slc 0 0 0 0 1 0 none)],(⟨false,[(0,.row (.M [.arr .i64 (aA []) 0]))]⟩:aW)::l1::H)) (t95 n k l1 H) (av n) (af _ _) (ag _ _) (by
  have e1:bB .i64 (Int.ofNat 0) (Int.ofNat 0)=0:=qt (by decide) (by decide)
  have e2:bB .i64 k 0=k:=by rw[qt (by omega) (by omega),Int.sub_zero]
  have e3:dg (Int.ofNat 0)=0:=by rw[lu];rfl
  have e4:dg k=k.toNat:=lu k
  have e5:De k k 8=true:=by rw[wC,decide_eq_true_eq];unfold room;omega
  simp only[e1,e2,e3,e4,e5]
  exact wF)
 exact hx
theorem QH (k:Int) (hk:0<k) (hk2:k≤1000000) (bs:List (Nat×ak)):cd (n+1) (.fn 95) [.nils,.int .i64 k] (⟨false,bs⟩::H)=some (.slc 0 bs.length 0 0 1 0 none,⟨false,bs++[(0,.row (.M [.arr .i64 (aA []) 0]))]⟩::H):=by
 have hx:=Tm n H k hk hk2 ⟨false,bs⟩
 have e8:Try.f95.ntmps=27:=by kernel_rfl
 have eb:Try.f95.body=some (bm Try.f95):=by kernel_rfl
 have er:Try.f95.results.toList=[.tmp 4]:=by kernel_rfl
 have:ld (cd n) 95 [.nils,.int .i64 k] (⟨false,bs⟩::H)=some (.slc 0 bs.length 0 0 1 0 none,⟨false,bs++[(0,.row (.M [.arr .i64 (aA []) 0]))]⟩::H):=by
  rw[Im]
  unfold na
  rw[Try.func95];dsimp only
  rw[eb];dsimp only
  rw[if_pos (by rw[e8];rfl),cI,e8]
  rw[show exec (⟨Try.prog,cd n,100000,95,27,KtL.kt 95,none⟩:Cx) (bm Try.f95) (ef 0 [.nils,.int .i64 k]) (⟨false,[]⟩::⟨false,bs⟩::H)=_ from hx]
  dsimp only
  rw[er];rfl
 unfold cd
 rw[show cM Try.prog ld KtL.kt 100000 (n+1) (.fn 95) [.nils,.int .i64 k] (⟨false,bs⟩::H)=(match ld (cd n) 95 [.nils,.int .i64 k] (⟨false,bs⟩::H) with
  | some r=>some r
  | none=>_) from rfl,this]
theorem Nc (bs:List (Nat×ak)):cd (n+1) (.fn 95) [.nils,.int .i64 0] (⟨false,bs⟩::H)=some (.nils,⟨false,bs⟩::H):=by
 have e8:Try.f95.ntmps=27:=by kernel_rfl
 have eb:Try.f95.body=some (bm Try.f95):=by kernel_rfl
 have er:Try.f95.results.toList=[.tmp 4]:=by kernel_rfl
 have hx:exec (bt n 95 27) (bm Try.f95) [(0,.nils),(1,.int .i64 0)] (aB::⟨false,bs⟩::H)=some (.ret,[(4,.nils)],aB::⟨false,bs⟩::H):=by
  obtain ⟨x,hx,rfl⟩:=aK (Q:=fun x=>x=(.ret,[(4,.nils)],aB::(⟨false,bs⟩:aW)::H)) (t95 n 0 ⟨false,bs⟩ H) (av n) (af _ _) (ag _ _) (by
   have e1:bB .i64 (Int.ofNat 0) (Int.ofNat 0)=0:=qt (by decide) (by decide)
   have e2:bB .i64 0 0=0:=qt (by decide) (by decide)
   simp only[e1,e2]
   exact wF)
  exact hx
 have ho:ld (cd n) 95 (pG [(.nils,none),(.int .i64 0,some 0)]) (⟨false,bs⟩::H)=none:=by
  rw[Im]
  unfold na
  rw[Try.func95];dsimp only
  rw[eb];dsimp only
  rw[if_pos (by rw[e8];rfl),cI,e8]
  rw[show exec (⟨Try.prog,cd n,100000,95,27,KtL.kt 95,none⟩:Cx) (bm Try.f95) (ef 0 (pG [(.nils,none),(.int .i64 0,some 0)])) (⟨false,[]⟩::⟨false,bs⟩::H)=_ from hx]
  dsimp only
  rw[er];rfl
 obtain ⟨y,h1,h2,h3⟩:Tr.all (aZ Try.prog (cd n) 100000 95 Try.f95 (KtL.kt 95) (il aH n 0) aN aO [(.nils,none),(.int .i64 0,some 0)] (⟨false,bs⟩::H)) (fun y=>y.1.1=.nils∧y.2=⟨false,bs⟩::H):=by
  rw[Tg]
  exact wF
 have:=rX (f:=95) Try.func95 rfl ho rfl (av n) (af _ _) (ag _ _) h1
 rw[h2,h3] at this
 exact this
noncomputable def I1 (m:Nat) (f:Nat→Nat→Int) (g:Nat→Nat):AV:=if bD g m=0 then .nils else bP (bD g m) (lR f g m) false
theorem DI {g:Nat→Nat} {m:Nat} (h:bD g m=0):∀ j,j<m→g j=0:=fun j hj=>by
 have:=DH g (show j+1≤m by omega)
 have e:bD g (j+1)=bD g j+g j:=rfl
 omega
theorem Qy (hm:m≤100) (hg:∀ j,j<m→g j≤1000):cd (n+2) (.fn 84) [fF m f g] H=some (I1 m f g,H):=by
 have hxa:=N5 (n+1) m f g H (by omega) hg
 have ht:=pq (g:=g) (B:=1000) m hg
 unfold I1
 by_cases c:bD g m=0
 · rw[if_pos c]
   rw[c] at hxa
   have hxb:=N7 (n+1) m f g H (by omega) (DI c)
   refine aL (n:=n+1) Try.func84 rfl rfl rfl (Pq (n+1) m f g H) (aS _ (n+1) (ie (aG _) (fun x hy=>by rw[← Tr.ab hy];exact Nc n H []))) (aD (aD (af _ _) Ky (fun x hy=>bL hy hxb)) Kx (fun x hy=>bL hy hxa)) (ag _ _) ?_
   exact wF
 · rw[if_neg c]
   have hxb:=N6 (n+1) m f g H (by omega) hg
   refine aL (n:=n+1) Try.func84 rfl rfl rfl (S9 (n+1) m f g (bD g m:Nat) (zR g m) (bD g m) (lR f g m) H) (aS _ (n+1) (ie (aG _) (fun x hy=>by rw[← Tr.ab hy];exact QH n H _ (by omega) (by omega) []))) (aD (aD (af _ _) Ky (fun x hy=>bL hy hxb)) Kx (fun x hy=>bL hy hxa)) (ag _ _) ?_
   rw[c5]
   generalize lR f g m=Z at *
   generalize bD g m=S at *
   generalize zR g m=V at *
   exact wF
end
end Go.Eng
end
section
namespace Go.Eng
open Go.Proofs
noncomputable def rI (x y:Int):Nat×ak:=(0,.row (.I .i64 [x,y]))
noncomputable def f89:AV:=.fn (.func 89) [] []
noncomputable def H8 (i:Nat) (x:Bool):ao:=[(0,.map 1 i),(1,f89),(4,.ptr 0 0 0 0),(6,.ptr 0 1 0 0),(7,.bool x)]
noncomputable def K4 (i:Nat):ao:=[(0,.map 1 i),(1,f89),(4,.ptr 0 0 0 0),(6,.ptr 0 1 0 0),(7,.bool false),(9,.map 1 i),(10,.ptr 0 2 0 0)]
noncomputable def K5:ao:=[(1,f89),(4,.ptr 0 0 0 0),(6,.ptr 0 1 0 0),(7,.bool true),(10,.ptr 0 2 0 0)]
noncomputable def Nk (L:Int→Int→Int→Int→Bool):List AV→Option (Prop×AV)
 | [.agg (.I .i64 [a,b]),.agg (.I .i64 [x,y])]=>some (True,.bool (L a b x y))
 | _=>none
theorem Oz (n i:Nat) (H:aa):aQ (bt n 90 26) (il aH n 0) aN aO (Rf.cK [0] Rf.eD) (hints [(0,.map 1 i),(1,f89)]) (aB::H) =
 Tr.ok (Ex.normal,[(0,AV.map 1 i,none),(1,AV.fn (Fn.func 89) [] [],none),(4,AV.ptr 0 0 0 0,none)],{ lock:=false,bs:=[(0,ak.row (Row.I .i64 [Int.ofNat 0,Int.ofNat 0]))] } :: H):=by kernel_rfl
theorem Td (n:Nat) (a b x y:Int) (H:aa):aZ Try.prog (cd n) 100000 89 Try.f89 (KtL.kt 89) (il aH n 0) aN aO [(.agg (.I .i64 [a,b]),none),(.agg (.I .i64 [x,y]),none)] H =
 Tr.ite (ay (bJ a x)) (Tr.ok ((AV.bool (bV a x),none),H)) (Tr.ok ((AV.bool (bV b y),none),H)):=by kernel_rfl
theorem OA (n i:Nat) (H:aa):aQ (bt n 90 26) (il aH n 0) aN aO (Rf.cK [1,0] Rf.eD) (hints [(0,.map 1 i),(1,f89),(4,.ptr 0 0 0 0)]) (⟨false,[rI 0 0]⟩::H) =
 Tr.ok (Ex.normal,[(0,AV.map 1 i,none),(1,AV.fn (Fn.func 89) [] [],none),(4,AV.ptr 0 0 0 0,none),(6,AV.ptr 0 1 0 0,none)],{ lock:=false,bs:=[(0,ak.row (Row.I .i64 [Int.ofNat 0,Int.ofNat 0])),(0,ak.row (Row.I .i64 [Int.ofNat 0,Int.ofNat 0]))] } :: H):=by kernel_rfl
theorem OB (n i:Nat) (H:aa):aQ (bt n 90 26) (il aH n 0) aN aO (Rf.cK [1,1,0] Rf.eD) (hints [(0,.map 1 i),(1,f89),(4,.ptr 0 0 0 0),(6,.ptr 0 1 0 0)]) (⟨false,[rI 0 0,rI 0 0]⟩::H) =
 Tr.ok (Ex.normal,[(0,AV.map 1 i,none),(1,AV.fn (Fn.func 89) [] [],none),(4,AV.ptr 0 0 0 0,none),(6,AV.ptr 0 1 0 0,none),(7,AV.bool false,some 1)],{ lock:=false,bs:=[(0,ak.row (Row.I .i64 [Int.ofNat 0,Int.ofNat 0])),(0,ak.row (Row.I .i64 [Int.ofNat 0,Int.ofNat 0]))] } :: H):=by kernel_rfl
theorem OC (n i:Nat) (H:aa):Rf.cY.LD (bt n 90 26) (il aH n 0) (hints (H8 i false)) (⟨false,[rI 0 0,rI 0 0]⟩::H) =
 Tr.ok ([(0,AV.map 1 i,none),(1,AV.fn (Fn.func 89) [] [],none),(4,AV.ptr 0 0 0 0,none),(6,AV.ptr 0 1 0 0,none),(7,AV.bool false,none),(9,AV.map 1 i,none)],{ lock:=false,bs:=[(0,ak.row (Row.I .i64 [Int.ofNat 0,Int.ofNat 0])),(0,ak.row (Row.I .i64 [Int.ofNat 0,Int.ofNat 0]))] } :: H):=by kernel_rfl
theorem Lz (n i:Nat) (R:aa) (a b v:Int):Rf.bA.tb (bt n 90 26) (il aH n 0) aN aO 2 3 (.agg (.I .i64 [a,b]),.int .i64 v) (hints (K4 i)) (⟨false,[rI 0 0,rI 0 0,(0,.dead)]⟩::R) =
 Tr.ite (ay false) (Tr.ok ([(1,AV.fn (Fn.func 89) [] [],none),(4,AV.ptr 0 0 0 0,none),(6,AV.ptr 0 1 0 0,none),(7,AV.bool true,some 1),(10,AV.ptr 0 2 0 0,none)],{ lock:=false,bs:=[(0,ak.row (Row.I .i64 [Int.ofNat 0,Int.ofNat 0])),(0,ak.row (Row.I .i64 [a,b])),(0,ak.dead)] } :: R)) Tr.bad:=by kernel_rfl
theorem Io (n:Nat) (R:aa) (a b v x y:Int) (L:Int→Int→Int→Int→Bool):Rf.bA.tb (bt n 90 26) (il (Ah aH 89 (Nk L)) n 0) aN aO 2 3 (.agg (.I .i64 [a,b]),.int .i64 v) (hints K5) (⟨false,[rI 0 0,rI x y,(0,.dead)]⟩::R) =
 (fun (Z0:aI)=>((fun (Z1:aW)=>Tr.ite (ay true) (Tr.ok (Z0,Z1::R)) (Tr.reqP True (Tr.ite (L a b x y) (Tr.ok (Z0,Z1::R)) (Tr.ok ([(1,AV.fn (Fn.func 89) [] [],none),(4,AV.ptr 0 0 0 0,none),(6,AV.ptr 0 1 0 0,none),(7,AV.bool true,none),(10,AV.ptr 0 2 0 0,none)],{ lock:=false,bs:=[(0,ak.row (Row.I .i64 [Int.ofNat 0,Int.ofNat 0])),(0,ak.row (Row.I .i64 [x,y])),(0,ak.dead)] } :: R))))) { lock:=false,bs:=[(0,ak.row (Row.I .i64 [Int.ofNat 0,Int.ofNat 0])),(0,ak.row (Row.I .i64 [a,b])),(0,ak.dead)] })) [(1,AV.fn (Fn.func 89) [] [],none),(4,AV.ptr 0 0 0 0,none),(6,AV.ptr 0 1 0 0,none),(7,AV.bool true,some 1),(10,AV.ptr 0 2 0 0,none)]:=by kernel_rfl
theorem Lx (n i:Nat) (R:aa):Rf.bA.yw (bt n 90 26) (il aH n 0) (hints (K4 i)) (⟨false,[rI 0 0,rI 0 0,(0,.dead)]⟩::R) =
 Tr.ok ([(0,AV.map 1 i,none),(1,AV.fn (Fn.func 89) [] [],none),(4,AV.ptr 0 0 0 0,none),(6,AV.ptr 0 1 0 0,none),(7,AV.bool false,none),(9,AV.map 1 i,none),(10,AV.ptr 0 2 0 0,none),(11,AV.tup [AV.bool false],none),(12,AV.bool false,none)],{ lock:=false,bs:=[(0,ak.row (Row.I .i64 [Int.ofNat 0,Int.ofNat 0])),(0,ak.row (Row.I .i64 [Int.ofNat 0,Int.ofNat 0])),(0,ak.dead)] } :: R):=by kernel_rfl
theorem Ly (n:Nat) (R:aa) (x y:Int):Rf.bA.yw (bt n 90 26) (il aH n 0) (hints K5) (⟨false,[rI 0 0,rI x y,(0,.dead)]⟩::R) =
 Tr.ok ([(1,AV.fn (Fn.func 89) [] [],none),(4,AV.ptr 0 0 0 0,none),(6,AV.ptr 0 1 0 0,none),(7,AV.bool true,none),(10,AV.ptr 0 2 0 0,none),(11,AV.tup [AV.bool false],none),(12,AV.bool false,none)],{ lock:=false,bs:=[(0,ak.row (Row.I .i64 [Int.ofNat 0,Int.ofNat 0])),(0,ak.row (Row.I .i64 [x,y])),(0,ak.dead)] } :: R):=by kernel_rfl
theorem LA (n i:Nat) (R:aa):aQ (bt n 90 26) (il aH n 0) aN aO Rf.pick.suf (hints (K4 i++[(11,.tup [.bool false]),(12,.bool false)])) (⟨false,[rI 0 0,rI 0 0,(0,.dead)]⟩::R) =
 Tr.ok (Ex.ret,[(4,AV.ptr 0 0 0 0,none),(5,AV.bool false,none)],{ lock:=false,bs:=[(0,ak.row (Row.I .i64 [Int.ofNat 0,Int.ofNat 0])),(0,ak.row (Row.I .i64 [Int.ofNat 0,Int.ofNat 0])),(0,ak.dead)] } :: R):=by kernel_rfl
theorem LB (n:Nat) (R:aa) (x y:Int):aQ (bt n 90 26) (il aH n 0) aN aO Rf.pick.suf (hints (K5++[(11,.tup [.bool false]),(12,.bool false)])) (⟨false,[rI 0 0,rI x y,(0,.dead)]⟩::R) =
 Tr.ok (Ex.ret,[(4,AV.ptr 0 0 0 0,none),(5,AV.bool true,none)],{ lock:=false,bs:=[(0,ak.row (Row.I .i64 [x,y])),(0,ak.row (Row.I .i64 [x,y])),(0,ak.dead)] } :: R):=by kernel_rfl
def fb (a b x y:Int):Bool:=if a=x then decide (b<y) else decide (a<x)
theorem QD (n:Nat) (a b x y:Int) (H:aa):cd (n+1) (.fn 89) [.agg (.I .i64 [a,b]),.agg (.I .i64 [x,y])] H=some (.bool (fb a b x y),H):=by
 refine aL (n:=n) Try.func89 rfl rfl rfl (Td n a b x y H) (av _) (af _ _) (ag _ _) ?_
 rw[eL,eL]
 unfold fb
 by_cases c:a=x
 · rw[if_pos c]
   exact wF
 · rw[if_neg c]
   exact wF
theorem EI (n:Nat):(Ah aH 89 (Nk fb)).Ok (cd (n+1)):=by
 refine pL (aG _) (fun args p v hg hp H=>?_)
 unfold Nk at hg
 split at hg
 · simp only[nP] at hg
   obtain ⟨_,rfl⟩:=hg
   exact QD n _ _ _ _ H
 · cases hg
def BP (o:Option (Int×Int)) (e:Int×Int×Int):Option (Int×Int) :=
 match o with
 | none=>some (e.1,e.2.1)
 | some m=>if fb e.1 e.2.1 m.1 m.2=true then some (e.1,e.2.1) else some m
noncomputable def Kl (e:Int×Int×Int):AV×AV:=(.agg (.I .i64 [e.1,e.2.1]),.int .i64 e.2.2)
noncomputable def DO (i:Nat) (o:Option (Int×Int)):ao×aW :=
 match o with
 | none=>(K4 i,⟨false,[rI 0 0,rI 0 0,(0,.dead)]⟩)
 | some m=>(K5,⟨false,[rI 0 0,rI m.1 m.2,(0,.dead)]⟩)
theorem FD {L:bp} {cx:Cx} {callR:bG} {bl:gR} {rg:rP} {k n:Nat} {kv:AV×AV} {fr fr':ao} {l l':aW} {R:aa} {T:Tr (aI×aa)} (e:L.tb cx callR bl rg k n kv (hints fr) (l::R)=T) (hC:callR.Ok cx.call) (hB:bl.Ok cx L.rest) (hR:rg.Ok cx L.rest)
 (h:T.all fun y=>strip y.1=fr'∧y.2=l'::R):dM L cx k n R kv (fr,l)=some (fr',l'):=by
 obtain ⟨y,h1,h2,h3⟩:=h
 have:=bp.Du hC hB hR (by rw[e];exact h1)
 rw[gZ,h2,h3] at this
 unfold dM
 rw[this]
theorem OF (n i:Nat) (R:aa) (o:Option (Int×Int)) (e:Int×Int×Int):dM Rf.bA (bt (n+1) 90 26) 2 3 R (Kl e) (DO i o)=some (DO i (BP o e)):=by
 obtain ⟨a,b,v⟩:=e
 cases o with
 | none =>
   refine FD (Lz (n+1) i R a b v) (av _) (af _ _) (ag _ _) ?_
   exact wF
 | some m =>
   obtain ⟨x,y⟩:=m
   have hm:BP (some (x,y)) (a,b,v)=if fb a b x y=true then some (a,b) else some (x,y):=rfl
   rw[hm]
   by_cases c:fb a b x y=true
   · rw[if_pos c]
     refine FD (Io (n+1) R a b v x y fb) (aS _ (n+1) (EI n)) (af _ _) (ag _ _) ?_
     rw[c]
     exact wF
   · rw[if_neg c]
     refine FD (Io (n+1) R a b v x y fb) (aS _ (n+1) (EI n)) (af _ _) (ag _ _) ?_
     rw[show fb a b x y=false by cases h:fb a b x y with
      | true=>exact absurd h c
      | false=>rfl]
     exact wF
theorem EC (n i:Nat) (R:aa):∀ (l:List (Int×Int×Int)) (o:Option (Int×Int)),fg Rf.bA (bt (n+1) 90 26) 2 3 R (l.map Kl) (DO i o)=some (DO i (l.foldl BP o))
 | [],o=>rfl
 | e::l,o=>by
   show (match dM Rf.bA (bt (n+1) 90 26) 2 3 R (Kl e) (DO i o) with
    | some t=>fg Rf.bA (bt (n+1) 90 26) 2 3 R (l.map Kl) t
    | none=>none)=_
   rw[OF]
   exact EC n i R l (BP o e)
noncomputable def Gx (i:Nat) (o:Option (Int×Int)):ao×aW :=
 match o with
 | none=>(K4 i++[(11,.tup [.bool false]),(12,.bool false)],⟨false,[rI 0 0,rI 0 0,(0,.dead)]⟩)
 | some m=>(K5++[(11,.tup [.bool false]),(12,.bool false)],⟨false,[rI 0 0,rI m.1 m.2,(0,.dead)]⟩)
theorem BC {L:bp} {cx:Cx} {callR:bG} {fr:ao} {H:aa} {T:Tr (aI×aa)} (e:L.yw cx callR (hints fr) H=T) (hC:callR.Ok cx.call) {y:ao×aa} (h:T.all fun z=>(strip z.1,z.2)=y):L.last cx fr H=some y:=by
 obtain ⟨z,h1,rfl⟩:=h
 have:=bp.EU hC (by rw[e];exact h1)
 rw[gZ] at this;exact this
theorem Ob (n i:Nat) (R:aa) (o:Option (Int×Int)):Rf.bA.last (bt n 90 26) (DO i o).1 ((DO i o).2::R)=some ((Gx i o).1,(Gx i o).2::R):=by
 cases o with
 | none=>exact BC (Lx n i R) (av _) (Tr.bk rfl)
 | some m=>exact BC (Ly n R m.1 m.2) (av _) (Tr.bk rfl)
theorem EY (a b:Int):fb a b a b=false:=by unfold fb;rw[if_pos rfl];exact decide_eq_false (by omega)
theorem yA {a b x y:Int} (h1:fb a b x y=false) (h2:fb x y a b=false):a=x∧b=y:=by
 unfold fb at h1 h2
 by_cases c:a=x
 · rw[if_pos c] at h1
   rw[if_pos c.symm] at h2
   simp only[decide_eq_false_iff_not] at h1 h2
   omega
 · rw[if_neg c] at h1
   rw[if_neg (fun e=>c e.symm)] at h2
   simp only[decide_eq_false_iff_not] at h1 h2
   omega
theorem oR (a b x y:Int):fb a b x y=true↔a<x∨(a=x∧b<y):=by
 unfold fb
 by_cases c:a=x
 · rw[if_pos c,decide_eq_true_eq];omega
 · rw[if_neg c,decide_eq_true_eq];omega
theorem yz {a b x y u v:Int} (h1:fb a b x y=false) (h2:fb u v x y=true):fb a b u v=false:=by
 cases c:fb a b u v with
 | false=>rfl
 | true =>
   exfalso
   have c:=(oR _ _ _ _).1 c
   have h2:=(oR _ _ _ _).1 h2
   have:fb a b x y=true:=(oR _ _ _ _).2 (by omega)
   rw[h1] at this;cases this
theorem BQ:∀ (l:List (Int×Int×Int)) (o:Option (Int×Int)),(l.foldl BP o=none↔o=none∧l=[])∧∀ m,l.foldl BP o=some m→((o=some m∨∃ e ∈ l,(e.1,e.2.1)=m)∧(∀ e ∈ l,fb e.1 e.2.1 m.1 m.2=false)∧∀ p,o=some p→fb p.1 p.2 m.1 m.2=false)
 | [],o=>⟨⟨fun h=>⟨h,rfl⟩,fun h=>h.1⟩,fun m hm=>⟨.inl hm,fun e he=>(by cases he),fun p hp=>(by
   have hm:o=some m:=hm
   rw[hm] at hp;cases hp;exact EY _ _)⟩⟩
 | e :: l, o=>by
   obtain ⟨i1,i2⟩:=BQ l (BP o e)
   have hne:BP o e≠none:=by unfold BP;split<;>(try split)<;>simp
   refine ⟨⟨fun h=>absurd (i1.1 h).1 hne,fun h=>by cases h.2⟩,fun m hm=>?_⟩
   obtain ⟨j1,j2,j3⟩:=i2 m hm
   have hk:(BP o e=some (e.1,e.2.1)∧∀ p,o=some p→fb e.1 e.2.1 p.1 p.2=true)∨∃ p,o=some p∧BP o e=some p∧fb e.1 e.2.1 p.1 p.2=false:=by
    cases o with
    | none=>exact .inl ⟨rfl,fun p hp=>by cases hp⟩
    | some p =>
      have hx:BP (some p) e=if fb e.1 e.2.1 p.1 p.2=true then some (e.1,e.2.1) else some p:=rfl
      by_cases c:fb e.1 e.2.1 p.1 p.2=true
      · rw[if_pos c] at hx
        exact .inl ⟨hx,fun q hq=>by cases hq;exact c⟩
      · rw[if_neg c] at hx
        exact .inr ⟨p,rfl,hx,by cases h:fb e.1 e.2.1 p.1 p.2 with
         | true=>exact absurd h c
         | false=>rfl⟩
   rcases hk with ⟨h1,h2⟩ | ⟨p,rfl,h1,h2⟩
   · have h3:=j3 _ h1
     refine ⟨.inr ?_,fun x hx=>?_,fun p hp=>?_⟩
     · rcases j1 with j1 | ⟨x,hx,rfl⟩
       · rw[h1] at j1
         exact ⟨e,by simp,Option.some.inj j1⟩
       · exact ⟨x,by simp[hx],rfl⟩
     · rcases List.mem_cons.1 hx with rfl | hx
       · exact h3
       · exact j2 x hx
     · have h4:=h2 p hp
       cases c:fb p.1 p.2 m.1 m.2 with
       | false=>rfl
       | true =>
         exfalso
         have:=yz (a:=e.1) (b:=e.2.1) (x:=m.1) (y:=m.2) (u:=p.1) (v:=p.2) h3 c
         rw[h4] at this;cases this
   · have h3:=j3 _ h1
     refine ⟨?_,fun x hx=>?_,fun q hq=>by cases hq;exact h3⟩
     · rcases j1 with j1 | ⟨x,hx,rfl⟩
       · rw[h1] at j1;exact .inl j1
       · exact .inr ⟨x,by simp[hx],rfl⟩
     · rcases List.mem_cons.1 hx with rfl | hx
       · cases c:fb x.1 x.2.1 m.1 m.2 with
         | false=>rfl
         | true =>
           exfalso
           have:=yz (a:=p.1) (b:=p.2) (x:=m.1) (y:=m.2) (u:=x.1) (v:=x.2.1) h3 c
           have h5:=yA this h2
           rw[h5.1,h5.2,c] at h3;cases h3
       · exact j2 x hx
theorem yR:∀ (n:Nat) (vs:List Nat),vs.Nodup→(∀ j ∈ vs,j<n)→vs.length≤n
 | 0,vs,_,h=>by
   cases vs with
   | nil=>exact Nat.le_refl _
   | cons a r=>have:=h a (by simp);omega
 | n+1,vs,hn,h=>by
   have h1:=yR n (vs.erase n) (hn.erase n) (fun j hj=>by
    rw[hn.mem_erase_iff] at hj
    have:=h j hj.2
    omega)
   rw[List.length_erase] at h1
   split at h1<;>omega
theorem GD {vs:List Nat} {n:Nat} (hn:vs.Nodup) (hl:vs.length=n) (hb:∀ j ∈ vs,j<n) {j:Nat} (hj:j<n):j ∈ vs:=by
 apply Classical.byContradiction
 intro hc
 have:=yR n (j::vs) (List.nodup_cons.2 ⟨hc,hn⟩) (fun i hi=>by
  rcases List.mem_cons.1 hi with rfl | hi
  · exact hj
  · exact hb i hi)
 simp only[List.length_cons] at this
 omega
theorem KR {es:List (AV×AV)} {h:List Int→Bool} {g:List Int→Int} {c:Nat} (hE:vM (.str 2) es h g c):∀ vs:List Nat,(∀ j ∈ vs,j<es.length) →
 ∃ l:List (Int×Int×Int),(vs.map fun j=>(es.map fun e=>(fz (0+1) e.1,fz (0+1) e.2)).getD j (.undef,.undef))=l.map Kl∧(∀ e ∈ l,h [e.1,e.2.1]=true)∧(∀ j ∈ vs,∀ n,(es.getD j (.undef,.undef)).1=dD (.str 2) n→∃ e ∈ l,n=[e.1,e.2.1])∧l.length=vs.length
 | [],_=>⟨[],rfl,fun e he=>(by cases he),fun j hj=>(by cases hj),rfl⟩
 | j :: vs,hv=>by
   obtain ⟨l,l1,l2,l3,l4⟩:=KR hE vs (fun i hi=>hv i (List.mem_cons_of_mem _ hi))
   have hj:=hv j (by simp)
   obtain ⟨n,e1,e2⟩:=hE.ent j hj
   have hf:=hE.fit e2
   have hlen:n.length=2:=Nat.eq_of_beq_eq_true hf
   obtain ⟨a,b,rfl⟩:∃ a b,n=[a,b]:=by
    match n,hlen with
    | [a,b],_=>exact ⟨a,b,rfl⟩
   refine ⟨(a,b,g [a,b])::l,?_,fun e he=>?_,fun i hi n' hn'=>?_,by simp[l4]⟩
   · rw[List.map_cons,List.map_cons,l1]
     congr 1
     have:(es.map fun e=>(fz (0+1) e.1,fz (0+1) e.2)).getD j (.undef,.undef)=(fz (0+1) (es.getD j (.undef,.undef)).1,fz (0+1) (es.getD j (.undef,.undef)).2):=by
      simp[List.getD_eq_getElem?_getD,List.getElem?_eq_getElem hj]
     rw[this,e1];rfl
   · rcases List.mem_cons.1 he with rfl | he
     · exact e2
     · exact l2 e he
   · rcases List.mem_cons.1 hi with rfl | hi
     · rw[e1] at hn'
       have hn':dD (.str 2) [a,b]=dD (.str 2) n':=hn'
       have:[a,b]=n':=by unfold dD at hn';simpa using hn'
       exact ⟨(a,b,g [a,b]),by simp,this.symm⟩
     · obtain ⟨e,he,h'⟩:=l3 i hi n' hn'
       exact ⟨e,by simp[he],h'⟩
def vN (h:List Int→Bool) (o:Option (Int×Int)):Prop :=
 match o with
 | none=>∀ a b,h [a,b]=false
 | some m=>h [m.1,m.2]=true∧∀ a b,h [a,b]=true→fb a b m.1 m.2=false
theorem GC {es:List (AV×AV)} {h:List Int→Bool} {g:List Int→Int} {c:Nat} (hE:vM (.str 2) es h g c) {o:Option (Int×Int)} (ho:vN h o) {vs:List Nat} (v1:vs.Nodup) (v2:vs.length=es.length) (v3:∀ j ∈ vs,j<es.length) :
 ∃ l:List (Int×Int×Int),(vs.map fun j=>(es.map fun e=>(fz (0+1) e.1,fz (0+1) e.2)).getD j (.undef,.undef))=l.map Kl∧l.foldl BP none=o:=by
 obtain ⟨l,l1,l2,l3,l4⟩:=KR hE vs v3
 refine ⟨l,l1,?_⟩
 obtain ⟨s1,s2⟩:=BQ l none
 have cov:∀ a b,h [a,b]=true→∃ e ∈ l,(a,b)=(e.1,e.2.1):=fun a b hab=>by
  obtain ⟨_,j,j1,j2⟩:=hE.all _ hab
  obtain ⟨e,he,e2⟩:=l3 j (GD v1 v2 v3 j1) _ j2
  refine ⟨e,he,?_⟩
  simp only[List.cons.injEq,and_true] at e2
  rw[e2.1,e2.2]
 cases o with
 | none =>
   cases l with
   | nil=>rfl
   | cons e l =>
     have:=l2 e (by simp)
     rw[ho] at this;cases this
 | some m =>
   obtain ⟨h1,h2⟩:=ho
   obtain ⟨e,he,e2⟩:=cov m.1 m.2 h1
   cases hf:l.foldl BP none with
   | none =>
     have:=(s1.1 hf).2
     rw[this] at he;cases he
   | some m' =>
     obtain ⟨t1,t2,_⟩:=s2 m' hf
     rcases t1 with t1 | ⟨x,hx,rfl⟩
     · cases t1
     have a1:=t2 e he
     have a2:=h2 x.1 x.2.1 (l2 x hx)
     rw[← (Prod.mk.inj e2).1,← (Prod.mk.inj e2).2] at a1
     obtain ⟨b1,b2⟩:=yA a1 a2
     have e5:(x.1,x.2.1)=m:=Prod.ext b1.symm b2.symm
     rw[e5]
noncomputable def OD (o:Option (Int×Int)):AV :=
 match o with
 | none=>.tup [.agg (.I .i64 [0,0]),.bool false]
 | some m=>.tup [.agg (.I .i64 [m.1,m.2]),.bool true]
section
variable (n i:Nat) (H:aa)
theorem Pu (o:Option (Int×Int)):∃ b,exec (bt n 90 26) Rf.pick.suf (Gx i o).1 ((Gx i o).2::H)=some (.ret,[(4,.ptr 0 0 0 0),(5,.bool b)],⟨false,[rI (o.getD (0,0)).1 (o.getD (0,0)).2,rI (o.getD (0,0)).1 (o.getD (0,0)).2,(0,.dead)]⟩::H)∧b=o.isSome:=by
 cases o with
 | none =>
   obtain ⟨x,hx,rfl⟩:=aK (Q:=fun x=>x=(.ret,[(4,.ptr 0 0 0 0),(5,.bool false)],(⟨false,[rI 0 0,rI 0 0,(0,.dead)]⟩:aW)::H)) (LA n i H) (av n) (af _ _) (ag _ _) (Tr.bk rfl)
   exact ⟨false,hx,rfl⟩
 | some m =>
   obtain ⟨x,hx,rfl⟩:=aK (Q:=fun x=>x=(.ret,[(4,.ptr 0 0 0 0),(5,.bool true)],(⟨false,[rI m.1 m.2,rI m.1 m.2,(0,.dead)]⟩:aW)::H)) (LB n H m.1 m.2) (av n) (af _ _) (ag _ _) (Tr.bk rfl)
   exact ⟨true,hx,rfl⟩
theorem Hq {h:List Int→Bool} {g:List Int→Int} {c:Nat} {es:List (AV×AV)} (hg:aq H 0 i=(0,.fmap (.str 2) h g c)) (hE:vM (.str 2) es h g c) {o:Option (Int×Int)} (ho:vN h o) :
 kb (bt (n+1) 90 26) Rf.cY Rf.bA (H8 i false) (⟨false,[rI 0 0,rI 0 0]⟩::H)=some ((Gx i o).1,(Gx i o).2::H):=by
 have hp:dq (bt (n+1) 90 26).P (bt (n+1) 90 26).nt (bt (n+1) 90 26).call Rf.cY.ops0 Rf.cY.pre (H8 i false) (⟨false,[rI 0 0,rI 0 0]⟩::H)=some ([(0,.map 1 i),(1,f89),(4,.ptr 0 0 0 0),(6,.ptr 0 1 0 0),(7,.bool false),(9,.map 1 i)],⟨false,[rI 0 0,rI 0 0]⟩::H):=by
  have:=cH.Ho (S:=Rf.cY) (cx:=bt (n+1) 90 26) (callR:=il aH (n+1) 0) (av _) (fr:=hints (H8 i false)) (H:=⟨false,[rI 0 0,rI 0 0]⟩::H) (by rw[OC];rfl)
  rw[gZ] at this
  exact this
 have hg1:aq ((⟨false,[rI 0 0,rI 0 0]⟩:aW)::H) 1 i=(0,.fmap (.str 2) h g c):=hg
 have hm:Rf.cY.m=9:=rfl
 have hit:Rf.bA.it=10:=rfl
 have r1:mi (bt (n+1) 90 26) Rf.cY Rf.bA (H8 i false) (⟨false,[rI 0 0,rI 0 0]⟩::H)=none:=by
  unfold mi
  rw[hp];rfl
 have r2:ke (bt (n+1) 90 26) Rf.cY Rf.bA (H8 i false) (⟨false,[rI 0 0,rI 0 0]⟩::H)=none:=by
  unfold ke
  rw[hp]
  show (match aq ((⟨false,[rI 0 0,rI 0 0]⟩:aW)::H) 1 i with
   | (0,.map es)=>_
   | _=>none)=none
  rw[hg1];rfl
 have hends:xx (bt (n+1) 90 26) Rf.bA 0 2 (az H) (DO i none) (.str 2) h g c (Gx i o):=by
  refine ⟨rfl,fun es hE vs v1 v2 v3=>?_⟩
  obtain ⟨l,l1,l2⟩:=GC hE ho v1 v2 v3
  refine ⟨DO i o,?_,Ob (n+1) i _ o⟩
  rw[l1,EC,l2]
 have r3:kf (bt (n+1) 90 26) Rf.cY Rf.bA (H8 i false) (⟨false,[rI 0 0,rI 0 0]⟩::H)=some ((Gx i o).1,(Gx i o).2::H):=by
  unfold kf
  rw[hp]
  show (match aq ((⟨false,[rI 0 0,rI 0 0]⟩:aW)::H) 1 i with
   | (0,.fmap q h g c)=>@dite _ (∃ y,xx (bt (n+1) 90 26) Rf.bA 0 2 (az H) (DO i none) q h g c y) (Classical.propDecidable _) (fun hx=>some ((Classical.choose hx).1,(Classical.choose hx).2::H)) (fun _=>none)
   | _=>none)=_
  rw[hg1]
  refine (dif_pos (show ∃ y,xx (bt (n+1) 90 26) Rf.bA 0 2 (az H) (DO i none) (.str 2) h g c y from ⟨_,hends⟩)).trans ?_
  have hc:=Classical.choose_spec (show ∃ y,xx (bt (n+1) 90 26) Rf.bA 0 2 (az H) (DO i none) (.str 2) h g c y from ⟨_,hends⟩)
  obtain ⟨s1,e1,e2⟩:=hc.2 es hE (List.range es.length) List.nodup_range (by simp) (fun j hj=>by simpa using hj)
  obtain ⟨s2,f1,f2⟩:=hends.2 es hE (List.range es.length) List.nodup_range (by simp) (fun j hj=>by simpa using hj)
  rw[e1] at f1
  obtain rfl:=Option.some.inj f1
  rw[e2] at f2
  simp only[Option.some.injEq,Prod.mk.injEq,List.cons.injEq,and_true] at f2
  rw[f2.1,f2.2]
 unfold kb kd
 rw[r1,r2,r3]
theorem QE {h:List Int→Bool} {g:List Int→Int} {c:Nat} {es:List (AV×AV)} (hg:aq H 0 i=(0,.fmap (.str 2) h g c)) (hE:vM (.str 2) es h g c) {o:Option (Int×Int)} (ho:vN h o) :
 cd (n+2) (.fn 90) [.map 0 i,f89] H=some (OD o,H):=by
 have e26:Try.f90.ntmps=26:=by kernel_rfl
 have er:Try.f90.results.toList=Try.f90.results.toList:=rfl
 obtain ⟨xa,ha,rfl⟩:=aK (Q:=fun x=>x=(.normal,[(0,.map 1 i),(1,f89),(4,.ptr 0 0 0 0)],(⟨false,[rI 0 0]⟩:aW)::H)) (Oz (n+1) i H) (av _) (af _ _) (ag _ _) (Tr.bk rfl)
 obtain ⟨xb,hb,rfl⟩:=aK (Q:=fun x=>x=(.normal,[(0,.map 1 i),(1,f89),(4,.ptr 0 0 0 0),(6,.ptr 0 1 0 0)],(⟨false,[rI 0 0,rI 0 0]⟩:aW)::H)) (OA (n+1) i H) (av _) (af _ _) (ag _ _) (Tr.bk rfl)
 obtain ⟨xc,hc,rfl⟩:=aK (Q:=fun x=>x=(.normal,H8 i false,(⟨false,[rI 0 0,rI 0 0]⟩:aW)::H)) (OB (n+1) i H) (av _) (af _ _) (ag _ _) (Tr.bk rfl)
 have hr:=Hq n i H hg hE ho
 obtain ⟨b,hs,hbb⟩:=Pu (n+1) i H o
 have hpc:fy (bt (n+1) 90 26) Rf.pick.S Rf.pick.L Rf.pick.suf Rf.pick.pre [(0,.map 1 i),(1,f89)] (aB::H)=some (.ret,[(4,.ptr 0 0 0 0),(5,.bool b)],⟨false,[rI (o.getD (0,0)).1 (o.getD (0,0)).2,rI (o.getD (0,0)).1 (o.getD (0,0)).2,(0,.dead)]⟩::H):=by
  show fy (bt (n+1) 90 26) Rf.cY Rf.bA Rf.pick.suf [Rf.cK [0] Rf.eD,Rf.cK [1,0] Rf.eD,Rf.cK [1,1,0] Rf.eD] _ _=_
  unfold fy
  rw[cI,ha]
  dsimp only
  unfold fy
  rw[cI,hb]
  dsimp only
  unfold fy
  rw[cI,hc]
  dsimp only
  unfold fy
  rw[hr]
  dsimp only
  rw[cI]
  exact hs
 have ho2:ld (cd (n+1)) 90 [.map 0 i,f89] H=some (OD o,H):=by
  show s6 Try.prog KtL.kt 100000 Rf.pick (cd (n+1)) [.map 0 i,f89] H=_
  unfold s6
  rw[show Try.prog.funcs[Rf.pick.f]?=some Try.f90 from Try.func90]
  dsimp only
  rw[if_pos (by rw[e26];rfl),e26]
  rw[show fy (⟨Try.prog,cd (n+1),100000,Rf.pick.f,26,KtL.kt Rf.pick.f,none⟩:Cx) Rf.pick.S Rf.pick.L Rf.pick.suf Rf.pick.pre (ef 0 [.map 0 i,f89]) (⟨false,[]⟩::H)=_ from hpc]
  dsimp only
  rw[hbb]
  cases o with
  | none=>kernel_rfl
  | some m=>kernel_rfl
 unfold cd
 rw[show cM Try.prog ld KtL.kt 100000 (n+1+1) (.fn 90) [.map 0 i,f89] H=(match ld (cd (n+1)) 90 [.map 0 i,f89] H with
  | some r=>some r
  | none=>_) from rfl,ho2]
end
end Go.Eng
end
