/- Lay: other Dues, by a closure. -/
import Derived.Test.YtoomemfhcbajoaaV3Lb10x4
set_option linter.unusedVariables false
set_option linter.unusedSimpArgs false
set_option maxRecDepth 100000
section
namespace Go.Eng
open Go.Proofs
noncomputable def gD (P:Int→Int→Int) (Q:List AV→aa→Prop) (args:List AV) (H:aa):Tr (AV×aa) :=
 match args with
 | .int .i64 i::.int .i64 e::C=>.reqP (Q C H) (.ok (.int .i64 (P i e),H))
 | _=>.bad
noncomputable def I7 (f:FuncId) (P:Int→Int→Int) (Q:List AV→aa→Prop):py:=jf aH f (gD P Q)
noncomputable def lI (F:AV) (o:AV) (k:Nat) (d:Nat→Int) (j:Int):ao:=[(1,F),(5,o),(12,bP k d false),(13,.int .i64 (Int.ofNat k)),(14,.int .i64 j)]
theorem L4 (n k:Nat) (d:Nat→Int) (P:Int→Int→Int) (Q:List AV→aa→Prop) (H:aa) (j:Int):aQ (bt n 74 28) (il (I7 87 P Q) n 0) aN aO (part Try.f74 [1,1,0,1,0,0]) (hints (lI (.fn (.func 87) [] [.ptr 1 0 0 0]) .nils k d j)) (aB::H) =
 Tr.ite (bV j (Int.ofNat k)) (Tr.req (cS j k) (Tr.req (cJ (ar 0 j 1) k) (Tr.reqP (Q [AV.ptr 1 0 0 0] (aB::H)) (Tr.req (gx 0 1 8) (Tr.req (cu 0 0) (Tr.req (ik 1 1) (Tr.ok (Ex.normal,[(1,AV.fn (Fn.func 87) [] [AV.ptr 1 0 0 0],none),(5,AV.slc 0 1 0 0 1 1 none,none),(12,AV.slcT none (Row.M [ah.arr .i64 d k]) 1 k false,none),(13,AV.int .i64 (Int.ofNat k),none),(14,AV.int .i64 (bE .i64 j (Int.ofNat 1)),none)],{ lock:=false,bs:=[(0,ak.row (Row.I .i64 [P j (d (ar 0 j 1))])),(0,ak.row (Row.M [ah.arr .i64 (aA [P j (d (ar 0 j 1))]) 1]))] } :: H)))))))) (Tr.ok (Ex.exit 0,[(1,AV.fn (Fn.func 87) [] [AV.ptr 1 0 0 0],none),(5,AV.nils,none),(12,AV.slcT none (Row.M [ah.arr .i64 d k]) 1 k false,none),(13,AV.int .i64 (Int.ofNat k),none),(14,AV.int .i64 j,none),(15,AV.bool false,some 1)],aB::H)):=by kernel_rfl
theorem Is (n k:Nat) (d:Nat→Int) (v m:Nat) (y:Nat→Int) (P:Int→Int→Int) (Q:List AV→aa→Prop) (H:aa) (j:Int):aQ (bt n 74 28) (il (I7 87 P Q) n 0) aN aO (part Try.f74 [1,1,0,1,0,0]) (hints (lI (.fn (.func 87) [] [.ptr 1 0 0 0]) (.slc 0 0 v 0 1 m none) k d j)) (yF v m y::H) =
 Tr.ite (bV j (Int.ofNat k)) (Tr.req (cS j k) (Tr.req (cJ (ar 0 j 1) k) (Tr.reqP (Q [AV.ptr 1 0 0 0] ({ lock:=false,bs:=[(v,ak.row (Row.M [ah.arr .i64 y m]))] } :: H)) (Tr.req (gx m 1 8) (Tr.req (cu 0 0) (Tr.req (ik 1 1) (Tr.req (cu v v) (Tr.req (cu (bY 0 m) m) (Tr.ok (Ex.normal,[(1,AV.fn (Fn.func 87) [] [AV.ptr 1 0 0 0],none),(5,AV.slc 0 0 (Nat.succ v) 0 1 (bY m 1) none,none),(12,AV.slcT none (Row.M [ah.arr .i64 d k]) 1 k false,none),(13,AV.int .i64 (Int.ofNat k),none),(14,AV.int .i64 (bE .i64 j (Int.ofNat 1)),none)],{ lock:=false,bs:=[(Nat.succ v,ak.row (Row.M [ah.arr .i64 (lO (dE y 0) m (aA [P j (d (ar 0 j 1))])) (bY m 1)])),(0,ak.row (Row.I .i64 [P j (d (ar 0 j 1))]))] } :: H)))))))))) (Tr.ok (Ex.exit 0,[(1,AV.fn (Fn.func 87) [] [AV.ptr 1 0 0 0],none),(5,AV.slc 0 0 v 0 1 m none,none),(12,AV.slcT none (Row.M [ah.arr .i64 d k]) 1 k false,none),(13,AV.int .i64 (Int.ofNat k),none),(14,AV.int .i64 j,none),(15,AV.bool false,some 1)],{ lock:=false,bs:=[(v,ak.row (Row.M [ah.arr .i64 y m]))] } :: H)):=by kernel_rfl
theorem Po (n s l k q:Nat) (t d e y:Nat→Int) (H:aa):aZ Try.prog (cd n) 100000 74 Try.f74 (KtL.kt 74) (il aH n 0) (bZ aN 0 (lI (.fn (.func 87) [] [.ptr 1 0 0 0]) .nils k d 0) (aB::H) (.ok (.normal,hints (lI (.fn (.func 87) [] [.ptr 1 0 0 0]) (.slc 0 0 q 0 1 (q+1) none) k d (Int.ofNat k)++[(15,.bool false)]),yF q (q+1) y::H))) aO [(dv s l t k d e,none),((.fn (.func 87) [] [.ptr 0 0 0 0]),none)] H =
 (fun (Z0:ao)=>Tr.reqP (Z0=Z0∧aB::H=aB::H) (Tr.req (cu q q) (Tr.req (fW 0 (Nat.succ q) 0 (Nat.succ q)) (Tr.ok ((AV.slcT none (Row.M [ah.arr .i64 (dE y 0) (Nat.succ q)]) 1 (Nat.succ q) false,none),H))))) [(1,AV.fn (Fn.func 87) [] [AV.ptr 1 0 0 0]),(5,AV.nils),(12,AV.slcT none (Row.M [ah.arr .i64 d k]) 1 k false),(13,AV.int .i64 (Int.ofNat k)),(14,AV.int .i64 (Int.ofNat 0))]:=by kernel_rfl
theorem L5 (n k:Nat) (c:Nat) (d:Nat→Int) (P:Int→Int→Int) (Q:List AV→aa→Prop) (H:aa) (j:Int):aQ (bt n 74 28) (il (I7 88 P Q) n 0) aN aO (part Try.f74 [1,1,0,1,0,0]) (hints (lI (.fn (.func 88) [] [.ptr 1 c 0 0]) .nils k d j)) (aB::H) =
 Tr.ite (bV j (Int.ofNat k)) (Tr.req (cS j k) (Tr.req (cJ (ar 0 j 1) k) (Tr.reqP (Q [AV.ptr 1 c 0 0] (aB::H)) (Tr.req (gx 0 1 8) (Tr.req (cu 0 0) (Tr.req (ik 1 1) (Tr.ok (Ex.normal,[(1,AV.fn (Fn.func 88) [] [AV.ptr 1 c 0 0],none),(5,AV.slc 0 1 0 0 1 1 none,none),(12,AV.slcT none (Row.M [ah.arr .i64 d k]) 1 k false,none),(13,AV.int .i64 (Int.ofNat k),none),(14,AV.int .i64 (bE .i64 j (Int.ofNat 1)),none)],{ lock:=false,bs:=[(0,ak.row (Row.I .i64 [P j (d (ar 0 j 1))])),(0,ak.row (Row.M [ah.arr .i64 (aA [P j (d (ar 0 j 1))]) 1]))] } :: H)))))))) (Tr.ok (Ex.exit 0,[(1,AV.fn (Fn.func 88) [] [AV.ptr 1 c 0 0],none),(5,AV.nils,none),(12,AV.slcT none (Row.M [ah.arr .i64 d k]) 1 k false,none),(13,AV.int .i64 (Int.ofNat k),none),(14,AV.int .i64 j,none),(15,AV.bool false,some 1)],aB::H)):=by kernel_rfl
theorem It (n k:Nat) (c:Nat) (d:Nat→Int) (v m:Nat) (y:Nat→Int) (P:Int→Int→Int) (Q:List AV→aa→Prop) (H:aa) (j:Int):aQ (bt n 74 28) (il (I7 88 P Q) n 0) aN aO (part Try.f74 [1,1,0,1,0,0]) (hints (lI (.fn (.func 88) [] [.ptr 1 c 0 0]) (.slc 0 0 v 0 1 m none) k d j)) (yF v m y::H) =
 Tr.ite (bV j (Int.ofNat k)) (Tr.req (cS j k) (Tr.req (cJ (ar 0 j 1) k) (Tr.reqP (Q [AV.ptr 1 c 0 0] ({ lock:=false,bs:=[(v,ak.row (Row.M [ah.arr .i64 y m]))] } :: H)) (Tr.req (gx m 1 8) (Tr.req (cu 0 0) (Tr.req (ik 1 1) (Tr.req (cu v v) (Tr.req (cu (bY 0 m) m) (Tr.ok (Ex.normal,[(1,AV.fn (Fn.func 88) [] [AV.ptr 1 c 0 0],none),(5,AV.slc 0 0 (Nat.succ v) 0 1 (bY m 1) none,none),(12,AV.slcT none (Row.M [ah.arr .i64 d k]) 1 k false,none),(13,AV.int .i64 (Int.ofNat k),none),(14,AV.int .i64 (bE .i64 j (Int.ofNat 1)),none)],{ lock:=false,bs:=[(Nat.succ v,ak.row (Row.M [ah.arr .i64 (lO (dE y 0) m (aA [P j (d (ar 0 j 1))])) (bY m 1)])),(0,ak.row (Row.I .i64 [P j (d (ar 0 j 1))]))] } :: H)))))))))) (Tr.ok (Ex.exit 0,[(1,AV.fn (Fn.func 88) [] [AV.ptr 1 c 0 0],none),(5,AV.slc 0 0 v 0 1 m none,none),(12,AV.slcT none (Row.M [ah.arr .i64 d k]) 1 k false,none),(13,AV.int .i64 (Int.ofNat k),none),(14,AV.int .i64 j,none),(15,AV.bool false,some 1)],{ lock:=false,bs:=[(v,ak.row (Row.M [ah.arr .i64 y m]))] } :: H)):=by kernel_rfl
theorem Pp (n s l k q:Nat) (c:Nat) (t d e y:Nat→Int) (H:aa):aZ Try.prog (cd n) 100000 74 Try.f74 (KtL.kt 74) (il aH n 0) (bZ aN 0 (lI (.fn (.func 88) [] [.ptr 1 c 0 0]) .nils k d 0) (aB::H) (.ok (.normal,hints (lI (.fn (.func 88) [] [.ptr 1 c 0 0]) (.slc 0 0 q 0 1 (q+1) none) k d (Int.ofNat k)++[(15,.bool false)]),yF q (q+1) y::H))) aO [(dv s l t k d e,none),((.fn (.func 88) [] [.ptr 0 c 0 0]),none)] H =
 (fun (Z0:ao)=>Tr.reqP (Z0=Z0∧aB::H=aB::H) (Tr.req (cu q q) (Tr.req (fW 0 (Nat.succ q) 0 (Nat.succ q)) (Tr.ok ((AV.slcT none (Row.M [ah.arr .i64 (dE y 0) (Nat.succ q)]) 1 (Nat.succ q) false,none),H))))) [(1,AV.fn (Fn.func 88) [] [AV.ptr 1 c 0 0]),(5,AV.nils),(12,AV.slcT none (Row.M [ah.arr .i64 d k]) 1 k false),(13,AV.int .i64 (Int.ofNat k)),(14,AV.int .i64 (Int.ofNat 0))]:=by kernel_rfl
theorem PM:∀ b,(0,b) ∈ aJ (bm Try.f74)→b=.loop (part Try.f74 [1,1,0,1,0,0]):=fa (by kernel_rfl)
theorem Ep {k:Nat} {f:FuncId} {P:Int→Int→Int} {Q:List AV→aa→Prop} (h:∀ i e C H,Q C H→cd k (.fn f) (.int .i64 i::.int .i64 e::C) H=some (.int .i64 (P i e),H)):(I7 f P Q).Ok (cd k):=by
 refine jN (aG _) (fun args H x hx=>?_)
 unfold gD at hx
 split at hx
 · obtain ⟨h1,h2⟩:=Tr.db hx
   rw[h _ _ _ _ h1,← Tr.ab h2]
 · exact (Tr.ae hx).elim
noncomputable def MF:Nat→AV
 | 0=>.nils
 | q+1=>.slc 0 0 q 0 1 (q+1) none
noncomputable def G0 (z:Nat→Int):Nat→aW
 | 0=>aB
 | q+1=>yF q (q+1) (aA (kJ z (q+1)))
section
variable (n s l k:Nat) (t d e:Nat→Int) (P:Int→Int→Int) (H:aa)
end
section
variable (n s l k:Nat) (c:Nat) (t d e:Nat→Int) (P:Int→Int→Int) (H:aa)
end
section
variable (n s l k:Nat) (c:Nat) (t d e:Nat→Int) (P:Int→Int→Int) (H:aa)
end
section
variable (n s l k:Nat) (t d e:Nat→Int) (P:Int→Int→Int) (H:aa)
theorem N3 (h0:0<k) (hk:k≤1000) (hP:∀ i e L,cd n (.fn 87) (.int .i64 i::.int .i64 e::[.ptr 1 0 0 0]) (L::H)=some (.int .i64 (P i e),L::H)):exec (bt n 74 28) (.block 0 (.loop (part Try.f74 [1,1,0,1,0,0]))) (lI (.fn (.func 87) [] [.ptr 1 0 0 0]) .nils k d 0) (aB::H)=some (.normal,lI (.fn (.func 87) [] [.ptr 1 0 0 0]) (MF k) k d (Int.ofNat k)++[(15,.bool false)],G0 (fun i=>P (i:Nat) (d i)) k::H):=by
 have hC:(I7 87 P (fun C G=>C=[.ptr 1 0 0 0]∧∃ L,G=L::H)).Ok (cd n):=Ep (fun i e C G hq=>by
  obtain ⟨rfl,L,rfl⟩:=hq
  exact hP i e L)
 refine jD (n:=n) (f:=74) (nt:=28) (c:=part Try.f74 [1,1,0,1,0,0]) 0 (fun j=>lI (.fn (.func 87) [] [.ptr 1 0 0 0]) (MF j) k d (j:Nat)) (fun j=>G0 (fun i=>P (i:Nat) (d i)) j::H) k _ (by omega) (fun j hj=>?_) ?_
 · cases j with
   | zero =>
     refine aK (L4 n k d P (fun C G=>C=[.ptr 1 0 0 0]∧∃ L,G=L::H) H (0:Nat)) (aS _ n hC) (af _ _) (ag _ _) ?_
     show Tr.all _ (fun x=>_∧tidy _ _ _=(lI (.fn (.func 87) [] [.ptr 1 0 0 0]) (.slc 0 0 0 0 1 1 none) k d ((0+1:Nat):Int),yF 0 1 (aA [P (0:Nat) (d 0)])::H))
     rw[dx (j:=0) (by omega)]
     simp only[jo]
     generalize P (0:Nat) (d 0)=W at *
     repeat' first | (refine Tr.bx (fun hc=>?_) (fun hc=>?_)<;>(try simp (disch:=omega) only[nV,nW] at hc)<;>try omega) | (refine Tr.cL ?_ ?_;· (try simp (disch:=omega) only[nV,nW]);try omega) | (refine Tr.bn ?_ ?_;· first | exact trivial | rfl | exact ⟨rfl,rfl⟩ | exact ⟨rfl,rfl,rfl⟩ | (simp (disch:=omega) only[nV,nW];done) | ((try simp (disch:=omega) only[nV,nW]);omega)) | fail
     all_goals first
      | exact ⟨rfl,_,rfl⟩
      | (refine Tr.bn ⟨(by first | rfl | trivial),_,rfl⟩ ?_
         exact wF)
      | fail
   | succ j =>
     refine aK (Is n k d j (j+1) (aA (kJ (fun i=>P (i:Nat) (d i)) (j+1))) P (fun C G=>C=[.ptr 1 0 0 0]∧∃ L,G=L::H) H (j+1:Nat)) (aS _ n hC) (af _ _) (ag _ _) ?_
     show Tr.all _ (fun x=>_∧tidy _ _ _=(lI (.fn (.func 87) [] [.ptr 1 0 0 0]) (.slc 0 0 (j+1) 0 1 (j+1+1) none) k d ((j+1+1:Nat):Int),yF (j+1) (j+1+1) (aA (kJ (fun i=>P (i:Nat) (d i)) (j+1+1)))::H))
     have hap:=Bl (fun i=>P (i:Nat) (d i)) (j+1)
     have ea:bY (j+1) 1=j+1+1:=bH _ _
     rw[dx (j:=j+1) (by omega)]
     simp only[jo,hap,ea]
     generalize aA (kJ (fun i=>P (i:Nat) (d i)) (j+1+1))=Y2 at *
     generalize aA (kJ (fun i=>P (i:Nat) (d i)) (j+1))=Y at *
     repeat' first | (refine Tr.bx (fun hc=>?_) (fun hc=>?_)<;>(try simp (disch:=omega) only[nV,nW] at hc)<;>try omega) | (refine Tr.cL ?_ ?_;· (try simp (disch:=omega) only[nV,nW]);try omega) | (refine Tr.bn ?_ ?_;· first | exact trivial | rfl | exact ⟨rfl,rfl⟩ | exact ⟨rfl,rfl,rfl⟩ | (simp (disch:=omega) only[nV,nW];done) | ((try simp (disch:=omega) only[nV,nW]);omega)) | fail
     all_goals first
      | exact ⟨rfl,_,rfl⟩
      | (refine Tr.bn ⟨(by first | rfl | trivial),_,rfl⟩ ?_
         exact wF)
      | fail
 · obtain ⟨q,rfl⟩:∃ q,k=q+1:=⟨k-1,by omega⟩
   exact cW (Is n (q+1) d q (q+1) (aA (kJ (fun i=>P (i:Nat) (d i)) (q+1))) P (fun C G=>C=[.ptr 1 0 0 0]∧∃ L,G=L::H) H (Int.ofNat (q+1))) (aS _ n hC) (af _ _) (ag _ _) (by first | (simp (disch:=omega) only[nV,nW];done) | (simp (disch:=omega) only[nV,nW];omega))
theorem M9 (h0:0<k) (hk:k≤1000) (hP:∀ i e L,cd n (.fn 87) (.int .i64 i::.int .i64 e::[.ptr 1 0 0 0]) (L::H)=some (.int .i64 (P i e),L::H)):cd (n+1) (.fn 74) [dv s l t k d e,(.fn (.func 87) [] [.ptr 0 0 0 0])] H=some (bP k (aA (kJ (fun i=>P (i:Nat) (d i)) k)) false,H):=by
 have hx:=N3 n k d P H h0 hk hP
 obtain ⟨q,rfl⟩:∃ q,k=q+1:=⟨k-1,by omega⟩
 refine aL (n:=n) Try.func74 rfl rfl rfl (Po n s l (q+1) q t d e (aA (kJ (fun i=>P (i:Nat) (d i)) (q+1))) H) (av _) (aD (af _ _) PM (fun x hy=>bL hy hx)) (ag _ _) ?_
 rw[c5]
 generalize aA (kJ (fun i=>P (i:Nat) (d i)) (q+1))=Y at *
 exact wF
end
section
variable (n s l k:Nat) (c:Nat) (t d e:Nat→Int) (P:Int→Int→Int) (H:aa)
theorem N4 (h0:0<k) (hk:k≤1000) (hP:∀ i e L,cd n (.fn 88) (.int .i64 i::.int .i64 e::[.ptr 1 c 0 0]) (L::H)=some (.int .i64 (P i e),L::H)):exec (bt n 74 28) (.block 0 (.loop (part Try.f74 [1,1,0,1,0,0]))) (lI (.fn (.func 88) [] [.ptr 1 c 0 0]) .nils k d 0) (aB::H)=some (.normal,lI (.fn (.func 88) [] [.ptr 1 c 0 0]) (MF k) k d (Int.ofNat k)++[(15,.bool false)],G0 (fun i=>P (i:Nat) (d i)) k::H):=by
 have hC:(I7 88 P (fun C G=>C=[.ptr 1 c 0 0]∧∃ L,G=L::H)).Ok (cd n):=Ep (fun i e C G hq=>by
  obtain ⟨rfl,L,rfl⟩:=hq
  exact hP i e L)
 refine jD (n:=n) (f:=74) (nt:=28) (c:=part Try.f74 [1,1,0,1,0,0]) 0 (fun j=>lI (.fn (.func 88) [] [.ptr 1 c 0 0]) (MF j) k d (j:Nat)) (fun j=>G0 (fun i=>P (i:Nat) (d i)) j::H) k _ (by omega) (fun j hj=>?_) ?_
 · cases j with
   | zero =>
     refine aK (L5 n k c d P (fun C G=>C=[.ptr 1 c 0 0]∧∃ L,G=L::H) H (0:Nat)) (aS _ n hC) (af _ _) (ag _ _) ?_
     show Tr.all _ (fun x=>_∧tidy _ _ _=(lI (.fn (.func 88) [] [.ptr 1 c 0 0]) (.slc 0 0 0 0 1 1 none) k d ((0+1:Nat):Int),yF 0 1 (aA [P (0:Nat) (d 0)])::H))
     rw[dx (j:=0) (by omega)]
     simp only[jo]
     generalize P (0:Nat) (d 0)=W at *
     repeat' first | (refine Tr.bx (fun hc=>?_) (fun hc=>?_)<;>(try simp (disch:=omega) only[nV,nW] at hc)<;>try omega) | (refine Tr.cL ?_ ?_;· (try simp (disch:=omega) only[nV,nW]);try omega) | (refine Tr.bn ?_ ?_;· first | exact trivial | rfl | exact ⟨rfl,rfl⟩ | exact ⟨rfl,rfl,rfl⟩ | (simp (disch:=omega) only[nV,nW];done) | ((try simp (disch:=omega) only[nV,nW]);omega)) | fail
     all_goals first
      | exact ⟨rfl,_,rfl⟩
      | (refine Tr.bn ⟨(by first | rfl | trivial),_,rfl⟩ ?_
         exact wF)
      | fail
   | succ j =>
     refine aK (It n k c d j (j+1) (aA (kJ (fun i=>P (i:Nat) (d i)) (j+1))) P (fun C G=>C=[.ptr 1 c 0 0]∧∃ L,G=L::H) H (j+1:Nat)) (aS _ n hC) (af _ _) (ag _ _) ?_
     show Tr.all _ (fun x=>_∧tidy _ _ _=(lI (.fn (.func 88) [] [.ptr 1 c 0 0]) (.slc 0 0 (j+1) 0 1 (j+1+1) none) k d ((j+1+1:Nat):Int),yF (j+1) (j+1+1) (aA (kJ (fun i=>P (i:Nat) (d i)) (j+1+1)))::H))
     have hap:=Bl (fun i=>P (i:Nat) (d i)) (j+1)
     have ea:bY (j+1) 1=j+1+1:=bH _ _
     rw[dx (j:=j+1) (by omega)]
     simp only[jo,hap,ea]
     generalize aA (kJ (fun i=>P (i:Nat) (d i)) (j+1+1))=Y2 at *
     generalize aA (kJ (fun i=>P (i:Nat) (d i)) (j+1))=Y at *
     repeat' first | (refine Tr.bx (fun hc=>?_) (fun hc=>?_)<;>(try simp (disch:=omega) only[nV,nW] at hc)<;>try omega) | (refine Tr.cL ?_ ?_;· (try simp (disch:=omega) only[nV,nW]);try omega) | (refine Tr.bn ?_ ?_;· first | exact trivial | rfl | exact ⟨rfl,rfl⟩ | exact ⟨rfl,rfl,rfl⟩ | (simp (disch:=omega) only[nV,nW];done) | ((try simp (disch:=omega) only[nV,nW]);omega)) | fail
     all_goals first
      | exact ⟨rfl,_,rfl⟩
      | (refine Tr.bn ⟨(by first | rfl | trivial),_,rfl⟩ ?_
         exact wF)
      | fail
 · obtain ⟨q,rfl⟩:∃ q,k=q+1:=⟨k-1,by omega⟩
   exact cW (It n (q+1) c d q (q+1) (aA (kJ (fun i=>P (i:Nat) (d i)) (q+1))) P (fun C G=>C=[.ptr 1 c 0 0]∧∃ L,G=L::H) H (Int.ofNat (q+1))) (aS _ n hC) (af _ _) (ag _ _) (by first | (simp (disch:=omega) only[nV,nW];done) | (simp (disch:=omega) only[nV,nW];omega))
theorem Na (h0:0<k) (hk:k≤1000) (hP:∀ i e L,cd n (.fn 88) (.int .i64 i::.int .i64 e::[.ptr 1 c 0 0]) (L::H)=some (.int .i64 (P i e),L::H)):cd (n+1) (.fn 74) [dv s l t k d e,(.fn (.func 88) [] [.ptr 0 c 0 0])] H=some (bP k (aA (kJ (fun i=>P (i:Nat) (d i)) k)) false,H):=by
 have hx:=N4 n k c d P H h0 hk hP
 obtain ⟨q,rfl⟩:∃ q,k=q+1:=⟨k-1,by omega⟩
 refine aL (n:=n) Try.func74 rfl rfl rfl (Pp n s l (q+1) q c t d e (aA (kJ (fun i=>P (i:Nat) (d i)) (q+1))) H) (av _) (aD (af _ _) PM (fun x hy=>bL hy hx)) (ag _ _) ?_
 rw[c5]
 generalize aA (kJ (fun i=>P (i:Nat) (d i)) (q+1))=Y at *
 exact wF
end
end Go.Eng
end
section
namespace Go.Eng
open Go.Proofs
noncomputable def CY (s l:Nat) (t:Nat→Int) (k:Nat) (d g:Nat→Int) (h:Int) (F:AV) (j:Int):ao:=[(0,dv (s+1) l t k d g),(1,.int .i64 h),(2,F),(7,.int .i64 j)]
noncomputable def Ls (T:Int):aW:=⟨false,[(0,.row (.I .i64 [T]))]⟩
theorem Tb (n:Nat) (i e T:Int) (L:aW) (H:aa):aZ Try.prog (cd n) 100000 87 Try.f87 (KtL.kt 87) (il aH n 0) aN aO [(.int .i64 i,none),(.int .i64 e,none),(.ptr 1 0 0 0,none)] (L::Ls T::H) =
 Tr.ok ((AV.int .i64 (yM e T),none),L::{ lock:=false,bs:=[(0,ak.row (Row.I .i64 [T]))] } :: H):=by kernel_rfl
theorem OU (n s l k:Nat) (c1:Nat) (t d g y:Nat→Int) (H:aa) (h j c:Int):aQ (bt n 72 20) (il (tX (Ag aH 86 (.int .i64 j::[.ptr 1 c1 0 0]) (aB::H) (.ok (bP k y false,aB::H))) 69 [dv (s+1) l t k d g,bP k y false,.int .i64 h] (.int .i64 c)) n 0) aN aO (part Try.f72 [1,0,1,0,0]) (hints (CY s l t k d g h (.fn (.func 86) [] [.ptr 1 c1 0 0]) j)) (aB::H) =
 (fun (Z0:Row)=>((fun (Z1:List AV)=>Tr.ite (bV j (Int.ofNat 40)) (Tr.reqP ([AV.int .i64 j,AV.ptr 1 c1 0 0]=[AV.int .i64 j,AV.ptr 1 c1 0 0]∧aB::H=aB::H) (Tr.reqP (Z1=Z1) (Tr.ite (bV c (Int.ofNat 0)) (Tr.ok (Ex.ret,[(6,AV.int .i64 j,none)],aB::H)) (Tr.ok (Ex.normal,[(0,AV.ptrT (some (Nat.succ s)) Z0 0,none),(1,AV.int .i64 h,none),(2,AV.fn (Fn.func 86) [] [AV.ptr 1 c1 0 0],none),(7,AV.int .i64 (bE .i64 j (Int.ofNat 1)),none)],aB::H))))) (Tr.ok (Ex.exit 0,[(0,AV.ptrT (some (Nat.succ s)) Z0 0,none),(1,AV.int .i64 h,none),(2,AV.fn (Fn.func 86) [] [AV.ptr 1 c1 0 0],none),(7,AV.int .i64 j,none),(9,AV.bool false,some 1)],aB::H))) [AV.ptrT (some (Nat.succ s)) Z0 0,AV.slcT none (Row.M [ah.arr .i64 y k]) 1 k false,AV.int .i64 h])) (Row.M [ah.one (AV.slcT none (Row.M [ah.arr .i64 t l]) 1 l false),ah.one (AV.slcT none (Row.M [ah.arr .i64 d k]) 1 k false),ah.arr .i64 g 30]):=by kernel_rfl
theorem L3 (n s l k:Nat) (c1:Nat) (t d g:Nat→Int) (H:aa) (h j:Int):aQ (bt n 72 20) (il (tN aH 86) n 0) aN aO (part Try.f72 [1,0,1,0,0]) (hints (CY s l t k d g h (.fn (.func 86) [] [.ptr 1 c1 0 0]) j)) (aB::H) =
 Tr.ite (bV j (Int.ofNat 40)) Tr.bad (Tr.ok (Ex.exit 0,[(0,AV.ptrT (some (Nat.succ s)) (Row.M [ah.one (AV.slcT none (Row.M [ah.arr .i64 t l]) 1 l false),ah.one (AV.slcT none (Row.M [ah.arr .i64 d k]) 1 k false),ah.arr .i64 g 30]) 0,none),(1,AV.int .i64 h,none),(2,AV.fn (Fn.func 86) [] [AV.ptr 1 c1 0 0],none),(7,AV.int .i64 j,none),(9,AV.bool false,some 1)],aB::H)):=by kernel_rfl
theorem Pn (n s l k:Nat) (c1:Nat) (t d g:Nat→Int) (H:aa) (h r:Int) (B:Bool):aZ Try.prog (cd n) 100000 72 Try.f72 (KtL.kt 72) (il aH n 0) (bZ aN 0 (CY s l t k d g h (.fn (.func 86) [] [.ptr 1 c1 0 0]) 1) (aB::H) (.ite B (.ok (.ret,[(6,.int .i64 r,none)],aB::H)) (.ok (.normal,hints (CY s l t k d g h (.fn (.func 86) [] [.ptr 1 c1 0 0]) 40++[(9,.bool false)]),aB::H)))) aO [(dv s l t k d g,none),(.int .i64 h,none),(.fn (.func 86) [] [.ptr 0 c1 0 0],none)] H =
 (fun (Z0:ao)=>Tr.reqP (Z0=Z0∧aB::H=aB::H) (Tr.ite B (Tr.ok ((AV.int .i64 r,none),H)) (Tr.ok ((AV.int .i64 (Int.ofNat 40),some 1),H)))) [(0,AV.ptrT (some (Nat.succ s)) (Row.M [ah.one (AV.slcT none (Row.M [ah.arr .i64 t l]) 1 l false),ah.one (AV.slcT none (Row.M [ah.arr .i64 d k]) 1 k false),ah.arr .i64 g 30]) 0),(1,AV.int .i64 h),(2,AV.fn (Fn.func 86) [] [AV.ptr 1 c1 0 0]),(7,AV.int .i64 (Int.ofNat 1))]:=by kernel_rfl
theorem Qa:∀ b,(0,b) ∈ aJ (bm Try.f72)→b=.loop (part Try.f72 [1,0,1,0,0]):=fa (by kernel_rfl)
def oP (p:Nat→Bool):Nat:=if cU (fun j=>p (j+1)) 39=true then fN (fun j=>p (j+1)) 39 0+1 else 40
theorem GR (p:Nat→Bool):1≤oP p∧oP p≤40:=by
 unfold oP
 by_cases c:cU (fun j=>p (j+1)) 39=true
 · rw[if_pos c]
   have:=iK c
   omega
 · rw[if_neg c];omega
section
variable (n:Nat) (H:aa)
theorem QB (i e T:Int) (L:aW):cd (n+1) (.fn 87) [.int .i64 i,.int .i64 e,.ptr 1 0 0 0] (L::Ls T::H)=some (.int .i64 (min e T),L::Ls T::H):=by
 refine aL (n:=n) Try.func87 rfl rfl rfl (Tb n i e T L H) (av _) (af _ _) (ag _ _) ?_
 rw[o5]
 exact wF
variable (l k:Nat) (t d g:Nat→Int)
end
section
variable (n s l k:Nat) (c1:Nat) (t d g:Nat→Int) (H:aa) (h:Int) (W:Nat→Nat→Int)
end
section
variable (n s l k:Nat) (c1 c2:Nat) (t d g:Nat→Int) (H:aa) (h:Int) (W:Nat→Nat→Int)
end
section
variable (n s l k:Nat) (c1:Nat) (t d g:Nat→Int) (H:aa) (h:Int) (W:Nat→Nat→Int)
theorem M8 (hl:l≤30) (hk:k=l) (ht:∀ j,j<l→t j<l) (hc:ig l t=false) (hW:∀ T,1≤T→T<40→Bd l (W T)) (hh:0≤h∧h≤1000)
 (hF:∀ T,1≤T→T<40→cd (n+4) (.fn 86) (.int .i64 (T:Nat)::[.ptr 1 c1 0 0]) (aB::H)=some (bP k (W T) false,aB::H)) :
 cd (n+5) (.fn 72) [dv s l t k d g,.int .i64 h,.fn (.func 86) [] [.ptr 0 c1 0 0]] H=some (.int .i64 (oP (fun T=>cV l t (W T) h):Nat),H):=by
 have hC:∀ j,j<39→(tX (Ag aH 86 (.int .i64 ((j+1:Nat):Int)::[.ptr 1 c1 0 0]) (aB::H) (.ok (bP k (W (j+1)) false,aB::H))) 69 [dv (s+1) l t k d g,bP k (W (j+1)) false,.int .i64 h] (.int .i64 (Af l t (W (j+1)) h))).Ok (cd (n+4)):=fun j hj =>
  bf (ie (aG _) (fun x hy=>by rw[← Tr.ab hy];exact hF (j+1) (by omega) (by omega))) (fun H=>PT n (s+1) l k k t d g (W (j+1)) false H h hl hk ht hc (hW (j+1) (by omega) (by omega)) hh)
 have hx:=lA (n:=n+4) (f:=72) (nt:=20) (c:=part Try.f72 [1,0,1,0,0]) 0 (fun j=>CY s l t k d g h (.fn (.func 86) [] [.ptr 1 c1 0 0]) ((j+1:Nat):Int)) (fun _=>aB::H) 39 (fun j=>cV l t (W (j+1)) h) (fun j=>([(6,.int .i64 ((j+1:Nat):Int))],aB::H)) (CY s l t k d g h (.fn (.func 86) [] [.ptr 1 c1 0 0]) 40++[(9,.bool false)],aB::H) (by omega) (fun j hj=>?_) ?_
 · have hr:cond (cU (fun j=>cV l t (W (j+1)) h) 39) ((fN (fun j=>cV l t (W (j+1)) h) 39 0+1:Nat):Int) 40=(oP (fun T=>cV l t (W T) h):Nat):=by
    unfold oP
    cases cU (fun j=>cV l t (W (j+1)) h) 39 with
    | true=>rw[if_pos rfl];rfl
    | false=>rw[if_neg (by decide)];rfl
   refine aL (n:=n+4) Try.func72 rfl rfl rfl (Pn (n+4) s l k c1 t d g H h ((fN (fun j=>cV l t (W (j+1)) h) 39 0+1:Nat):Int) (cU (fun j=>cV l t (W (j+1)) h) 39)) (av _) (aD (af _ _) Qa (fun x hy=>fp hy hx)) (ag _ _) ?_
   rw[← hr]
   generalize ((fN (fun j=>cV l t (W (j+1)) h) 39 0+1:Nat):Int)=R at *
   generalize cU (fun j=>cV l t (W (j+1)) h) 39=B at *
   cases B
   all_goals
    simp only[cond_true,cond_false]
    exact wF
 · refine aK (OU (n+4) s l k c1 t d g (W (j+1)) H h ((j+1:Nat):Int) (Af l t (W (j+1)) h)) (aS _ (n+4) (hC j hj)) (af _ _) (ag _ _) ?_
   show Tr.all _ (fun r=>if cV l t (W (j+1)) h=true then _ else _)
   obtain ⟨q1,q2⟩:=Bh l t (W (j+1)) h
   rw[dx (j:=j+1) (by omega)]
   generalize Af l t (W (j+1)) h=C at *
   cases hB:cV l t (W (j+1)) h with
   | true =>
     have:=q1.2 hB
     simp only[if_true]
     exact wF
   | false =>
     have:=q2.2 hB
     simp only[Bool.false_eq_true,if_false]
     exact wF
 · exact cW (L3 (n+4) s l k c1 t d g H h 40) (aS _ (n+4) (Mc (aG _))) (af _ _) (ag _ _) (by first | (simp (disch:=omega) only[nV,nW];done) | (simp (disch:=omega) only[nV,nW];omega))
end
end Go.Eng
end
section
namespace Go.Eng
theorem K1 {p:Nat→Bool} {N m:Nat} (h1:m<N) (h2:p m=true) (h3:∀ i,i<m→p i=false):fN p N 0=m:=by
 obtain ⟨_,b,c,d⟩:=mE p N 0
 have c:=fun i hi=>c i (Nat.zero_le i) hi
 have:fN p N 0<N:=Classical.byContradiction fun hn=>by
  have:=c m (by omega)
  rw[h2] at this;cases this
 have d:=d (by omega)
 rcases Nat.lt_trichotomy (fN p N 0) m with e | e | e
 · have:=h3 _ e;rw[d] at this;cases this
 · exact e
 · have:=c m e;rw[h2] at this;cases this
theorem vh {t e e':Nat→Int} {i l:Nat} (he:∀ j,j<l→e j=e' j) (ht:∀ j,j<l→t j<l) (hi:i<l):∀ m,(∀ q,q<m→0≤bX t q (i:Int))→C9 t e i m=C9 t e' i m
 | 0,_=>he i hi
 | m+1,hp=>by
   have h1:=hp m (by omega)
   have h2:=jL ht (show (i:Int)<l by omega) m
   show min (C9 t e i m) _=min (C9 t e' i m) _
   rw[vh he ht hi m (fun q hq=>hp q (by omega)),he _ (by omega)]
theorem yu {l:Nat} {t e e':Nat→Int} (h:Fw l t) (he:∀ j,j<l→e j=e' j) {i:Nat} (hi:i<l):oO l t e i=oO l t e' i :=
 vh he h.tl hi _ (pM h.cyc i hi).2.1
theorem En {l:Nat} {t e e':Nat→Int} (h:Fw l t) (he:∀ j,j<l→e j=e' j) (T:Int):ia l t e T=ia l t e' T :=
 eF (fun i hi=>by rw[yu h he hi])
theorem CM {l:Nat} {t e e':Nat→Int} (h:Fw l t) (he:∀ j,j<l→e j=e' j) (hh T:Int):Em l t e hh T=Em l t e' hh T:=by
 unfold Em;rw[En h he]
theorem uF {l:Nat} {t e e':Nat→Int} (h:Fw l t) (he:∀ j,j<l→e j=e' j) (hh:Int):cV l t e hh=cV l t e' hh:=by
 unfold cV;rw[pP (fun T _=>CM h he hh T)]
theorem oh (l:Nat) (t e:Nat→Int) (h:Int):cV l t e h=true↔∀ T:Nat,T≤40→(ia l t e T:Int)≤h*T:=by
 unfold cV
 rw[Bool.not_eq_true']
 constructor
 · intro hx T hT
   have:=gd hx T (by omega)
   unfold Em at this
   rw[decide_eq_false_iff_not] at this;omega
 · intro hx
   refine kI (fun T hT=>?_)
   have:=hx T (by omega)
   unfold Em
   rw[decide_eq_false_iff_not];omega
theorem H4 (l:Nat) (t e:Nat→Int) (T:Int):ia l t e T≤l:=m5 _ _
theorem C7 {p q:Nat→Bool} (h:∀ T,1≤T→T<40→p T=q T):oP p=oP q:=by
 unfold oP
 have e:cU (fun j=>p (j+1)) 39=cU (fun j=>q (j+1)) 39:=pP (fun j hj=>h _ (by omega) (by omega))
 rw[e]
 by_cases c:cU (fun j=>q (j+1)) 39=true
 · rw[if_pos c,if_pos c]
   obtain ⟨_,b,c1,d⟩:=mE (fun j=>q (j+1)) 39 0
   have hl:=iK c
   rw[K1 (p:=fun j=>p (j+1)) hl (by rw[h _ (by omega) (by omega)];exact d (by omega)) (fun i hi=>by rw[h _ (by omega) (by omega)];exact c1 i (by omega) hi)]
 · rw[if_neg c,if_neg c]
def zV (l:Nat) (t e:Nat→Int):Nat→Int
 | 0=>1
 | j+1=>max (zV l t e j) (((ia l t e ((j+1:Nat):Int):Int)+((j+1:Nat):Int)-1).tdiv ((j+1:Nat):Int))
theorem Gn {c:Nat} {T:Nat} {h:Int} (hT:0<T):((c:Int)+(T:Int)-1).tdiv (T:Int)≤h↔(c:Int)≤h*T:=by
 rw[Int.tdiv_eq_ediv_of_nonneg (by omega)]
 constructor
 · intro hx
   have h1:=Int.mul_ediv_add_emod ((c:Int)+T-1) T
   have h2:=Int.emod_lt_of_pos ((c:Int)+T-1) (show (0:Int)<T by omega)
   have h3:(T:Int)*(((c:Int)+T-1) / T)≤T*h:=Int.mul_le_mul_of_nonneg_left hx (by omega)
   rw[Int.mul_comm h]
   omega
 · intro hx
   refine Int.le_of_lt_add_one (Int.ediv_lt_of_lt_mul (by omega) ?_)
   rw[Int.add_mul,Int.one_mul];omega
theorem Bw (l:Nat) (t e:Nat→Int) (h:Int):∀ j,zV l t e j≤h↔1≤h∧∀ T:Nat,1≤T→T≤j→(ia l t e T:Int)≤h*T
 | 0=>⟨fun x=>⟨x,fun T h1 h2=>by omega⟩,fun x=>x.1⟩
 | j + 1=>by
   have ih:=Bw l t e h j
   have hc:=Gn (c:=ia l t e ((j+1:Nat):Int)) (T:=j+1) (h:=h) (by omega)
   show max (zV l t e j) _≤h↔_
   rw[Int.max_le,ih,hc]
   constructor
   · rintro ⟨⟨a,b⟩,c⟩
     refine ⟨a,fun T h1 h2=>?_⟩
     by_cases x:T=j+1
     · subst x;exact c
     · exact b T h1 (by omega)
   · rintro ⟨a,b⟩
     exact ⟨⟨a,fun T h1 h2=>b T h1 (by omega)⟩,b (j+1) (by omega) (by omega)⟩
theorem K7 (l:Nat) (t e:Nat→Int) (hl:1≤l) (j:Nat):1≤zV l t e j∧zV l t e j≤l:=by
 refine ⟨((Bw l t e _ j).1 (Int.le_refl _)).1,(Bw l t e _ j).2 ⟨by omega,fun T h1 h2=>?_⟩⟩
 have:=H4 l t e T
 have:(l:Int)*1≤l*T:=Int.mul_le_mul_of_nonneg_left (by omega) (by omega)
 omega
theorem I3 (l:Nat) (t e:Nat→Int) (h:Int) (h1:1≤h) (h0:ia l t e 0=0):cV l t e h=true↔zV l t e 40≤h:=by
 rw[oh,Bw]
 constructor
 · intro x;exact ⟨h1,fun T _ h2=>x T h2⟩
 · rintro ⟨_,x⟩ T hT
   cases T with
   | zero =>
     show ((ia l t e ((0:Nat):Int):Nat):Int)≤h*((0:Nat):Int)
     rw[show ((0:Nat):Int)=0 from rfl,h0];simp
   | succ T=>exact x _ (by omega) hT
theorem I4 (l:Nat) (t e:Nat→Int) (h:Int) (h0:0<ia l t e 0):cV l t e h=false:=by
 cases c:cV l t e h with
 | false=>rfl
 | true =>
   have:=(oh l t e h).1 c 0 (by omega)
   rw[show ((0:Nat):Int)=0 from rfl] at this
   omega
def yb (l:Nat) (t:Nat→Int) (k:Nat) (d:Nat→Int):Int×Int:=if jK l t k d=0 then (if ia l t d 0=0 then (zV l t d 40,0) else (0,13)) else (0,jK l t k d)
end Go.Eng
end
section
namespace Go.Eng
open Go.Proofs
noncomputable def An (s l:Nat) (t:Nat→Int) (k:Nat) (d g:Nat→Int) (x j:Int):ao:=[(1,.ptr 0 0 0 0),(4,dv s l t k d g),(6,.int .i64 x),(7,.int .i64 j)]
theorem t34 (n s l k:Nat) (t d g:Nat→Int) (H:aa) (x j c:Int):aQ (bt n 34 40) (il (tX aH 71 [dv s l t k d g,bP k d false,.int .i64 j] (.int .i64 c)) n 0) aN aO (part Try.f34 [1,1,1,1,0,1,0,0]) (hints (An s l t k d g x j)) (Db l t k d::H) =
 (fun (Z0:Row)=>((fun (Z1:aW)=>((fun (Z2:List AV)=>Tr.ite (jF j (Int.ofNat 40)) (Tr.reqP (Z2=Z2) (Tr.req (ay (bJ j (Int.ofNat 0))) (Tr.ok (Ex.normal,[(1,AV.ptr 0 0 0 0,none),(4,AV.ptrT (some s) Z0 0,none),(6,AV.int .i64 (Dd x (FA IntKind.i64 (bB .i64 (bE .i64 c j) (Int.ofNat 1)) j)),none),(7,AV.int .i64 (bE .i64 j (Int.ofNat 1)),none)],Z1::H)))) (Tr.ok (Ex.exit 1,[(1,AV.ptr 0 0 0 0,none),(4,AV.ptrT (some s) Z0 0,none),(6,AV.int .i64 x,none),(7,AV.int .i64 j,none),(24,AV.bool false,some 1)],Z1::H))) [AV.ptrT (some s) Z0 0,AV.slcT none (Row.M [ah.arr .i64 d k]) 1 k false,AV.int .i64 j])) { lock:=false,bs:=[(0,ak.row (Row.G [AV.slcT none (Row.M [ah.arr .i64 t l]) 1 l false,AV.slcT none (Row.M [ah.arr .i64 d k]) 1 k false]))] })) (Row.M [ah.one (AV.slcT none (Row.M [ah.arr .i64 t l]) 1 l false),ah.one (AV.slcT none (Row.M [ah.arr .i64 d k]) 1 k false),ah.arr .i64 g 30]):=by kernel_rfl
theorem SP (n l k:Nat) (t d g:Nat→Int) (H:aa) (c r:Int):aZ Try.prog (cd n) 100000 34 Try.f34 (KtL.kt 34) (il (tX (tX aH 51 [cg l t k d] (.tup [dv 0 l t k d g,.int .i64 0])) 71 [dv 0 l t k d g,bP k d false,.int .i64 0] (.int .i64 c)) n 0) (bZ aN 1 (An 0 l t k d g 1 1) (Db l t k d::H) (.ok (.normal,hints (An 0 l t k d g r 41++[(24,.bool false)]),Db l t k d::H))) aO [(cg l t k d,none)] H =
 (fun (Z0:Row)=>((fun (Z1:Row)=>((fun (Z2:ao)=>((fun (Z3:List AV)=>Tr.reqP ([AV.agg Z1]=[AV.agg Z1]) (Tr.ite (ay (bJ (Int.ofNat 0) (Int.ofNat 0))) (Tr.ok ((AV.tup [AV.int .i64 (Int.ofNat 0),AV.int .i64 (Int.ofNat 0)],none),H)) (Tr.reqP (Z3=Z3) (Tr.ite (bV (Int.ofNat 0) c) (Tr.ok ((AV.tup [AV.int .i64 (Int.ofNat 0),AV.int .i64 (Int.ofNat 13)],none),H)) (Tr.reqP (Z2=Z2∧{ lock:=false,bs:=[(0,ak.row Z1)] } :: H={ lock:=false,bs:=[(0,ak.row Z1)] } :: H) (Tr.ok ((AV.tup [AV.int .i64 r,AV.int .i64 (Int.ofNat 0)],none),H))))))) [AV.ptrT (some 0) Z0 0,AV.slcT none (Row.M [ah.arr .i64 d k]) 1 k false,AV.int .i64 (Int.ofNat 0)])) [(1,AV.ptr 0 0 0 0),(4,AV.ptrT (some 0) Z0 0),(6,AV.int .i64 (Int.ofNat 1)),(7,AV.int .i64 (Int.ofNat 1))])) (Row.G [AV.slcT none (Row.M [ah.arr .i64 t l]) 1 l false,AV.slcT none (Row.M [ah.arr .i64 d k]) 1 k false]))) (Row.M [ah.one (AV.slcT none (Row.M [ah.arr .i64 t l]) 1 l false),ah.one (AV.slcT none (Row.M [ah.arr .i64 d k]) 1 k false),ah.arr .i64 g 30]):=by kernel_rfl
theorem Pb (n l k:Nat) (t d:Nat→Int) (H:aa) (e:Int):aZ Try.prog (cd n) 100000 34 Try.f34 (KtL.kt 34) (il (tX aH 51 [cg l t k d] (.tup [.nilp,.int .i64 e])) n 0) (mw aN 1) aO [(cg l t k d,none)] H =
 (fun (Z0:List AV)=>Tr.reqP (Z0=Z0) (Tr.ite (ay (bJ e (Int.ofNat 0))) (Tr.ok ((AV.tup [AV.int .i64 (Int.ofNat 0),AV.int .i64 e],none),H)) Tr.bad)) [AV.agg (Row.G [AV.slcT none (Row.M [ah.arr .i64 t l]) 1 l false,AV.slcT none (Row.M [ah.arr .i64 d k]) 1 k false])]:=by kernel_rfl
theorem Pa (n l k:Nat) (t d g:Nat→Int) (H:aa) (c:Int):aZ Try.prog (cd n) 100000 34 Try.f34 (KtL.kt 34) (il (tX (tX aH 51 [cg l t k d] (.tup [dv 0 l t k d g,.int .i64 0])) 71 [dv 0 l t k d g,bP k d false,.int .i64 0] (.int .i64 c)) n 0) (mw aN 1) aO [(cg l t k d,none)] H =
 (fun (Z0:List AV)=>((fun (Z1:List AV)=>Tr.reqP (Z1=Z1) (Tr.ite (ay (bJ (Int.ofNat 0) (Int.ofNat 0))) (Tr.ok ((AV.tup [AV.int .i64 (Int.ofNat 0),AV.int .i64 (Int.ofNat 0)],none),H)) (Tr.reqP (Z0=Z0) (Tr.ite (bV (Int.ofNat 0) c) (Tr.ok ((AV.tup [AV.int .i64 (Int.ofNat 0),AV.int .i64 (Int.ofNat 13)],none),H)) Tr.bad)))) [AV.agg (Row.G [AV.slcT none (Row.M [ah.arr .i64 t l]) 1 l false,AV.slcT none (Row.M [ah.arr .i64 d k]) 1 k false])])) [AV.ptrT (some 0) (Row.M [ah.one (AV.slcT none (Row.M [ah.arr .i64 t l]) 1 l false),ah.one (AV.slcT none (Row.M [ah.arr .i64 d k]) 1 k false),ah.arr .i64 g 30]) 0,AV.slcT none (Row.M [ah.arr .i64 d k]) 1 k false,AV.int .i64 (Int.ofNat 0)]:=by kernel_rfl
theorem SZ (n l k:Nat) (t d:Nat→Int) (H:aa) (c:Int):aZ Try.prog (cd n) 100000 59 Try.f59 (KtL.kt 59) (il aH n 0) aN aO [(cg l t k d,none),(.int .i64 c,none)] H =
 Tr.ite (jF (Int.ofNat 0) c) (Tr.ok ((AV.bool (bV c (Int.ofNat l)),none),H)) (Tr.ok ((AV.bool false,some 1),H)):=by kernel_rfl
theorem P4:∀ b,(1,b) ∈ aJ (bm Try.f34)→b=.loop (part Try.f34 [1,1,1,1,0,1,0,0]):=fa (by kernel_rfl)
def iq (l:Nat) (t:Nat→Int) (d:Nat→Int) (h:Int):Nat:=oP (fun T=>cV l t (fun i=>min (d i) (T:Nat)) h)
section
variable (n l k:Nat) (t d:Nat→Int) (H:aa) (h:Int)
theorem MZ (e:fi l k t d h=0):cd (n+11) (.fn 61) [cg l t k d,.int .i64 h,.int .i64 0] H=some (.tup [J6 0 l t k d,.int .i64 0],H):=by
 obtain ⟨e1,e2⟩:=BT e
 rw[PS n l k t d H h 0 e1,if_pos rfl,if_pos e2]
theorem MY (e:fi l k t d h≠0):cd (n+11) (.fn 61) [cg l t k d,.int .i64 h,.int .i64 0] H=some (.tup [.nilp,.int .i64 (fi l k t d h)],H):=by
 by_cases c:jc l t k d h=0
 · rw[PS n l k t d H h 0 c,if_pos rfl]
   have:fi l k t d h=if cV l t d h=true then 0 else 13:=by unfold fi;rw[if_pos c]
   rw[this] at e ⊢
   by_cases c2:cV l t d h=true
   · rw[if_pos c2] at e;exact absurd rfl e
   · rw[if_neg c2,if_neg c2]
 · rw[MX n l k t d H h 0 c]
   have:fi l k t d h=jc l t k d h:=by unfold fi;rw[if_neg c]
   rw[this]
theorem D6 {l:Nat} {d:Nat→Int} (hb:Bd l d) (T:Int) (hT:0≤T):Bd l (fun i=>min (d i) T):=fun j hj=>by
 have:=hb j hj
 show -900≤min (d j) T∧min (d j) T≤900
 omega
theorem HW {l k:Nat} {z:Nat→Int} (hk:k=l) (hb:Bd l z):Bd l (aA (kJ z k)):=fun j hj=>by
 subst hk;rw[Al _ hj];exact hb j hj
theorem I2 {l k:Nat} {t z:Nat→Int} (h:Fw l t) (hk:k=l) (hh:Int):cV l t (aA (kJ z k)) hh=cV l t z hh :=
 uF h (fun j hj=>by subst hk;exact Al z hj) hh
theorem PR (c:Int):cd (n+1) (.fn 59) [cg l t k d,.int .i64 c] H=some (.bool (decide (0≤c) && decide (c<l)),H):=by
 refine aL (n:=n) Try.func59 rfl rfl rfl (SZ n l k t d H c) (av _) (af _ _) (ag _ _) ?_
 rw[eL]
 by_cases e:0≤c
 · rw[decide_eq_true e,Bool.true_and]
   exact wF
 · rw[decide_eq_false e,Bool.false_and]
   exact wF
noncomputable def PX:AV:=.tup [.int .i64 (yb l t k d).1,.int .i64 (yb l t k d).2]
theorem Sl (hs:Sh l t k d):exec (bt (n+4) 34 40) (.block 1 (.loop (part Try.f34 [1,1,1,1,0,1,0,0]))) (An 0 l t k d (cw t l) 1 1) (Db l t k d::H)=some (.normal,An 0 l t k d (cw t l) (zV l t d 40) 41++[(24,.bool false)],Db l t k d::H):=by
 have hC:∀ j:Nat,(tX aH 71 [dv 0 l t k d (cw t l),bP k d false,.int .i64 ((j+1:Nat):Int)] (.int .i64 (ia l t d ((j+1:Nat):Int):Nat))).Ok (cd (n+4)):=fun j =>
  bf (aG _) (fun H=>PU n 0 l k k t d _ d false H _ hs.l30 hs.kl hs.tl hs.cyc hs.bd)
 refine jD (n:=n+4) (f:=34) (nt:=40) (c:=part Try.f34 [1,1,1,1,0,1,0,0]) 1 (fun j=>An 0 l t k d (cw t l) (zV l t d j) ((j+1:Nat):Int)) (fun _=>Db l t k d::H) 40 _ (by omega) (fun j hj=>?_) ?_
 · refine aK (t34 (n+4) 0 l k t d (cw t l) H (zV l t d j) ((j+1:Nat):Int) (ia l t d ((j+1:Nat):Int):Nat)) (aS _ (n+4) (hC j)) (af _ _) (ag _ _) ?_
   have hle:=H4 l t d ((j+1:Nat):Int)
   have hl:=hs.l30
   show Tr.all _ (fun r=>_∧tidy _ _ _=(An 0 l t k d (cw t l) (max (zV l t d j) (((ia l t d ((j+1:Nat):Int):Int)+((j+1:Nat):Int)-1).tdiv ((j+1:Nat):Int))) ((j+1+1:Nat):Int),_))
   have e1:bE .i64 (ia l t d ((j+1:Nat):Int):Nat) ((j+1:Nat):Int)=(ia l t d ((j+1:Nat):Int):Int)+((j+1:Nat):Int):=Cz (by omega) (by omega)
   have e2:bB .i64 ((ia l t d ((j+1:Nat):Int):Int)+((j+1:Nat):Int)) (Int.ofNat 1)=(ia l t d ((j+1:Nat):Int):Int)+((j+1:Nat):Int)-1:=by rw[show Int.ofNat 1=1 from rfl];exact qt (by omega) (by omega)
   have e3:FA .i64 ((ia l t d ((j+1:Nat):Int):Int)+((j+1:Nat):Int)-1) ((j+1:Nat):Int)=((ia l t d ((j+1:Nat):Int):Int)+((j+1:Nat):Int)-1).tdiv ((j+1:Nat):Int):=by
    rw[B8]
    have hd:0≤((ia l t d ((j+1:Nat):Int):Int)+((j+1:Nat):Int)-1).tdiv ((j+1:Nat):Int)∧((ia l t d ((j+1:Nat):Int):Int)+((j+1:Nat):Int)-1).tdiv ((j+1:Nat):Int)≤(ia l t d ((j+1:Nat):Int):Int)+((j+1:Nat):Int)-1:=by
     rw[Int.tdiv_eq_ediv_of_nonneg (by omega)]
     exact ⟨Int.ediv_nonneg (by omega) (by omega),Int.ediv_le_self _ (by omega)⟩
    exact pw (by omega) (by omega)
   rw[dx (j:=j+1) (by omega),e1,e2,e3,yL]
   generalize max (zV l t d j) _=M at *
   generalize ia l t d ((j+1:Nat):Int)=C at *
   generalize cw t l=g at *
   exact wF
 · exact cW (t34 (n+4) 0 l k t d (cw t l) H (zV l t d 40) ((40+1:Nat):Int) (ia l t d ((40+1:Nat):Int):Nat)) (aS _ (n+4) (hC 40)) (af _ _) (ag _ _) (by first | (simp (disch:=omega) only[nV,nW];done) | (simp (disch:=omega) only[nV,nW];omega))
theorem Qm:cd (n+9) (.fn 34) [cg l t k d] H=some (PX l k t d,H):=by
 unfold PX yb
 by_cases e:jK l t k d=0
 · have hs:=tu e
   rw[if_pos e]
   have h51:∀ H,cd (n+8) (.fn 51) [cg l t k d] H=some (.tup [dv 0 l t k d (cw t l),.int .i64 0],H):=fun H=>KA n l k t d H hs
   have h71:∀ H,cd (n+8) (.fn 71) [dv 0 l t k d (cw t l),bP k d false,.int .i64 0] H=some (.int .i64 (ia l t d 0:Nat),H):=fun H=>PU (n+4) 0 l k k t d _ d false H _ hs.l30 hs.kl hs.tl hs.cyc hs.bd
   by_cases c:ia l t d 0=0
   · rw[if_pos c]
     have hx:=Sl (n+4) l k t d H hs
     refine aL (n:=n+8) Try.func34 rfl rfl rfl (SP (n+8) l k t d (cw t l) H (ia l t d 0:Nat) (zV l t d 40)) (aS _ (n+8) (bf (bf (aG _) h51) h71)) (aD (af _ _) P4 (fun x hy=>bL hy hx)) (ag _ _) ?_
     rw[c]
     generalize zV l t d 40=M at *
     generalize cw t l=g at *
     exact wF
   · rw[if_neg c]
     refine aL (n:=n+8) Try.func34 rfl rfl rfl (Pa (n+8) l k t d (cw t l) H (ia l t d 0:Nat)) (aS _ (n+8) (bf (bf (aG _) h51) h71)) (dW (af _ _) 1) (ag _ _) ?_
     generalize ia l t d 0=C at *
     generalize cw t l=g at *
     exact wF
 · rw[if_neg e]
   refine aL (n:=n+8) Try.func34 rfl rfl rfl (Pb (n+8) l k t d H (jK l t k d)) (aS _ (n+8) (bf (aG _) (fun H=>Gl n l k t d H e))) (dW (af _ _) 1) (ag _ _) ?_
   generalize jK l t k d=E at *
   exact wF
end
end Go.Eng
end
section
namespace Go.Eng
theorem oi {p q:Nat→Bool}:∀ {n:Nat},(∀ j,j<n→p j=true→q j=true)→cn p n≤cn q n
 | 0,_=>Nat.le_refl _
 | n+1,h=>by
   have ih:=oi (n:=n) (fun j hj=>h j (by omega))
   have hn:=h n (by omega)
   show cn p n+(p n).toNat≤cn q n+(q n).toNat
   cases hp:p n with
   | false=>simp;omega
   | true=>rw[hn hp];omega
end Go.Eng
end
section
namespace Go.Eng
theorem wz {l:Nat} {t:Nat→Int} (h:Fw l t) {i:Nat} (hi:i<l):1≤qf l t i∧qf l t i≤l:=by
 obtain ⟨a,b,c⟩:=pM h.cyc i hi
 refine ⟨?_,a⟩
 apply Classical.byContradiction
 intro hc
 rw[show qf l t i=0 by omega] at c
 have:bX t 0 (i:Int)=i:=rfl
 omega
theorem wA {l:Nat} {t:Nat→Int} (h:Fw l t) {i:Nat} (hi:i<l):∀ m,m<qf l t i→0≤bX t m (i:Int)∧qf l t (bX t m (i:Int)).toNat=qf l t i-m:=by
 intro m hm
 obtain ⟨a,b,c⟩:=pM h.cyc i hi
 have h0:=b m hm
 have hlt:=jL h.tl (show (i:Int)<l by omega) m
 refine ⟨h0,?_⟩
 have hx:(bX t m (i:Int)).toNat<l:=by omega
 obtain ⟨a2,b2,c2⟩:=pM h.cyc _ hx
 have comp:∀ q,bX t q ((bX t m (i:Int)).toNat:Int)=bX t (m+q) (i:Int):=by
  intro q
  induction q with
  | zero=>show (((bX t m (i:Int)).toNat:Nat):Int)=bX t m (i:Int);omega
  | succ q ih =>
    show (if 0≤bX t q ((bX t m (i:Int)).toNat:Int) then t (bX t q ((bX t m (i:Int)).toNat:Int)).toNat else bX t q ((bX t m (i:Int)).toNat:Int))=(if 0≤bX t (m+q) (i:Int) then t (bX t (m+q) (i:Int)).toNat else bX t (m+q) (i:Int))
    rw[ih]
 generalize qf l t (bX t m (i:Int)).toNat=N at *
 rcases Nat.lt_trichotomy N (qf l t i-m) with e | e | e
 · rw[comp] at c2
   have:=b (m+N) (by omega)
   omega
 · exact e
 · have:=b2 (qf l t i-m) e
   rw[comp,show m+(qf l t i-m)=qf l t i by omega] at this
   omega
end Go.Eng
end
section
namespace Go.Eng
def kr (z:Nat→Int) (w:Nat→Bool):Nat→Option Nat
 | 0=>none
 | j+1=>match kr z w j with
   | none=>if w j=true then some j else none
   | some i=>if w j=true∧z j<z i then some j else some i
theorem j9 (z:Nat→Int) (w:Nat→Bool):∀ l,(match kr z w l with | none=>∀ j,j<l→w j=false | some i=>i<l∧w i=true∧∀ j,j<l→w j=true→z i<z j∨(z i=z j∧i≤j))
 | 0=>fun j hj=>by omega
 | l + 1 => by
   have ih:=j9 z w l
   unfold kr
   cases hm:kr z w l with
   | none =>
     rw[hm] at ih
     dsimp only at ih ⊢
     by_cases c:w l=true
     · rw[if_pos c]
       refine ⟨by omega,c,fun j hj hw=>?_⟩
       by_cases e:j=l
       · subst e;exact .inr ⟨rfl,Nat.le_refl _⟩
       · have:=ih j (by omega);rw[this] at hw;cases hw
     · rw[if_neg c]
       intro j hj
       by_cases e:j=l
       · subst e
         cases h:w j with
         | true=>exact absurd h c
         | false=>rfl
       · exact ih j (by omega)
   | some i =>
     rw[hm] at ih
     dsimp only at ih ⊢
     obtain ⟨h1,h2,h3⟩:=ih
     by_cases c:w l=true∧z l<z i
     · rw[if_pos c]
       refine ⟨by omega,c.1,fun j hj hw=>?_⟩
       by_cases e:j=l
       · subst e;exact .inr ⟨rfl,Nat.le_refl _⟩
       · have:=h3 j (by omega) hw
         exact .inl (by omega)
     · rw[if_neg c]
       refine ⟨by omega,h2,fun j hj hw=>?_⟩
       by_cases e:j=l
       · subst e
         have:¬ z j<z i:=fun hx=>c ⟨hw,hx⟩
         by_cases e2:z i=z j
         · exact .inr ⟨e2,by omega⟩
         · exact .inl (by omega)
       · exact h3 j (by omega) hw
def m4 (w:Nat→Bool) (i:Nat):Nat→Bool:=fun j=>if j=i then false else w j
def je (w:Nat→Bool) (i:Nat):Nat→Bool:=fun j=>if j=i then true else w j
def rB (t:Nat→Int) (s:(Nat→Int)×(Nat→Bool)) (c:Nat):(Nat→Int)×(Nat→Bool) :=
 if t c<0 then s else
  (uI s.1 (t c).toNat (s.1 (t c).toNat-1),if s.1 (t c).toNat-1=0 then je s.2 (t c).toNat else s.2)
end Go.Eng
end
section
namespace Go.Eng
open Go.Proofs
theorem D1 (a:Int) (r:List Int) (T:Int):lO (dE (aA (a::r)) 0) (r.length+1) (aA [T])=aA (a::(r++[T])):=by
 have:=wu (a::r) T
 simpa using this
section
variable (n l k:Nat) (t d:Nat→Int) (H:aa) (h:Int)
end
end Go.Eng
end
section
namespace Go.Eng
open Go.Proofs
section
variable (n l k:Nat) (t d:Nat→Int) (H:aa) (h c:Int)
end
end Go.Eng
end
section
namespace Go.Eng
open Go.Proofs
theorem SJ (n l k:Nat) (t d:Nat→Int) (H:aa):aZ Try.prog (cd n) 100000 15 Try.f15 (KtL.kt 15) (il aH n 0) aN aO [(cg l t k d,none)] H =
 Tr.ite (bV (Int.ofNat 40) (Int.ofNat l)) (Tr.ok ((AV.bool true,some 1),H)) (Tr.ok ((AV.bool (bV (Int.ofNat 40) (Int.ofNat k)),none),H)):=by kernel_rfl
theorem SQ (n l k:Nat) (t d:Nat→Int) (b:Bool) (e:Int) (H:aa):aZ Try.prog (cd n) 100000 43 Try.f43 (KtL.kt 43) (il (tX (tX aH 15 [cg l t k d] (.bool b)) 22 [cg l t k d] (.int .i64 e)) n 0) aN aO [(cg l t k d,none)] H =
 (fun (Z0:List AV)=>Tr.reqP (Z0=Z0) (Tr.ite (ay b) (Tr.reqP (Z0=Z0) (Tr.ok ((AV.bool (bJ e (Int.ofNat 0)),none),H))) (Tr.ok ((AV.bool false,some 1),H)))) [AV.agg (Row.G [AV.slcT none (Row.M [ah.arr .i64 t l]) 1 l false,AV.slcT none (Row.M [ah.arr .i64 d k]) 1 k false])]:=by kernel_rfl
section
variable (n l k:Nat) (t d:Nat→Int) (H:aa)
theorem Qf:cd (n+1) (.fn 15) [cg l t k d] H=some (.bool (decide (40<l) || decide (40<k)),H):=by
 refine aL (n:=n) Try.func15 rfl rfl rfl (SJ n l k t d H) (av _) (af _ _) (ag _ _) ?_
 have e:bV (Int.ofNat 40) (Int.ofNat k)=decide (40<k):=by rw[eL,decide_eq_decide];show (40:Int)<(k:Int)↔_;omega
 rw[e]
 by_cases c:40<l
 · rw[decide_eq_true c,Bool.true_or]
   exact wF
 · rw[decide_eq_false c,Bool.false_or]
   exact wF
theorem Qn:cd (n+3) (.fn 43) [cg l t k d] H=some (.bool (decide (jK l t k d=0)),H):=by
 refine aL (n:=n+2) Try.func43 rfl rfl rfl (SQ (n+2) l k t d (decide (40<l) || decide (40<k)) (jK l t k d) H) (aS _ (n+2) (bf (bf (aG _) (fun H=>Qf (n+1) l k t d H)) (fun H=>Qi n l k t d H))) (af _ _) (ag _ _) ?_
 by_cases c:40<l∨40<k
 · have hb:(decide (40<l) || decide (40<k))=true:=by simpa using c
   have he:jK l t k d≠0:=fun h=>by
    have hs:=tu h
    have:=hs.l30
    have:=hs.kl
    omega
   rw[hb,decide_eq_false he]
   exact wF
 · have hb:(decide (40<l) || decide (40<k))=false:=by simpa using c
   rw[hb,dH]
   exact wF
end
end Go.Eng
end
