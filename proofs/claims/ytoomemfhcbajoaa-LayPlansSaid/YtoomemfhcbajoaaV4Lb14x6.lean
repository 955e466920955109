/- Lay: other Dues, by a closure. -/
import Derived.Test.YtoomemfhcbajoaaV4Lb11x3
set_option linter.unusedVariables false
set_option linter.unusedSimpArgs false
set_option maxRecDepth 100000
section
namespace Go.Eng
open Go.Proofs
noncomputable def gD (P:Int→Int→Int) (Q:List AV→aa→Prop) (args:List AV) (H:aa):Tr (AV×aa) :=
 match args with
 | .int .i64 i::.int .i64 e::C=>.reqP (Q C H) (.ok (.int .i64 (P i e),H))
 | _=>.bad
noncomputable def JY (f:FuncId) (P:Int→Int→Int) (Q:List AV→aa→Prop):pH:=jz aB f (gD P Q)
noncomputable def lQ (F:AV) (o:AV) (k:Nat) (d:Nat→Int) (j:Int):ar:=[(1,F),(5,o),(12,bU k d false),(13,.int .i64 (Int.ofNat k)),(14,.int .i64 j)]
theorem Nm (n k:Nat) (d:Nat→Int) (P:Int→Int→Int) (Q:List AV→aa→Prop) (H:aa) (j:Int):aJ (bo n 74 28) (il (JY 87 P Q) n 0) aG aH (part Try.f74 [1,1,0,1,0,0]) (hints (lQ (.fn (.func 87) [] [.ptr 1 0 0 0]) .nils k d j)) (az::H) =
 Tr.ite (bT j (Int.ofNat k)) (Tr.req (b8 j k) (Tr.req (bV (an 0 j 1) k) (Tr.reqP (Q [AV.ptr 1 0 0 0] (az::H)) (Tr.req (eD 0 1 8) (Tr.req (b6 0 0) (Tr.req (gH 1 1) (Tr.ok (Ex.normal,[(1,AV.fn (Fn.func 87) [] [AV.ptr 1 0 0 0],none),(5,AV.slc 0 1 0 0 1 1 none,none),(12,AV.slcT none (Row.M [ah.arr .i64 d k]) 1 k false,none),(13,AV.int .i64 (Int.ofNat k),none),(14,AV.int .i64 (bu .i64 j (Int.ofNat 1)),none)],{ lock:=false,bs:=[(0,ai.row (Row.I .i64 [P j (d (an 0 j 1))])),(0,ai.row (Row.M [ah.arr .i64 (au [P j (d (an 0 j 1))]) 1]))] } :: H)))))))) (Tr.ok (Ex.exit 0,[(1,AV.fn (Fn.func 87) [] [AV.ptr 1 0 0 0],none),(5,AV.nils,none),(12,AV.slcT none (Row.M [ah.arr .i64 d k]) 1 k false,none),(13,AV.int .i64 (Int.ofNat k),none),(14,AV.int .i64 j,none),(15,AV.bool false,some 1)],az::H)):=by kernel_rfl
theorem Jk (n k:Nat) (d:Nat→Int) (v m:Nat) (y:Nat→Int) (P:Int→Int→Int) (Q:List AV→aa→Prop) (H:aa) (j:Int):aJ (bo n 74 28) (il (JY 87 P Q) n 0) aG aH (part Try.f74 [1,1,0,1,0,0]) (hints (lQ (.fn (.func 87) [] [.ptr 1 0 0 0]) (.slc 0 0 v 0 1 m none) k d j)) (zp v m y::H) =
 Tr.ite (bT j (Int.ofNat k)) (Tr.req (b8 j k) (Tr.req (bV (an 0 j 1) k) (Tr.reqP (Q [AV.ptr 1 0 0 0] ({ lock:=false,bs:=[(v,ai.row (Row.M [ah.arr .i64 y m]))] } :: H)) (Tr.req (eD m 1 8) (Tr.req (b6 0 0) (Tr.req (gH 1 1) (Tr.req (b6 v v) (Tr.req (b6 (bN 0 m) m) (Tr.ok (Ex.normal,[(1,AV.fn (Fn.func 87) [] [AV.ptr 1 0 0 0],none),(5,AV.slc 0 0 (Nat.succ v) 0 1 (bN m 1) none,none),(12,AV.slcT none (Row.M [ah.arr .i64 d k]) 1 k false,none),(13,AV.int .i64 (Int.ofNat k),none),(14,AV.int .i64 (bu .i64 j (Int.ofNat 1)),none)],{ lock:=false,bs:=[(Nat.succ v,ai.row (Row.M [ah.arr .i64 (kI (dC y 0) m (au [P j (d (an 0 j 1))])) (bN m 1)])),(0,ai.row (Row.I .i64 [P j (d (an 0 j 1))]))] } :: H)))))))))) (Tr.ok (Ex.exit 0,[(1,AV.fn (Fn.func 87) [] [AV.ptr 1 0 0 0],none),(5,AV.slc 0 0 v 0 1 m none,none),(12,AV.slcT none (Row.M [ah.arr .i64 d k]) 1 k false,none),(13,AV.int .i64 (Int.ofNat k),none),(14,AV.int .i64 j,none),(15,AV.bool false,some 1)],{ lock:=false,bs:=[(v,ai.row (Row.M [ah.arr .i64 y m]))] } :: H)):=by kernel_rfl
theorem QL (n s l k q:Nat) (t d e y:Nat→Int) (H:aa):aT Try.prog (cd n) 100000 74 Try.f74 (KtL.kt 74) (il aB n 0) (bG aG 0 (lQ (.fn (.func 87) [] [.ptr 1 0 0 0]) .nils k d 0) (az::H) (.ok (.normal,hints (lQ (.fn (.func 87) [] [.ptr 1 0 0 0]) (.slc 0 0 q 0 1 (q+1) none) k d (Int.ofNat k)++[(15,.bool false)]),zp q (q+1) y::H))) aH [(eN s l t k d e,none),((.fn (.func 87) [] [.ptr 0 0 0 0]),none)] H =
 (fun (Z0:ar)=>Tr.reqP (Z0=Z0∧az::H=az::H) (Tr.req (b6 q q) (Tr.req (ga 0 (Nat.succ q) 0 (Nat.succ q)) (Tr.ok ((AV.slcT none (Row.M [ah.arr .i64 (dC y 0) (Nat.succ q)]) 1 (Nat.succ q) false,none),H))))) [(1,AV.fn (Fn.func 87) [] [AV.ptr 1 0 0 0]),(5,AV.nils),(12,AV.slcT none (Row.M [ah.arr .i64 d k]) 1 k false),(13,AV.int .i64 (Int.ofNat k)),(14,AV.int .i64 (Int.ofNat 0))]:=by kernel_rfl
theorem Nn (n k:Nat) (c:Nat) (d:Nat→Int) (P:Int→Int→Int) (Q:List AV→aa→Prop) (H:aa) (j:Int):aJ (bo n 74 28) (il (JY 88 P Q) n 0) aG aH (part Try.f74 [1,1,0,1,0,0]) (hints (lQ (.fn (.func 88) [] [.ptr 1 c 0 0]) .nils k d j)) (az::H) =
 Tr.ite (bT j (Int.ofNat k)) (Tr.req (b8 j k) (Tr.req (bV (an 0 j 1) k) (Tr.reqP (Q [AV.ptr 1 c 0 0] (az::H)) (Tr.req (eD 0 1 8) (Tr.req (b6 0 0) (Tr.req (gH 1 1) (Tr.ok (Ex.normal,[(1,AV.fn (Fn.func 88) [] [AV.ptr 1 c 0 0],none),(5,AV.slc 0 1 0 0 1 1 none,none),(12,AV.slcT none (Row.M [ah.arr .i64 d k]) 1 k false,none),(13,AV.int .i64 (Int.ofNat k),none),(14,AV.int .i64 (bu .i64 j (Int.ofNat 1)),none)],{ lock:=false,bs:=[(0,ai.row (Row.I .i64 [P j (d (an 0 j 1))])),(0,ai.row (Row.M [ah.arr .i64 (au [P j (d (an 0 j 1))]) 1]))] } :: H)))))))) (Tr.ok (Ex.exit 0,[(1,AV.fn (Fn.func 88) [] [AV.ptr 1 c 0 0],none),(5,AV.nils,none),(12,AV.slcT none (Row.M [ah.arr .i64 d k]) 1 k false,none),(13,AV.int .i64 (Int.ofNat k),none),(14,AV.int .i64 j,none),(15,AV.bool false,some 1)],az::H)):=by kernel_rfl
theorem Jl (n k:Nat) (c:Nat) (d:Nat→Int) (v m:Nat) (y:Nat→Int) (P:Int→Int→Int) (Q:List AV→aa→Prop) (H:aa) (j:Int):aJ (bo n 74 28) (il (JY 88 P Q) n 0) aG aH (part Try.f74 [1,1,0,1,0,0]) (hints (lQ (.fn (.func 88) [] [.ptr 1 c 0 0]) (.slc 0 0 v 0 1 m none) k d j)) (zp v m y::H) =
 Tr.ite (bT j (Int.ofNat k)) (Tr.req (b8 j k) (Tr.req (bV (an 0 j 1) k) (Tr.reqP (Q [AV.ptr 1 c 0 0] ({ lock:=false,bs:=[(v,ai.row (Row.M [ah.arr .i64 y m]))] } :: H)) (Tr.req (eD m 1 8) (Tr.req (b6 0 0) (Tr.req (gH 1 1) (Tr.req (b6 v v) (Tr.req (b6 (bN 0 m) m) (Tr.ok (Ex.normal,[(1,AV.fn (Fn.func 88) [] [AV.ptr 1 c 0 0],none),(5,AV.slc 0 0 (Nat.succ v) 0 1 (bN m 1) none,none),(12,AV.slcT none (Row.M [ah.arr .i64 d k]) 1 k false,none),(13,AV.int .i64 (Int.ofNat k),none),(14,AV.int .i64 (bu .i64 j (Int.ofNat 1)),none)],{ lock:=false,bs:=[(Nat.succ v,ai.row (Row.M [ah.arr .i64 (kI (dC y 0) m (au [P j (d (an 0 j 1))])) (bN m 1)])),(0,ai.row (Row.I .i64 [P j (d (an 0 j 1))]))] } :: H)))))))))) (Tr.ok (Ex.exit 0,[(1,AV.fn (Fn.func 88) [] [AV.ptr 1 c 0 0],none),(5,AV.slc 0 0 v 0 1 m none,none),(12,AV.slcT none (Row.M [ah.arr .i64 d k]) 1 k false,none),(13,AV.int .i64 (Int.ofNat k),none),(14,AV.int .i64 j,none),(15,AV.bool false,some 1)],{ lock:=false,bs:=[(v,ai.row (Row.M [ah.arr .i64 y m]))] } :: H)):=by kernel_rfl
theorem QM (n s l k q:Nat) (c:Nat) (t d e y:Nat→Int) (H:aa):aT Try.prog (cd n) 100000 74 Try.f74 (KtL.kt 74) (il aB n 0) (bG aG 0 (lQ (.fn (.func 88) [] [.ptr 1 c 0 0]) .nils k d 0) (az::H) (.ok (.normal,hints (lQ (.fn (.func 88) [] [.ptr 1 c 0 0]) (.slc 0 0 q 0 1 (q+1) none) k d (Int.ofNat k)++[(15,.bool false)]),zp q (q+1) y::H))) aH [(eN s l t k d e,none),((.fn (.func 88) [] [.ptr 0 c 0 0]),none)] H =
 (fun (Z0:ar)=>Tr.reqP (Z0=Z0∧az::H=az::H) (Tr.req (b6 q q) (Tr.req (ga 0 (Nat.succ q) 0 (Nat.succ q)) (Tr.ok ((AV.slcT none (Row.M [ah.arr .i64 (dC y 0) (Nat.succ q)]) 1 (Nat.succ q) false,none),H))))) [(1,AV.fn (Fn.func 88) [] [AV.ptr 1 c 0 0]),(5,AV.nils),(12,AV.slcT none (Row.M [ah.arr .i64 d k]) 1 k false),(13,AV.int .i64 (Int.ofNat k)),(14,AV.int .i64 (Int.ofNat 0))]:=by kernel_rfl
theorem Q9:∀ b,(0,b) ∈ aF (bh Try.f74)→b=.loop (part Try.f74 [1,1,0,1,0,0]):=dw (by kernel_rfl)
theorem Ff {k:Nat} {f:FuncId} {P:Int→Int→Int} {Q:List AV→aa→Prop} (h:∀ i e C H,Q C H→cd k (.fn f) (.int .i64 i::.int .i64 e::C) H=some (.int .i64 (P i e),H)):(JY f P Q).Ok (cd k):=by
 refine jX (aD _) (fun args H x hx=>?_)
 unfold gD at hx
 split at hx
 · obtain ⟨h1,h2⟩:=Tr.dm hx
   rw[h _ _ _ _ h1,← Tr.ab h2]
 · exact (Tr.ae hx).elim
noncomputable def NY:Nat→AV
 | 0=>.nils
 | q+1=>.slc 0 0 q 0 1 (q+1) none
noncomputable def HP (z:Nat→Int):Nat→aX
 | 0=>az
 | q+1=>zp q (q+1) (au (fa z (q+1)))
section
variable (n s l k:Nat) (t d e:Nat→Int) (P:Int→Int→Int) (H:aa)
end
section
variable (n s l k:Nat) (c:Nat) (t d e:Nat→Int) (P:Int→Int→Int) (H:aa)
end
section
variable (n s l k:Nat) (c:Nat) (t d e:Nat→Int) (P:Int→Int→Int) (H:aa)
end
section
variable (n s l k:Nat) (t d e:Nat→Int) (P:Int→Int→Int) (H:aa)
theorem Pj (h0:0<k) (hk:k≤1000) (hP:∀ i e L,cd n (.fn 87) (.int .i64 i::.int .i64 e::[.ptr 1 0 0 0]) (L::H)=some (.int .i64 (P i e),L::H)):exec (bo n 74 28) (.block 0 (.loop (part Try.f74 [1,1,0,1,0,0]))) (lQ (.fn (.func 87) [] [.ptr 1 0 0 0]) .nils k d 0) (az::H)=some (.normal,lQ (.fn (.func 87) [] [.ptr 1 0 0 0]) (NY k) k d (Int.ofNat k)++[(15,.bool false)],HP (fun i=>P (i:Nat) (d i)) k::H):=by
 have hC:(JY 87 P (fun C G=>C=[.ptr 1 0 0 0]∧∃ L,G=L::H)).Ok (cd n):=Ff (fun i e C G hq=>by
  obtain ⟨rfl,L,rfl⟩:=hq
  exact hP i e L)
 refine iM (n:=n) (f:=74) (nt:=28) (c:=part Try.f74 [1,1,0,1,0,0]) 0 (fun j=>lQ (.fn (.func 87) [] [.ptr 1 0 0 0]) (NY j) k d (j:Nat)) (fun j=>HP (fun i=>P (i:Nat) (d i)) j::H) k _ (by omega) (fun j hj=>?_) ?_
 · cases j with
   | zero =>
     refine aC (Nm n k d P (fun C G=>C=[.ptr 1 0 0 0]∧∃ L,G=L::H) H (0:Nat)) (aM _ n hC) (af _ _) (ag _ _) ?_
     show Tr.all _ (fun x=>_∧tidy _ _ _=(lQ (.fn (.func 87) [] [.ptr 1 0 0 0]) (.slc 0 0 0 0 1 1 none) k d ((0+1:Nat):Int),zp 0 1 (au [P (0:Nat) (d 0)])::H))
     rw[cK (j:=0) (by omega)]
     simp only[gK]
     generalize P (0:Nat) (d 0)=W at *
     repeat' first | (refine Tr.bk (fun hc=>?_) (fun hc=>?_)<;>(try simp (disch:=omega) only[nV,nW] at hc)<;>try omega) | (refine Tr.cC ?_ ?_;· (try simp (disch:=omega) only[nV,nW]);try omega) | (refine Tr.bg ?_ ?_;· first | exact trivial | rfl | exact ⟨rfl,rfl⟩ | exact ⟨rfl,rfl,rfl⟩ | (simp (disch:=omega) only[nV,nW];done) | ((try simp (disch:=omega) only[nV,nW]);omega)) | fail
     all_goals first
      | exact ⟨rfl,_,rfl⟩
      | (refine Tr.bg ⟨(by first | rfl | trivial),_,rfl⟩ ?_
         exact wF)
      | fail
   | succ j =>
     refine aC (Jk n k d j (j+1) (au (fa (fun i=>P (i:Nat) (d i)) (j+1))) P (fun C G=>C=[.ptr 1 0 0 0]∧∃ L,G=L::H) H (j+1:Nat)) (aM _ n hC) (af _ _) (ag _ _) ?_
     show Tr.all _ (fun x=>_∧tidy _ _ _=(lQ (.fn (.func 87) [] [.ptr 1 0 0 0]) (.slc 0 0 (j+1) 0 1 (j+1+1) none) k d ((j+1+1:Nat):Int),zp (j+1) (j+1+1) (au (fa (fun i=>P (i:Nat) (d i)) (j+1+1)))::H))
     have hap:=rQ (fun i=>P (i:Nat) (d i)) (j+1)
     have ea:bN (j+1) 1=j+1+1:=bF _ _
     rw[cK (j:=j+1) (by omega)]
     simp only[gK,hap,ea]
     generalize au (fa (fun i=>P (i:Nat) (d i)) (j+1+1))=Y2 at *
     generalize au (fa (fun i=>P (i:Nat) (d i)) (j+1))=Y at *
     repeat' first | (refine Tr.bk (fun hc=>?_) (fun hc=>?_)<;>(try simp (disch:=omega) only[nV,nW] at hc)<;>try omega) | (refine Tr.cC ?_ ?_;· (try simp (disch:=omega) only[nV,nW]);try omega) | (refine Tr.bg ?_ ?_;· first | exact trivial | rfl | exact ⟨rfl,rfl⟩ | exact ⟨rfl,rfl,rfl⟩ | (simp (disch:=omega) only[nV,nW];done) | ((try simp (disch:=omega) only[nV,nW]);omega)) | fail
     all_goals first
      | exact ⟨rfl,_,rfl⟩
      | (refine Tr.bg ⟨(by first | rfl | trivial),_,rfl⟩ ?_
         exact wF)
      | fail
 · obtain ⟨q,rfl⟩:∃ q,k=q+1:=⟨k-1,by omega⟩
   exact cr (Jk n (q+1) d q (q+1) (au (fa (fun i=>P (i:Nat) (d i)) (q+1))) P (fun C G=>C=[.ptr 1 0 0 0]∧∃ L,G=L::H) H (Int.ofNat (q+1))) (aM _ n hC) (af _ _) (ag _ _) (by first | (simp (disch:=omega) only[nV,nW];done) | (simp (disch:=omega) only[nV,nW];omega))
theorem On (h0:0<k) (hk:k≤1000) (hP:∀ i e L,cd n (.fn 87) (.int .i64 i::.int .i64 e::[.ptr 1 0 0 0]) (L::H)=some (.int .i64 (P i e),L::H)):cd (n+1) (.fn 74) [eN s l t k d e,(.fn (.func 87) [] [.ptr 0 0 0 0])] H=some (bU k (au (fa (fun i=>P (i:Nat) (d i)) k)) false,H):=by
 have hx:=Pj n k d P H h0 hk hP
 obtain ⟨q,rfl⟩:∃ q,k=q+1:=⟨k-1,by omega⟩
 refine aE (n:=n) Try.func74 rfl rfl rfl (QL n s l (q+1) q t d e (au (fa (fun i=>P (i:Nat) (d i)) (q+1))) H) (al _) (ay (af _ _) Q9 (fun x hy=>bI hy hx)) (ag _ _) ?_
 rw[c5]
 generalize au (fa (fun i=>P (i:Nat) (d i)) (q+1))=Y at *
 exact wF
end
section
variable (n s l k:Nat) (c:Nat) (t d e:Nat→Int) (P:Int→Int→Int) (H:aa)
theorem Pk (h0:0<k) (hk:k≤1000) (hP:∀ i e L,cd n (.fn 88) (.int .i64 i::.int .i64 e::[.ptr 1 c 0 0]) (L::H)=some (.int .i64 (P i e),L::H)):exec (bo n 74 28) (.block 0 (.loop (part Try.f74 [1,1,0,1,0,0]))) (lQ (.fn (.func 88) [] [.ptr 1 c 0 0]) .nils k d 0) (az::H)=some (.normal,lQ (.fn (.func 88) [] [.ptr 1 c 0 0]) (NY k) k d (Int.ofNat k)++[(15,.bool false)],HP (fun i=>P (i:Nat) (d i)) k::H):=by
 have hC:(JY 88 P (fun C G=>C=[.ptr 1 c 0 0]∧∃ L,G=L::H)).Ok (cd n):=Ff (fun i e C G hq=>by
  obtain ⟨rfl,L,rfl⟩:=hq
  exact hP i e L)
 refine iM (n:=n) (f:=74) (nt:=28) (c:=part Try.f74 [1,1,0,1,0,0]) 0 (fun j=>lQ (.fn (.func 88) [] [.ptr 1 c 0 0]) (NY j) k d (j:Nat)) (fun j=>HP (fun i=>P (i:Nat) (d i)) j::H) k _ (by omega) (fun j hj=>?_) ?_
 · cases j with
   | zero =>
     refine aC (Nn n k c d P (fun C G=>C=[.ptr 1 c 0 0]∧∃ L,G=L::H) H (0:Nat)) (aM _ n hC) (af _ _) (ag _ _) ?_
     show Tr.all _ (fun x=>_∧tidy _ _ _=(lQ (.fn (.func 88) [] [.ptr 1 c 0 0]) (.slc 0 0 0 0 1 1 none) k d ((0+1:Nat):Int),zp 0 1 (au [P (0:Nat) (d 0)])::H))
     rw[cK (j:=0) (by omega)]
     simp only[gK]
     generalize P (0:Nat) (d 0)=W at *
     repeat' first | (refine Tr.bk (fun hc=>?_) (fun hc=>?_)<;>(try simp (disch:=omega) only[nV,nW] at hc)<;>try omega) | (refine Tr.cC ?_ ?_;· (try simp (disch:=omega) only[nV,nW]);try omega) | (refine Tr.bg ?_ ?_;· first | exact trivial | rfl | exact ⟨rfl,rfl⟩ | exact ⟨rfl,rfl,rfl⟩ | (simp (disch:=omega) only[nV,nW];done) | ((try simp (disch:=omega) only[nV,nW]);omega)) | fail
     all_goals first
      | exact ⟨rfl,_,rfl⟩
      | (refine Tr.bg ⟨(by first | rfl | trivial),_,rfl⟩ ?_
         exact wF)
      | fail
   | succ j =>
     refine aC (Jl n k c d j (j+1) (au (fa (fun i=>P (i:Nat) (d i)) (j+1))) P (fun C G=>C=[.ptr 1 c 0 0]∧∃ L,G=L::H) H (j+1:Nat)) (aM _ n hC) (af _ _) (ag _ _) ?_
     show Tr.all _ (fun x=>_∧tidy _ _ _=(lQ (.fn (.func 88) [] [.ptr 1 c 0 0]) (.slc 0 0 (j+1) 0 1 (j+1+1) none) k d ((j+1+1:Nat):Int),zp (j+1) (j+1+1) (au (fa (fun i=>P (i:Nat) (d i)) (j+1+1)))::H))
     have hap:=rQ (fun i=>P (i:Nat) (d i)) (j+1)
     have ea:bN (j+1) 1=j+1+1:=bF _ _
     rw[cK (j:=j+1) (by omega)]
     simp only[gK,hap,ea]
     generalize au (fa (fun i=>P (i:Nat) (d i)) (j+1+1))=Y2 at *
     generalize au (fa (fun i=>P (i:Nat) (d i)) (j+1))=Y at *
     repeat' first | (refine Tr.bk (fun hc=>?_) (fun hc=>?_)<;>(try simp (disch:=omega) only[nV,nW] at hc)<;>try omega) | (refine Tr.cC ?_ ?_;· (try simp (disch:=omega) only[nV,nW]);try omega) | (refine Tr.bg ?_ ?_;· first | exact trivial | rfl | exact ⟨rfl,rfl⟩ | exact ⟨rfl,rfl,rfl⟩ | (simp (disch:=omega) only[nV,nW];done) | ((try simp (disch:=omega) only[nV,nW]);omega)) | fail
     all_goals first
      | exact ⟨rfl,_,rfl⟩
      | (refine Tr.bg ⟨(by first | rfl | trivial),_,rfl⟩ ?_
         exact wF)
      | fail
 · obtain ⟨q,rfl⟩:∃ q,k=q+1:=⟨k-1,by omega⟩
   exact cr (Jl n (q+1) c d q (q+1) (au (fa (fun i=>P (i:Nat) (d i)) (q+1))) P (fun C G=>C=[.ptr 1 c 0 0]∧∃ L,G=L::H) H (Int.ofNat (q+1))) (aM _ n hC) (af _ _) (ag _ _) (by first | (simp (disch:=omega) only[nV,nW];done) | (simp (disch:=omega) only[nV,nW];omega))
theorem Oo (h0:0<k) (hk:k≤1000) (hP:∀ i e L,cd n (.fn 88) (.int .i64 i::.int .i64 e::[.ptr 1 c 0 0]) (L::H)=some (.int .i64 (P i e),L::H)):cd (n+1) (.fn 74) [eN s l t k d e,(.fn (.func 88) [] [.ptr 0 c 0 0])] H=some (bU k (au (fa (fun i=>P (i:Nat) (d i)) k)) false,H):=by
 have hx:=Pk n k c d P H h0 hk hP
 obtain ⟨q,rfl⟩:∃ q,k=q+1:=⟨k-1,by omega⟩
 refine aE (n:=n) Try.func74 rfl rfl rfl (QM n s l (q+1) q c t d e (au (fa (fun i=>P (i:Nat) (d i)) (q+1))) H) (al _) (ay (af _ _) Q9 (fun x hy=>bI hy hx)) (ag _ _) ?_
 rw[c5]
 generalize au (fa (fun i=>P (i:Nat) (d i)) (q+1))=Y at *
 exact wF
end
end Go.Eng
end
section
namespace Go.Eng
open Go.Proofs
noncomputable def DK (s l:Nat) (t:Nat→Int) (k:Nat) (d g:Nat→Int) (h:Int) (F:AV) (j:Int):ar:=[(0,eN (s+1) l t k d g),(1,.int .i64 h),(2,F),(7,.int .i64 j)]
noncomputable def MA (T:Int):aX:=⟨false,[(0,.row (.I .i64 [T]))]⟩
theorem UZ (n:Nat) (i e T:Int) (L:aX) (H:aa):aT Try.prog (cd n) 100000 87 Try.f87 (KtL.kt 87) (il aB n 0) aG aH [(.int .i64 i,none),(.int .i64 e,none),(.ptr 1 0 0 0,none)] (L::MA T::H) =
 Tr.ok ((AV.int .i64 (jv e T),none),L::{ lock:=false,bs:=[(0,ai.row (Row.I .i64 [T]))] } :: H):=by kernel_rfl
theorem Qb (n s l k:Nat) (c1:Nat) (t d g y:Nat→Int) (H:aa) (h j c:Int):aJ (bo n 72 20) (il (tX (yk aB 86 (.int .i64 j::[.ptr 1 c1 0 0]) (az::H) (.ok (bU k y false,az::H))) 69 [eN (s+1) l t k d g,bU k y false,.int .i64 h] (.int .i64 c)) n 0) aG aH (part Try.f72 [1,0,1,0,0]) (hints (DK s l t k d g h (.fn (.func 86) [] [.ptr 1 c1 0 0]) j)) (az::H) =
 (fun (Z0:Row)=>((fun (Z1:List AV)=>Tr.ite (bT j (Int.ofNat 40)) (Tr.reqP ([AV.int .i64 j,AV.ptr 1 c1 0 0]=[AV.int .i64 j,AV.ptr 1 c1 0 0]∧az::H=az::H) (Tr.reqP (Z1=Z1) (Tr.ite (bT c (Int.ofNat 0)) (Tr.ok (Ex.ret,[(6,AV.int .i64 j,none)],az::H)) (Tr.ok (Ex.normal,[(0,AV.ptrT (some (Nat.succ s)) Z0 0,none),(1,AV.int .i64 h,none),(2,AV.fn (Fn.func 86) [] [AV.ptr 1 c1 0 0],none),(7,AV.int .i64 (bu .i64 j (Int.ofNat 1)),none)],az::H))))) (Tr.ok (Ex.exit 0,[(0,AV.ptrT (some (Nat.succ s)) Z0 0,none),(1,AV.int .i64 h,none),(2,AV.fn (Fn.func 86) [] [AV.ptr 1 c1 0 0],none),(7,AV.int .i64 j,none),(9,AV.bool false,some 1)],az::H))) [AV.ptrT (some (Nat.succ s)) Z0 0,AV.slcT none (Row.M [ah.arr .i64 y k]) 1 k false,AV.int .i64 h])) (Row.M [ah.one (AV.slcT none (Row.M [ah.arr .i64 t l]) 1 l false),ah.one (AV.slcT none (Row.M [ah.arr .i64 d k]) 1 k false),ah.arr .i64 g 30]):=by kernel_rfl
theorem Nl (n s l k:Nat) (c1:Nat) (t d g:Nat→Int) (H:aa) (h j:Int):aJ (bo n 72 20) (il (tN aB 86) n 0) aG aH (part Try.f72 [1,0,1,0,0]) (hints (DK s l t k d g h (.fn (.func 86) [] [.ptr 1 c1 0 0]) j)) (az::H) =
 Tr.ite (bT j (Int.ofNat 40)) Tr.bad (Tr.ok (Ex.exit 0,[(0,AV.ptrT (some (Nat.succ s)) (Row.M [ah.one (AV.slcT none (Row.M [ah.arr .i64 t l]) 1 l false),ah.one (AV.slcT none (Row.M [ah.arr .i64 d k]) 1 k false),ah.arr .i64 g 30]) 0,none),(1,AV.int .i64 h,none),(2,AV.fn (Fn.func 86) [] [AV.ptr 1 c1 0 0],none),(7,AV.int .i64 j,none),(9,AV.bool false,some 1)],az::H)):=by kernel_rfl
theorem QK (n s l k:Nat) (c1:Nat) (t d g:Nat→Int) (H:aa) (h r:Int) (B:Bool):aT Try.prog (cd n) 100000 72 Try.f72 (KtL.kt 72) (il aB n 0) (bG aG 0 (DK s l t k d g h (.fn (.func 86) [] [.ptr 1 c1 0 0]) 1) (az::H) (.ite B (.ok (.ret,[(6,.int .i64 r,none)],az::H)) (.ok (.normal,hints (DK s l t k d g h (.fn (.func 86) [] [.ptr 1 c1 0 0]) 40++[(9,.bool false)]),az::H)))) aH [(eN s l t k d g,none),(.int .i64 h,none),(.fn (.func 86) [] [.ptr 0 c1 0 0],none)] H =
 (fun (Z0:ar)=>Tr.reqP (Z0=Z0∧az::H=az::H) (Tr.ite B (Tr.ok ((AV.int .i64 r,none),H)) (Tr.ok ((AV.int .i64 (Int.ofNat 40),some 1),H)))) [(0,AV.ptrT (some (Nat.succ s)) (Row.M [ah.one (AV.slcT none (Row.M [ah.arr .i64 t l]) 1 l false),ah.one (AV.slcT none (Row.M [ah.arr .i64 d k]) 1 k false),ah.arr .i64 g 30]) 0),(1,AV.int .i64 h),(2,AV.fn (Fn.func 86) [] [AV.ptr 1 c1 0 0]),(7,AV.int .i64 (Int.ofNat 1))]:=by kernel_rfl
theorem RJ:∀ b,(0,b) ∈ aF (bh Try.f72)→b=.loop (part Try.f72 [1,0,1,0,0]):=dw (by kernel_rfl)
def mn (p:Nat→Bool):Nat:=if bX (fun j=>p (j+1)) 39=true then fN (fun j=>p (j+1)) 39 0+1 else 40
theorem HH (p:Nat→Bool):1≤mn p∧mn p≤40:=by
 unfold mn
 by_cases c:bX (fun j=>p (j+1)) 39=true
 · rw[if_pos c]
   have:=jd c
   omega
 · rw[if_neg c];omega
section
variable (n:Nat) (H:aa)
theorem Sc (i e T:Int) (L:aX):cd (n+1) (.fn 87) [.int .i64 i,.int .i64 e,.ptr 1 0 0 0] (L::MA T::H)=some (.int .i64 (min e T),L::MA T::H):=by
 refine aE (n:=n) Try.func87 rfl rfl rfl (UZ n i e T L H) (al _) (af _ _) (ag _ _) ?_
 rw[iw]
 exact wF
variable (l k:Nat) (t d g:Nat→Int)
end
section
variable (n s l k:Nat) (c1:Nat) (t d g:Nat→Int) (H:aa) (h:Int) (W:Nat→Nat→Int)
end
section
variable (n s l k:Nat) (c1 c2:Nat) (t d g:Nat→Int) (H:aa) (h:Int) (W:Nat→Nat→Int)
end
section
variable (n s l k:Nat) (c1:Nat) (t d g:Nat→Int) (H:aa) (h:Int) (W:Nat→Nat→Int)
theorem Om (hl:l≤30) (hk:k=l) (ht:∀ j,j<l→t j<l) (hc:iL l t=false) (hW:∀ T,1≤T→T<40→Bd l (W T)) (hh:0≤h∧h≤1000)
 (hF:∀ T,1≤T→T<40→cd (n+4) (.fn 86) (.int .i64 (T:Nat)::[.ptr 1 c1 0 0]) (az::H)=some (bU k (W T) false,az::H)) :
 cd (n+5) (.fn 72) [eN s l t k d g,.int .i64 h,.fn (.func 86) [] [.ptr 0 c1 0 0]] H=some (.int .i64 (mn (fun T=>cg l t (W T) h):Nat),H):=by
 have hC:∀ j,j<39→(tX (yk aB 86 (.int .i64 ((j+1:Nat):Int)::[.ptr 1 c1 0 0]) (az::H) (.ok (bU k (W (j+1)) false,az::H))) 69 [eN (s+1) l t k d g,bU k (W (j+1)) false,.int .i64 h] (.int .i64 (AY l t (W (j+1)) h))).Ok (cd (n+4)):=fun j hj =>
  aP (fK (aD _) (fun x hy=>by rw[← Tr.ab hy];exact hF (j+1) (by omega) (by omega))) (fun H=>Ro n (s+1) l k k t d g (W (j+1)) false H h hl hk ht hc (hW (j+1) (by omega) (by omega)) hh)
 have hx:=gJ (n:=n+4) (f:=72) (nt:=20) (c:=part Try.f72 [1,0,1,0,0]) 0 (fun j=>DK s l t k d g h (.fn (.func 86) [] [.ptr 1 c1 0 0]) ((j+1:Nat):Int)) (fun _=>az::H) 39 (fun j=>cg l t (W (j+1)) h) (fun j=>([(6,.int .i64 ((j+1:Nat):Int))],az::H)) (DK s l t k d g h (.fn (.func 86) [] [.ptr 1 c1 0 0]) 40++[(9,.bool false)],az::H) (by omega) (fun j hj=>?_) ?_
 · have hr:cond (bX (fun j=>cg l t (W (j+1)) h) 39) ((fN (fun j=>cg l t (W (j+1)) h) 39 0+1:Nat):Int) 40=(mn (fun T=>cg l t (W T) h):Nat):=by
    unfold mn
    cases bX (fun j=>cg l t (W (j+1)) h) 39 with
    | true=>rw[if_pos rfl];rfl
    | false=>rw[if_neg (by decide)];rfl
   refine aE (n:=n+4) Try.func72 rfl rfl rfl (QK (n+4) s l k c1 t d g H h ((fN (fun j=>cg l t (W (j+1)) h) 39 0+1:Nat):Int) (bX (fun j=>cg l t (W (j+1)) h) 39)) (al _) (ay (af _ _) RJ (fun x hy=>df hy hx)) (ag _ _) ?_
   rw[← hr]
   generalize ((fN (fun j=>cg l t (W (j+1)) h) 39 0+1:Nat):Int)=R at *
   generalize bX (fun j=>cg l t (W (j+1)) h) 39=B at *
   cases B
   all_goals
    simp only[cond_true,cond_false]
    exact wF
 · refine aC (Qb (n+4) s l k c1 t d g (W (j+1)) H h ((j+1:Nat):Int) (AY l t (W (j+1)) h)) (aM _ (n+4) (hC j hj)) (af _ _) (ag _ _) ?_
   show Tr.all _ (fun r=>if cg l t (W (j+1)) h=true then _ else _)
   obtain ⟨q1,q2⟩:=BW l t (W (j+1)) h
   rw[cK (j:=j+1) (by omega)]
   generalize AY l t (W (j+1)) h=C at *
   cases hB:cg l t (W (j+1)) h with
   | true =>
     have:=q1.2 hB
     simp only[if_true]
     exact wF
   | false =>
     have:=q2.2 hB
     simp only[Bool.false_eq_true,if_false]
     exact wF
 · exact cr (Nl (n+4) s l k c1 t d g H h 40) (aM _ (n+4) (Nu (aD _))) (af _ _) (ag _ _) (by first | (simp (disch:=omega) only[nV,nW];done) | (simp (disch:=omega) only[nV,nW];omega))
end
end Go.Eng
end
section
namespace Go.Eng
theorem L5 {p:Nat→Bool} {N m:Nat} (h1:m<N) (h2:p m=true) (h3:∀ i,i<m→p i=false):fN p N 0=m:=by
 obtain ⟨_,b,c,d⟩:=mS p N 0
 have c:=fun i hi=>c i (Nat.zero_le i) hi
 have:fN p N 0<N:=Classical.byContradiction fun hn=>by
  have:=c m (by omega)
  rw[h2] at this;cases this
 have d:=d (by omega)
 rcases Nat.lt_trichotomy (fN p N 0) m with e | e | e
 · have:=h3 _ e;rw[d] at this;cases this
 · exact e
 · have:=c m e;rw[h2] at this;cases this
theorem vL {t e e':Nat→Int} {i l:Nat} (he:∀ j,j<l→e j=e' j) (ht:∀ j,j<l→t j<l) (hi:i<l):∀ m,(∀ q,q<m→0≤bK t q (i:Int))→uM t e i m=uM t e' i m
 | 0,_=>he i hi
 | m+1,hp=>by
   have h1:=hp m (by omega)
   have h2:=iG ht (show (i:Int)<l by omega) m
   show min (uM t e i m) _=min (uM t e' i m) _
   rw[vL he ht hi m (fun q hq=>hp q (by omega)),he _ (by omega)]
theorem zd {l:Nat} {t e e':Nat→Int} (h:Fw l t) (he:∀ j,j<l→e j=e' j) {i:Nat} (hi:i<l):gN l t e i=gN l t e' i :=
 vL he h.tl hi _ (l6 h.cyc i hi).2.1
theorem Fc {l:Nat} {t e e':Nat→Int} (h:Fw l t) (he:∀ j,j<l→e j=e' j) (T:Int):He l t e T=He l t e' T :=
 ey (fun i hi=>by rw[zd h he hi])
theorem Dy {l:Nat} {t e e':Nat→Int} (h:Fw l t) (he:∀ j,j<l→e j=e' j) (hh T:Int):vn l t e hh T=vn l t e' hh T:=by
 unfold vn;rw[Fc h he]
theorem pQ {l:Nat} {t e e':Nat→Int} (h:Fw l t) (he:∀ j,j<l→e j=e' j) (hh:Int):cg l t e hh=cg l t e' hh:=by
 unfold cg;rw[j9 (fun T _=>Dy h he hh T)]
theorem wz (l:Nat) (t e:Nat→Int) (h:Int):cg l t e h=true↔∀ T:Nat,T≤40→(He l t e T:Int)≤h*T:=by
 unfold cg
 rw[Bool.not_eq_true']
 constructor
 · intro hx T hT
   have:=eZ hx T (by omega)
   unfold vn at this
   rw[decide_eq_false_iff_not] at this;omega
 · intro hx
   refine jc (fun T hT=>?_)
   have:=hx T (by omega)
   unfold vn
   rw[decide_eq_false_iff_not];omega
theorem DS {p q:Nat→Bool} (h:∀ T,1≤T→T<40→p T=q T):mn p=mn q:=by
 unfold mn
 have e:bX (fun j=>p (j+1)) 39=bX (fun j=>q (j+1)) 39:=j9 (fun j hj=>h _ (by omega) (by omega))
 rw[e]
 by_cases c:bX (fun j=>q (j+1)) 39=true
 · rw[if_pos c,if_pos c]
   obtain ⟨_,b,c1,d⟩:=mS (fun j=>q (j+1)) 39 0
   have hl:=jd c
   rw[L5 (p:=fun j=>p (j+1)) hl (by rw[h _ (by omega) (by omega)];exact d (by omega)) (fun i hi=>by rw[h _ (by omega) (by omega)];exact c1 i (by omega) hi)]
 · rw[if_neg c,if_neg c]
end Go.Eng
end
section
namespace Go.Eng
open Go.Proofs
noncomputable def wO (T c o j:Int):ar:=[(1,.int .i64 T),(2,.int .i64 c),(3,.int .i64 o),(4,.ptr 0 0 0 0),(8,.ptr 0 1 0 0),(9,.ptr 0 2 0 0),(10,.int .i64 j)]
noncomputable def Ct (l:Nat) (t:Nat→Int) (k:Nat) (d:Nat→Int):aX:=⟨false,[Dq l t k d,(0,.row (.G [.nils,.nils])),(0,.row (.G [bU l t false,.nils]))]⟩
noncomputable def zo (l:Nat) (t:Nat→Int) (k:Nat) (d:Nat→Int) (v m:Nat) (y:Nat→Int):aX:=⟨false,[Dq l t k d,(0,.row (.G [.nils,.nils])),(0,.row (.G [bU l t false,.slc 0 3 v 0 1 m none])),(v,.row (.M [.arr .i64 y m]))]⟩
noncomputable def wN (h j:Int):ar:=[(1,.int .i64 h),(2,.ptr 0 0 0 0),(6,.int .i64 j)]
theorem P0 (n l k:Nat) (t d:Nat→Int) (T c o j:Int) (H:aa):aJ (bo n 48 42) (il aB n 0) aG aH (part Try.f48 [1,1,0,1,0,0]) (hints (wO T c o j)) (Ct l t k d::H) =
 (fun (Z0:Nat×ai)=>((fun (Z1:aO)=>((fun (Z2:Nat×ai)=>Tr.ite (bT j (Int.ofNat k)) (Tr.req (b8 j k) (Tr.req (bV (an 0 j 1) k) (Tr.ite (cw j c) (Tr.req (eD 0 1 8) (Tr.req (b6 0 0) (Tr.req (gH 1 1) (Tr.ok (Ex.normal,Z1,{ lock:=false,bs:=[Z0,(0,ai.row (Row.G [AV.nils,AV.nils])),Z2,(0,ai.row (Row.I .i64 [jv (jv (d (an 0 j 1)) T) o])),(0,ai.row (Row.M [ah.arr .i64 (au [jv (jv (d (an 0 j 1)) T) o]) 1]))] } :: H))))) (Tr.req (eD 0 1 8) (Tr.req (b6 0 0) (Tr.req (gH 1 1) (Tr.ok (Ex.normal,Z1,{ lock:=false,bs:=[Z0,(0,ai.row (Row.G [AV.nils,AV.nils])),Z2,(0,ai.row (Row.I .i64 [jv (d (an 0 j 1)) T])),(0,ai.row (Row.M [ah.arr .i64 (au [jv (d (an 0 j 1)) T]) 1]))] } :: H)))))))) (Tr.ok (Ex.exit 0,[(1,AV.int .i64 T,none),(2,AV.int .i64 c,none),(3,AV.int .i64 o,none),(4,AV.ptr 0 0 0 0,none),(8,AV.ptr 0 1 0 0,none),(9,AV.ptr 0 2 0 0,none),(10,AV.int .i64 j,none),(19,AV.bool false,some 1)],{ lock:=false,bs:=[Z0,(0,ai.row (Row.G [AV.nils,AV.nils])),(0,ai.row (Row.G [AV.slcT none (Row.M [ah.arr .i64 t l]) 1 l false,AV.nils]))] } :: H))) (0,ai.row (Row.G [AV.slcT none (Row.M [ah.arr .i64 t l]) 1 l false,AV.slc 0 4 0 0 1 1 none])))) [(1,AV.int .i64 T,none),(2,AV.int .i64 c,none),(3,AV.int .i64 o,none),(4,AV.ptr 0 0 0 0,none),(8,AV.ptr 0 1 0 0,none),(9,AV.ptr 0 2 0 0,none),(10,AV.int .i64 (bu .i64 j (Int.ofNat 1)),none)])) (0,ai.row (Row.G [AV.slcT none (Row.M [ah.arr .i64 t l]) 1 l false,AV.slcT none (Row.M [ah.arr .i64 d k]) 1 k false])):=by kernel_rfl
theorem Ni (n l k v m:Nat) (t d y:Nat→Int) (T c o j:Int) (H:aa):aJ (bo n 48 42) (il aB n 0) aG aH (part Try.f48 [1,1,0,1,0,0]) (hints (wO T c o j)) (zo l t k d v m y::H) =
 (fun (Z0:Nat×ai)=>((fun (Z1:aO)=>((fun (Z2:Nat×ai)=>Tr.ite (bT j (Int.ofNat k)) (Tr.req (b8 j k) (Tr.req (bV (an 0 j 1) k) (Tr.ite (cw j c) (Tr.req (eD m 1 8) (Tr.req (b6 0 0) (Tr.req (gH 1 1) (Tr.req (b6 v v) (Tr.req (b6 (bN 0 m) m) (Tr.ok (Ex.normal,Z1,{ lock:=false,bs:=[Z0,(0,ai.row (Row.G [AV.nils,AV.nils])),Z2,(Nat.succ v,ai.row (Row.M [ah.arr .i64 (kI (dC y 0) m (au [jv (jv (d (an 0 j 1)) T) o])) (bN m 1)])),(0,ai.row (Row.I .i64 [jv (jv (d (an 0 j 1)) T) o]))] } :: H))))))) (Tr.req (eD m 1 8) (Tr.req (b6 0 0) (Tr.req (gH 1 1) (Tr.req (b6 v v) (Tr.req (b6 (bN 0 m) m) (Tr.ok (Ex.normal,Z1,{ lock:=false,bs:=[Z0,(0,ai.row (Row.G [AV.nils,AV.nils])),Z2,(Nat.succ v,ai.row (Row.M [ah.arr .i64 (kI (dC y 0) m (au [jv (d (an 0 j 1)) T])) (bN m 1)])),(0,ai.row (Row.I .i64 [jv (d (an 0 j 1)) T]))] } :: H)))))))))) (Tr.ok (Ex.exit 0,[(1,AV.int .i64 T,none),(2,AV.int .i64 c,none),(3,AV.int .i64 o,none),(4,AV.ptr 0 0 0 0,none),(8,AV.ptr 0 1 0 0,none),(9,AV.ptr 0 2 0 0,none),(10,AV.int .i64 j,none),(19,AV.bool false,some 1)],{ lock:=false,bs:=[Z0,(0,ai.row (Row.G [AV.nils,AV.nils])),(0,ai.row (Row.G [AV.slcT none (Row.M [ah.arr .i64 t l]) 1 l false,AV.slc 0 3 v 0 1 m none])),(v,ai.row (Row.M [ah.arr .i64 y m]))] } :: H))) (0,ai.row (Row.G [AV.slcT none (Row.M [ah.arr .i64 t l]) 1 l false,AV.slc 0 3 (Nat.succ v) 0 1 (bN m 1) none])))) [(1,AV.int .i64 T,none),(2,AV.int .i64 c,none),(3,AV.int .i64 o,none),(4,AV.ptr 0 0 0 0,none),(8,AV.ptr 0 1 0 0,none),(9,AV.ptr 0 2 0 0,none),(10,AV.int .i64 (bu .i64 j (Int.ofNat 1)),none)])) (0,ai.row (Row.G [AV.slcT none (Row.M [ah.arr .i64 t l]) 1 l false,AV.slcT none (Row.M [ah.arr .i64 d k]) 1 k false])):=by kernel_rfl
theorem UB (n l k q:Nat) (t d y:Nat→Int) (T c o:Int) (H:aa):aT Try.prog (cd n) 100000 48 Try.f48 (KtL.kt 48) (il aB n 0) (bG aG 0 (wO T c o 0) (Ct l t k d::H) (.ok (.normal,hints (wO T c o (Int.ofNat k)++[(19,.bool false)]),zo l t k d q (q+1) y::H))) aH [(bw l t k d,none),(.int .i64 T,none),(.int .i64 c,none),(.int .i64 o,none)] H =
 (fun (Z0:aX)=>((fun (Z1:ar)=>Tr.reqP (Z1=Z1∧Z0::H=Z0::H) (Tr.req (b6 q q) (Tr.req (ga 0 (Nat.succ q) 0 (Nat.succ q)) (Tr.ok ((AV.agg (Row.G [AV.slcT none (Row.M [ah.arr .i64 t l]) 1 l false,AV.slcT none (Row.M [ah.arr .i64 (dC y 0) (Nat.succ q)]) 1 (Nat.succ q) false]),none),H))))) [(1,AV.int .i64 T),(2,AV.int .i64 c),(3,AV.int .i64 o),(4,AV.ptr 0 0 0 0),(8,AV.ptr 0 1 0 0),(9,AV.ptr 0 2 0 0),(10,AV.int .i64 (Int.ofNat 0))])) { lock:=false,bs:=[(0,ai.row (Row.G [AV.slcT none (Row.M [ah.arr .i64 t l]) 1 l false,AV.slcT none (Row.M [ah.arr .i64 d k]) 1 k false])),(0,ai.row (Row.G [AV.nils,AV.nils])),(0,ai.row (Row.G [AV.slcT none (Row.M [ah.arr .i64 t l]) 1 l false,AV.nils]))] }:=by kernel_rfl
theorem t31 (n l k:Nat) (t d y:Nat→Int) (h j:Int) (b:Bool) (H:aa):aJ (bo n 31 23) (il (tX (tX aB 48 [bw l t k d,.int .i64 j,.int .i64 (-1),.int .i64 0] (bw l t k y)) 65 [bw l t k y,.int .i64 h] (.bool b)) n 0) aG aH (part Try.f31 [1,1,1,0,0,0]) (hints (wN h j)) (fx l t k d::H) =
 (fun (Z0:Row)=>((fun (Z1:List AV)=>Tr.reqP ([AV.agg Z0,AV.int .i64 j,AV.int .i64 (Int.negSucc 0),AV.int .i64 (Int.ofNat 0)]=[AV.agg Z0,AV.int .i64 j,AV.int .i64 (Int.negSucc 0),AV.int .i64 (Int.ofNat 0)]) (Tr.reqP (Z1=Z1) (Tr.ite (aQ b) (Tr.ok (Ex.normal,[(1,AV.int .i64 h,none),(2,AV.ptr 0 0 0 0,none),(6,AV.int .i64 (bu .i64 j (Int.ofNat 1)),none)],{ lock:=false,bs:=[(0,ai.row Z0)] } :: H)) (Tr.ok (Ex.exit 0,[(1,AV.int .i64 h,none),(2,AV.ptr 0 0 0 0,none),(6,AV.int .i64 j,none),(19,AV.bool false,some 1)],{ lock:=false,bs:=[(0,ai.row Z0)] } :: H))))) [AV.agg (Row.G [AV.slcT none (Row.M [ah.arr .i64 t l]) 1 l false,AV.slcT none (Row.M [ah.arr .i64 y k]) 1 k false]),AV.int .i64 h])) (Row.G [AV.slcT none (Row.M [ah.arr .i64 t l]) 1 l false,AV.slcT none (Row.M [ah.arr .i64 d k]) 1 k false]):=by kernel_rfl
theorem Uz (n l k:Nat) (t d:Nat→Int) (h r:Int) (H:aa):aT Try.prog (cd n) 100000 31 Try.f31 (KtL.kt 31) (il (tX aB 28 [bw l t k d,.int .i64 h] (.int .i64 0)) n 0) (bG aG 0 (wN h 1) (fx l t k d::H) (.ok (.normal,hints (wN h r++[(19,.bool false)]),fx l t k d::H))) aH [(bw l t k d,none),(.int .i64 h,none)] H =
 (fun (Z0:Row)=>Tr.reqP ([AV.agg Z0,AV.int .i64 h]=[AV.agg Z0,AV.int .i64 h]) (Tr.ite (aQ (cw (Int.ofNat 0) (Int.ofNat 0))) (Tr.reqP ([AV.agg Z0,AV.int .i64 h]=[AV.agg Z0,AV.int .i64 h]) (Tr.ok ((AV.tup [AV.int .i64 (Int.ofNat 0),AV.int .i64 (Int.ofNat 0)],none),H))) (Tr.reqP ([(1,AV.int .i64 h),(2,AV.ptr 0 0 0 0),(6,AV.int .i64 (Int.ofNat 1))]=[(1,AV.int .i64 h),(2,AV.ptr 0 0 0 0),(6,AV.int .i64 (Int.ofNat 1))]∧{ lock:=false,bs:=[(0,ai.row Z0)] } :: H={ lock:=false,bs:=[(0,ai.row Z0)] } :: H) (Tr.ok ((AV.tup [AV.int .i64 r,AV.int .i64 (Int.ofNat 0)],none),H))))) (Row.G [AV.slcT none (Row.M [ah.arr .i64 t l]) 1 l false,AV.slcT none (Row.M [ah.arr .i64 d k]) 1 k false]):=by kernel_rfl
theorem Qy (n l k:Nat) (t d:Nat→Int) (h e:Int) (H:aa):aT Try.prog (cd n) 100000 31 Try.f31 (KtL.kt 31) (il (tX aB 28 [bw l t k d,.int .i64 h] (.int .i64 e)) n 0) (lM aG 0) aH [(bw l t k d,none),(.int .i64 h,none)] H =
 (fun (Z0:List AV)=>Tr.reqP (Z0=Z0) (Tr.ite (aQ (cw e (Int.ofNat 0))) (Tr.reqP (Z0=Z0) (Tr.ok ((AV.tup [AV.int .i64 (Int.ofNat 0),AV.int .i64 e],none),H))) Tr.bad)) [AV.agg (Row.G [AV.slcT none (Row.M [ah.arr .i64 t l]) 1 l false,AV.slcT none (Row.M [ah.arr .i64 d k]) 1 k false]),AV.int .i64 h]:=by kernel_rfl
theorem UK (n l k:Nat) (t d:Nat→Int) (H:aa) (c:Int):aT Try.prog (cd n) 100000 59 Try.f59 (KtL.kt 59) (il aB n 0) aG aH [(bw l t k d,none),(.int .i64 c,none)] H =
 Tr.ite (lU (Int.ofNat 0) c) (Tr.ok ((AV.bool (bT c (Int.ofNat l)),none),H)) (Tr.ok ((AV.bool false,some 1),H)):=by kernel_rfl
theorem RB:∀ b,(0,b) ∈ aF (bh Try.f48)→b=.loop (part Try.f48 [1,1,0,1,0,0]):=dw (by kernel_rfl)
theorem RA:∀ b,(0,b) ∈ aF (bh Try.f31)→b=.loop (part Try.f31 [1,1,1,0,0,0]):=dw (by kernel_rfl)
def x8 (d:Nat→Int) (T c o:Int):Nat→Int:=fun i=>if (i:Int)=c then min (min (d i) T) o else min (d i) T
noncomputable def Mz (l:Nat) (t:Nat→Int) (k:Nat) (d z:Nat→Int):Nat→aX
 | 0=>Ct l t k d
 | q+1=>zo l t k d q (q+1) (au (fa z (q+1)))
def cV (l:Nat) (t:Nat→Int) (d:Nat→Int) (h:Int):Nat:=mn (fun T=>cg l t (fun i=>min (d i) (T:Nat)) h)
section
variable (n l k:Nat) (t d:Nat→Int) (H:aa) (h:Int)
theorem TY (T c o:Int) (h0:0<k) (hk:k≤1000):exec (bo n 48 42) (.block 0 (.loop (part Try.f48 [1,1,0,1,0,0]))) (wO T c o 0) (Ct l t k d::H)=some (.normal,wO T c o (Int.ofNat k)++[(19,.bool false)],Mz l t k d (x8 d T c o) k::H):=by
 refine iM (n:=n) (f:=48) (nt:=42) (c:=part Try.f48 [1,1,0,1,0,0]) 0 (fun j=>wO T c o (j:Nat)) (fun j=>Mz l t k d (x8 d T c o) j::H) k _ (by omega) (fun j hj=>?_) ?_
 · cases j with
   | zero =>
     refine aC (P0 n l k t d T c o (0:Nat) H) (al n) (af _ _) (ag _ _) ?_
     show Tr.all _ (fun x=>_∧tidy _ _ _=(wO T c o ((0+1:Nat):Int),zo l t k d 0 1 (au [x8 d T c o 0])::H))
     have hw:x8 d T c o 0=if ((0:Nat):Int)=c then min (min (d 0) T) o else min (d 0) T:=rfl
     rw[cK (j:=0) (by omega)]
     simp only[gK,iw]
     by_cases e:((0:Nat):Int)=c
     · rw[hw,if_pos e]
       generalize min (min (d 0) T) o=V at *
       exact wF
     · rw[hw,if_neg e]
       generalize min (d 0) T=V at *
       exact wF
   | succ j =>
     refine aC (Ni n l k j (j+1) t d (au (fa (x8 d T c o) (j+1))) T c o (j+1:Nat) H) (al n) (af _ _) (ag _ _) ?_
     show Tr.all _ (fun x=>_∧tidy _ _ _=(wO T c o ((j+1+1:Nat):Int),zo l t k d (j+1) (j+1+1) (au (fa (x8 d T c o) (j+1+1)))::H))
     have hap:=rQ (x8 d T c o) (j+1)
     have ea:bN (j+1) 1=j+1+1:=bF _ _
     have hw:x8 d T c o (j+1)=if ((j+1:Nat):Int)=c then min (min (d (j+1)) T) o else min (d (j+1)) T:=rfl
     rw[cK (j:=j+1) (by omega)]
     simp only[gK,iw,ea]
     by_cases e:((j+1:Nat):Int)=c
     · rw[hw,if_pos e] at hap
       generalize min (min (d (j+1)) T) o=V at *
       generalize au (fa (x8 d T c o) (j+1+1))=Y2 at *
       generalize au (fa (x8 d T c o) (j+1))=Y at *
       rw[hap]
       exact wF
     · rw[hw,if_neg e] at hap
       generalize min (min (d (j+1)) T) o=V2 at *
       generalize min (d (j+1)) T=V at *
       generalize au (fa (x8 d T c o) (j+1+1))=Y2 at *
       generalize au (fa (x8 d T c o) (j+1))=Y at *
       rw[hap]
       exact wF
 · obtain ⟨q,rfl⟩:∃ q,k=q+1:=⟨k-1,by omega⟩
   exact cr (Ni n l (q+1) q (q+1) t d (au (fa (x8 d T c o) (q+1))) T c o (Int.ofNat (q+1)) H) (al n) (af _ _) (ag _ _) (by first | (simp (disch:=omega) only[nV,nW];done) | (simp (disch:=omega) only[nV,nW];omega))
theorem RY (T c o:Int) (h0:0<k) (hk:k≤1000):cd (n+1) (.fn 48) [bw l t k d,.int .i64 T,.int .i64 c,.int .i64 o] H=some (bw l t k (au (fa (x8 d T c o) k)),H):=by
 have hx:=TY n l k t d H T c o h0 hk
 obtain ⟨q,rfl⟩:∃ q,k=q+1:=⟨k-1,by omega⟩
 refine aE (n:=n) Try.func48 rfl rfl rfl (UB n l (q+1) q t d (au (fa (x8 d T c o) (q+1))) T c o H) (al _) (ay (af _ _) RB (fun x hy=>bI hy hx)) (ag _ _) ?_
 rw[c5]
 generalize au (fa (x8 d T c o) (q+1))=Y at *
 exact wF
theorem Ol (e:dr l k t d h=0):cd (n+11) (.fn 61) [bw l t k d,.int .i64 h,.int .i64 0] H=some (.tup [K9 0 l t k d,.int .i64 0],H):=by
 obtain ⟨e1,e2⟩:=rX e
 rw[Rk n l k t d H h 0 e1,if_pos rfl,if_pos e2]
theorem Oj (e:dr l k t d h≠0):cd (n+11) (.fn 61) [bw l t k d,.int .i64 h,.int .i64 0] H=some (.tup [.nilp,.int .i64 (dr l k t d h)],H):=by
 by_cases c:ep l t k d h=0
 · rw[Rk n l k t d H h 0 c,if_pos rfl]
   have:dr l k t d h=if cg l t d h=true then 0 else 13:=by unfold dr;rw[if_pos c]
   rw[this] at e ⊢
   by_cases c2:cg l t d h=true
   · rw[if_pos c2] at e;exact absurd rfl e
   · rw[if_neg c2,if_neg c2]
 · rw[Oi n l k t d H h 0 c]
   have:dr l k t d h=ep l t k d h:=by unfold dr;rw[if_neg c]
   rw[this]
theorem AP {l:Nat} {d:Nat→Int} (hb:Bd l d) (T:Int) (hT:0≤T):Bd l (fun i=>min (d i) T):=fun j hj=>by
 have:=hb j hj
 show -900≤min (d j) T∧min (d j) T≤900
 omega
theorem EJ {l k:Nat} {z:Nat→Int} (hk:k=l) (hb:Bd l z):Bd l (au (fa z k)):=fun j hj=>by
 subst hk;rw[wK _ hj];exact hb j hj
theorem EP {l k:Nat} {t z:Nat→Int} (h:Fw l t) (hk:k=l) (hh:Int):cg l t (au (fa z k)) hh=cg l t z hh :=
 pQ h (fun j hj=>by subst hk;exact wK z hj) hh
noncomputable def NI:AV:=if dr l k t d h=0 then .tup [.int .i64 (cV l t d h:Nat),.int .i64 0] else .tup [.int .i64 0,.int .i64 (dr l k t d h)]
theorem Kp {p:Nat→Bool}:(bX (fun j=>p (j+1)) 39=true→(mn p=fN (fun j=>p (j+1)) 39 0+1))∧(bX (fun j=>p (j+1)) 39=false→mn p=40):=by
 unfold mn
 constructor
 · intro h;rw[if_pos h]
 · intro h;rw[if_neg (by rw[h];decide)]
theorem TX (e:dr l k t d h=0):exec (bo (n+4) 31 23) (.block 0 (.loop (part Try.f31 [1,1,1,0,0,0]))) (wN h 1) (fx l t k d::H)=some (.normal,wN h (cV l t d h:Nat)++[(19,.bool false)],fx l t k d::H):=by
 obtain ⟨e1,e2⟩:=rX e
 obtain ⟨hs,h1,h2⟩:=lY e1
 have hl1:=hs.l1
 have hl2:=hs.l30
 have hkl:=hs.kl
 have hw:∀ j:Nat,x8 d (j+1:Nat) (-1) 0=fun i=>min (d i) (j+1:Nat):=fun j=>by
  funext i;unfold x8;rw[if_neg (by omega)]
 have hC:∀ j:Nat,(tX (tX aB 48 [bw l t k d,.int .i64 ((j+1:Nat):Int),.int .i64 (-1),.int .i64 0] (bw l t k (au (fa (fun i=>min (d i) (j+1:Nat)) k)))) 65 [bw l t k (au (fa (fun i=>min (d i) (j+1:Nat)) k)),.int .i64 h] (.bool (cg l t (fun i=>min (d i) (j+1:Nat)) h))).Ok (cd (n+4)):=fun j =>
  aP (aP (aD _) (fun H=>by rw[← hw j];exact RY (n+3) l k t d H _ _ _ (by omega) (by omega))) (fun H=>by
   rw[← EP hs.fw hs.kl]
   exact Rl (n+1) l k t _ H h hs.fw (by omega) hs.kl (EJ hs.kl (AP hs.bd _ (by omega))) (by omega))
 have hx:=L8 (n:=n+4) (f:=31) (nt:=23) (c:=part Try.f31 [1,1,1,0,0,0]) 0 (fun j=>wN h ((j+1:Nat):Int)) (fun _=>fx l t k d::H) 39 (fun j=>cg l t (fun i=>min (d i) (j+1:Nat)) h) (fun j=>(wN h ((j+1:Nat):Int)++[(19,.bool false)],fx l t k d::H)) (wN h 40++[(19,.bool false)],fx l t k d::H) (by omega) (fun j hj=>?_) ?_
 · obtain ⟨q1,q2⟩:=Kp (p:=fun T=>cg l t (fun i=>min (d i) (T:Nat)) h)
   refine hx.trans ?_
   unfold cV
   cases hB:bX (fun j=>cg l t (fun i=>min (d i) ((j+1:Nat):Int)) h) 39 with
   | true=>rw[q1 hB];rfl
   | false=>rw[q2 hB];rfl
 · refine aC (t31 (n+4) l k t d (au (fa (fun i=>min (d i) (j+1:Nat)) k)) h ((j+1:Nat):Int) (cg l t (fun i=>min (d i) (j+1:Nat)) h) H) (aM _ (n+4) (hC j)) (af _ _) (ag _ _) ?_
   show Tr.all _ (fun r=>if cg l t (fun i=>min (d i) (j+1:Nat)) h=true then _ else _)
   rw[cK (j:=j+1) (by omega)]
   generalize cg l t (fun i=>min (d i) (j+1:Nat)) h=B at *
   generalize au (fa (fun i=>min (d i) (j+1:Nat)) k)=Y at *
   cases B with
   | true =>
     simp only[if_true]
     exact wF
   | false =>
     simp only[Bool.false_eq_true,if_false]
     exact wF
 · have hB:cg l t (fun i=>min (d i) (39+1:Nat)) h=true:=by
    rw[pQ hs.fw (e':=d) (fun j hj=>by have:=hs.d40 j hj;show min (d j) 40=d j;omega)]
    exact e2
   obtain ⟨x,h1,rfl⟩:=aC (Q:=fun x=>x=(.exit 0,wN h 40++[(19,.bool false)],fx l t k d::H)) (t31 (n+4) l k t d (au (fa (fun i=>min (d i) (39+1:Nat)) k)) h ((39+1:Nat):Int) (cg l t (fun i=>min (d i) (39+1:Nat)) h) H) (aM _ (n+4) (hC 39)) (af _ _) (ag _ _) (by
    rw[hB]
    generalize au (fa (fun i=>min (d i) (39+1:Nat)) k)=Y at *
    exact wF)
   exact h1
theorem RX:cd (n+5) (.fn 31) [bw l t k d,.int .i64 h] H=some (NI l k t d h,H):=by
 unfold NI
 by_cases e:dr l k t d h=0
 · rw[if_pos e]
   have hx:=TX n l k t d H h e
   refine aE (n:=n+4) Try.func31 rfl rfl rfl (Uz (n+4) l k t d h (cV l t d h:Nat) H) (aM _ (n+4) (aP (aD _) (fun H=>by rw[Og,e]))) (ay (af _ _) RA (fun x hy=>bI hy hx)) (ag _ _) ?_
   exact wF
 · rw[if_neg e]
   refine aE (n:=n+4) Try.func31 rfl rfl rfl (Qy (n+4) l k t d h (dr l k t d h) H) (aM _ (n+4) (aP (aD _) (fun H=>Og n l k t d H h))) (dK (af _ _) 0) (ag _ _) ?_
   generalize dr l k t d h=E at *
   exact wF
theorem Ri (c:Int):cd (n+1) (.fn 59) [bw l t k d,.int .i64 c] H=some (.bool (decide (0≤c) && decide (c<l)),H):=by
 refine aE (n:=n) Try.func59 rfl rfl rfl (UK n l k t d H c) (al _) (af _ _) (ag _ _) ?_
 rw[dj]
 by_cases e:0≤c
 · rw[decide_eq_true e,Bool.true_and]
   exact wF
 · rw[decide_eq_false e,Bool.false_and]
   exact wF
end
end Go.Eng
end
section
namespace Go.Eng
theorem oE {p q:Nat→Bool}:∀ {n:Nat},(∀ j,j<n→p j=true→q j=true)→cn p n≤cn q n
 | 0,_=>Nat.le_refl _
 | n+1,h=>by
   have ih:=oE (n:=n) (fun j hj=>h j (by omega))
   have hn:=h n (by omega)
   show cn p n+(p n).toNat≤cn q n+(q n).toNat
   cases hp:p n with
   | false=>simp;omega
   | true=>rw[hn hp];omega
end Go.Eng
end
section
namespace Go.Eng
theorem xe {l:Nat} {t:Nat→Int} (h:Fw l t) {i:Nat} (hi:i<l):1≤jk l t i∧jk l t i≤l:=by
 obtain ⟨a,b,c⟩:=l6 h.cyc i hi
 refine ⟨?_,a⟩
 apply Classical.byContradiction
 intro hc
 rw[show jk l t i=0 by omega] at c
 have:bK t 0 (i:Int)=i:=rfl
 omega
theorem xf {l:Nat} {t:Nat→Int} (h:Fw l t) {i:Nat} (hi:i<l):∀ m,m<jk l t i→0≤bK t m (i:Int)∧jk l t (bK t m (i:Int)).toNat=jk l t i-m:=by
 intro m hm
 obtain ⟨a,b,c⟩:=l6 h.cyc i hi
 have h0:=b m hm
 have hlt:=iG h.tl (show (i:Int)<l by omega) m
 refine ⟨h0,?_⟩
 have hx:(bK t m (i:Int)).toNat<l:=by omega
 obtain ⟨a2,b2,c2⟩:=l6 h.cyc _ hx
 have comp:∀ q,bK t q ((bK t m (i:Int)).toNat:Int)=bK t (m+q) (i:Int):=by
  intro q
  induction q with
  | zero=>show (((bK t m (i:Int)).toNat:Nat):Int)=bK t m (i:Int);omega
  | succ q ih =>
    show (if 0≤bK t q ((bK t m (i:Int)).toNat:Int) then t (bK t q ((bK t m (i:Int)).toNat:Int)).toNat else bK t q ((bK t m (i:Int)).toNat:Int))=(if 0≤bK t (m+q) (i:Int) then t (bK t (m+q) (i:Int)).toNat else bK t (m+q) (i:Int))
    rw[ih]
 generalize jk l t (bK t m (i:Int)).toNat=N at *
 rcases Nat.lt_trichotomy N (jk l t i-m) with e | e | e
 · rw[comp] at c2
   have:=b (m+N) (by omega)
   omega
 · exact e
 · have:=b2 (jk l t i-m) e
   rw[comp,show m+(jk l t i-m)=jk l t i by omega] at this
   omega
end Go.Eng
end
