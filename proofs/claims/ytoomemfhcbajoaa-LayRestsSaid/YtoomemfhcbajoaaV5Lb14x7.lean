/- Lay: other Dues, by a closure. -/
import Derived.Test.YtoomemfhcbajoaaV5Lb11x3
set_option linter.unusedVariables false
set_option linter.unusedSimpArgs false
set_option maxRecDepth 100000
section
namespace Go.Eng
open Go.Proofs
noncomputable def gD (P:Int→Int→Int) (Q:List AV→aa→Prop) (args:List AV) (H:aa):Tr (AV×aa) :=
 match args with
 | .int .i64 i::.int .i64 e::C=>.reqP (Q C H) (.ok (.int .i64 (P i e),H))
 | _=>.bad
noncomputable def FQ (f:FuncId) (P:Int→Int→Int) (Q:List AV→aa→Prop):n5:=gY aK f (gD P Q)
noncomputable def gB (F:AV) (o:AV) (k:Nat) (d:Nat→Int) (j:Int):ar:=[(1,F),(5,o),(12,b7 k d false),(13,.int .i64 (Int.ofNat k)),(14,.int .i64 j)]
theorem LO (n k:Nat) (c:Nat) (d:Nat→Int) (P:Int→Int→Int) (Q:List AV→aa→Prop) (H:aa) (j:Int):aG (bx n 74 28) (il (FQ 79 P Q) n 0) aO aP (part Try.f74 [1,1,0,1,0,0]) (hints (gB (.fn (.func 79) [] [.ptr 1 c 0 0]) .nils k d j)) (aD::H) =
 Tr.ite (cq j (Int.ofNat k)) (Tr.req (dv j k) (Tr.req (c9 (ay 0 j 1) k) (Tr.reqP (Q [AV.ptr 1 c 0 0] (aD::H)) (Tr.req (cF 0 1 8) (Tr.req (bM 0 0) (Tr.req (bY 1 1) (Tr.ok (Ex.normal,[(1,AV.fn (Fn.func 79) [] [AV.ptr 1 c 0 0],none),(5,AV.slc 0 1 0 0 1 1 none,none),(12,AV.slcT none (Row.M [ah.arr .i64 d k]) 1 k false,none),(13,AV.int .i64 (Int.ofNat k),none),(14,AV.int .i64 (br .i64 j (Int.ofNat 1)),none)],{ lock:=false,bs:=[(0,ai.row (Row.I .i64 [P j (d (ay 0 j 1))])),(0,ai.row (Row.M [ah.arr .i64 (al [P j (d (ay 0 j 1))]) 1]))] } :: H)))))))) (Tr.ok (Ex.exit 0,[(1,AV.fn (Fn.func 79) [] [AV.ptr 1 c 0 0],none),(5,AV.nils,none),(12,AV.slcT none (Row.M [ah.arr .i64 d k]) 1 k false,none),(13,AV.int .i64 (Int.ofNat k),none),(14,AV.int .i64 j,none),(15,AV.bool false,some 1)],aD::H)):=by kernel_rfl
theorem Ii (n k:Nat) (c:Nat) (d:Nat→Int) (v m:Nat) (y:Nat→Int) (P:Int→Int→Int) (Q:List AV→aa→Prop) (H:aa) (j:Int):aG (bx n 74 28) (il (FQ 79 P Q) n 0) aO aP (part Try.f74 [1,1,0,1,0,0]) (hints (gB (.fn (.func 79) [] [.ptr 1 c 0 0]) (.slc 0 0 v 0 1 m none) k d j)) (C6 v m y::H) =
 Tr.ite (cq j (Int.ofNat k)) (Tr.req (dv j k) (Tr.req (c9 (ay 0 j 1) k) (Tr.reqP (Q [AV.ptr 1 c 0 0] ({ lock:=false,bs:=[(v,ai.row (Row.M [ah.arr .i64 y m]))] } :: H)) (Tr.req (cF m 1 8) (Tr.req (bM 0 0) (Tr.req (bY 1 1) (Tr.req (bM v v) (Tr.req (bM (bB 0 m) m) (Tr.ok (Ex.normal,[(1,AV.fn (Fn.func 79) [] [AV.ptr 1 c 0 0],none),(5,AV.slc 0 0 (Nat.succ v) 0 1 (bB m 1) none,none),(12,AV.slcT none (Row.M [ah.arr .i64 d k]) 1 k false,none),(13,AV.int .i64 (Int.ofNat k),none),(14,AV.int .i64 (br .i64 j (Int.ofNat 1)),none)],{ lock:=false,bs:=[(Nat.succ v,ai.row (Row.M [ah.arr .i64 (jO (bm y 0) m (al [P j (d (ay 0 j 1))])) (bB m 1)])),(0,ai.row (Row.I .i64 [P j (d (ay 0 j 1))]))] } :: H)))))))))) (Tr.ok (Ex.exit 0,[(1,AV.fn (Fn.func 79) [] [AV.ptr 1 c 0 0],none),(5,AV.slc 0 0 v 0 1 m none,none),(12,AV.slcT none (Row.M [ah.arr .i64 d k]) 1 k false,none),(13,AV.int .i64 (Int.ofNat k),none),(14,AV.int .i64 j,none),(15,AV.bool false,some 1)],{ lock:=false,bs:=[(v,ai.row (Row.M [ah.arr .i64 y m]))] } :: H)):=by kernel_rfl
theorem OS (n s l k q:Nat) (c:Nat) (t d e y:Nat→Int) (H:aa):bn Try.prog (cd n) 100000 74 Try.f74 (KtL.kt 74) (il aK n 0) (cX aO 0 (gB (.fn (.func 79) [] [.ptr 1 c 0 0]) .nils k d 0) (aD::H) (.ok (.normal,hints (gB (.fn (.func 79) [] [.ptr 1 c 0 0]) (.slc 0 0 q 0 1 (q+1) none) k d (Int.ofNat k)++[(15,.bool false)]),C6 q (q+1) y::H))) aP [(dC s l t k d e,none),((.fn (.func 79) [] [.ptr 0 c 0 0]),none)] H =
 (fun (Z0:ar)=>Tr.reqP (Z0=Z0∧aD::H=aD::H) (Tr.req (bM q q) (Tr.req (iB 0 (Nat.succ q) 0 (Nat.succ q)) (Tr.ok ((AV.slcT none (Row.M [ah.arr .i64 (bm y 0) (Nat.succ q)]) 1 (Nat.succ q) false,none),H))))) [(1,AV.fn (Fn.func 79) [] [AV.ptr 1 c 0 0]),(5,AV.nils),(12,AV.slcT none (Row.M [ah.arr .i64 d k]) 1 k false),(13,AV.int .i64 (Int.ofNat k)),(14,AV.int .i64 (Int.ofNat 0))]:=by kernel_rfl
theorem LP (n k:Nat) (d:Nat→Int) (P:Int→Int→Int) (Q:List AV→aa→Prop) (H:aa) (j:Int):aG (bx n 74 28) (il (FQ 87 P Q) n 0) aO aP (part Try.f74 [1,1,0,1,0,0]) (hints (gB (.fn (.func 87) [] [.ptr 1 0 0 0]) .nils k d j)) (aD::H) =
 Tr.ite (cq j (Int.ofNat k)) (Tr.req (dv j k) (Tr.req (c9 (ay 0 j 1) k) (Tr.reqP (Q [AV.ptr 1 0 0 0] (aD::H)) (Tr.req (cF 0 1 8) (Tr.req (bM 0 0) (Tr.req (bY 1 1) (Tr.ok (Ex.normal,[(1,AV.fn (Fn.func 87) [] [AV.ptr 1 0 0 0],none),(5,AV.slc 0 1 0 0 1 1 none,none),(12,AV.slcT none (Row.M [ah.arr .i64 d k]) 1 k false,none),(13,AV.int .i64 (Int.ofNat k),none),(14,AV.int .i64 (br .i64 j (Int.ofNat 1)),none)],{ lock:=false,bs:=[(0,ai.row (Row.I .i64 [P j (d (ay 0 j 1))])),(0,ai.row (Row.M [ah.arr .i64 (al [P j (d (ay 0 j 1))]) 1]))] } :: H)))))))) (Tr.ok (Ex.exit 0,[(1,AV.fn (Fn.func 87) [] [AV.ptr 1 0 0 0],none),(5,AV.nils,none),(12,AV.slcT none (Row.M [ah.arr .i64 d k]) 1 k false,none),(13,AV.int .i64 (Int.ofNat k),none),(14,AV.int .i64 j,none),(15,AV.bool false,some 1)],aD::H)):=by kernel_rfl
theorem Ij (n k:Nat) (d:Nat→Int) (v m:Nat) (y:Nat→Int) (P:Int→Int→Int) (Q:List AV→aa→Prop) (H:aa) (j:Int):aG (bx n 74 28) (il (FQ 87 P Q) n 0) aO aP (part Try.f74 [1,1,0,1,0,0]) (hints (gB (.fn (.func 87) [] [.ptr 1 0 0 0]) (.slc 0 0 v 0 1 m none) k d j)) (C6 v m y::H) =
 Tr.ite (cq j (Int.ofNat k)) (Tr.req (dv j k) (Tr.req (c9 (ay 0 j 1) k) (Tr.reqP (Q [AV.ptr 1 0 0 0] ({ lock:=false,bs:=[(v,ai.row (Row.M [ah.arr .i64 y m]))] } :: H)) (Tr.req (cF m 1 8) (Tr.req (bM 0 0) (Tr.req (bY 1 1) (Tr.req (bM v v) (Tr.req (bM (bB 0 m) m) (Tr.ok (Ex.normal,[(1,AV.fn (Fn.func 87) [] [AV.ptr 1 0 0 0],none),(5,AV.slc 0 0 (Nat.succ v) 0 1 (bB m 1) none,none),(12,AV.slcT none (Row.M [ah.arr .i64 d k]) 1 k false,none),(13,AV.int .i64 (Int.ofNat k),none),(14,AV.int .i64 (br .i64 j (Int.ofNat 1)),none)],{ lock:=false,bs:=[(Nat.succ v,ai.row (Row.M [ah.arr .i64 (jO (bm y 0) m (al [P j (d (ay 0 j 1))])) (bB m 1)])),(0,ai.row (Row.I .i64 [P j (d (ay 0 j 1))]))] } :: H)))))))))) (Tr.ok (Ex.exit 0,[(1,AV.fn (Fn.func 87) [] [AV.ptr 1 0 0 0],none),(5,AV.slc 0 0 v 0 1 m none,none),(12,AV.slcT none (Row.M [ah.arr .i64 d k]) 1 k false,none),(13,AV.int .i64 (Int.ofNat k),none),(14,AV.int .i64 j,none),(15,AV.bool false,some 1)],{ lock:=false,bs:=[(v,ai.row (Row.M [ah.arr .i64 y m]))] } :: H)):=by kernel_rfl
theorem OT (n s l k q:Nat) (t d e y:Nat→Int) (H:aa):bn Try.prog (cd n) 100000 74 Try.f74 (KtL.kt 74) (il aK n 0) (cX aO 0 (gB (.fn (.func 87) [] [.ptr 1 0 0 0]) .nils k d 0) (aD::H) (.ok (.normal,hints (gB (.fn (.func 87) [] [.ptr 1 0 0 0]) (.slc 0 0 q 0 1 (q+1) none) k d (Int.ofNat k)++[(15,.bool false)]),C6 q (q+1) y::H))) aP [(dC s l t k d e,none),((.fn (.func 87) [] [.ptr 0 0 0 0]),none)] H =
 (fun (Z0:ar)=>Tr.reqP (Z0=Z0∧aD::H=aD::H) (Tr.req (bM q q) (Tr.req (iB 0 (Nat.succ q) 0 (Nat.succ q)) (Tr.ok ((AV.slcT none (Row.M [ah.arr .i64 (bm y 0) (Nat.succ q)]) 1 (Nat.succ q) false,none),H))))) [(1,AV.fn (Fn.func 87) [] [AV.ptr 1 0 0 0]),(5,AV.nils),(12,AV.slcT none (Row.M [ah.arr .i64 d k]) 1 k false),(13,AV.int .i64 (Int.ofNat k)),(14,AV.int .i64 (Int.ofNat 0))]:=by kernel_rfl
theorem LQ (n k:Nat) (c:Nat) (d:Nat→Int) (P:Int→Int→Int) (Q:List AV→aa→Prop) (H:aa) (j:Int):aG (bx n 74 28) (il (FQ 88 P Q) n 0) aO aP (part Try.f74 [1,1,0,1,0,0]) (hints (gB (.fn (.func 88) [] [.ptr 1 c 0 0]) .nils k d j)) (aD::H) =
 Tr.ite (cq j (Int.ofNat k)) (Tr.req (dv j k) (Tr.req (c9 (ay 0 j 1) k) (Tr.reqP (Q [AV.ptr 1 c 0 0] (aD::H)) (Tr.req (cF 0 1 8) (Tr.req (bM 0 0) (Tr.req (bY 1 1) (Tr.ok (Ex.normal,[(1,AV.fn (Fn.func 88) [] [AV.ptr 1 c 0 0],none),(5,AV.slc 0 1 0 0 1 1 none,none),(12,AV.slcT none (Row.M [ah.arr .i64 d k]) 1 k false,none),(13,AV.int .i64 (Int.ofNat k),none),(14,AV.int .i64 (br .i64 j (Int.ofNat 1)),none)],{ lock:=false,bs:=[(0,ai.row (Row.I .i64 [P j (d (ay 0 j 1))])),(0,ai.row (Row.M [ah.arr .i64 (al [P j (d (ay 0 j 1))]) 1]))] } :: H)))))))) (Tr.ok (Ex.exit 0,[(1,AV.fn (Fn.func 88) [] [AV.ptr 1 c 0 0],none),(5,AV.nils,none),(12,AV.slcT none (Row.M [ah.arr .i64 d k]) 1 k false,none),(13,AV.int .i64 (Int.ofNat k),none),(14,AV.int .i64 j,none),(15,AV.bool false,some 1)],aD::H)):=by kernel_rfl
theorem Ik (n k:Nat) (c:Nat) (d:Nat→Int) (v m:Nat) (y:Nat→Int) (P:Int→Int→Int) (Q:List AV→aa→Prop) (H:aa) (j:Int):aG (bx n 74 28) (il (FQ 88 P Q) n 0) aO aP (part Try.f74 [1,1,0,1,0,0]) (hints (gB (.fn (.func 88) [] [.ptr 1 c 0 0]) (.slc 0 0 v 0 1 m none) k d j)) (C6 v m y::H) =
 Tr.ite (cq j (Int.ofNat k)) (Tr.req (dv j k) (Tr.req (c9 (ay 0 j 1) k) (Tr.reqP (Q [AV.ptr 1 c 0 0] ({ lock:=false,bs:=[(v,ai.row (Row.M [ah.arr .i64 y m]))] } :: H)) (Tr.req (cF m 1 8) (Tr.req (bM 0 0) (Tr.req (bY 1 1) (Tr.req (bM v v) (Tr.req (bM (bB 0 m) m) (Tr.ok (Ex.normal,[(1,AV.fn (Fn.func 88) [] [AV.ptr 1 c 0 0],none),(5,AV.slc 0 0 (Nat.succ v) 0 1 (bB m 1) none,none),(12,AV.slcT none (Row.M [ah.arr .i64 d k]) 1 k false,none),(13,AV.int .i64 (Int.ofNat k),none),(14,AV.int .i64 (br .i64 j (Int.ofNat 1)),none)],{ lock:=false,bs:=[(Nat.succ v,ai.row (Row.M [ah.arr .i64 (jO (bm y 0) m (al [P j (d (ay 0 j 1))])) (bB m 1)])),(0,ai.row (Row.I .i64 [P j (d (ay 0 j 1))]))] } :: H)))))))))) (Tr.ok (Ex.exit 0,[(1,AV.fn (Fn.func 88) [] [AV.ptr 1 c 0 0],none),(5,AV.slc 0 0 v 0 1 m none,none),(12,AV.slcT none (Row.M [ah.arr .i64 d k]) 1 k false,none),(13,AV.int .i64 (Int.ofNat k),none),(14,AV.int .i64 j,none),(15,AV.bool false,some 1)],{ lock:=false,bs:=[(v,ai.row (Row.M [ah.arr .i64 y m]))] } :: H)):=by kernel_rfl
theorem OU (n s l k q:Nat) (c:Nat) (t d e y:Nat→Int) (H:aa):bn Try.prog (cd n) 100000 74 Try.f74 (KtL.kt 74) (il aK n 0) (cX aO 0 (gB (.fn (.func 88) [] [.ptr 1 c 0 0]) .nils k d 0) (aD::H) (.ok (.normal,hints (gB (.fn (.func 88) [] [.ptr 1 c 0 0]) (.slc 0 0 q 0 1 (q+1) none) k d (Int.ofNat k)++[(15,.bool false)]),C6 q (q+1) y::H))) aP [(dC s l t k d e,none),((.fn (.func 88) [] [.ptr 0 c 0 0]),none)] H =
 (fun (Z0:ar)=>Tr.reqP (Z0=Z0∧aD::H=aD::H) (Tr.req (bM q q) (Tr.req (iB 0 (Nat.succ q) 0 (Nat.succ q)) (Tr.ok ((AV.slcT none (Row.M [ah.arr .i64 (bm y 0) (Nat.succ q)]) 1 (Nat.succ q) false,none),H))))) [(1,AV.fn (Fn.func 88) [] [AV.ptr 1 c 0 0]),(5,AV.nils),(12,AV.slcT none (Row.M [ah.arr .i64 d k]) 1 k false),(13,AV.int .i64 (Int.ofNat k)),(14,AV.int .i64 (Int.ofNat 0))]:=by kernel_rfl
theorem Mw:∀ b,(0,b) ∈ aN (bO Try.f74)→b=.loop (part Try.f74 [1,1,0,1,0,0]):=gq (by kernel_rfl)
theorem z8 {k:Nat} {f:FuncId} {P:Int→Int→Int} {Q:List AV→aa→Prop} (h:∀ i e C H,Q C H→cd k (.fn f) (.int .i64 i::.int .i64 e::C) H=some (.int .i64 (P i e),H)):(FQ f P Q).Ok (cd k):=by
 refine iN (aR _) (fun args H x hx=>?_)
 unfold gD at hx
 split at hx
 · obtain ⟨h1,h2⟩:=Tr.cW hx
   rw[h _ _ _ _ h1,← Tr.ab h2]
 · exact (Tr.ae hx).elim
noncomputable def Kc:Nat→AV
 | 0=>.nils
 | q+1=>.slc 0 0 q 0 1 (q+1) none
noncomputable def C5 (z:Nat→Int):Nat→aU
 | 0=>aD
 | q+1=>C6 q (q+1) (al (bC z (q+1)))
section
variable (n s l k:Nat) (t d e:Nat→Int) (P:Int→Int→Int) (H:aa)
end
section
variable (n s l k:Nat) (c:Nat) (t d e:Nat→Int) (P:Int→Int→Int) (H:aa)
end
section
variable (n s l k:Nat) (c:Nat) (t d e:Nat→Int) (P:Int→Int→Int) (H:aa)
theorem NH (h0:0<k) (hk:k≤1000) (hP:∀ i e L,cd n (.fn 79) (.int .i64 i::.int .i64 e::[.ptr 1 c 0 0]) (L::H)=some (.int .i64 (P i e),L::H)):exec (bx n 74 28) (.block 0 (.loop (part Try.f74 [1,1,0,1,0,0]))) (gB (.fn (.func 79) [] [.ptr 1 c 0 0]) .nils k d 0) (aD::H)=some (.normal,gB (.fn (.func 79) [] [.ptr 1 c 0 0]) (Kc k) k d (Int.ofNat k)++[(15,.bool false)],C5 (fun i=>P (i:Nat) (d i)) k::H):=by
 have hC:(FQ 79 P (fun C G=>C=[.ptr 1 c 0 0]∧∃ L,G=L::H)).Ok (cd n):=z8 (fun i e C G hq=>by
  obtain ⟨rfl,L,rfl⟩:=hq
  exact hP i e L)
 refine jG (n:=n) (f:=74) (nt:=28) (c:=part Try.f74 [1,1,0,1,0,0]) 0 (fun j=>gB (.fn (.func 79) [] [.ptr 1 c 0 0]) (Kc j) k d (j:Nat)) (fun j=>C5 (fun i=>P (i:Nat) (d i)) j::H) k _ (by omega) (fun j hj=>?_) ?_
 · cases j with
   | zero =>
     refine aF (LO n k c d P (fun C G=>C=[.ptr 1 c 0 0]∧∃ L,G=L::H) H (0:Nat)) (aX _ n hC) (af _ _) (ag _ _) ?_
     show Tr.all _ (fun x=>_∧tidy _ _ _=(gB (.fn (.func 79) [] [.ptr 1 c 0 0]) (.slc 0 0 0 0 1 1 none) k d ((0+1:Nat):Int),C6 0 1 (al [P (0:Nat) (d 0)])::H))
     rw[dJ (j:=0) (by omega)]
     simp only[mV]
     generalize P (0:Nat) (d 0)=W at *
     repeat' first | (refine Tr.bj (fun hc=>?_) (fun hc=>?_)<;>(try simp (disch:=omega) only[nV,nW] at hc)<;>try omega) | (refine Tr.cu ?_ ?_;· (try simp (disch:=omega) only[nV,nW]);try omega) | (refine Tr.aY ?_ ?_;· first | exact trivial | rfl | exact ⟨rfl,rfl⟩ | exact ⟨rfl,rfl,rfl⟩ | (simp (disch:=omega) only[nV,nW];done) | ((try simp (disch:=omega) only[nV,nW]);omega)) | fail
     all_goals first
      | exact ⟨rfl,_,rfl⟩
      | (refine Tr.aY ⟨(by first | rfl | trivial),_,rfl⟩ ?_
         exact wF)
      | fail
   | succ j =>
     refine aF (Ii n k c d j (j+1) (al (bC (fun i=>P (i:Nat) (d i)) (j+1))) P (fun C G=>C=[.ptr 1 c 0 0]∧∃ L,G=L::H) H (j+1:Nat)) (aX _ n hC) (af _ _) (ag _ _) ?_
     show Tr.all _ (fun x=>_∧tidy _ _ _=(gB (.fn (.func 79) [] [.ptr 1 c 0 0]) (.slc 0 0 (j+1) 0 1 (j+1+1) none) k d ((j+1+1:Nat):Int),C6 (j+1) (j+1+1) (al (bC (fun i=>P (i:Nat) (d i)) (j+1+1)))::H))
     have hap:=jr (fun i=>P (i:Nat) (d i)) (j+1)
     have ea:bB (j+1) 1=j+1+1:=bD _ _
     rw[dJ (j:=j+1) (by omega)]
     simp only[mV,hap,ea]
     generalize al (bC (fun i=>P (i:Nat) (d i)) (j+1+1))=Y2 at *
     generalize al (bC (fun i=>P (i:Nat) (d i)) (j+1))=Y at *
     repeat' first | (refine Tr.bj (fun hc=>?_) (fun hc=>?_)<;>(try simp (disch:=omega) only[nV,nW] at hc)<;>try omega) | (refine Tr.cu ?_ ?_;· (try simp (disch:=omega) only[nV,nW]);try omega) | (refine Tr.aY ?_ ?_;· first | exact trivial | rfl | exact ⟨rfl,rfl⟩ | exact ⟨rfl,rfl,rfl⟩ | (simp (disch:=omega) only[nV,nW];done) | ((try simp (disch:=omega) only[nV,nW]);omega)) | fail
     all_goals first
      | exact ⟨rfl,_,rfl⟩
      | (refine Tr.aY ⟨(by first | rfl | trivial),_,rfl⟩ ?_
         exact wF)
      | fail
 · obtain ⟨q,rfl⟩:∃ q,k=q+1:=⟨k-1,by omega⟩
   exact eV (Ii n (q+1) c d q (q+1) (al (bC (fun i=>P (i:Nat) (d i)) (q+1))) P (fun C G=>C=[.ptr 1 c 0 0]∧∃ L,G=L::H) H (Int.ofNat (q+1))) (aX _ n hC) (af _ _) (ag _ _) (by first | (simp (disch:=omega) only[nV,nW];done) | (simp (disch:=omega) only[nV,nW];omega))
theorem MH (h0:0<k) (hk:k≤1000) (hP:∀ i e L,cd n (.fn 79) (.int .i64 i::.int .i64 e::[.ptr 1 c 0 0]) (L::H)=some (.int .i64 (P i e),L::H)):cd (n+1) (.fn 74) [dC s l t k d e,(.fn (.func 79) [] [.ptr 0 c 0 0])] H=some (b7 k (al (bC (fun i=>P (i:Nat) (d i)) k)) false,H):=by
 have hx:=NH n k c d P H h0 hk hP
 obtain ⟨q,rfl⟩:∃ q,k=q+1:=⟨k-1,by omega⟩
 refine aS (n:=n) Try.func74 rfl rfl rfl (OS n s l (q+1) q c t d e (al (bC (fun i=>P (i:Nat) (d i)) (q+1))) H) (aw _) (aW (af _ _) Mw (fun x hy=>bU hy hx)) (ag _ _) ?_
 rw[di]
 generalize al (bC (fun i=>P (i:Nat) (d i)) (q+1))=Y at *
 exact wF
end
section
variable (n s l k:Nat) (t d e:Nat→Int) (P:Int→Int→Int) (H:aa)
theorem NI (h0:0<k) (hk:k≤1000) (hP:∀ i e L,cd n (.fn 87) (.int .i64 i::.int .i64 e::[.ptr 1 0 0 0]) (L::H)=some (.int .i64 (P i e),L::H)):exec (bx n 74 28) (.block 0 (.loop (part Try.f74 [1,1,0,1,0,0]))) (gB (.fn (.func 87) [] [.ptr 1 0 0 0]) .nils k d 0) (aD::H)=some (.normal,gB (.fn (.func 87) [] [.ptr 1 0 0 0]) (Kc k) k d (Int.ofNat k)++[(15,.bool false)],C5 (fun i=>P (i:Nat) (d i)) k::H):=by
 have hC:(FQ 87 P (fun C G=>C=[.ptr 1 0 0 0]∧∃ L,G=L::H)).Ok (cd n):=z8 (fun i e C G hq=>by
  obtain ⟨rfl,L,rfl⟩:=hq
  exact hP i e L)
 refine jG (n:=n) (f:=74) (nt:=28) (c:=part Try.f74 [1,1,0,1,0,0]) 0 (fun j=>gB (.fn (.func 87) [] [.ptr 1 0 0 0]) (Kc j) k d (j:Nat)) (fun j=>C5 (fun i=>P (i:Nat) (d i)) j::H) k _ (by omega) (fun j hj=>?_) ?_
 · cases j with
   | zero =>
     refine aF (LP n k d P (fun C G=>C=[.ptr 1 0 0 0]∧∃ L,G=L::H) H (0:Nat)) (aX _ n hC) (af _ _) (ag _ _) ?_
     show Tr.all _ (fun x=>_∧tidy _ _ _=(gB (.fn (.func 87) [] [.ptr 1 0 0 0]) (.slc 0 0 0 0 1 1 none) k d ((0+1:Nat):Int),C6 0 1 (al [P (0:Nat) (d 0)])::H))
     rw[dJ (j:=0) (by omega)]
     simp only[mV]
     generalize P (0:Nat) (d 0)=W at *
     repeat' first | (refine Tr.bj (fun hc=>?_) (fun hc=>?_)<;>(try simp (disch:=omega) only[nV,nW] at hc)<;>try omega) | (refine Tr.cu ?_ ?_;· (try simp (disch:=omega) only[nV,nW]);try omega) | (refine Tr.aY ?_ ?_;· first | exact trivial | rfl | exact ⟨rfl,rfl⟩ | exact ⟨rfl,rfl,rfl⟩ | (simp (disch:=omega) only[nV,nW];done) | ((try simp (disch:=omega) only[nV,nW]);omega)) | fail
     all_goals first
      | exact ⟨rfl,_,rfl⟩
      | (refine Tr.aY ⟨(by first | rfl | trivial),_,rfl⟩ ?_
         exact wF)
      | fail
   | succ j =>
     refine aF (Ij n k d j (j+1) (al (bC (fun i=>P (i:Nat) (d i)) (j+1))) P (fun C G=>C=[.ptr 1 0 0 0]∧∃ L,G=L::H) H (j+1:Nat)) (aX _ n hC) (af _ _) (ag _ _) ?_
     show Tr.all _ (fun x=>_∧tidy _ _ _=(gB (.fn (.func 87) [] [.ptr 1 0 0 0]) (.slc 0 0 (j+1) 0 1 (j+1+1) none) k d ((j+1+1:Nat):Int),C6 (j+1) (j+1+1) (al (bC (fun i=>P (i:Nat) (d i)) (j+1+1)))::H))
     have hap:=jr (fun i=>P (i:Nat) (d i)) (j+1)
     have ea:bB (j+1) 1=j+1+1:=bD _ _
     rw[dJ (j:=j+1) (by omega)]
     simp only[mV,hap,ea]
     generalize al (bC (fun i=>P (i:Nat) (d i)) (j+1+1))=Y2 at *
     generalize al (bC (fun i=>P (i:Nat) (d i)) (j+1))=Y at *
     repeat' first | (refine Tr.bj (fun hc=>?_) (fun hc=>?_)<;>(try simp (disch:=omega) only[nV,nW] at hc)<;>try omega) | (refine Tr.cu ?_ ?_;· (try simp (disch:=omega) only[nV,nW]);try omega) | (refine Tr.aY ?_ ?_;· first | exact trivial | rfl | exact ⟨rfl,rfl⟩ | exact ⟨rfl,rfl,rfl⟩ | (simp (disch:=omega) only[nV,nW];done) | ((try simp (disch:=omega) only[nV,nW]);omega)) | fail
     all_goals first
      | exact ⟨rfl,_,rfl⟩
      | (refine Tr.aY ⟨(by first | rfl | trivial),_,rfl⟩ ?_
         exact wF)
      | fail
 · obtain ⟨q,rfl⟩:∃ q,k=q+1:=⟨k-1,by omega⟩
   exact eV (Ij n (q+1) d q (q+1) (al (bC (fun i=>P (i:Nat) (d i)) (q+1))) P (fun C G=>C=[.ptr 1 0 0 0]∧∃ L,G=L::H) H (Int.ofNat (q+1))) (aX _ n hC) (af _ _) (ag _ _) (by first | (simp (disch:=omega) only[nV,nW];done) | (simp (disch:=omega) only[nV,nW];omega))
theorem MI (h0:0<k) (hk:k≤1000) (hP:∀ i e L,cd n (.fn 87) (.int .i64 i::.int .i64 e::[.ptr 1 0 0 0]) (L::H)=some (.int .i64 (P i e),L::H)):cd (n+1) (.fn 74) [dC s l t k d e,(.fn (.func 87) [] [.ptr 0 0 0 0])] H=some (b7 k (al (bC (fun i=>P (i:Nat) (d i)) k)) false,H):=by
 have hx:=NI n k d P H h0 hk hP
 obtain ⟨q,rfl⟩:∃ q,k=q+1:=⟨k-1,by omega⟩
 refine aS (n:=n) Try.func74 rfl rfl rfl (OT n s l (q+1) q t d e (al (bC (fun i=>P (i:Nat) (d i)) (q+1))) H) (aw _) (aW (af _ _) Mw (fun x hy=>bU hy hx)) (ag _ _) ?_
 rw[di]
 generalize al (bC (fun i=>P (i:Nat) (d i)) (q+1))=Y at *
 exact wF
end
section
variable (n s l k:Nat) (c:Nat) (t d e:Nat→Int) (P:Int→Int→Int) (H:aa)
theorem NJ (h0:0<k) (hk:k≤1000) (hP:∀ i e L,cd n (.fn 88) (.int .i64 i::.int .i64 e::[.ptr 1 c 0 0]) (L::H)=some (.int .i64 (P i e),L::H)):exec (bx n 74 28) (.block 0 (.loop (part Try.f74 [1,1,0,1,0,0]))) (gB (.fn (.func 88) [] [.ptr 1 c 0 0]) .nils k d 0) (aD::H)=some (.normal,gB (.fn (.func 88) [] [.ptr 1 c 0 0]) (Kc k) k d (Int.ofNat k)++[(15,.bool false)],C5 (fun i=>P (i:Nat) (d i)) k::H):=by
 have hC:(FQ 88 P (fun C G=>C=[.ptr 1 c 0 0]∧∃ L,G=L::H)).Ok (cd n):=z8 (fun i e C G hq=>by
  obtain ⟨rfl,L,rfl⟩:=hq
  exact hP i e L)
 refine jG (n:=n) (f:=74) (nt:=28) (c:=part Try.f74 [1,1,0,1,0,0]) 0 (fun j=>gB (.fn (.func 88) [] [.ptr 1 c 0 0]) (Kc j) k d (j:Nat)) (fun j=>C5 (fun i=>P (i:Nat) (d i)) j::H) k _ (by omega) (fun j hj=>?_) ?_
 · cases j with
   | zero =>
     refine aF (LQ n k c d P (fun C G=>C=[.ptr 1 c 0 0]∧∃ L,G=L::H) H (0:Nat)) (aX _ n hC) (af _ _) (ag _ _) ?_
     show Tr.all _ (fun x=>_∧tidy _ _ _=(gB (.fn (.func 88) [] [.ptr 1 c 0 0]) (.slc 0 0 0 0 1 1 none) k d ((0+1:Nat):Int),C6 0 1 (al [P (0:Nat) (d 0)])::H))
     rw[dJ (j:=0) (by omega)]
     simp only[mV]
     generalize P (0:Nat) (d 0)=W at *
     repeat' first | (refine Tr.bj (fun hc=>?_) (fun hc=>?_)<;>(try simp (disch:=omega) only[nV,nW] at hc)<;>try omega) | (refine Tr.cu ?_ ?_;· (try simp (disch:=omega) only[nV,nW]);try omega) | (refine Tr.aY ?_ ?_;· first | exact trivial | rfl | exact ⟨rfl,rfl⟩ | exact ⟨rfl,rfl,rfl⟩ | (simp (disch:=omega) only[nV,nW];done) | ((try simp (disch:=omega) only[nV,nW]);omega)) | fail
     all_goals first
      | exact ⟨rfl,_,rfl⟩
      | (refine Tr.aY ⟨(by first | rfl | trivial),_,rfl⟩ ?_
         exact wF)
      | fail
   | succ j =>
     refine aF (Ik n k c d j (j+1) (al (bC (fun i=>P (i:Nat) (d i)) (j+1))) P (fun C G=>C=[.ptr 1 c 0 0]∧∃ L,G=L::H) H (j+1:Nat)) (aX _ n hC) (af _ _) (ag _ _) ?_
     show Tr.all _ (fun x=>_∧tidy _ _ _=(gB (.fn (.func 88) [] [.ptr 1 c 0 0]) (.slc 0 0 (j+1) 0 1 (j+1+1) none) k d ((j+1+1:Nat):Int),C6 (j+1) (j+1+1) (al (bC (fun i=>P (i:Nat) (d i)) (j+1+1)))::H))
     have hap:=jr (fun i=>P (i:Nat) (d i)) (j+1)
     have ea:bB (j+1) 1=j+1+1:=bD _ _
     rw[dJ (j:=j+1) (by omega)]
     simp only[mV,hap,ea]
     generalize al (bC (fun i=>P (i:Nat) (d i)) (j+1+1))=Y2 at *
     generalize al (bC (fun i=>P (i:Nat) (d i)) (j+1))=Y at *
     repeat' first | (refine Tr.bj (fun hc=>?_) (fun hc=>?_)<;>(try simp (disch:=omega) only[nV,nW] at hc)<;>try omega) | (refine Tr.cu ?_ ?_;· (try simp (disch:=omega) only[nV,nW]);try omega) | (refine Tr.aY ?_ ?_;· first | exact trivial | rfl | exact ⟨rfl,rfl⟩ | exact ⟨rfl,rfl,rfl⟩ | (simp (disch:=omega) only[nV,nW];done) | ((try simp (disch:=omega) only[nV,nW]);omega)) | fail
     all_goals first
      | exact ⟨rfl,_,rfl⟩
      | (refine Tr.aY ⟨(by first | rfl | trivial),_,rfl⟩ ?_
         exact wF)
      | fail
 · obtain ⟨q,rfl⟩:∃ q,k=q+1:=⟨k-1,by omega⟩
   exact eV (Ik n (q+1) c d q (q+1) (al (bC (fun i=>P (i:Nat) (d i)) (q+1))) P (fun C G=>C=[.ptr 1 c 0 0]∧∃ L,G=L::H) H (Int.ofNat (q+1))) (aX _ n hC) (af _ _) (ag _ _) (by first | (simp (disch:=omega) only[nV,nW];done) | (simp (disch:=omega) only[nV,nW];omega))
theorem MJ (h0:0<k) (hk:k≤1000) (hP:∀ i e L,cd n (.fn 88) (.int .i64 i::.int .i64 e::[.ptr 1 c 0 0]) (L::H)=some (.int .i64 (P i e),L::H)):cd (n+1) (.fn 74) [dC s l t k d e,(.fn (.func 88) [] [.ptr 0 c 0 0])] H=some (b7 k (al (bC (fun i=>P (i:Nat) (d i)) k)) false,H):=by
 have hx:=NJ n k c d P H h0 hk hP
 obtain ⟨q,rfl⟩:∃ q,k=q+1:=⟨k-1,by omega⟩
 refine aS (n:=n) Try.func74 rfl rfl rfl (OU n s l (q+1) q c t d e (al (bC (fun i=>P (i:Nat) (d i)) (q+1))) H) (aw _) (aW (af _ _) Mw (fun x hy=>bU hy hx)) (ag _ _) ?_
 rw[di]
 generalize al (bC (fun i=>P (i:Nat) (d i)) (q+1))=Y at *
 exact wF
end
end Go.Eng
end
section
namespace Go.Eng
open Go.Proofs
noncomputable def CT (s l:Nat) (t:Nat→Int) (k:Nat) (d g:Nat→Int) (h:Int) (F:AV) (j:Int):ar:=[(0,dC (s+1) l t k d g),(1,.int .i64 h),(2,F),(7,.int .i64 j)]
noncomputable def Li (T:Int):aU:=⟨false,[(0,.row (.I .i64 [T]))]⟩
theorem SA (n:Nat) (i e T:Int) (L:aU) (H:aa):bn Try.prog (cd n) 100000 87 Try.f87 (KtL.kt 87) (il aK n 0) aO aP [(.int .i64 i,none),(.int .i64 e,none),(.ptr 1 0 0 0,none)] (L::Li T::H) =
 Tr.ok ((AV.int .i64 (ub e T),none),L::{ lock:=false,bs:=[(0,ai.row (Row.I .i64 [T]))] } :: H):=by kernel_rfl
theorem Sw (n:Nat) (i e T:Int) (L:aU) (b0:Nat×ai) (bs:List (Nat×ai)) (H:aa):bn Try.prog (cd n) 100000 79 Try.f79 (KtL.kt 79) (il aK n 0) aO aP [(.int .i64 i,none),(.int .i64 e,none),(.ptr 1 1 0 0,none)] (L::⟨false,b0::vK T::bs⟩::H) =
 Tr.ite (lH T e) (Tr.ok ((AV.int .i64 (bP .i64 e (Int.ofNat 1)),none),L::{ lock:=false,bs:=b0::(0,ai.row (Row.I .i64 [T]))::bs } :: H)) (Tr.ok ((AV.int .i64 e,none),L::{ lock:=false,bs:=b0::(0,ai.row (Row.I .i64 [T]))::bs } :: H)):=by kernel_rfl
theorem Ox (n s l k:Nat) (c1:Nat) (t d g y:Nat→Int) (H:aa) (h j c:Int):aG (bx n 72 20) (il (tX (z9 aK 86 (.int .i64 j::[.ptr 1 c1 0 0]) (aD::H) (.ok (b7 k y false,aD::H))) 69 [dC (s+1) l t k d g,b7 k y false,.int .i64 h] (.int .i64 c)) n 0) aO aP (part Try.f72 [1,0,1,0,0]) (hints (CT s l t k d g h (.fn (.func 86) [] [.ptr 1 c1 0 0]) j)) (aD::H) =
 (fun (Z0:Row)=>((fun (Z1:List AV)=>Tr.ite (cq j (Int.ofNat 40)) (Tr.reqP ([AV.int .i64 j,AV.ptr 1 c1 0 0]=[AV.int .i64 j,AV.ptr 1 c1 0 0]∧aD::H=aD::H) (Tr.reqP (Z1=Z1) (Tr.ite (cq c (Int.ofNat 0)) (Tr.ok (Ex.ret,[(6,AV.int .i64 j,none)],aD::H)) (Tr.ok (Ex.normal,[(0,AV.ptrT (some (Nat.succ s)) Z0 0,none),(1,AV.int .i64 h,none),(2,AV.fn (Fn.func 86) [] [AV.ptr 1 c1 0 0],none),(7,AV.int .i64 (br .i64 j (Int.ofNat 1)),none)],aD::H))))) (Tr.ok (Ex.exit 0,[(0,AV.ptrT (some (Nat.succ s)) Z0 0,none),(1,AV.int .i64 h,none),(2,AV.fn (Fn.func 86) [] [AV.ptr 1 c1 0 0],none),(7,AV.int .i64 j,none),(9,AV.bool false,some 1)],aD::H))) [AV.ptrT (some (Nat.succ s)) Z0 0,AV.slcT none (Row.M [ah.arr .i64 y k]) 1 k false,AV.int .i64 h])) (Row.M [ah.one (AV.slcT none (Row.M [ah.arr .i64 t l]) 1 l false),ah.one (AV.slcT none (Row.M [ah.arr .i64 d k]) 1 k false),ah.arr .i64 g 30]):=by kernel_rfl
theorem LN (n s l k:Nat) (c1:Nat) (t d g:Nat→Int) (H:aa) (h j:Int):aG (bx n 72 20) (il (tN aK 86) n 0) aO aP (part Try.f72 [1,0,1,0,0]) (hints (CT s l t k d g h (.fn (.func 86) [] [.ptr 1 c1 0 0]) j)) (aD::H) =
 Tr.ite (cq j (Int.ofNat 40)) Tr.bad (Tr.ok (Ex.exit 0,[(0,AV.ptrT (some (Nat.succ s)) (Row.M [ah.one (AV.slcT none (Row.M [ah.arr .i64 t l]) 1 l false),ah.one (AV.slcT none (Row.M [ah.arr .i64 d k]) 1 k false),ah.arr .i64 g 30]) 0,none),(1,AV.int .i64 h,none),(2,AV.fn (Fn.func 86) [] [AV.ptr 1 c1 0 0],none),(7,AV.int .i64 j,none),(9,AV.bool false,some 1)],aD::H)):=by kernel_rfl
theorem OR (n s l k:Nat) (c1:Nat) (t d g:Nat→Int) (H:aa) (h r:Int) (B:Bool):bn Try.prog (cd n) 100000 72 Try.f72 (KtL.kt 72) (il aK n 0) (cX aO 0 (CT s l t k d g h (.fn (.func 86) [] [.ptr 1 c1 0 0]) 1) (aD::H) (.ite B (.ok (.ret,[(6,.int .i64 r,none)],aD::H)) (.ok (.normal,hints (CT s l t k d g h (.fn (.func 86) [] [.ptr 1 c1 0 0]) 40++[(9,.bool false)]),aD::H)))) aP [(dC s l t k d g,none),(.int .i64 h,none),(.fn (.func 86) [] [.ptr 0 c1 0 0],none)] H =
 (fun (Z0:ar)=>Tr.reqP (Z0=Z0∧aD::H=aD::H) (Tr.ite B (Tr.ok ((AV.int .i64 r,none),H)) (Tr.ok ((AV.int .i64 (Int.ofNat 40),some 1),H)))) [(0,AV.ptrT (some (Nat.succ s)) (Row.M [ah.one (AV.slcT none (Row.M [ah.arr .i64 t l]) 1 l false),ah.one (AV.slcT none (Row.M [ah.arr .i64 d k]) 1 k false),ah.arr .i64 g 30]) 0),(1,AV.int .i64 h),(2,AV.fn (Fn.func 86) [] [AV.ptr 1 c1 0 0]),(7,AV.int .i64 (Int.ofNat 1))]:=by kernel_rfl
theorem PE:∀ b,(0,b) ∈ aN (bO Try.f72)→b=.loop (part Try.f72 [1,0,1,0,0]):=gq (by kernel_rfl)
def oM (p:Nat→Bool):Nat:=if fA (fun j=>p (j+1)) 39=true then fN (fun j=>p (j+1)) 39 0+1 else 40
theorem GG (p:Nat→Bool):1≤oM p∧oM p≤40:=by
 unfold oM
 by_cases c:fA (fun j=>p (j+1)) 39=true
 · rw[if_pos c]
   have:=iP c
   omega
 · rw[if_neg c];omega
section
variable (n:Nat) (H:aa)
theorem P4 (i e T:Int) (L:aU):cd (n+1) (.fn 87) [.int .i64 i,.int .i64 e,.ptr 1 0 0 0] (L::Li T::H)=some (.int .i64 (min e T),L::Li T::H):=by
 refine aS (n:=n) Try.func87 rfl rfl rfl (SA n i e T L H) (aw _) (af _ _) (ag _ _) ?_
 rw[j7]
 exact wF
variable (l k:Nat) (t d g:Nat→Int)
end
section
variable (n s l k:Nat) (c1:Nat) (t d g:Nat→Int) (H:aa) (h:Int) (W:Nat→Nat→Int)
end
section
variable (n s l k:Nat) (c1 c2:Nat) (t d g:Nat→Int) (H:aa) (h:Int) (W:Nat→Nat→Int)
end
section
variable (n s l k:Nat) (c1:Nat) (t d g:Nat→Int) (H:aa) (h:Int) (W:Nat→Nat→Int)
theorem MG (hl:l≤30) (hk:k=l) (ht:∀ j,j<l→t j<l) (hc:iw l t=false) (hW:∀ T,1≤T→T<40→Bd l (W T)) (hh:0≤h∧h≤1000)
 (hF:∀ T,1≤T→T<40→cd (n+4) (.fn 86) (.int .i64 (T:Nat)::[.ptr 1 c1 0 0]) (aD::H)=some (b7 k (W T) false,aD::H)) :
 cd (n+5) (.fn 72) [dC s l t k d g,.int .i64 h,.fn (.func 86) [] [.ptr 0 c1 0 0]] H=some (.int .i64 (oM (fun T=>ct l t (W T) h):Nat),H):=by
 have hC:∀ j,j<39→(tX (z9 aK 86 (.int .i64 ((j+1:Nat):Int)::[.ptr 1 c1 0 0]) (aD::H) (.ok (b7 k (W (j+1)) false,aD::H))) 69 [dC (s+1) l t k d g,b7 k (W (j+1)) false,.int .i64 h] (.int .i64 (rZ l t (W (j+1)) h))).Ok (cd (n+4)):=fun j hj =>
  b5 (ig (aR _) (fun x hy=>by rw[← Tr.ab hy];exact hF (j+1) (by omega) (by omega))) (fun H=>ME n (s+1) l k k t d g (W (j+1)) false H h hl hk ht hc (hW (j+1) (by omega) (by omega)) hh)
 have hx:=qu (n:=n+4) (f:=72) (nt:=20) (c:=part Try.f72 [1,0,1,0,0]) 0 (fun j=>CT s l t k d g h (.fn (.func 86) [] [.ptr 1 c1 0 0]) ((j+1:Nat):Int)) (fun _=>aD::H) 39 (fun j=>ct l t (W (j+1)) h) (fun j=>([(6,.int .i64 ((j+1:Nat):Int))],aD::H)) (CT s l t k d g h (.fn (.func 86) [] [.ptr 1 c1 0 0]) 40++[(9,.bool false)],aD::H) (by omega) (fun j hj=>?_) ?_
 · have hr:cond (fA (fun j=>ct l t (W (j+1)) h) 39) ((fN (fun j=>ct l t (W (j+1)) h) 39 0+1:Nat):Int) 40=(oM (fun T=>ct l t (W T) h):Nat):=by
    unfold oM
    cases fA (fun j=>ct l t (W (j+1)) h) 39 with
    | true=>rw[if_pos rfl];rfl
    | false=>rw[if_neg (by decide)];rfl
   refine aS (n:=n+4) Try.func72 rfl rfl rfl (OR (n+4) s l k c1 t d g H h ((fN (fun j=>ct l t (W (j+1)) h) 39 0+1:Nat):Int) (fA (fun j=>ct l t (W (j+1)) h) 39)) (aw _) (aW (af _ _) PE (fun x hy=>jm hy hx)) (ag _ _) ?_
   rw[← hr]
   generalize ((fN (fun j=>ct l t (W (j+1)) h) 39 0+1:Nat):Int)=R at *
   generalize fA (fun j=>ct l t (W (j+1)) h) 39=B at *
   cases B
   all_goals
    simp only[cond_true,cond_false]
    exact wF
 · refine aF (Ox (n+4) s l k c1 t d g (W (j+1)) H h ((j+1:Nat):Int) (rZ l t (W (j+1)) h)) (aX _ (n+4) (hC j hj)) (af _ _) (ag _ _) ?_
   show Tr.all _ (fun r=>if ct l t (W (j+1)) h=true then _ else _)
   obtain ⟨q1,q2⟩:=vL l t (W (j+1)) h
   rw[dJ (j:=j+1) (by omega)]
   generalize rZ l t (W (j+1)) h=C at *
   cases hB:ct l t (W (j+1)) h with
   | true =>
     have:=q1.2 hB
     simp only[if_true]
     exact wF
   | false =>
     have:=q2.2 hB
     simp only[Bool.false_eq_true,if_false]
     exact wF
 · exact eV (LN (n+4) s l k c1 t d g H h 40) (aX _ (n+4) (FH (aR _))) (af _ _) (ag _ _) (by first | (simp (disch:=omega) only[nV,nW];done) | (simp (disch:=omega) only[nV,nW];omega))
end
end Go.Eng
end
section
namespace Go.Eng
theorem KN {p:Nat→Bool} {N m:Nat} (h1:m<N) (h2:p m=true) (h3:∀ i,i<m→p i=false):fN p N 0=m:=by
 obtain ⟨_,b,c,d⟩:=mB p N 0
 have c:=fun i hi=>c i (Nat.zero_le i) hi
 have:fN p N 0<N:=Classical.byContradiction fun hn=>by
  have:=c m (by omega)
  rw[h2] at this;cases this
 have d:=d (by omega)
 rcases Nat.lt_trichotomy (fN p N 0) m with e | e | e
 · have:=h3 _ e;rw[d] at this;cases this
 · exact e
 · have:=c m e;rw[h2] at this;cases this
theorem uX {t e e':Nat→Int} {i l:Nat} (he:∀ j,j<l→e j=e' j) (ht:∀ j,j<l→t j<l) (hi:i<l):∀ m,(∀ q,q<m→0≤bF t q (i:Int))→rb t e i m=rb t e' i m
 | 0,_=>he i hi
 | m+1,hp=>by
   have h1:=hp m (by omega)
   have h2:=gN ht (show (i:Int)<l by omega) m
   show min (rb t e i m) _=min (rb t e' i m) _
   rw[uX he ht hi m (fun q hq=>hp q (by omega)),he _ (by omega)]
theorem yn {l:Nat} {t e e':Nat→Int} (h:Fw l t) (he:∀ j,j<l→e j=e' j) {i:Nat} (hi:i<l):fQ l t e i=fQ l t e' i :=
 uX he h.tl hi _ (kF h.cyc i hi).2.1
theorem D8 {l:Nat} {t e e':Nat→Int} (h:Fw l t) (he:∀ j,j<l→e j=e' j) (T:Int):CH l t e T=CH l t e' T :=
 eB (fun i hi=>by rw[yn h he hi])
theorem CG {l:Nat} {t e e':Nat→Int} (h:Fw l t) (he:∀ j,j<l→e j=e' j) (hh T:Int):uB l t e hh T=uB l t e' hh T:=by
 unfold uB;rw[D8 h he]
theorem pA {l:Nat} {t e e':Nat→Int} (h:Fw l t) (he:∀ j,j<l→e j=e' j) (hh:Int):ct l t e hh=ct l t e' hh:=by
 unfold ct;rw[pF (fun T _=>CG h he hh T)]
theorem og (l:Nat) (t e:Nat→Int) (h:Int):ct l t e h=true↔∀ T:Nat,T≤40→(CH l t e T:Int)≤h*T:=by
 unfold ct
 rw[Bool.not_eq_true']
 constructor
 · intro hx T hT
   have:=jq hx T (by omega)
   unfold uB at this
   rw[decide_eq_false_iff_not] at this;omega
 · intro hx
   refine nu (fun T hT=>?_)
   have:=hx T (by omega)
   unfold uB
   rw[decide_eq_false_iff_not];omega
theorem C3 {p q:Nat→Bool} (h:∀ T,1≤T→T<40→p T=q T):oM p=oM q:=by
 unfold oM
 have e:fA (fun j=>p (j+1)) 39=fA (fun j=>q (j+1)) 39:=pF (fun j hj=>h _ (by omega) (by omega))
 rw[e]
 by_cases c:fA (fun j=>q (j+1)) 39=true
 · rw[if_pos c,if_pos c]
   obtain ⟨_,b,c1,d⟩:=mB (fun j=>q (j+1)) 39 0
   have hl:=iP c
   rw[KN (p:=fun j=>p (j+1)) hl (by rw[h _ (by omega) (by omega)];exact d (by omega)) (fun i hi=>by rw[h _ (by omega) (by omega)];exact c1 i (by omega) hi)]
 · rw[if_neg c,if_neg c]
theorem IT (l:Nat) (t e:Nat→Int) (h:Int) (h0:0<CH l t e 0):ct l t e h=false:=by
 cases c:ct l t e h with
 | false=>rfl
 | true =>
   have:=(og l t e h).1 c 0 (by omega)
   rw[show ((0:Nat):Int)=0 from rfl] at this
   omega
end Go.Eng
end
section
namespace Go.Eng
open Go.Proofs
def im (l:Nat) (t:Nat→Int) (d:Nat→Int) (h:Int):Nat:=oM (fun T=>ct l t (fun i=>min (d i) (T:Nat)) h)
section
variable (n l k:Nat) (t d:Nat→Int) (H:aa) (h:Int)
theorem Kn (e:bQ l k t d h=0):cd (n+11) (.fn 61) [dx l t k d,.int .i64 h,.int .i64 0] H=some (.tup [JW 0 l t k d,.int .i64 0],H):=by
 obtain ⟨e1,e2⟩:=ru e
 rw[Pn n l k t d H h 0 e1,if_pos rfl,if_pos e2]
theorem Km (e:bQ l k t d h≠0):cd (n+11) (.fn 61) [dx l t k d,.int .i64 h,.int .i64 0] H=some (.tup [.nilp,.int .i64 (bQ l k t d h)],H):=by
 by_cases c:gp l t k d h=0
 · rw[Pn n l k t d H h 0 c,if_pos rfl]
   have:bQ l k t d h=if ct l t d h=true then 0 else 13:=by unfold bQ;rw[if_pos c]
   rw[this] at e ⊢
   by_cases c2:ct l t d h=true
   · rw[if_pos c2] at e;exact absurd rfl e
   · rw[if_neg c2,if_neg c2]
 · rw[MC n l k t d H h 0 c]
   have:bQ l k t d h=gp l t k d h:=by unfold bQ;rw[if_neg c]
   rw[this]
theorem DR {l:Nat} {d:Nat→Int} (hb:Bd l d) (T:Int) (hT:0≤T):Bd l (fun i=>min (d i) T):=fun j hj=>by
 have:=hb j hj
 show -900≤min (d j) T∧min (d j) T≤900
 omega
theorem DQ {l k:Nat} {z:Nat→Int} (hk:k=l) (hb:Bd l z):Bd l (al (bC z k)):=fun j hj=>by
 subst hk;rw[lO _ hj];exact hb j hj
theorem z4 {l k:Nat} {t z:Nat→Int} (h:Fw l t) (hk:k=l) (hh:Int):ct l t (al (bC z k)) hh=ct l t z hh :=
 pA h (fun j hj=>by subst hk;exact lO z hj) hh
end
end Go.Eng
end
section
namespace Go.Eng
theorem mw {p q:Nat→Bool}:∀ {n:Nat},(∀ j,j<n→p j=true→q j=true)→cn p n≤cn q n
 | 0,_=>Nat.le_refl _
 | n+1,h=>by
   have ih:=mw (n:=n) (fun j hj=>h j (by omega))
   have hn:=h n (by omega)
   show cn p n+(p n).toNat≤cn q n+(q n).toNat
   cases hp:p n with
   | false=>simp;omega
   | true=>rw[hn hp];omega
theorem DX {l:Nat} {t t' e e':Nat→Int} {h h':Int} (hla:∀ i,i<l→fQ l t e i≤fQ l t' e' i) (hh:h≤h') (hc:ct l t e h=true):ct l t' e' h'=true:=by
 rw[og] at hc ⊢
 intro T hT
 have h1:=hc T hT
 have h2:CH l t' e' T≤CH l t e T:=mw (fun i hi hp=>by
  have:=hla i hi
  simp only[decide_eq_true_eq] at hp ⊢
  omega)
 have h3:h*(T:Int)≤h'*T:=Int.mul_le_mul_of_nonneg_right hh (by omega)
 omega
theorem yz {t e e':Nat→Int} {i l:Nat} (he:∀ j,j<l→e j≤e' j) (ht:∀ j,j<l→t j<l) (hi:i<l):∀ m,(∀ q,q<m→0≤bF t q (i:Int))→rb t e i m≤rb t e' i m
 | 0,_=>he i hi
 | m+1,hp=>by
   have h1:=hp m (by omega)
   have h2:=gN ht (show (i:Int)<l by omega) m
   have h3:=yz he ht hi m (fun q hq=>hp q (by omega))
   have h4:=he (bF t m (i:Int)).toNat (by omega)
   show min (rb t e i m) _≤min (rb t e' i m) _
   omega
theorem GD {l:Nat} {t e e':Nat→Int} (h:Fw l t) (he:∀ j,j<l→e j≤e' j) {i:Nat} (hi:i<l):fQ l t e i≤fQ l t e' i :=
 yz he h.tl hi _ (kF h.cyc i hi).2.1
end Go.Eng
end
section
namespace Go.Eng
theorem wk {l:Nat} {t:Nat→Int} (h:Fw l t) {i:Nat} (hi:i<l):1≤iW l t i∧iW l t i≤l:=by
 obtain ⟨a,b,c⟩:=kF h.cyc i hi
 refine ⟨?_,a⟩
 apply Classical.byContradiction
 intro hc
 rw[show iW l t i=0 by omega] at c
 have:bF t 0 (i:Int)=i:=rfl
 omega
theorem wm {l:Nat} {t:Nat→Int} (h:Fw l t) {i:Nat} (hi:i<l):∀ m,m<iW l t i→0≤bF t m (i:Int)∧iW l t (bF t m (i:Int)).toNat=iW l t i-m:=by
 intro m hm
 obtain ⟨a,b,c⟩:=kF h.cyc i hi
 have h0:=b m hm
 have hlt:=gN h.tl (show (i:Int)<l by omega) m
 refine ⟨h0,?_⟩
 have hx:(bF t m (i:Int)).toNat<l:=by omega
 obtain ⟨a2,b2,c2⟩:=kF h.cyc _ hx
 have comp:∀ q,bF t q ((bF t m (i:Int)).toNat:Int)=bF t (m+q) (i:Int):=by
  intro q
  induction q with
  | zero=>show (((bF t m (i:Int)).toNat:Nat):Int)=bF t m (i:Int);omega
  | succ q ih =>
    show (if 0≤bF t q ((bF t m (i:Int)).toNat:Int) then t (bF t q ((bF t m (i:Int)).toNat:Int)).toNat else bF t q ((bF t m (i:Int)).toNat:Int))=(if 0≤bF t (m+q) (i:Int) then t (bF t (m+q) (i:Int)).toNat else bF t (m+q) (i:Int))
    rw[ih]
 generalize iW l t (bF t m (i:Int)).toNat=N at *
 rcases Nat.lt_trichotomy N (iW l t i-m) with e | e | e
 · rw[comp] at c2
   have:=b (m+N) (by omega)
   omega
 · exact e
 · have:=b2 (iW l t i-m) e
   rw[comp,show m+(iW l t i-m)=iW l t i by omega] at this
   omega
end Go.Eng
end
section
namespace Go.Eng
def kn (z:Nat→Int) (w:Nat→Bool):Nat→Option Nat
 | 0=>none
 | j+1=>match kn z w j with
   | none=>if w j=true then some j else none
   | some i=>if w j=true∧z j<z i then some j else some i
theorem j8 (z:Nat→Int) (w:Nat→Bool):∀ l,(match kn z w l with | none=>∀ j,j<l→w j=false | some i=>i<l∧w i=true∧∀ j,j<l→w j=true→z i<z j∨(z i=z j∧i≤j))
 | 0=>fun j hj=>by omega
 | l + 1 => by
   have ih:=j8 z w l
   unfold kn
   cases hm:kn z w l with
   | none =>
     rw[hm] at ih
     dsimp only at ih ⊢
     by_cases c:w l=true
     · rw[if_pos c]
       refine ⟨by omega,c,fun j hj hw=>?_⟩
       by_cases e:j=l
       · subst e;exact .inr ⟨rfl,Nat.le_refl _⟩
       · have:=ih j (by omega);rw[this] at hw;cases hw
     · rw[if_neg c]
       intro j hj
       by_cases e:j=l
       · subst e
         cases h:w j with
         | true=>exact absurd h c
         | false=>rfl
       · exact ih j (by omega)
   | some i =>
     rw[hm] at ih
     dsimp only at ih ⊢
     obtain ⟨h1,h2,h3⟩:=ih
     by_cases c:w l=true∧z l<z i
     · rw[if_pos c]
       refine ⟨by omega,c.1,fun j hj hw=>?_⟩
       by_cases e:j=l
       · subst e;exact .inr ⟨rfl,Nat.le_refl _⟩
       · have:=h3 j (by omega) hw
         exact .inl (by omega)
     · rw[if_neg c]
       refine ⟨by omega,h2,fun j hj hw=>?_⟩
       by_cases e:j=l
       · subst e
         have:¬ z j<z i:=fun hx=>c ⟨hw,hx⟩
         by_cases e2:z i=z j
         · exact .inr ⟨e2,by omega⟩
         · exact .inl (by omega)
       · exact h3 j (by omega) hw
def mZ (w:Nat→Bool) (i:Nat):Nat→Bool:=fun j=>if j=i then false else w j
def ji (w:Nat→Bool) (i:Nat):Nat→Bool:=fun j=>if j=i then true else w j
def rp (t:Nat→Int) (s:(Nat→Int)×(Nat→Bool)) (c:Nat):(Nat→Int)×(Nat→Bool) :=
 if t c<0 then s else
  (uI s.1 (t c).toNat (s.1 (t c).toNat-1),if s.1 (t c).toNat-1=0 then ji s.2 (t c).toNat else s.2)
end Go.Eng
end
