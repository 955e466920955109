/- Lay: other Dues, by a closure. -/
import Derived.Test.YtoomemfhcbajoaaV6Lb11x3
set_option linter.unusedVariables false
set_option linter.unusedSimpArgs false
set_option maxRecDepth 100000
section
namespace Go.Eng
open Go.Proofs
noncomputable def gD (P:Int→Int→Int) (Q:List AV→aa→Prop) (args:List AV) (H:aa):Tr (AV×aa) :=
 match args with
 | .int .i64 i::.int .i64 e::C=>.reqP (Q C H) (.ok (.int .i64 (P i e),H))
 | _=>.bad
noncomputable def Hf (f:FuncId) (P:Int→Int→Int) (Q:List AV→aa→Prop):nw:=gu aE f (gD P Q)
noncomputable def gV (F:AV) (o:AV) (k:Nat) (d:Nat→Int) (j:Int):aq:=[(1,F),(5,o),(12,b6 k d false),(13,.int .i64 (Int.ofNat k)),(14,.int .i64 j)]
theorem NQ (n k:Nat) (c:Nat) (d:Nat→Int) (P:Int→Int→Int) (Q:List AV→aa→Prop) (H:aa) (j:Int):aJ (bn n 74 28) (il (Hf 77 P Q) n 0) aG aH (part Try.f74 [1,1,0,1,0,0]) (hints (gV (.fn (.func 77) [] [.ptr 3 c 0 0,.ptr 1 0 0 0]) .nils k d j)) (av::H) =
 Tr.ite (bK j (Int.ofNat k)) (Tr.req (cE j k) (Tr.req (cr (au 0 j 1) k) (Tr.reqP (Q [AV.ptr 3 c 0 0,AV.ptr 1 0 0 0] (av::H)) (Tr.req (eO 0 1 8) (Tr.req (b9 0 0) (Tr.req (gM 1 1) (Tr.ok (Ex.normal,[(1,AV.fn (Fn.func 77) [] [AV.ptr 3 c 0 0,AV.ptr 1 0 0 0],none),(5,AV.slc 0 1 0 0 1 1 none,none),(12,AV.slcT none (Row.M [ah.arr .i64 d k]) 1 k false,none),(13,AV.int .i64 (Int.ofNat k),none),(14,AV.int .i64 (bA .i64 j (Int.ofNat 1)),none)],{ lock:=false,bs:=[(0,ai.row (Row.I .i64 [P j (d (au 0 j 1))])),(0,ai.row (Row.M [ah.arr .i64 (ay [P j (d (au 0 j 1))]) 1]))] } :: H)))))))) (Tr.ok (Ex.exit 0,[(1,AV.fn (Fn.func 77) [] [AV.ptr 3 c 0 0,AV.ptr 1 0 0 0],none),(5,AV.nils,none),(12,AV.slcT none (Row.M [ah.arr .i64 d k]) 1 k false,none),(13,AV.int .i64 (Int.ofNat k),none),(14,AV.int .i64 j,none),(15,AV.bool false,some 1)],av::H)):=by kernel_rfl
theorem JI (n k:Nat) (c:Nat) (d:Nat→Int) (v m:Nat) (y:Nat→Int) (P:Int→Int→Int) (Q:List AV→aa→Prop) (H:aa) (j:Int):aJ (bn n 74 28) (il (Hf 77 P Q) n 0) aG aH (part Try.f74 [1,1,0,1,0,0]) (hints (gV (.fn (.func 77) [] [.ptr 3 c 0 0,.ptr 1 0 0 0]) (.slc 0 0 v 0 1 m none) k d j)) (vc v m y::H) =
 Tr.ite (bK j (Int.ofNat k)) (Tr.req (cE j k) (Tr.req (cr (au 0 j 1) k) (Tr.reqP (Q [AV.ptr 3 c 0 0,AV.ptr 1 0 0 0] ({ lock:=false,bs:=[(v,ai.row (Row.M [ah.arr .i64 y m]))] } :: H)) (Tr.req (eO m 1 8) (Tr.req (b9 0 0) (Tr.req (gM 1 1) (Tr.req (b9 v v) (Tr.req (b9 (bO 0 m) m) (Tr.ok (Ex.normal,[(1,AV.fn (Fn.func 77) [] [AV.ptr 3 c 0 0,AV.ptr 1 0 0 0],none),(5,AV.slc 0 0 (Nat.succ v) 0 1 (bO m 1) none,none),(12,AV.slcT none (Row.M [ah.arr .i64 d k]) 1 k false,none),(13,AV.int .i64 (Int.ofNat k),none),(14,AV.int .i64 (bA .i64 j (Int.ofNat 1)),none)],{ lock:=false,bs:=[(Nat.succ v,ai.row (Row.M [ah.arr .i64 (kO (dD y 0) m (ay [P j (d (au 0 j 1))])) (bO m 1)])),(0,ai.row (Row.I .i64 [P j (d (au 0 j 1))]))] } :: H)))))))))) (Tr.ok (Ex.exit 0,[(1,AV.fn (Fn.func 77) [] [AV.ptr 3 c 0 0,AV.ptr 1 0 0 0],none),(5,AV.slc 0 0 v 0 1 m none,none),(12,AV.slcT none (Row.M [ah.arr .i64 d k]) 1 k false,none),(13,AV.int .i64 (Int.ofNat k),none),(14,AV.int .i64 j,none),(15,AV.bool false,some 1)],{ lock:=false,bs:=[(v,ai.row (Row.M [ah.arr .i64 y m]))] } :: H)):=by kernel_rfl
theorem Rm (n s l k q:Nat) (c:Nat) (t d e y:Nat→Int) (H:aa):aX Try.prog (cd n) 100000 74 Try.f74 (KtL.kt 74) (il aE n 0) (bS aG 0 (gV (.fn (.func 77) [] [.ptr 3 c 0 0,.ptr 1 0 0 0]) .nils k d 0) (av::H) (.ok (.normal,hints (gV (.fn (.func 77) [] [.ptr 3 c 0 0,.ptr 1 0 0 0]) (.slc 0 0 q 0 1 (q+1) none) k d (Int.ofNat k)++[(15,.bool false)]),vc q (q+1) y::H))) aH [(dy s l t k d e,none),((.fn (.func 77) [] [.ptr 2 c 0 0,.ptr 0 0 0 0]),none)] H =
 (fun (Z0:aq)=>Tr.reqP (Z0=Z0∧av::H=av::H) (Tr.req (b9 q q) (Tr.req (gq 0 (Nat.succ q) 0 (Nat.succ q)) (Tr.ok ((AV.slcT none (Row.M [ah.arr .i64 (dD y 0) (Nat.succ q)]) 1 (Nat.succ q) false,none),H))))) [(1,AV.fn (Fn.func 77) [] [AV.ptr 3 c 0 0,AV.ptr 1 0 0 0]),(5,AV.nils),(12,AV.slcT none (Row.M [ah.arr .i64 d k]) 1 k false),(13,AV.int .i64 (Int.ofNat k)),(14,AV.int .i64 (Int.ofNat 0))]:=by kernel_rfl
theorem NR (n k:Nat) (d:Nat→Int) (P:Int→Int→Int) (Q:List AV→aa→Prop) (H:aa) (j:Int):aJ (bn n 74 28) (il (Hf 87 P Q) n 0) aG aH (part Try.f74 [1,1,0,1,0,0]) (hints (gV (.fn (.func 87) [] [.ptr 1 0 0 0]) .nils k d j)) (av::H) =
 Tr.ite (bK j (Int.ofNat k)) (Tr.req (cE j k) (Tr.req (cr (au 0 j 1) k) (Tr.reqP (Q [AV.ptr 1 0 0 0] (av::H)) (Tr.req (eO 0 1 8) (Tr.req (b9 0 0) (Tr.req (gM 1 1) (Tr.ok (Ex.normal,[(1,AV.fn (Fn.func 87) [] [AV.ptr 1 0 0 0],none),(5,AV.slc 0 1 0 0 1 1 none,none),(12,AV.slcT none (Row.M [ah.arr .i64 d k]) 1 k false,none),(13,AV.int .i64 (Int.ofNat k),none),(14,AV.int .i64 (bA .i64 j (Int.ofNat 1)),none)],{ lock:=false,bs:=[(0,ai.row (Row.I .i64 [P j (d (au 0 j 1))])),(0,ai.row (Row.M [ah.arr .i64 (ay [P j (d (au 0 j 1))]) 1]))] } :: H)))))))) (Tr.ok (Ex.exit 0,[(1,AV.fn (Fn.func 87) [] [AV.ptr 1 0 0 0],none),(5,AV.nils,none),(12,AV.slcT none (Row.M [ah.arr .i64 d k]) 1 k false,none),(13,AV.int .i64 (Int.ofNat k),none),(14,AV.int .i64 j,none),(15,AV.bool false,some 1)],av::H)):=by kernel_rfl
theorem JJ (n k:Nat) (d:Nat→Int) (v m:Nat) (y:Nat→Int) (P:Int→Int→Int) (Q:List AV→aa→Prop) (H:aa) (j:Int):aJ (bn n 74 28) (il (Hf 87 P Q) n 0) aG aH (part Try.f74 [1,1,0,1,0,0]) (hints (gV (.fn (.func 87) [] [.ptr 1 0 0 0]) (.slc 0 0 v 0 1 m none) k d j)) (vc v m y::H) =
 Tr.ite (bK j (Int.ofNat k)) (Tr.req (cE j k) (Tr.req (cr (au 0 j 1) k) (Tr.reqP (Q [AV.ptr 1 0 0 0] ({ lock:=false,bs:=[(v,ai.row (Row.M [ah.arr .i64 y m]))] } :: H)) (Tr.req (eO m 1 8) (Tr.req (b9 0 0) (Tr.req (gM 1 1) (Tr.req (b9 v v) (Tr.req (b9 (bO 0 m) m) (Tr.ok (Ex.normal,[(1,AV.fn (Fn.func 87) [] [AV.ptr 1 0 0 0],none),(5,AV.slc 0 0 (Nat.succ v) 0 1 (bO m 1) none,none),(12,AV.slcT none (Row.M [ah.arr .i64 d k]) 1 k false,none),(13,AV.int .i64 (Int.ofNat k),none),(14,AV.int .i64 (bA .i64 j (Int.ofNat 1)),none)],{ lock:=false,bs:=[(Nat.succ v,ai.row (Row.M [ah.arr .i64 (kO (dD y 0) m (ay [P j (d (au 0 j 1))])) (bO m 1)])),(0,ai.row (Row.I .i64 [P j (d (au 0 j 1))]))] } :: H)))))))))) (Tr.ok (Ex.exit 0,[(1,AV.fn (Fn.func 87) [] [AV.ptr 1 0 0 0],none),(5,AV.slc 0 0 v 0 1 m none,none),(12,AV.slcT none (Row.M [ah.arr .i64 d k]) 1 k false,none),(13,AV.int .i64 (Int.ofNat k),none),(14,AV.int .i64 j,none),(15,AV.bool false,some 1)],{ lock:=false,bs:=[(v,ai.row (Row.M [ah.arr .i64 y m]))] } :: H)):=by kernel_rfl
theorem Rn (n s l k q:Nat) (t d e y:Nat→Int) (H:aa):aX Try.prog (cd n) 100000 74 Try.f74 (KtL.kt 74) (il aE n 0) (bS aG 0 (gV (.fn (.func 87) [] [.ptr 1 0 0 0]) .nils k d 0) (av::H) (.ok (.normal,hints (gV (.fn (.func 87) [] [.ptr 1 0 0 0]) (.slc 0 0 q 0 1 (q+1) none) k d (Int.ofNat k)++[(15,.bool false)]),vc q (q+1) y::H))) aH [(dy s l t k d e,none),((.fn (.func 87) [] [.ptr 0 0 0 0]),none)] H =
 (fun (Z0:aq)=>Tr.reqP (Z0=Z0∧av::H=av::H) (Tr.req (b9 q q) (Tr.req (gq 0 (Nat.succ q) 0 (Nat.succ q)) (Tr.ok ((AV.slcT none (Row.M [ah.arr .i64 (dD y 0) (Nat.succ q)]) 1 (Nat.succ q) false,none),H))))) [(1,AV.fn (Fn.func 87) [] [AV.ptr 1 0 0 0]),(5,AV.nils),(12,AV.slcT none (Row.M [ah.arr .i64 d k]) 1 k false),(13,AV.int .i64 (Int.ofNat k)),(14,AV.int .i64 (Int.ofNat 0))]:=by kernel_rfl
theorem NS (n k:Nat) (c:Nat) (d:Nat→Int) (P:Int→Int→Int) (Q:List AV→aa→Prop) (H:aa) (j:Int):aJ (bn n 74 28) (il (Hf 88 P Q) n 0) aG aH (part Try.f74 [1,1,0,1,0,0]) (hints (gV (.fn (.func 88) [] [.ptr 1 c 0 0]) .nils k d j)) (av::H) =
 Tr.ite (bK j (Int.ofNat k)) (Tr.req (cE j k) (Tr.req (cr (au 0 j 1) k) (Tr.reqP (Q [AV.ptr 1 c 0 0] (av::H)) (Tr.req (eO 0 1 8) (Tr.req (b9 0 0) (Tr.req (gM 1 1) (Tr.ok (Ex.normal,[(1,AV.fn (Fn.func 88) [] [AV.ptr 1 c 0 0],none),(5,AV.slc 0 1 0 0 1 1 none,none),(12,AV.slcT none (Row.M [ah.arr .i64 d k]) 1 k false,none),(13,AV.int .i64 (Int.ofNat k),none),(14,AV.int .i64 (bA .i64 j (Int.ofNat 1)),none)],{ lock:=false,bs:=[(0,ai.row (Row.I .i64 [P j (d (au 0 j 1))])),(0,ai.row (Row.M [ah.arr .i64 (ay [P j (d (au 0 j 1))]) 1]))] } :: H)))))))) (Tr.ok (Ex.exit 0,[(1,AV.fn (Fn.func 88) [] [AV.ptr 1 c 0 0],none),(5,AV.nils,none),(12,AV.slcT none (Row.M [ah.arr .i64 d k]) 1 k false,none),(13,AV.int .i64 (Int.ofNat k),none),(14,AV.int .i64 j,none),(15,AV.bool false,some 1)],av::H)):=by kernel_rfl
theorem JK (n k:Nat) (c:Nat) (d:Nat→Int) (v m:Nat) (y:Nat→Int) (P:Int→Int→Int) (Q:List AV→aa→Prop) (H:aa) (j:Int):aJ (bn n 74 28) (il (Hf 88 P Q) n 0) aG aH (part Try.f74 [1,1,0,1,0,0]) (hints (gV (.fn (.func 88) [] [.ptr 1 c 0 0]) (.slc 0 0 v 0 1 m none) k d j)) (vc v m y::H) =
 Tr.ite (bK j (Int.ofNat k)) (Tr.req (cE j k) (Tr.req (cr (au 0 j 1) k) (Tr.reqP (Q [AV.ptr 1 c 0 0] ({ lock:=false,bs:=[(v,ai.row (Row.M [ah.arr .i64 y m]))] } :: H)) (Tr.req (eO m 1 8) (Tr.req (b9 0 0) (Tr.req (gM 1 1) (Tr.req (b9 v v) (Tr.req (b9 (bO 0 m) m) (Tr.ok (Ex.normal,[(1,AV.fn (Fn.func 88) [] [AV.ptr 1 c 0 0],none),(5,AV.slc 0 0 (Nat.succ v) 0 1 (bO m 1) none,none),(12,AV.slcT none (Row.M [ah.arr .i64 d k]) 1 k false,none),(13,AV.int .i64 (Int.ofNat k),none),(14,AV.int .i64 (bA .i64 j (Int.ofNat 1)),none)],{ lock:=false,bs:=[(Nat.succ v,ai.row (Row.M [ah.arr .i64 (kO (dD y 0) m (ay [P j (d (au 0 j 1))])) (bO m 1)])),(0,ai.row (Row.I .i64 [P j (d (au 0 j 1))]))] } :: H)))))))))) (Tr.ok (Ex.exit 0,[(1,AV.fn (Fn.func 88) [] [AV.ptr 1 c 0 0],none),(5,AV.slc 0 0 v 0 1 m none,none),(12,AV.slcT none (Row.M [ah.arr .i64 d k]) 1 k false,none),(13,AV.int .i64 (Int.ofNat k),none),(14,AV.int .i64 j,none),(15,AV.bool false,some 1)],{ lock:=false,bs:=[(v,ai.row (Row.M [ah.arr .i64 y m]))] } :: H)):=by kernel_rfl
theorem Ro (n s l k q:Nat) (c:Nat) (t d e y:Nat→Int) (H:aa):aX Try.prog (cd n) 100000 74 Try.f74 (KtL.kt 74) (il aE n 0) (bS aG 0 (gV (.fn (.func 88) [] [.ptr 1 c 0 0]) .nils k d 0) (av::H) (.ok (.normal,hints (gV (.fn (.func 88) [] [.ptr 1 c 0 0]) (.slc 0 0 q 0 1 (q+1) none) k d (Int.ofNat k)++[(15,.bool false)]),vc q (q+1) y::H))) aH [(dy s l t k d e,none),((.fn (.func 88) [] [.ptr 0 c 0 0]),none)] H =
 (fun (Z0:aq)=>Tr.reqP (Z0=Z0∧av::H=av::H) (Tr.req (b9 q q) (Tr.req (gq 0 (Nat.succ q) 0 (Nat.succ q)) (Tr.ok ((AV.slcT none (Row.M [ah.arr .i64 (dD y 0) (Nat.succ q)]) 1 (Nat.succ q) false,none),H))))) [(1,AV.fn (Fn.func 88) [] [AV.ptr 1 c 0 0]),(5,AV.nils),(12,AV.slcT none (Row.M [ah.arr .i64 d k]) 1 k false),(13,AV.int .i64 (Int.ofNat k)),(14,AV.int .i64 (Int.ofNat 0))]:=by kernel_rfl
theorem OK:∀ b,(0,b) ∈ aI (bj Try.f74)→b=.loop (part Try.f74 [1,1,0,1,0,0]):=ep (by kernel_rfl)
theorem Ba {k:Nat} {f:FuncId} {P:Int→Int→Int} {Q:List AV→aa→Prop} (h:∀ i e C H,Q C H→cd k (.fn f) (.int .i64 i::.int .i64 e::C) H=some (.int .i64 (P i e),H)):(Hf f P Q).Ok (cd k):=by
 refine im (aF _) (fun args H x hx=>?_)
 unfold gD at hx
 split at hx
 · obtain ⟨h1,h2⟩:=Tr.c8 hx
   rw[h _ _ _ _ h1,← Tr.ab h2]
 · exact (Tr.ae hx).elim
noncomputable def LK:Nat→AV
 | 0=>.nils
 | q+1=>.slc 0 0 q 0 1 (q+1) none
noncomputable def D4 (z:Nat→Int):Nat→aT
 | 0=>av
 | q+1=>vc q (q+1) (ay (dM z (q+1)))
section
variable (n s l k:Nat) (t d e:Nat→Int) (P:Int→Int→Int) (H:aa)
end
section
variable (n s l k:Nat) (c:Nat) (t d e:Nat→Int) (P:Int→Int→Int) (H:aa)
theorem PY (h0:0<k) (hk:k≤1000) (hP:∀ i e L,cd n (.fn 77) (.int .i64 i::.int .i64 e::[.ptr 3 c 0 0,.ptr 1 0 0 0]) (L::H)=some (.int .i64 (P i e),L::H)):exec (bn n 74 28) (.block 0 (.loop (part Try.f74 [1,1,0,1,0,0]))) (gV (.fn (.func 77) [] [.ptr 3 c 0 0,.ptr 1 0 0 0]) .nils k d 0) (av::H)=some (.normal,gV (.fn (.func 77) [] [.ptr 3 c 0 0,.ptr 1 0 0 0]) (LK k) k d (Int.ofNat k)++[(15,.bool false)],D4 (fun i=>P (i:Nat) (d i)) k::H):=by
 have hC:(Hf 77 P (fun C G=>C=[.ptr 3 c 0 0,.ptr 1 0 0 0]∧∃ L,G=L::H)).Ok (cd n):=Ba (fun i e C G hq=>by
  obtain ⟨rfl,L,rfl⟩:=hq
  exact hP i e L)
 refine jf (n:=n) (f:=74) (nt:=28) (c:=part Try.f74 [1,1,0,1,0,0]) 0 (fun j=>gV (.fn (.func 77) [] [.ptr 3 c 0 0,.ptr 1 0 0 0]) (LK j) k d (j:Nat)) (fun j=>D4 (fun i=>P (i:Nat) (d i)) j::H) k _ (by omega) (fun j hj=>?_) ?_
 · cases j with
   | zero =>
     refine aB (NQ n k c d P (fun C G=>C=[.ptr 3 c 0 0,.ptr 1 0 0 0]∧∃ L,G=L::H) H (0:Nat)) (aO _ n hC) (af _ _) (ag _ _) ?_
     show Tr.all _ (fun x=>_∧tidy _ _ _=(gV (.fn (.func 77) [] [.ptr 3 c 0 0,.ptr 1 0 0 0]) (.slc 0 0 0 0 1 1 none) k d ((0+1:Nat):Int),vc 0 1 (ay [P (0:Nat) (d 0)])::H))
     rw[c7 (j:=0) (by omega)]
     simp only[iS]
     generalize P (0:Nat) (d 0)=W at *
     repeat' first | (refine Tr.bm (fun hc=>?_) (fun hc=>?_)<;>(try simp (disch:=omega) only[nV,nW] at hc)<;>try omega) | (refine Tr.cA ?_ ?_;· (try simp (disch:=omega) only[nV,nW]);try omega) | (refine Tr.ba ?_ ?_;· first | exact trivial | rfl | exact ⟨rfl,rfl⟩ | exact ⟨rfl,rfl,rfl⟩ | (simp (disch:=omega) only[nV,nW];done) | ((try simp (disch:=omega) only[nV,nW]);omega)) | fail
     all_goals first
      | exact ⟨rfl,_,rfl⟩
      | (refine Tr.ba ⟨(by first | rfl | trivial),_,rfl⟩ ?_
         exact wF)
      | fail
   | succ j =>
     refine aB (JI n k c d j (j+1) (ay (dM (fun i=>P (i:Nat) (d i)) (j+1))) P (fun C G=>C=[.ptr 3 c 0 0,.ptr 1 0 0 0]∧∃ L,G=L::H) H (j+1:Nat)) (aO _ n hC) (af _ _) (ag _ _) ?_
     show Tr.all _ (fun x=>_∧tidy _ _ _=(gV (.fn (.func 77) [] [.ptr 3 c 0 0,.ptr 1 0 0 0]) (.slc 0 0 (j+1) 0 1 (j+1+1) none) k d ((j+1+1:Nat):Int),vc (j+1) (j+1+1) (ay (dM (fun i=>P (i:Nat) (d i)) (j+1+1)))::H))
     have hap:=oZ (fun i=>P (i:Nat) (d i)) (j+1)
     have ea:bO (j+1) 1=j+1+1:=bH _ _
     rw[c7 (j:=j+1) (by omega)]
     simp only[iS,hap,ea]
     generalize ay (dM (fun i=>P (i:Nat) (d i)) (j+1+1))=Y2 at *
     generalize ay (dM (fun i=>P (i:Nat) (d i)) (j+1))=Y at *
     repeat' first | (refine Tr.bm (fun hc=>?_) (fun hc=>?_)<;>(try simp (disch:=omega) only[nV,nW] at hc)<;>try omega) | (refine Tr.cA ?_ ?_;· (try simp (disch:=omega) only[nV,nW]);try omega) | (refine Tr.ba ?_ ?_;· first | exact trivial | rfl | exact ⟨rfl,rfl⟩ | exact ⟨rfl,rfl,rfl⟩ | (simp (disch:=omega) only[nV,nW];done) | ((try simp (disch:=omega) only[nV,nW]);omega)) | fail
     all_goals first
      | exact ⟨rfl,_,rfl⟩
      | (refine Tr.ba ⟨(by first | rfl | trivial),_,rfl⟩ ?_
         exact wF)
      | fail
 · obtain ⟨q,rfl⟩:∃ q,k=q+1:=⟨k-1,by omega⟩
   exact cO (JI n (q+1) c d q (q+1) (ay (dM (fun i=>P (i:Nat) (d i)) (q+1))) P (fun C G=>C=[.ptr 3 c 0 0,.ptr 1 0 0 0]∧∃ L,G=L::H) H (Int.ofNat (q+1))) (aO _ n hC) (af _ _) (ag _ _) (by first | (simp (disch:=omega) only[nV,nW];done) | (simp (disch:=omega) only[nV,nW];omega))
theorem OV (h0:0<k) (hk:k≤1000) (hP:∀ i e L,cd n (.fn 77) (.int .i64 i::.int .i64 e::[.ptr 3 c 0 0,.ptr 1 0 0 0]) (L::H)=some (.int .i64 (P i e),L::H)):cd (n+1) (.fn 74) [dy s l t k d e,(.fn (.func 77) [] [.ptr 2 c 0 0,.ptr 0 0 0 0])] H=some (b6 k (ay (dM (fun i=>P (i:Nat) (d i)) k)) false,H):=by
 have hx:=PY n k c d P H h0 hk hP
 obtain ⟨q,rfl⟩:∃ q,k=q+1:=⟨k-1,by omega⟩
 refine aD (n:=n) Try.func74 rfl rfl rfl (Rm n s l (q+1) q c t d e (ay (dM (fun i=>P (i:Nat) (d i)) (q+1))) H) (ao _) (aA (af _ _) OK (fun x hy=>bN hy hx)) (ag _ _) ?_
 rw[cT]
 generalize ay (dM (fun i=>P (i:Nat) (d i)) (q+1))=Y at *
 exact wF
end
section
variable (n s l k:Nat) (c:Nat) (t d e:Nat→Int) (P:Int→Int→Int) (H:aa)
end
section
variable (n s l k:Nat) (t d e:Nat→Int) (P:Int→Int→Int) (H:aa)
theorem PZ (h0:0<k) (hk:k≤1000) (hP:∀ i e L,cd n (.fn 87) (.int .i64 i::.int .i64 e::[.ptr 1 0 0 0]) (L::H)=some (.int .i64 (P i e),L::H)):exec (bn n 74 28) (.block 0 (.loop (part Try.f74 [1,1,0,1,0,0]))) (gV (.fn (.func 87) [] [.ptr 1 0 0 0]) .nils k d 0) (av::H)=some (.normal,gV (.fn (.func 87) [] [.ptr 1 0 0 0]) (LK k) k d (Int.ofNat k)++[(15,.bool false)],D4 (fun i=>P (i:Nat) (d i)) k::H):=by
 have hC:(Hf 87 P (fun C G=>C=[.ptr 1 0 0 0]∧∃ L,G=L::H)).Ok (cd n):=Ba (fun i e C G hq=>by
  obtain ⟨rfl,L,rfl⟩:=hq
  exact hP i e L)
 refine jf (n:=n) (f:=74) (nt:=28) (c:=part Try.f74 [1,1,0,1,0,0]) 0 (fun j=>gV (.fn (.func 87) [] [.ptr 1 0 0 0]) (LK j) k d (j:Nat)) (fun j=>D4 (fun i=>P (i:Nat) (d i)) j::H) k _ (by omega) (fun j hj=>?_) ?_
 · cases j with
   | zero =>
     refine aB (NR n k d P (fun C G=>C=[.ptr 1 0 0 0]∧∃ L,G=L::H) H (0:Nat)) (aO _ n hC) (af _ _) (ag _ _) ?_
     show Tr.all _ (fun x=>_∧tidy _ _ _=(gV (.fn (.func 87) [] [.ptr 1 0 0 0]) (.slc 0 0 0 0 1 1 none) k d ((0+1:Nat):Int),vc 0 1 (ay [P (0:Nat) (d 0)])::H))
     rw[c7 (j:=0) (by omega)]
     simp only[iS]
     generalize P (0:Nat) (d 0)=W at *
     repeat' first | (refine Tr.bm (fun hc=>?_) (fun hc=>?_)<;>(try simp (disch:=omega) only[nV,nW] at hc)<;>try omega) | (refine Tr.cA ?_ ?_;· (try simp (disch:=omega) only[nV,nW]);try omega) | (refine Tr.ba ?_ ?_;· first | exact trivial | rfl | exact ⟨rfl,rfl⟩ | exact ⟨rfl,rfl,rfl⟩ | (simp (disch:=omega) only[nV,nW];done) | ((try simp (disch:=omega) only[nV,nW]);omega)) | fail
     all_goals first
      | exact ⟨rfl,_,rfl⟩
      | (refine Tr.ba ⟨(by first | rfl | trivial),_,rfl⟩ ?_
         exact wF)
      | fail
   | succ j =>
     refine aB (JJ n k d j (j+1) (ay (dM (fun i=>P (i:Nat) (d i)) (j+1))) P (fun C G=>C=[.ptr 1 0 0 0]∧∃ L,G=L::H) H (j+1:Nat)) (aO _ n hC) (af _ _) (ag _ _) ?_
     show Tr.all _ (fun x=>_∧tidy _ _ _=(gV (.fn (.func 87) [] [.ptr 1 0 0 0]) (.slc 0 0 (j+1) 0 1 (j+1+1) none) k d ((j+1+1:Nat):Int),vc (j+1) (j+1+1) (ay (dM (fun i=>P (i:Nat) (d i)) (j+1+1)))::H))
     have hap:=oZ (fun i=>P (i:Nat) (d i)) (j+1)
     have ea:bO (j+1) 1=j+1+1:=bH _ _
     rw[c7 (j:=j+1) (by omega)]
     simp only[iS,hap,ea]
     generalize ay (dM (fun i=>P (i:Nat) (d i)) (j+1+1))=Y2 at *
     generalize ay (dM (fun i=>P (i:Nat) (d i)) (j+1))=Y at *
     repeat' first | (refine Tr.bm (fun hc=>?_) (fun hc=>?_)<;>(try simp (disch:=omega) only[nV,nW] at hc)<;>try omega) | (refine Tr.cA ?_ ?_;· (try simp (disch:=omega) only[nV,nW]);try omega) | (refine Tr.ba ?_ ?_;· first | exact trivial | rfl | exact ⟨rfl,rfl⟩ | exact ⟨rfl,rfl,rfl⟩ | (simp (disch:=omega) only[nV,nW];done) | ((try simp (disch:=omega) only[nV,nW]);omega)) | fail
     all_goals first
      | exact ⟨rfl,_,rfl⟩
      | (refine Tr.ba ⟨(by first | rfl | trivial),_,rfl⟩ ?_
         exact wF)
      | fail
 · obtain ⟨q,rfl⟩:∃ q,k=q+1:=⟨k-1,by omega⟩
   exact cO (JJ n (q+1) d q (q+1) (ay (dM (fun i=>P (i:Nat) (d i)) (q+1))) P (fun C G=>C=[.ptr 1 0 0 0]∧∃ L,G=L::H) H (Int.ofNat (q+1))) (aO _ n hC) (af _ _) (ag _ _) (by first | (simp (disch:=omega) only[nV,nW];done) | (simp (disch:=omega) only[nV,nW];omega))
theorem OW (h0:0<k) (hk:k≤1000) (hP:∀ i e L,cd n (.fn 87) (.int .i64 i::.int .i64 e::[.ptr 1 0 0 0]) (L::H)=some (.int .i64 (P i e),L::H)):cd (n+1) (.fn 74) [dy s l t k d e,(.fn (.func 87) [] [.ptr 0 0 0 0])] H=some (b6 k (ay (dM (fun i=>P (i:Nat) (d i)) k)) false,H):=by
 have hx:=PZ n k d P H h0 hk hP
 obtain ⟨q,rfl⟩:∃ q,k=q+1:=⟨k-1,by omega⟩
 refine aD (n:=n) Try.func74 rfl rfl rfl (Rn n s l (q+1) q t d e (ay (dM (fun i=>P (i:Nat) (d i)) (q+1))) H) (ao _) (aA (af _ _) OK (fun x hy=>bN hy hx)) (ag _ _) ?_
 rw[cT]
 generalize ay (dM (fun i=>P (i:Nat) (d i)) (q+1))=Y at *
 exact wF
end
section
variable (n s l k:Nat) (c:Nat) (t d e:Nat→Int) (P:Int→Int→Int) (H:aa)
theorem P0 (h0:0<k) (hk:k≤1000) (hP:∀ i e L,cd n (.fn 88) (.int .i64 i::.int .i64 e::[.ptr 1 c 0 0]) (L::H)=some (.int .i64 (P i e),L::H)):exec (bn n 74 28) (.block 0 (.loop (part Try.f74 [1,1,0,1,0,0]))) (gV (.fn (.func 88) [] [.ptr 1 c 0 0]) .nils k d 0) (av::H)=some (.normal,gV (.fn (.func 88) [] [.ptr 1 c 0 0]) (LK k) k d (Int.ofNat k)++[(15,.bool false)],D4 (fun i=>P (i:Nat) (d i)) k::H):=by
 have hC:(Hf 88 P (fun C G=>C=[.ptr 1 c 0 0]∧∃ L,G=L::H)).Ok (cd n):=Ba (fun i e C G hq=>by
  obtain ⟨rfl,L,rfl⟩:=hq
  exact hP i e L)
 refine jf (n:=n) (f:=74) (nt:=28) (c:=part Try.f74 [1,1,0,1,0,0]) 0 (fun j=>gV (.fn (.func 88) [] [.ptr 1 c 0 0]) (LK j) k d (j:Nat)) (fun j=>D4 (fun i=>P (i:Nat) (d i)) j::H) k _ (by omega) (fun j hj=>?_) ?_
 · cases j with
   | zero =>
     refine aB (NS n k c d P (fun C G=>C=[.ptr 1 c 0 0]∧∃ L,G=L::H) H (0:Nat)) (aO _ n hC) (af _ _) (ag _ _) ?_
     show Tr.all _ (fun x=>_∧tidy _ _ _=(gV (.fn (.func 88) [] [.ptr 1 c 0 0]) (.slc 0 0 0 0 1 1 none) k d ((0+1:Nat):Int),vc 0 1 (ay [P (0:Nat) (d 0)])::H))
     rw[c7 (j:=0) (by omega)]
     simp only[iS]
     generalize P (0:Nat) (d 0)=W at *
     repeat' first | (refine Tr.bm (fun hc=>?_) (fun hc=>?_)<;>(try simp (disch:=omega) only[nV,nW] at hc)<;>try omega) | (refine Tr.cA ?_ ?_;· (try simp (disch:=omega) only[nV,nW]);try omega) | (refine Tr.ba ?_ ?_;· first | exact trivial | rfl | exact ⟨rfl,rfl⟩ | exact ⟨rfl,rfl,rfl⟩ | (simp (disch:=omega) only[nV,nW];done) | ((try simp (disch:=omega) only[nV,nW]);omega)) | fail
     all_goals first
      | exact ⟨rfl,_,rfl⟩
      | (refine Tr.ba ⟨(by first | rfl | trivial),_,rfl⟩ ?_
         exact wF)
      | fail
   | succ j =>
     refine aB (JK n k c d j (j+1) (ay (dM (fun i=>P (i:Nat) (d i)) (j+1))) P (fun C G=>C=[.ptr 1 c 0 0]∧∃ L,G=L::H) H (j+1:Nat)) (aO _ n hC) (af _ _) (ag _ _) ?_
     show Tr.all _ (fun x=>_∧tidy _ _ _=(gV (.fn (.func 88) [] [.ptr 1 c 0 0]) (.slc 0 0 (j+1) 0 1 (j+1+1) none) k d ((j+1+1:Nat):Int),vc (j+1) (j+1+1) (ay (dM (fun i=>P (i:Nat) (d i)) (j+1+1)))::H))
     have hap:=oZ (fun i=>P (i:Nat) (d i)) (j+1)
     have ea:bO (j+1) 1=j+1+1:=bH _ _
     rw[c7 (j:=j+1) (by omega)]
     simp only[iS,hap,ea]
     generalize ay (dM (fun i=>P (i:Nat) (d i)) (j+1+1))=Y2 at *
     generalize ay (dM (fun i=>P (i:Nat) (d i)) (j+1))=Y at *
     repeat' first | (refine Tr.bm (fun hc=>?_) (fun hc=>?_)<;>(try simp (disch:=omega) only[nV,nW] at hc)<;>try omega) | (refine Tr.cA ?_ ?_;· (try simp (disch:=omega) only[nV,nW]);try omega) | (refine Tr.ba ?_ ?_;· first | exact trivial | rfl | exact ⟨rfl,rfl⟩ | exact ⟨rfl,rfl,rfl⟩ | (simp (disch:=omega) only[nV,nW];done) | ((try simp (disch:=omega) only[nV,nW]);omega)) | fail
     all_goals first
      | exact ⟨rfl,_,rfl⟩
      | (refine Tr.ba ⟨(by first | rfl | trivial),_,rfl⟩ ?_
         exact wF)
      | fail
 · obtain ⟨q,rfl⟩:∃ q,k=q+1:=⟨k-1,by omega⟩
   exact cO (JK n (q+1) c d q (q+1) (ay (dM (fun i=>P (i:Nat) (d i)) (q+1))) P (fun C G=>C=[.ptr 1 c 0 0]∧∃ L,G=L::H) H (Int.ofNat (q+1))) (aO _ n hC) (af _ _) (ag _ _) (by first | (simp (disch:=omega) only[nV,nW];done) | (simp (disch:=omega) only[nV,nW];omega))
theorem OX (h0:0<k) (hk:k≤1000) (hP:∀ i e L,cd n (.fn 88) (.int .i64 i::.int .i64 e::[.ptr 1 c 0 0]) (L::H)=some (.int .i64 (P i e),L::H)):cd (n+1) (.fn 74) [dy s l t k d e,(.fn (.func 88) [] [.ptr 0 c 0 0])] H=some (b6 k (ay (dM (fun i=>P (i:Nat) (d i)) k)) false,H):=by
 have hx:=P0 n k c d P H h0 hk hP
 obtain ⟨q,rfl⟩:∃ q,k=q+1:=⟨k-1,by omega⟩
 refine aD (n:=n) Try.func74 rfl rfl rfl (Ro n s l (q+1) q c t d e (ay (dM (fun i=>P (i:Nat) (d i)) (q+1))) H) (ao _) (aA (af _ _) OK (fun x hy=>bN hy hx)) (ag _ _) ?_
 rw[cT]
 generalize ay (dM (fun i=>P (i:Nat) (d i)) (q+1))=Y at *
 exact wF
end
end Go.Eng
end
section
namespace Go.Eng
open Go.Proofs
noncomputable def rS (s l:Nat) (t:Nat→Int) (k:Nat) (d g:Nat→Int) (h:Int) (F:AV) (j:Int):aq:=[(0,dy (s+1) l t k d g),(1,.int .i64 h),(2,F),(7,.int .i64 j)]
noncomputable def Hi (T:Int):aT:=⟨false,[(0,.row (.I .i64 [T]))]⟩
theorem Vl (n:Nat) (i e T:Int) (L:aT) (H:aa):aX Try.prog (cd n) 100000 87 Try.f87 (KtL.kt 87) (il aE n 0) aG aH [(.int .i64 i,none),(.int .i64 e,none),(.ptr 1 0 0 0,none)] (L::Hi T::H) =
 Tr.ok ((AV.int .i64 (jV e T),none),L::{ lock:=false,bs:=[(0,ai.row (Row.I .i64 [T]))] } :: H):=by kernel_rfl
theorem Vg (n:Nat) (i e T q:Int) (L L2:aT) (b0:Nat×ai) (bs:List (Nat×ai)) (H:aa):aX Try.prog (cd n) 100000 77 Try.f77 (KtL.kt 77) (il aE n 0) aG aH [(.int .i64 i,none),(.int .i64 e,none),(.ptr 3 1 0 0,none),(.ptr 1 0 0 0,none)] (L::Hi T::L2::⟨false,b0::yg q::bs⟩::H) =
 Tr.ite (b7 i q) (Tr.ok ((AV.int .i64 (jV e T),none),L::{ lock:=false,bs:=[(0,ai.row (Row.I .i64 [T]))] } :: L2::{ lock:=false,bs:=b0::(0,ai.row (Row.I .i64 [q]))::bs } :: H)) (Tr.ok ((AV.int .i64 e,none),L::{ lock:=false,bs:=[(0,ai.row (Row.I .i64 [T]))] } :: L2::{ lock:=false,bs:=b0::(0,ai.row (Row.I .i64 [q]))::bs } :: H)):=by kernel_rfl
theorem Vf (n l k:Nat) (t d g y:Nat→Int) (b0 b2:Nat×ai) (H:aa) (T q:Int):aX Try.prog (cd n) 100000 76 Try.f76 (KtL.kt 76) (il (uG aE 74 [dy 2 l t k d g,.fn (.func 77) [] [.ptr 2 1 0 0,.ptr 0 0 0 0]] (Hi T::av::⟨false,[b0,yg q,b2,(0,.row (.G [dy 0 l t k d g]))]⟩::H) (.ok (b6 k y false,Hi T::av::⟨false,[b0,yg q,b2,(0,.row (.G [dy 0 l t k d g]))]⟩::H))) n 0) aG aH [(.int .i64 T,none),(.ptr 1 3 0 0,none),(.ptr 1 1 0 0,none)] (av::⟨false,[b0,yg q,b2,(0,.row (.G [dy 0 l t k d g]))]⟩::H) =
 (fun (Z0:Row)=>((fun (Z1:aT)=>Tr.reqP ([AV.ptrT (some 2) Z0 0,AV.fn (Fn.func 77) [] [AV.ptr 2 1 0 0,AV.ptr 0 0 0 0]]=[AV.ptrT (some 2) Z0 0,AV.fn (Fn.func 77) [] [AV.ptr 2 1 0 0,AV.ptr 0 0 0 0]]∧{ lock:=false,bs:=[(0,ai.row (Row.I .i64 [T]))] } :: av::Z1::H={ lock:=false,bs:=[(0,ai.row (Row.I .i64 [T]))] } :: av::Z1::H) (Tr.ok ((AV.slcT none (Row.M [ah.arr .i64 y k]) 1 k false,none),av::Z1::H))) { lock:=false,bs:=[b0,(0,ai.row (Row.I .i64 [q])),b2,(0,ai.row (Row.G [AV.ptrT (some 0) Z0 0]))] })) (Row.M [ah.one (AV.slcT none (Row.M [ah.arr .i64 t l]) 1 l false),ah.one (AV.slcT none (Row.M [ah.arr .i64 d k]) 1 k false),ah.arr .i64 g 30]):=by kernel_rfl
theorem QU (n s l k:Nat) (c1 c2:Nat) (t d g y:Nat→Int) (H:aa) (h j c:Int):aJ (bn n 72 20) (il (tX (uG aE 76 (.int .i64 j::[.ptr 1 c1 0 0,.ptr 1 c2 0 0]) (av::H) (.ok (b6 k y false,av::H))) 69 [dy (s+1) l t k d g,b6 k y false,.int .i64 h] (.int .i64 c)) n 0) aG aH (part Try.f72 [1,0,1,0,0]) (hints (rS s l t k d g h (.fn (.func 76) [] [.ptr 1 c1 0 0,.ptr 1 c2 0 0]) j)) (av::H) =
 (fun (Z0:Row)=>((fun (Z1:List AV)=>Tr.ite (bK j (Int.ofNat 40)) (Tr.reqP ([AV.int .i64 j,AV.ptr 1 c1 0 0,AV.ptr 1 c2 0 0]=[AV.int .i64 j,AV.ptr 1 c1 0 0,AV.ptr 1 c2 0 0]∧av::H=av::H) (Tr.reqP (Z1=Z1) (Tr.ite (bK c (Int.ofNat 0)) (Tr.ok (Ex.ret,[(6,AV.int .i64 j,none)],av::H)) (Tr.ok (Ex.normal,[(0,AV.ptrT (some (Nat.succ s)) Z0 0,none),(1,AV.int .i64 h,none),(2,AV.fn (Fn.func 76) [] [AV.ptr 1 c1 0 0,AV.ptr 1 c2 0 0],none),(7,AV.int .i64 (bA .i64 j (Int.ofNat 1)),none)],av::H))))) (Tr.ok (Ex.exit 0,[(0,AV.ptrT (some (Nat.succ s)) Z0 0,none),(1,AV.int .i64 h,none),(2,AV.fn (Fn.func 76) [] [AV.ptr 1 c1 0 0,AV.ptr 1 c2 0 0],none),(7,AV.int .i64 j,none),(9,AV.bool false,some 1)],av::H))) [AV.ptrT (some (Nat.succ s)) Z0 0,AV.slcT none (Row.M [ah.arr .i64 y k]) 1 k false,AV.int .i64 h])) (Row.M [ah.one (AV.slcT none (Row.M [ah.arr .i64 t l]) 1 l false),ah.one (AV.slcT none (Row.M [ah.arr .i64 d k]) 1 k false),ah.arr .i64 g 30]):=by kernel_rfl
theorem NO (n s l k:Nat) (c1 c2:Nat) (t d g:Nat→Int) (H:aa) (h j:Int):aJ (bn n 72 20) (il (tN aE 76) n 0) aG aH (part Try.f72 [1,0,1,0,0]) (hints (rS s l t k d g h (.fn (.func 76) [] [.ptr 1 c1 0 0,.ptr 1 c2 0 0]) j)) (av::H) =
 Tr.ite (bK j (Int.ofNat 40)) Tr.bad (Tr.ok (Ex.exit 0,[(0,AV.ptrT (some (Nat.succ s)) (Row.M [ah.one (AV.slcT none (Row.M [ah.arr .i64 t l]) 1 l false),ah.one (AV.slcT none (Row.M [ah.arr .i64 d k]) 1 k false),ah.arr .i64 g 30]) 0,none),(1,AV.int .i64 h,none),(2,AV.fn (Fn.func 76) [] [AV.ptr 1 c1 0 0,AV.ptr 1 c2 0 0],none),(7,AV.int .i64 j,none),(9,AV.bool false,some 1)],av::H)):=by kernel_rfl
theorem Rk (n s l k:Nat) (c1 c2:Nat) (t d g:Nat→Int) (H:aa) (h r:Int) (B:Bool):aX Try.prog (cd n) 100000 72 Try.f72 (KtL.kt 72) (il aE n 0) (bS aG 0 (rS s l t k d g h (.fn (.func 76) [] [.ptr 1 c1 0 0,.ptr 1 c2 0 0]) 1) (av::H) (.ite B (.ok (.ret,[(6,.int .i64 r,none)],av::H)) (.ok (.normal,hints (rS s l t k d g h (.fn (.func 76) [] [.ptr 1 c1 0 0,.ptr 1 c2 0 0]) 40++[(9,.bool false)]),av::H)))) aH [(dy s l t k d g,none),(.int .i64 h,none),(.fn (.func 76) [] [.ptr 0 c1 0 0,.ptr 0 c2 0 0],none)] H =
 (fun (Z0:aq)=>Tr.reqP (Z0=Z0∧av::H=av::H) (Tr.ite B (Tr.ok ((AV.int .i64 r,none),H)) (Tr.ok ((AV.int .i64 (Int.ofNat 40),some 1),H)))) [(0,AV.ptrT (some (Nat.succ s)) (Row.M [ah.one (AV.slcT none (Row.M [ah.arr .i64 t l]) 1 l false),ah.one (AV.slcT none (Row.M [ah.arr .i64 d k]) 1 k false),ah.arr .i64 g 30]) 0),(1,AV.int .i64 h),(2,AV.fn (Fn.func 76) [] [AV.ptr 1 c1 0 0,AV.ptr 1 c2 0 0]),(7,AV.int .i64 (Int.ofNat 1))]:=by kernel_rfl
theorem QV (n s l k:Nat) (c1:Nat) (t d g y:Nat→Int) (H:aa) (h j c:Int):aJ (bn n 72 20) (il (tX (uG aE 86 (.int .i64 j::[.ptr 1 c1 0 0]) (av::H) (.ok (b6 k y false,av::H))) 69 [dy (s+1) l t k d g,b6 k y false,.int .i64 h] (.int .i64 c)) n 0) aG aH (part Try.f72 [1,0,1,0,0]) (hints (rS s l t k d g h (.fn (.func 86) [] [.ptr 1 c1 0 0]) j)) (av::H) =
 (fun (Z0:Row)=>((fun (Z1:List AV)=>Tr.ite (bK j (Int.ofNat 40)) (Tr.reqP ([AV.int .i64 j,AV.ptr 1 c1 0 0]=[AV.int .i64 j,AV.ptr 1 c1 0 0]∧av::H=av::H) (Tr.reqP (Z1=Z1) (Tr.ite (bK c (Int.ofNat 0)) (Tr.ok (Ex.ret,[(6,AV.int .i64 j,none)],av::H)) (Tr.ok (Ex.normal,[(0,AV.ptrT (some (Nat.succ s)) Z0 0,none),(1,AV.int .i64 h,none),(2,AV.fn (Fn.func 86) [] [AV.ptr 1 c1 0 0],none),(7,AV.int .i64 (bA .i64 j (Int.ofNat 1)),none)],av::H))))) (Tr.ok (Ex.exit 0,[(0,AV.ptrT (some (Nat.succ s)) Z0 0,none),(1,AV.int .i64 h,none),(2,AV.fn (Fn.func 86) [] [AV.ptr 1 c1 0 0],none),(7,AV.int .i64 j,none),(9,AV.bool false,some 1)],av::H))) [AV.ptrT (some (Nat.succ s)) Z0 0,AV.slcT none (Row.M [ah.arr .i64 y k]) 1 k false,AV.int .i64 h])) (Row.M [ah.one (AV.slcT none (Row.M [ah.arr .i64 t l]) 1 l false),ah.one (AV.slcT none (Row.M [ah.arr .i64 d k]) 1 k false),ah.arr .i64 g 30]):=by kernel_rfl
theorem NP (n s l k:Nat) (c1:Nat) (t d g:Nat→Int) (H:aa) (h j:Int):aJ (bn n 72 20) (il (tN aE 86) n 0) aG aH (part Try.f72 [1,0,1,0,0]) (hints (rS s l t k d g h (.fn (.func 86) [] [.ptr 1 c1 0 0]) j)) (av::H) =
 Tr.ite (bK j (Int.ofNat 40)) Tr.bad (Tr.ok (Ex.exit 0,[(0,AV.ptrT (some (Nat.succ s)) (Row.M [ah.one (AV.slcT none (Row.M [ah.arr .i64 t l]) 1 l false),ah.one (AV.slcT none (Row.M [ah.arr .i64 d k]) 1 k false),ah.arr .i64 g 30]) 0,none),(1,AV.int .i64 h,none),(2,AV.fn (Fn.func 86) [] [AV.ptr 1 c1 0 0],none),(7,AV.int .i64 j,none),(9,AV.bool false,some 1)],av::H)):=by kernel_rfl
theorem Rl (n s l k:Nat) (c1:Nat) (t d g:Nat→Int) (H:aa) (h r:Int) (B:Bool):aX Try.prog (cd n) 100000 72 Try.f72 (KtL.kt 72) (il aE n 0) (bS aG 0 (rS s l t k d g h (.fn (.func 86) [] [.ptr 1 c1 0 0]) 1) (av::H) (.ite B (.ok (.ret,[(6,.int .i64 r,none)],av::H)) (.ok (.normal,hints (rS s l t k d g h (.fn (.func 86) [] [.ptr 1 c1 0 0]) 40++[(9,.bool false)]),av::H)))) aH [(dy s l t k d g,none),(.int .i64 h,none),(.fn (.func 86) [] [.ptr 0 c1 0 0],none)] H =
 (fun (Z0:aq)=>Tr.reqP (Z0=Z0∧av::H=av::H) (Tr.ite B (Tr.ok ((AV.int .i64 r,none),H)) (Tr.ok ((AV.int .i64 (Int.ofNat 40),some 1),H)))) [(0,AV.ptrT (some (Nat.succ s)) (Row.M [ah.one (AV.slcT none (Row.M [ah.arr .i64 t l]) 1 l false),ah.one (AV.slcT none (Row.M [ah.arr .i64 d k]) 1 k false),ah.arr .i64 g 30]) 0),(1,AV.int .i64 h),(2,AV.fn (Fn.func 86) [] [AV.ptr 1 c1 0 0]),(7,AV.int .i64 (Int.ofNat 1))]:=by kernel_rfl
theorem RM:∀ b,(0,b) ∈ aI (bj Try.f72)→b=.loop (part Try.f72 [1,0,1,0,0]):=ep (by kernel_rfl)
def jm (p:Nat→Bool):Nat:=if bV (fun j=>p (j+1)) 39=true then fN (fun j=>p (j+1)) 39 0+1 else 40
theorem r7 (p:Nat→Bool):1≤jm p∧jm p≤40:=by
 unfold jm
 by_cases c:bV (fun j=>p (j+1)) 39=true
 · rw[if_pos c]
   have:=je c
   omega
 · rw[if_neg c];omega
section
variable (n:Nat) (H:aa)
theorem SI (i e T:Int) (L:aT):cd (n+1) (.fn 87) [.int .i64 i,.int .i64 e,.ptr 1 0 0 0] (L::Hi T::H)=some (.int .i64 (min e T),L::Hi T::H):=by
 refine aD (n:=n) Try.func87 rfl rfl rfl (Vl n i e T L H) (ao _) (af _ _) (ag _ _) ?_
 rw[jq]
 exact wF
theorem SC (i e T q:Int) (L L2:aT) (b0:Nat×ai) (bs:List (Nat×ai)):cd (n+1) (.fn 77) [.int .i64 i,.int .i64 e,.ptr 3 1 0 0,.ptr 1 0 0 0] (L::Hi T::L2::⟨false,b0::yg q::bs⟩::H)=some (.int .i64 (if i=q then min e T else e),L::Hi T::L2::⟨false,b0::yg q::bs⟩::H):=by
 refine aD (n:=n) Try.func77 rfl rfl rfl (Vg n i e T q L L2 b0 bs H) (ao _) (af _ _) (ag _ _) ?_
 rw[jq]
 by_cases c:i=q
 · rw[if_pos c]
   exact wF
 · rw[if_neg c]
   exact wF
variable (l k:Nat) (t d g:Nat→Int)
theorem SB (b0 b2:Nat×ai) (T q:Int) (h0:0<k) (hk:k≤1000):cd (n+3) (.fn 76) [.int .i64 T,.ptr 1 3 0 0,.ptr 1 1 0 0] (av::⟨false,[b0,yg q,b2,(0,.row (.G [dy 0 l t k d g]))]⟩::H)=some (b6 k (ay (dM (fun i=>if (i:Int)=q then min (d i) T else d i) k)) false,av::⟨false,[b0,yg q,b2,(0,.row (.G [dy 0 l t k d g]))]⟩::H):=by
 refine aD (n:=n+2) Try.func76 rfl rfl rfl (Vf (n+2) l k t d g (ay (dM (fun i=>if (i:Int)=q then min (d i) T else d i) k)) b0 b2 H T q) (aO _ (n+2) (dQ (aF _) (fun x hy=>by
  rw[← Tr.ab hy]
  exact OV (n+1) 2 l k 1 t d g (fun i e=>if i=q then min e T else e) _ h0 hk (fun i e L=>SC n _ i e T q L _ b0 _)))) (af _ _) (ag _ _) ?_
 generalize ay (dM (fun i=>if (i:Int)=q then min (d i) T else d i) k)=Y at *
 exact wF
end
section
variable (n s l k:Nat) (c1:Nat) (t d g:Nat→Int) (H:aa) (h:Int) (W:Nat→Nat→Int)
end
section
variable (n s l k:Nat) (c1 c2:Nat) (t d g:Nat→Int) (H:aa) (h:Int) (W:Nat→Nat→Int)
theorem OT (hl:l≤30) (hk:k=l) (ht:∀ j,j<l→t j<l) (hc:iF l t=false) (hW:∀ T,1≤T→T<40→Bd l (W T)) (hh:0≤h∧h≤1000)
 (hF:∀ T,1≤T→T<40→cd (n+4) (.fn 76) (.int .i64 (T:Nat)::[.ptr 1 c1 0 0,.ptr 1 c2 0 0]) (av::H)=some (b6 k (W T) false,av::H)) :
 cd (n+5) (.fn 72) [dy s l t k d g,.int .i64 h,.fn (.func 76) [] [.ptr 0 c1 0 0,.ptr 0 c2 0 0]] H=some (.int .i64 (jm (fun T=>bC l t (W T) h):Nat),H):=by
 have hC:∀ j,j<39→(tX (uG aE 76 (.int .i64 ((j+1:Nat):Int)::[.ptr 1 c1 0 0,.ptr 1 c2 0 0]) (av::H) (.ok (b6 k (W (j+1)) false,av::H))) 69 [dy (s+1) l t k d g,b6 k (W (j+1)) false,.int .i64 h] (.int .i64 (yh l t (W (j+1)) h))).Ok (cd (n+4)):=fun j hj =>
  bp (dQ (aF _) (fun x hy=>by rw[← Tr.ab hy];exact hF (j+1) (by omega) (by omega))) (fun H=>OS n (s+1) l k k t d g (W (j+1)) false H h hl hk ht hc (hW (j+1) (by omega) (by omega)) hh)
 have hx:=iv (n:=n+4) (f:=72) (nt:=20) (c:=part Try.f72 [1,0,1,0,0]) 0 (fun j=>rS s l t k d g h (.fn (.func 76) [] [.ptr 1 c1 0 0,.ptr 1 c2 0 0]) ((j+1:Nat):Int)) (fun _=>av::H) 39 (fun j=>bC l t (W (j+1)) h) (fun j=>([(6,.int .i64 ((j+1:Nat):Int))],av::H)) (rS s l t k d g h (.fn (.func 76) [] [.ptr 1 c1 0 0,.ptr 1 c2 0 0]) 40++[(9,.bool false)],av::H) (by omega) (fun j hj=>?_) ?_
 · have hr:cond (bV (fun j=>bC l t (W (j+1)) h) 39) ((fN (fun j=>bC l t (W (j+1)) h) 39 0+1:Nat):Int) 40=(jm (fun T=>bC l t (W T) h):Nat):=by
    unfold jm
    cases bV (fun j=>bC l t (W (j+1)) h) 39 with
    | true=>rw[if_pos rfl];rfl
    | false=>rw[if_neg (by decide)];rfl
   refine aD (n:=n+4) Try.func72 rfl rfl rfl (Rk (n+4) s l k c1 c2 t d g H h ((fN (fun j=>bC l t (W (j+1)) h) 39 0+1:Nat):Int) (bV (fun j=>bC l t (W (j+1)) h) 39)) (ao _) (aA (af _ _) RM (fun x hy=>dk hy hx)) (ag _ _) ?_
   rw[← hr]
   generalize ((fN (fun j=>bC l t (W (j+1)) h) 39 0+1:Nat):Int)=R at *
   generalize bV (fun j=>bC l t (W (j+1)) h) 39=B at *
   cases B
   all_goals
    simp only[cond_true,cond_false]
    exact wF
 · refine aB (QU (n+4) s l k c1 c2 t d g (W (j+1)) H h ((j+1:Nat):Int) (yh l t (W (j+1)) h)) (aO _ (n+4) (hC j hj)) (af _ _) (ag _ _) ?_
   show Tr.all _ (fun r=>if bC l t (W (j+1)) h=true then _ else _)
   obtain ⟨q1,q2⟩:=wP l t (W (j+1)) h
   rw[c7 (j:=j+1) (by omega)]
   generalize yh l t (W (j+1)) h=C at *
   cases hB:bC l t (W (j+1)) h with
   | true =>
     have:=q1.2 hB
     simp only[if_true]
     exact wF
   | false =>
     have:=q2.2 hB
     simp only[Bool.false_eq_true,if_false]
     exact wF
 · exact cO (NO (n+4) s l k c1 c2 t d g H h 40) (aO _ (n+4) (JN (aF _))) (af _ _) (ag _ _) (by first | (simp (disch:=omega) only[nV,nW];done) | (simp (disch:=omega) only[nV,nW];omega))
end
section
variable (n s l k:Nat) (c1:Nat) (t d g:Nat→Int) (H:aa) (h:Int) (W:Nat→Nat→Int)
theorem OU (hl:l≤30) (hk:k=l) (ht:∀ j,j<l→t j<l) (hc:iF l t=false) (hW:∀ T,1≤T→T<40→Bd l (W T)) (hh:0≤h∧h≤1000)
 (hF:∀ T,1≤T→T<40→cd (n+4) (.fn 86) (.int .i64 (T:Nat)::[.ptr 1 c1 0 0]) (av::H)=some (b6 k (W T) false,av::H)) :
 cd (n+5) (.fn 72) [dy s l t k d g,.int .i64 h,.fn (.func 86) [] [.ptr 0 c1 0 0]] H=some (.int .i64 (jm (fun T=>bC l t (W T) h):Nat),H):=by
 have hC:∀ j,j<39→(tX (uG aE 86 (.int .i64 ((j+1:Nat):Int)::[.ptr 1 c1 0 0]) (av::H) (.ok (b6 k (W (j+1)) false,av::H))) 69 [dy (s+1) l t k d g,b6 k (W (j+1)) false,.int .i64 h] (.int .i64 (yh l t (W (j+1)) h))).Ok (cd (n+4)):=fun j hj =>
  bp (dQ (aF _) (fun x hy=>by rw[← Tr.ab hy];exact hF (j+1) (by omega) (by omega))) (fun H=>OS n (s+1) l k k t d g (W (j+1)) false H h hl hk ht hc (hW (j+1) (by omega) (by omega)) hh)
 have hx:=iv (n:=n+4) (f:=72) (nt:=20) (c:=part Try.f72 [1,0,1,0,0]) 0 (fun j=>rS s l t k d g h (.fn (.func 86) [] [.ptr 1 c1 0 0]) ((j+1:Nat):Int)) (fun _=>av::H) 39 (fun j=>bC l t (W (j+1)) h) (fun j=>([(6,.int .i64 ((j+1:Nat):Int))],av::H)) (rS s l t k d g h (.fn (.func 86) [] [.ptr 1 c1 0 0]) 40++[(9,.bool false)],av::H) (by omega) (fun j hj=>?_) ?_
 · have hr:cond (bV (fun j=>bC l t (W (j+1)) h) 39) ((fN (fun j=>bC l t (W (j+1)) h) 39 0+1:Nat):Int) 40=(jm (fun T=>bC l t (W T) h):Nat):=by
    unfold jm
    cases bV (fun j=>bC l t (W (j+1)) h) 39 with
    | true=>rw[if_pos rfl];rfl
    | false=>rw[if_neg (by decide)];rfl
   refine aD (n:=n+4) Try.func72 rfl rfl rfl (Rl (n+4) s l k c1 t d g H h ((fN (fun j=>bC l t (W (j+1)) h) 39 0+1:Nat):Int) (bV (fun j=>bC l t (W (j+1)) h) 39)) (ao _) (aA (af _ _) RM (fun x hy=>dk hy hx)) (ag _ _) ?_
   rw[← hr]
   generalize ((fN (fun j=>bC l t (W (j+1)) h) 39 0+1:Nat):Int)=R at *
   generalize bV (fun j=>bC l t (W (j+1)) h) 39=B at *
   cases B
   all_goals
    simp only[cond_true,cond_false]
    exact wF
 · refine aB (QV (n+4) s l k c1 t d g (W (j+1)) H h ((j+1:Nat):Int) (yh l t (W (j+1)) h)) (aO _ (n+4) (hC j hj)) (af _ _) (ag _ _) ?_
   show Tr.all _ (fun r=>if bC l t (W (j+1)) h=true then _ else _)
   obtain ⟨q1,q2⟩:=wP l t (W (j+1)) h
   rw[c7 (j:=j+1) (by omega)]
   generalize yh l t (W (j+1)) h=C at *
   cases hB:bC l t (W (j+1)) h with
   | true =>
     have:=q1.2 hB
     simp only[if_true]
     exact wF
   | false =>
     have:=q2.2 hB
     simp only[Bool.false_eq_true,if_false]
     exact wF
 · exact cO (NP (n+4) s l k c1 t d g H h 40) (aO _ (n+4) (JN (aF _))) (af _ _) (ag _ _) (by first | (simp (disch:=omega) only[nV,nW];done) | (simp (disch:=omega) only[nV,nW];omega))
end
end Go.Eng
end
section
namespace Go.Eng
theorem Mw {p:Nat→Bool} {N m:Nat} (h1:m<N) (h2:p m=true) (h3:∀ i,i<m→p i=false):fN p N 0=m:=by
 obtain ⟨_,b,c,d⟩:=kZ p N 0
 have c:=fun i hi=>c i (Nat.zero_le i) hi
 have:fN p N 0<N:=Classical.byContradiction fun hn=>by
  have:=c m (by omega)
  rw[h2] at this;cases this
 have d:=d (by omega)
 rcases Nat.lt_trichotomy (fN p N 0) m with e | e | e
 · have:=h3 _ e;rw[d] at this;cases this
 · exact e
 · have:=c m e;rw[h2] at this;cases this
theorem vZ {t e e':Nat→Int} {i l:Nat} (he:∀ j,j<l→e j=e' j) (ht:∀ j,j<l→t j<l) (hi:i<l):∀ m,(∀ q,q<m→0≤bE t q (i:Int))→D3 t e i m=D3 t e' i m
 | 0,_=>he i hi
 | m+1,hp=>by
   have h1:=hp m (by omega)
   have h2:=fz ht (show (i:Int)<l by omega) m
   show min (D3 t e i m) _=min (D3 t e' i m) _
   rw[vZ he ht hi m (fun q hq=>hp q (by omega)),he _ (by omega)]
theorem zl {l:Nat} {t e e':Nat→Int} (h:Fw l t) (he:∀ j,j<l→e j=e' j) {i:Nat} (hi:i<l):nZ l t e i=nZ l t e' i :=
 vZ he h.tl hi _ (jS h.cyc i hi).2.1
theorem Fx {l:Nat} {t e e':Nat→Int} (h:Fw l t) (he:∀ j,j<l→e j=e' j) (T:Int):Fv l t e T=Fv l t e' T :=
 eT (fun i hi=>by rw[zl h he hi])
theorem DJ {l:Nat} {t e e':Nat→Int} (h:Fw l t) (he:∀ j,j<l→e j=e' j) (hh T:Int):Fu l t e hh T=Fu l t e' hh T:=by
 unfold Fu;rw[Fx h he]
theorem j8 {l:Nat} {t e e':Nat→Int} (h:Fw l t) (he:∀ j,j<l→e j=e' j) (hh:Int):bC l t e hh=bC l t e' hh:=by
 unfold bC;rw[ke (fun T _=>DJ h he hh T)]
theorem oN (l:Nat) (t e:Nat→Int) (h:Int):bC l t e h=true↔∀ T:Nat,T≤40→(Fv l t e T:Int)≤h*T:=by
 unfold bC
 rw[Bool.not_eq_true']
 constructor
 · intro hx T hT
   have:=dR hx T (by omega)
   unfold Fu at this
   rw[decide_eq_false_iff_not] at this;omega
 · intro hx
   refine jT (fun T hT=>?_)
   have:=hx T (by omega)
   unfold Fu
   rw[decide_eq_false_iff_not];omega
theorem vV {p q:Nat→Bool} (h:∀ T,1≤T→T<40→p T=q T):jm p=jm q:=by
 unfold jm
 have e:bV (fun j=>p (j+1)) 39=bV (fun j=>q (j+1)) 39:=ke (fun j hj=>h _ (by omega) (by omega))
 rw[e]
 by_cases c:bV (fun j=>q (j+1)) 39=true
 · rw[if_pos c,if_pos c]
   obtain ⟨_,b,c1,d⟩:=kZ (fun j=>q (j+1)) 39 0
   have hl:=je c
   rw[Mw (p:=fun j=>p (j+1)) hl (by rw[h _ (by omega) (by omega)];exact d (by omega)) (fun i hi=>by rw[h _ (by omega) (by omega)];exact c1 i (by omega) hi)]
 · rw[if_neg c,if_neg c]
theorem Kj (l:Nat) (t e:Nat→Int) (h:Int) (h0:0<Fv l t e 0):bC l t e h=false:=by
 cases c:bC l t e h with
 | false=>rfl
 | true =>
   have:=(oN l t e h).1 c 0 (by omega)
   rw[show ((0:Nat):Int)=0 from rfl] at this
   omega
end Go.Eng
end
