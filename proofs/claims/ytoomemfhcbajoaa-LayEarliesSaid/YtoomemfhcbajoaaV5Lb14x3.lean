/- Lay: other Dues, by a closure. -/
import Derived.Test.YtoomemfhcbajoaaV5Lb13
section
namespace Go.Eng
open Go.Proofs
set_option linter.unusedVariables false
set_option linter.unusedSimpArgs false
set_option maxRecDepth 100000
noncomputable def gD (P:Int→Int→Int) (Q:List AV→Heap→Prop) (args:List AV) (H:Heap):Tr (AV×Heap) :=
 match args with
 | .int .i64 i::.int .i64 e::C=>.reqP (Q C H) (.ok (.int .i64 (P i e),H))
 | _=>.bad
noncomputable def ctD (f:FuncId) (P:Int→Int→Int) (Q:List AV→Heap→Prop):Ctr:=addCt noCt f (gD P Q)
noncomputable def fr74 (F:AV) (o:AV) (k:Nat) (d:Nat→Int) (j:Int):Frm:=[(1,F),(5,o),(12,sl1 k d false),(13,.int .i64 (Int.ofNat k)),(14,.int .i64 j)]
theorem t74Ba (n k:Nat) (c:Nat) (d:Nat→Int) (P:Int→Int→Int) (Q:List AV→Heap→Prop) (H:Heap) (j:Int):execT (cxD n 74 28) (il (ctD 77 P Q) n 0) noBT noRT (part Try.f74 [1,1,0,1,0,0]) (hints (fr74 (.fn (.func 77) [] [.ptr 3 c 0 0,.ptr 1 0 0 0]) .nils k d j)) (lvE::H) =
 Tr.ite (ltI j (Int.ofNat k)) (Tr.req (inI j k) (Tr.req (ltN (idO 0 j 1) k) (Tr.reqP (Q [AV.ptr 3 c 0 0,AV.ptr 1 0 0 0] (lvE::H)) (Tr.req (roomO 0 1 8) (Tr.req (eqN 0 0) (Tr.req (leN 1 1) (Tr.ok (Ex.normal,[(1,AV.fn (Fn.func 77) [] [AV.ptr 3 c 0 0,AV.ptr 1 0 0 0],none),(5,AV.slc 0 1 0 0 1 1 none,none),(12,AV.slcT none (Row.M [Seg.arr .i64 d k]) 1 k false,none),(13,AV.int .i64 (Int.ofNat k),none),(14,AV.int .i64 (addI .i64 j (Int.ofNat 1)),none)],{ lock:=false,bs:=[(0,Blk.row (Row.I .i64 [P j (d (idO 0 j 1))])),(0,Blk.row (Row.M [Seg.arr .i64 (lstO [P j (d (idO 0 j 1))]) 1]))] } :: H)))))))) (Tr.ok (Ex.exit 0,[(1,AV.fn (Fn.func 77) [] [AV.ptr 3 c 0 0,AV.ptr 1 0 0 0],none),(5,AV.nils,none),(12,AV.slcT none (Row.M [Seg.arr .i64 d k]) 1 k false,none),(13,AV.int .i64 (Int.ofNat k),none),(14,AV.int .i64 j,none),(15,AV.bool false,some 1)],lvE::H)):=by kernel_rfl
theorem t74Bb (n k:Nat) (c:Nat) (d:Nat→Int) (v m:Nat) (y:Nat→Int) (P:Int→Int→Int) (Q:List AV→Heap→Prop) (H:Heap) (j:Int):execT (cxD n 74 28) (il (ctD 77 P Q) n 0) noBT noRT (part Try.f74 [1,1,0,1,0,0]) (hints (fr74 (.fn (.func 77) [] [.ptr 3 c 0 0,.ptr 1 0 0 0]) (.slc 0 0 v 0 1 m none) k d j)) (lvO v m y::H) =
 Tr.ite (ltI j (Int.ofNat k)) (Tr.req (inI j k) (Tr.req (ltN (idO 0 j 1) k) (Tr.reqP (Q [AV.ptr 3 c 0 0,AV.ptr 1 0 0 0] ({ lock:=false,bs:=[(v,Blk.row (Row.M [Seg.arr .i64 y m]))] } :: H)) (Tr.req (roomO m 1 8) (Tr.req (eqN 0 0) (Tr.req (leN 1 1) (Tr.req (eqN v v) (Tr.req (eqN (addO 0 m) m) (Tr.ok (Ex.normal,[(1,AV.fn (Fn.func 77) [] [AV.ptr 3 c 0 0,AV.ptr 1 0 0 0],none),(5,AV.slc 0 0 (Nat.succ v) 0 1 (addO m 1) none,none),(12,AV.slcT none (Row.M [Seg.arr .i64 d k]) 1 k false,none),(13,AV.int .i64 (Int.ofNat k),none),(14,AV.int .i64 (addI .i64 j (Int.ofNat 1)),none)],{ lock:=false,bs:=[(Nat.succ v,Blk.row (Row.M [Seg.arr .i64 (appO (shO y 0) m (lstO [P j (d (idO 0 j 1))])) (addO m 1)])),(0,Blk.row (Row.I .i64 [P j (d (idO 0 j 1))]))] } :: H)))))))))) (Tr.ok (Ex.exit 0,[(1,AV.fn (Fn.func 77) [] [AV.ptr 3 c 0 0,AV.ptr 1 0 0 0],none),(5,AV.slc 0 0 v 0 1 m none,none),(12,AV.slcT none (Row.M [Seg.arr .i64 d k]) 1 k false,none),(13,AV.int .i64 (Int.ofNat k),none),(14,AV.int .i64 j,none),(15,AV.bool false,some 1)],{ lock:=false,bs:=[(v,Blk.row (Row.M [Seg.arr .i64 y m]))] } :: H)):=by kernel_rfl
theorem u74B (n s l k q:Nat) (c:Nat) (t d e y:Nat→Int) (H:Heap):bodyT Try.prog (cd n) 100000 74 Try.f74 (KtL.kt 74) (il noCt n 0) (blkE noBT 0 (fr74 (.fn (.func 77) [] [.ptr 3 c 0 0,.ptr 1 0 0 0]) .nils k d 0) (lvE::H) (.ok (.normal,hints (fr74 (.fn (.func 77) [] [.ptr 3 c 0 0,.ptr 1 0 0 0]) (.slc 0 0 q 0 1 (q+1) none) k d (Int.ofNat k)++[(15,.bool false)]),lvO q (q+1) y::H))) noRT [(tbA s l t k d e,none),((.fn (.func 77) [] [.ptr 2 c 0 0,.ptr 0 0 0 0]),none)] H =
 (fun (Z0:Frm)=>Tr.reqP (Z0=Z0∧lvE::H=lvE::H) (Tr.req (eqN q q) (Tr.req (inO 0 (Nat.succ q) 0 (Nat.succ q)) (Tr.ok ((AV.slcT none (Row.M [Seg.arr .i64 (shO y 0) (Nat.succ q)]) 1 (Nat.succ q) false,none),H))))) [(1,AV.fn (Fn.func 77) [] [AV.ptr 3 c 0 0,AV.ptr 1 0 0 0]),(5,AV.nils),(12,AV.slcT none (Row.M [Seg.arr .i64 d k]) 1 k false),(13,AV.int .i64 (Int.ofNat k)),(14,AV.int .i64 (Int.ofNat 0))]:=by kernel_rfl
theorem t74Ca (n k:Nat) (c:Nat) (d:Nat→Int) (P:Int→Int→Int) (Q:List AV→Heap→Prop) (H:Heap) (j:Int):execT (cxD n 74 28) (il (ctD 79 P Q) n 0) noBT noRT (part Try.f74 [1,1,0,1,0,0]) (hints (fr74 (.fn (.func 79) [] [.ptr 1 c 0 0]) .nils k d j)) (lvE::H) =
 Tr.ite (ltI j (Int.ofNat k)) (Tr.req (inI j k) (Tr.req (ltN (idO 0 j 1) k) (Tr.reqP (Q [AV.ptr 1 c 0 0] (lvE::H)) (Tr.req (roomO 0 1 8) (Tr.req (eqN 0 0) (Tr.req (leN 1 1) (Tr.ok (Ex.normal,[(1,AV.fn (Fn.func 79) [] [AV.ptr 1 c 0 0],none),(5,AV.slc 0 1 0 0 1 1 none,none),(12,AV.slcT none (Row.M [Seg.arr .i64 d k]) 1 k false,none),(13,AV.int .i64 (Int.ofNat k),none),(14,AV.int .i64 (addI .i64 j (Int.ofNat 1)),none)],{ lock:=false,bs:=[(0,Blk.row (Row.I .i64 [P j (d (idO 0 j 1))])),(0,Blk.row (Row.M [Seg.arr .i64 (lstO [P j (d (idO 0 j 1))]) 1]))] } :: H)))))))) (Tr.ok (Ex.exit 0,[(1,AV.fn (Fn.func 79) [] [AV.ptr 1 c 0 0],none),(5,AV.nils,none),(12,AV.slcT none (Row.M [Seg.arr .i64 d k]) 1 k false,none),(13,AV.int .i64 (Int.ofNat k),none),(14,AV.int .i64 j,none),(15,AV.bool false,some 1)],lvE::H)):=by kernel_rfl
theorem t74Cb (n k:Nat) (c:Nat) (d:Nat→Int) (v m:Nat) (y:Nat→Int) (P:Int→Int→Int) (Q:List AV→Heap→Prop) (H:Heap) (j:Int):execT (cxD n 74 28) (il (ctD 79 P Q) n 0) noBT noRT (part Try.f74 [1,1,0,1,0,0]) (hints (fr74 (.fn (.func 79) [] [.ptr 1 c 0 0]) (.slc 0 0 v 0 1 m none) k d j)) (lvO v m y::H) =
 Tr.ite (ltI j (Int.ofNat k)) (Tr.req (inI j k) (Tr.req (ltN (idO 0 j 1) k) (Tr.reqP (Q [AV.ptr 1 c 0 0] ({ lock:=false,bs:=[(v,Blk.row (Row.M [Seg.arr .i64 y m]))] } :: H)) (Tr.req (roomO m 1 8) (Tr.req (eqN 0 0) (Tr.req (leN 1 1) (Tr.req (eqN v v) (Tr.req (eqN (addO 0 m) m) (Tr.ok (Ex.normal,[(1,AV.fn (Fn.func 79) [] [AV.ptr 1 c 0 0],none),(5,AV.slc 0 0 (Nat.succ v) 0 1 (addO m 1) none,none),(12,AV.slcT none (Row.M [Seg.arr .i64 d k]) 1 k false,none),(13,AV.int .i64 (Int.ofNat k),none),(14,AV.int .i64 (addI .i64 j (Int.ofNat 1)),none)],{ lock:=false,bs:=[(Nat.succ v,Blk.row (Row.M [Seg.arr .i64 (appO (shO y 0) m (lstO [P j (d (idO 0 j 1))])) (addO m 1)])),(0,Blk.row (Row.I .i64 [P j (d (idO 0 j 1))]))] } :: H)))))))))) (Tr.ok (Ex.exit 0,[(1,AV.fn (Fn.func 79) [] [AV.ptr 1 c 0 0],none),(5,AV.slc 0 0 v 0 1 m none,none),(12,AV.slcT none (Row.M [Seg.arr .i64 d k]) 1 k false,none),(13,AV.int .i64 (Int.ofNat k),none),(14,AV.int .i64 j,none),(15,AV.bool false,some 1)],{ lock:=false,bs:=[(v,Blk.row (Row.M [Seg.arr .i64 y m]))] } :: H)):=by kernel_rfl
theorem u74C (n s l k q:Nat) (c:Nat) (t d e y:Nat→Int) (H:Heap):bodyT Try.prog (cd n) 100000 74 Try.f74 (KtL.kt 74) (il noCt n 0) (blkE noBT 0 (fr74 (.fn (.func 79) [] [.ptr 1 c 0 0]) .nils k d 0) (lvE::H) (.ok (.normal,hints (fr74 (.fn (.func 79) [] [.ptr 1 c 0 0]) (.slc 0 0 q 0 1 (q+1) none) k d (Int.ofNat k)++[(15,.bool false)]),lvO q (q+1) y::H))) noRT [(tbA s l t k d e,none),((.fn (.func 79) [] [.ptr 0 c 0 0]),none)] H =
 (fun (Z0:Frm)=>Tr.reqP (Z0=Z0∧lvE::H=lvE::H) (Tr.req (eqN q q) (Tr.req (inO 0 (Nat.succ q) 0 (Nat.succ q)) (Tr.ok ((AV.slcT none (Row.M [Seg.arr .i64 (shO y 0) (Nat.succ q)]) 1 (Nat.succ q) false,none),H))))) [(1,AV.fn (Fn.func 79) [] [AV.ptr 1 c 0 0]),(5,AV.nils),(12,AV.slcT none (Row.M [Seg.arr .i64 d k]) 1 k false),(13,AV.int .i64 (Int.ofNat k)),(14,AV.int .i64 (Int.ofNat 0))]:=by kernel_rfl
theorem b74:∀ b,(0,b) ∈ blocksOf (bodyOf Try.f74)→b=.loop (part Try.f74 [1,1,0,1,0,0]):=by
 have:((blocksOf (bodyOf Try.f74)).filter fun x=>Nat.beq x.1 0)=[(0,.loop (part Try.f74 [1,1,0,1,0,0]))]:=by kernel_rfl
 intro b hb
 have hm:(0,b) ∈ ((blocksOf (bodyOf Try.f74)).filter fun x=>Nat.beq x.1 0):=List.mem_filter.2 ⟨hb,rfl⟩
 rw[this] at hm;simpa using hm
theorem ctD_ok {k:Nat} {f:FuncId} {P:Int→Int→Int} {Q:List AV→Heap→Prop} (h:∀ i e C H,Q C H→cd k (.fn f) (.int .i64 i::.int .i64 e::C) H=some (.int .i64 (P i e),H)):(ctD f P Q).Ok (cd k):=by
 refine addCt_ok (noCt_ok _) (fun args H x hx=>?_)
 unfold gD at hx
 split at hx
 · obtain ⟨h1,h2⟩:=Tr.reqP_some hx
   rw[h _ _ _ _ h1,← Tr.ok_some h2]
 · exact (Tr.bad_some hx).elim
noncomputable def o74:Nat→AV
 | 0=>.nils
 | q+1=>.slc 0 0 q 0 1 (q+1) none
noncomputable def lv74 (z:Nat→Int):Nat→Lvl
 | 0=>lvE
 | q+1=>lvO q (q+1) (lstO (faN z (q+1)))
section
variable (n s l k:Nat) (t d e:Nat→Int) (P:Int→Int→Int) (H:Heap)
end
section
variable (n s l k:Nat) (c:Nat) (t d e:Nat→Int) (P:Int→Int→Int) (H:Heap)
theorem l74B (h0:0<k) (hk:k≤1000) (hP:∀ i e L,cd n (.fn 77) (.int .i64 i::.int .i64 e::[.ptr 3 c 0 0,.ptr 1 0 0 0]) (L::H)=some (.int .i64 (P i e),L::H)):exec (cxD n 74 28) (.block 0 (.loop (part Try.f74 [1,1,0,1,0,0]))) (fr74 (.fn (.func 77) [] [.ptr 3 c 0 0,.ptr 1 0 0 0]) .nils k d 0) (lvE::H)=some (.normal,fr74 (.fn (.func 77) [] [.ptr 3 c 0 0,.ptr 1 0 0 0]) (o74 k) k d (Int.ofNat k)++[(15,.bool false)],lv74 (fun i=>P (i:Nat) (d i)) k::H):=by
 have hC:(ctD 77 P (fun C G=>C=[.ptr 3 c 0 0,.ptr 1 0 0 0]∧∃ L,G=L::H)).Ok (cd n):=ctD_ok (fun i e C G hq=>by
  obtain ⟨rfl,L,rfl⟩:=hq
  exact hP i e L)
 refine forX (n:=n) (f:=74) (nt:=28) (c:=part Try.f74 [1,1,0,1,0,0]) 0 (fun j=>fr74 (.fn (.func 77) [] [.ptr 3 c 0 0,.ptr 1 0 0 0]) (o74 j) k d (j:Nat)) (fun j=>lv74 (fun i=>P (i:Nat) (d i)) j::H) k _ (by omega) (fun j hj=>?_) ?_
 · cases j with
   | zero =>
     refine ex_all (t74Ba n k c d P (fun C G=>C=[.ptr 3 c 0 0,.ptr 1 0 0 0]∧∃ L,G=L::H) H (0:Nat)) (il_ok0 _ n hC) (noBT_ok _ _) (noRT_ok _ _) ?_
     show Tr.all _ (fun x=>_∧tidy _ _ _=(fr74 (.fn (.func 77) [] [.ptr 3 c 0 0,.ptr 1 0 0 0]) (.slc 0 0 0 0 1 1 none) k d ((0+1:Nat):Int),lvO 0 1 (lstO [P (0:Nat) (d 0)])::H))
     rw[cs64 (j:=0) (by omega)]
     simp only[id1]
     generalize P (0:Nat) (d 0)=W at *
     repeat' first | (refine Tr.all_ite (fun hc=>?_) (fun hc=>?_)<;>(try simp (disch:=omega) only[nV,nW] at hc)<;>try omega) | (refine Tr.all_req ?_ ?_;· (try simp (disch:=omega) only[nV,nW]);try omega) | (refine Tr.all_reqP ?_ ?_;· first | exact trivial | rfl | exact ⟨rfl,rfl⟩ | exact ⟨rfl,rfl,rfl⟩ | (simp (disch:=omega) only[nV,nW];done) | ((try simp (disch:=omega) only[nV,nW]);omega)) | fail
     all_goals first
      | exact ⟨rfl,_,rfl⟩
      | (refine Tr.all_reqP ⟨(by first | rfl | trivial),_,rfl⟩ ?_
         repeat' first | (refine Tr.all_ite (fun hc=>?_) (fun hc=>?_)<;>(try simp (disch:=omega) only[nV,nW] at hc)<;>try omega) | (refine Tr.all_req ?_ ?_;· (try simp (disch:=omega) only[nV,nW]);try omega) | (refine Tr.all_reqP ?_ ?_;· first | exact trivial | rfl | exact ⟨rfl,rfl⟩ | exact ⟨rfl,rfl,rfl⟩ | (simp (disch:=omega) only[nV,nW];done) | ((try simp (disch:=omega) only[nV,nW]);omega)) | fail
         all_goals first
          | exact Tr.all_ok ⟨rfl,rfl⟩
          | fail)
      | fail
   | succ j =>
     refine ex_all (t74Bb n k c d j (j+1) (lstO (faN (fun i=>P (i:Nat) (d i)) (j+1))) P (fun C G=>C=[.ptr 3 c 0 0,.ptr 1 0 0 0]∧∃ L,G=L::H) H (j+1:Nat)) (il_ok0 _ n hC) (noBT_ok _ _) (noRT_ok _ _) ?_
     show Tr.all _ (fun x=>_∧tidy _ _ _=(fr74 (.fn (.func 77) [] [.ptr 3 c 0 0,.ptr 1 0 0 0]) (.slc 0 0 (j+1) 0 1 (j+1+1) none) k d ((j+1+1:Nat):Int),lvO (j+1) (j+1+1) (lstO (faN (fun i=>P (i:Nat) (d i)) (j+1+1)))::H))
     have hap:=faN_app (fun i=>P (i:Nat) (d i)) (j+1)
     have ea:addO (j+1) 1=j+1+1:=addO_eq _ _
     rw[cs64 (j:=j+1) (by omega)]
     simp only[id1,hap,ea]
     generalize lstO (faN (fun i=>P (i:Nat) (d i)) (j+1+1))=Y2 at *
     generalize lstO (faN (fun i=>P (i:Nat) (d i)) (j+1))=Y at *
     repeat' first | (refine Tr.all_ite (fun hc=>?_) (fun hc=>?_)<;>(try simp (disch:=omega) only[nV,nW] at hc)<;>try omega) | (refine Tr.all_req ?_ ?_;· (try simp (disch:=omega) only[nV,nW]);try omega) | (refine Tr.all_reqP ?_ ?_;· first | exact trivial | rfl | exact ⟨rfl,rfl⟩ | exact ⟨rfl,rfl,rfl⟩ | (simp (disch:=omega) only[nV,nW];done) | ((try simp (disch:=omega) only[nV,nW]);omega)) | fail
     all_goals first
      | exact ⟨rfl,_,rfl⟩
      | (refine Tr.all_reqP ⟨(by first | rfl | trivial),_,rfl⟩ ?_
         repeat' first | (refine Tr.all_ite (fun hc=>?_) (fun hc=>?_)<;>(try simp (disch:=omega) only[nV,nW] at hc)<;>try omega) | (refine Tr.all_req ?_ ?_;· (try simp (disch:=omega) only[nV,nW]);try omega) | (refine Tr.all_reqP ?_ ?_;· first | exact trivial | rfl | exact ⟨rfl,rfl⟩ | exact ⟨rfl,rfl,rfl⟩ | (simp (disch:=omega) only[nV,nW];done) | ((try simp (disch:=omega) only[nV,nW]);omega)) | fail
         all_goals first
          | exact Tr.all_ok ⟨rfl,rfl⟩
          | fail)
      | fail
 · obtain ⟨q,rfl⟩:∃ q,k=q+1:=⟨k-1,by omega⟩
   exact ex_off (t74Bb n (q+1) c d q (q+1) (lstO (faN (fun i=>P (i:Nat) (d i)) (q+1))) P (fun C G=>C=[.ptr 3 c 0 0,.ptr 1 0 0 0]∧∃ L,G=L::H) H (Int.ofNat (q+1))) (il_ok0 _ n hC) (noBT_ok _ _) (noRT_ok _ _) (by first | (simp (disch:=omega) only[nV,nW];done) | (simp (disch:=omega) only[nV,nW];omega))
theorem c74B (h0:0<k) (hk:k≤1000) (hP:∀ i e L,cd n (.fn 77) (.int .i64 i::.int .i64 e::[.ptr 3 c 0 0,.ptr 1 0 0 0]) (L::H)=some (.int .i64 (P i e),L::H)):cd (n+1) (.fn 74) [tbA s l t k d e,(.fn (.func 77) [] [.ptr 2 c 0 0,.ptr 0 0 0 0])] H=some (sl1 k (lstO (faN (fun i=>P (i:Nat) (d i)) k)) false,H):=by
 have hx:=l74B n k c d P H h0 hk hP
 obtain ⟨q,rfl⟩:∃ q,k=q+1:=⟨k-1,by omega⟩
 refine fn_all (n:=n) Try.func74 rfl rfl rfl (u74B n s l (q+1) q c t d e (lstO (faN (fun i=>P (i:Nat) (d i)) (q+1))) H) (il_no0 _) (blkE_ok (noBT_ok _ _) b74 (fun x hy=>blk_ok hy hx)) (noRT_ok _ _) ?_
 rw[shO_zero]
 generalize lstO (faN (fun i=>P (i:Nat) (d i)) (q+1))=Y at *
 repeat' first | (refine Tr.all_ite (fun hc=>?_) (fun hc=>?_)<;>(try simp (disch:=omega) only[nV,nW] at hc)<;>try omega) | (refine Tr.all_req ?_ ?_;· (try simp (disch:=omega) only[nV,nW]);try omega) | (refine Tr.all_reqP ?_ ?_;· first | exact trivial | rfl | exact ⟨rfl,rfl⟩ | exact ⟨rfl,rfl,rfl⟩ | (simp (disch:=omega) only[nV,nW];done) | ((try simp (disch:=omega) only[nV,nW]);omega)) | fail
 all_goals first
  | exact Tr.all_ok ⟨rfl,rfl⟩
  | fail
end
section
variable (n s l k:Nat) (c:Nat) (t d e:Nat→Int) (P:Int→Int→Int) (H:Heap)
theorem l74C (h0:0<k) (hk:k≤1000) (hP:∀ i e L,cd n (.fn 79) (.int .i64 i::.int .i64 e::[.ptr 1 c 0 0]) (L::H)=some (.int .i64 (P i e),L::H)):exec (cxD n 74 28) (.block 0 (.loop (part Try.f74 [1,1,0,1,0,0]))) (fr74 (.fn (.func 79) [] [.ptr 1 c 0 0]) .nils k d 0) (lvE::H)=some (.normal,fr74 (.fn (.func 79) [] [.ptr 1 c 0 0]) (o74 k) k d (Int.ofNat k)++[(15,.bool false)],lv74 (fun i=>P (i:Nat) (d i)) k::H):=by
 have hC:(ctD 79 P (fun C G=>C=[.ptr 1 c 0 0]∧∃ L,G=L::H)).Ok (cd n):=ctD_ok (fun i e C G hq=>by
  obtain ⟨rfl,L,rfl⟩:=hq
  exact hP i e L)
 refine forX (n:=n) (f:=74) (nt:=28) (c:=part Try.f74 [1,1,0,1,0,0]) 0 (fun j=>fr74 (.fn (.func 79) [] [.ptr 1 c 0 0]) (o74 j) k d (j:Nat)) (fun j=>lv74 (fun i=>P (i:Nat) (d i)) j::H) k _ (by omega) (fun j hj=>?_) ?_
 · cases j with
   | zero =>
     refine ex_all (t74Ca n k c d P (fun C G=>C=[.ptr 1 c 0 0]∧∃ L,G=L::H) H (0:Nat)) (il_ok0 _ n hC) (noBT_ok _ _) (noRT_ok _ _) ?_
     show Tr.all _ (fun x=>_∧tidy _ _ _=(fr74 (.fn (.func 79) [] [.ptr 1 c 0 0]) (.slc 0 0 0 0 1 1 none) k d ((0+1:Nat):Int),lvO 0 1 (lstO [P (0:Nat) (d 0)])::H))
     rw[cs64 (j:=0) (by omega)]
     simp only[id1]
     generalize P (0:Nat) (d 0)=W at *
     repeat' first | (refine Tr.all_ite (fun hc=>?_) (fun hc=>?_)<;>(try simp (disch:=omega) only[nV,nW] at hc)<;>try omega) | (refine Tr.all_req ?_ ?_;· (try simp (disch:=omega) only[nV,nW]);try omega) | (refine Tr.all_reqP ?_ ?_;· first | exact trivial | rfl | exact ⟨rfl,rfl⟩ | exact ⟨rfl,rfl,rfl⟩ | (simp (disch:=omega) only[nV,nW];done) | ((try simp (disch:=omega) only[nV,nW]);omega)) | fail
     all_goals first
      | exact ⟨rfl,_,rfl⟩
      | (refine Tr.all_reqP ⟨(by first | rfl | trivial),_,rfl⟩ ?_
         repeat' first | (refine Tr.all_ite (fun hc=>?_) (fun hc=>?_)<;>(try simp (disch:=omega) only[nV,nW] at hc)<;>try omega) | (refine Tr.all_req ?_ ?_;· (try simp (disch:=omega) only[nV,nW]);try omega) | (refine Tr.all_reqP ?_ ?_;· first | exact trivial | rfl | exact ⟨rfl,rfl⟩ | exact ⟨rfl,rfl,rfl⟩ | (simp (disch:=omega) only[nV,nW];done) | ((try simp (disch:=omega) only[nV,nW]);omega)) | fail
         all_goals first
          | exact Tr.all_ok ⟨rfl,rfl⟩
          | fail)
      | fail
   | succ j =>
     refine ex_all (t74Cb n k c d j (j+1) (lstO (faN (fun i=>P (i:Nat) (d i)) (j+1))) P (fun C G=>C=[.ptr 1 c 0 0]∧∃ L,G=L::H) H (j+1:Nat)) (il_ok0 _ n hC) (noBT_ok _ _) (noRT_ok _ _) ?_
     show Tr.all _ (fun x=>_∧tidy _ _ _=(fr74 (.fn (.func 79) [] [.ptr 1 c 0 0]) (.slc 0 0 (j+1) 0 1 (j+1+1) none) k d ((j+1+1:Nat):Int),lvO (j+1) (j+1+1) (lstO (faN (fun i=>P (i:Nat) (d i)) (j+1+1)))::H))
     have hap:=faN_app (fun i=>P (i:Nat) (d i)) (j+1)
     have ea:addO (j+1) 1=j+1+1:=addO_eq _ _
     rw[cs64 (j:=j+1) (by omega)]
     simp only[id1,hap,ea]
     generalize lstO (faN (fun i=>P (i:Nat) (d i)) (j+1+1))=Y2 at *
     generalize lstO (faN (fun i=>P (i:Nat) (d i)) (j+1))=Y at *
     repeat' first | (refine Tr.all_ite (fun hc=>?_) (fun hc=>?_)<;>(try simp (disch:=omega) only[nV,nW] at hc)<;>try omega) | (refine Tr.all_req ?_ ?_;· (try simp (disch:=omega) only[nV,nW]);try omega) | (refine Tr.all_reqP ?_ ?_;· first | exact trivial | rfl | exact ⟨rfl,rfl⟩ | exact ⟨rfl,rfl,rfl⟩ | (simp (disch:=omega) only[nV,nW];done) | ((try simp (disch:=omega) only[nV,nW]);omega)) | fail
     all_goals first
      | exact ⟨rfl,_,rfl⟩
      | (refine Tr.all_reqP ⟨(by first | rfl | trivial),_,rfl⟩ ?_
         repeat' first | (refine Tr.all_ite (fun hc=>?_) (fun hc=>?_)<;>(try simp (disch:=omega) only[nV,nW] at hc)<;>try omega) | (refine Tr.all_req ?_ ?_;· (try simp (disch:=omega) only[nV,nW]);try omega) | (refine Tr.all_reqP ?_ ?_;· first | exact trivial | rfl | exact ⟨rfl,rfl⟩ | exact ⟨rfl,rfl,rfl⟩ | (simp (disch:=omega) only[nV,nW];done) | ((try simp (disch:=omega) only[nV,nW]);omega)) | fail
         all_goals first
          | exact Tr.all_ok ⟨rfl,rfl⟩
          | fail)
      | fail
 · obtain ⟨q,rfl⟩:∃ q,k=q+1:=⟨k-1,by omega⟩
   exact ex_off (t74Cb n (q+1) c d q (q+1) (lstO (faN (fun i=>P (i:Nat) (d i)) (q+1))) P (fun C G=>C=[.ptr 1 c 0 0]∧∃ L,G=L::H) H (Int.ofNat (q+1))) (il_ok0 _ n hC) (noBT_ok _ _) (noRT_ok _ _) (by first | (simp (disch:=omega) only[nV,nW];done) | (simp (disch:=omega) only[nV,nW];omega))
theorem c74C (h0:0<k) (hk:k≤1000) (hP:∀ i e L,cd n (.fn 79) (.int .i64 i::.int .i64 e::[.ptr 1 c 0 0]) (L::H)=some (.int .i64 (P i e),L::H)):cd (n+1) (.fn 74) [tbA s l t k d e,(.fn (.func 79) [] [.ptr 0 c 0 0])] H=some (sl1 k (lstO (faN (fun i=>P (i:Nat) (d i)) k)) false,H):=by
 have hx:=l74C n k c d P H h0 hk hP
 obtain ⟨q,rfl⟩:∃ q,k=q+1:=⟨k-1,by omega⟩
 refine fn_all (n:=n) Try.func74 rfl rfl rfl (u74C n s l (q+1) q c t d e (lstO (faN (fun i=>P (i:Nat) (d i)) (q+1))) H) (il_no0 _) (blkE_ok (noBT_ok _ _) b74 (fun x hy=>blk_ok hy hx)) (noRT_ok _ _) ?_
 rw[shO_zero]
 generalize lstO (faN (fun i=>P (i:Nat) (d i)) (q+1))=Y at *
 repeat' first | (refine Tr.all_ite (fun hc=>?_) (fun hc=>?_)<;>(try simp (disch:=omega) only[nV,nW] at hc)<;>try omega) | (refine Tr.all_req ?_ ?_;· (try simp (disch:=omega) only[nV,nW]);try omega) | (refine Tr.all_reqP ?_ ?_;· first | exact trivial | rfl | exact ⟨rfl,rfl⟩ | exact ⟨rfl,rfl,rfl⟩ | (simp (disch:=omega) only[nV,nW];done) | ((try simp (disch:=omega) only[nV,nW]);omega)) | fail
 all_goals first
  | exact Tr.all_ok ⟨rfl,rfl⟩
  | fail
end
end Go.Eng
end
section
namespace Go.Eng
open Go.Proofs
set_option linter.unusedVariables false
set_option linter.unusedSimpArgs false
set_option maxRecDepth 100000
noncomputable def fr72 (s l:Nat) (t:Nat→Int) (k:Nat) (d g:Nat→Int) (h:Int) (F:AV) (j:Int):Frm:=[(0,tbA (s+1) l t k d g),(1,.int .i64 h),(2,F),(7,.int .i64 j)]
noncomputable def lvC (T:Int):Lvl:=⟨false,[(0,.row (.I .i64 [T]))]⟩
theorem u77 (n:Nat) (i e T q:Int) (L L2:Lvl) (b0:Nat×Blk) (bs:List (Nat×Blk)) (H:Heap):bodyT Try.prog (cd n) 100000 77 Try.f77 (KtL.kt 77) (il noCt n 0) noBT noRT [(.int .i64 i,none),(.int .i64 e,none),(.ptr 3 1 0 0,none),(.ptr 1 0 0 0,none)] (L::lvC T::L2::⟨false,b0::cel q::bs⟩::H) =
 Tr.ite (eqI i q) (Tr.ok ((AV.int .i64 (minO e T),none),L::{ lock:=false,bs:=[(0,Blk.row (Row.I .i64 [T]))] } :: L2::{ lock:=false,bs:=b0::(0,Blk.row (Row.I .i64 [q]))::bs } :: H)) (Tr.ok ((AV.int .i64 e,none),L::{ lock:=false,bs:=[(0,Blk.row (Row.I .i64 [T]))] } :: L2::{ lock:=false,bs:=b0::(0,Blk.row (Row.I .i64 [q]))::bs } :: H)):=by kernel_rfl
theorem u79 (n:Nat) (i e T:Int) (L:Lvl) (b0:Nat×Blk) (bs:List (Nat×Blk)) (H:Heap):bodyT Try.prog (cd n) 100000 79 Try.f79 (KtL.kt 79) (il noCt n 0) noBT noRT [(.int .i64 i,none),(.int .i64 e,none),(.ptr 1 1 0 0,none)] (L::⟨false,b0::cel T::bs⟩::H) =
 Tr.ite (leI T e) (Tr.ok ((AV.int .i64 (subI .i64 e (Int.ofNat 1)),none),L::{ lock:=false,bs:=b0::(0,Blk.row (Row.I .i64 [T]))::bs } :: H)) (Tr.ok ((AV.int .i64 e,none),L::{ lock:=false,bs:=b0::(0,Blk.row (Row.I .i64 [T]))::bs } :: H)):=by kernel_rfl
theorem u76 (n l k:Nat) (t d g y:Nat→Int) (b0 b2:Nat×Blk) (H:Heap) (T q:Int):bodyT Try.prog (cd n) 100000 76 Try.f76 (KtL.kt 76) (il (ctE noCt 74 [tbA 2 l t k d g,.fn (.func 77) [] [.ptr 2 1 0 0,.ptr 0 0 0 0]] (lvC T::lvE::⟨false,[b0,cel q,b2,(0,.row (.G [tbA 0 l t k d g]))]⟩::H) (.ok (sl1 k y false,lvC T::lvE::⟨false,[b0,cel q,b2,(0,.row (.G [tbA 0 l t k d g]))]⟩::H))) n 0) noBT noRT [(.int .i64 T,none),(.ptr 1 3 0 0,none),(.ptr 1 1 0 0,none)] (lvE::⟨false,[b0,cel q,b2,(0,.row (.G [tbA 0 l t k d g]))]⟩::H) =
 (fun (Z0:Row)=>((fun (Z1:Lvl)=>Tr.reqP ([AV.ptrT (some 2) Z0 0,AV.fn (Fn.func 77) [] [AV.ptr 2 1 0 0,AV.ptr 0 0 0 0]]=[AV.ptrT (some 2) Z0 0,AV.fn (Fn.func 77) [] [AV.ptr 2 1 0 0,AV.ptr 0 0 0 0]]∧{ lock:=false,bs:=[(0,Blk.row (Row.I .i64 [T]))] } :: lvE::Z1::H={ lock:=false,bs:=[(0,Blk.row (Row.I .i64 [T]))] } :: lvE::Z1::H) (Tr.ok ((AV.slcT none (Row.M [Seg.arr .i64 y k]) 1 k false,none),lvE::Z1::H))) { lock:=false,bs:=[b0,(0,Blk.row (Row.I .i64 [q])),b2,(0,Blk.row (Row.G [AV.ptrT (some 0) Z0 0]))] })) (Row.M [Seg.one (AV.slcT none (Row.M [Seg.arr .i64 t l]) 1 l false),Seg.one (AV.slcT none (Row.M [Seg.arr .i64 d k]) 1 k false),Seg.arr .i64 g 30]):=by kernel_rfl
theorem t72B (n s l k:Nat) (c1 c2:Nat) (t d g y:Nat→Int) (H:Heap) (h j c:Int):execT (cxD n 72 20) (il (tX (ctE noCt 76 (.int .i64 j::[.ptr 1 c1 0 0,.ptr 1 c2 0 0]) (lvE::H) (.ok (sl1 k y false,lvE::H))) 69 [tbA (s+1) l t k d g,sl1 k y false,.int .i64 h] (.int .i64 c)) n 0) noBT noRT (part Try.f72 [1,0,1,0,0]) (hints (fr72 s l t k d g h (.fn (.func 76) [] [.ptr 1 c1 0 0,.ptr 1 c2 0 0]) j)) (lvE::H) =
 (fun (Z0:Row)=>((fun (Z1:List AV)=>Tr.ite (ltI j (Int.ofNat 40)) (Tr.reqP ([AV.int .i64 j,AV.ptr 1 c1 0 0,AV.ptr 1 c2 0 0]=[AV.int .i64 j,AV.ptr 1 c1 0 0,AV.ptr 1 c2 0 0]∧lvE::H=lvE::H) (Tr.reqP (Z1=Z1) (Tr.ite (ltI c (Int.ofNat 0)) (Tr.ok (Ex.ret,[(6,AV.int .i64 j,none)],lvE::H)) (Tr.ok (Ex.normal,[(0,AV.ptrT (some (Nat.succ s)) Z0 0,none),(1,AV.int .i64 h,none),(2,AV.fn (Fn.func 76) [] [AV.ptr 1 c1 0 0,AV.ptr 1 c2 0 0],none),(7,AV.int .i64 (addI .i64 j (Int.ofNat 1)),none)],lvE::H))))) (Tr.ok (Ex.exit 0,[(0,AV.ptrT (some (Nat.succ s)) Z0 0,none),(1,AV.int .i64 h,none),(2,AV.fn (Fn.func 76) [] [AV.ptr 1 c1 0 0,AV.ptr 1 c2 0 0],none),(7,AV.int .i64 j,none),(9,AV.bool false,some 1)],lvE::H))) [AV.ptrT (some (Nat.succ s)) Z0 0,AV.slcT none (Row.M [Seg.arr .i64 y k]) 1 k false,AV.int .i64 h])) (Row.M [Seg.one (AV.slcT none (Row.M [Seg.arr .i64 t l]) 1 l false),Seg.one (AV.slcT none (Row.M [Seg.arr .i64 d k]) 1 k false),Seg.arr .i64 g 30]):=by kernel_rfl
theorem t72xB (n s l k:Nat) (c1 c2:Nat) (t d g:Nat→Int) (H:Heap) (h j:Int):execT (cxD n 72 20) (il (tN noCt 76) n 0) noBT noRT (part Try.f72 [1,0,1,0,0]) (hints (fr72 s l t k d g h (.fn (.func 76) [] [.ptr 1 c1 0 0,.ptr 1 c2 0 0]) j)) (lvE::H) =
 Tr.ite (ltI j (Int.ofNat 40)) Tr.bad (Tr.ok (Ex.exit 0,[(0,AV.ptrT (some (Nat.succ s)) (Row.M [Seg.one (AV.slcT none (Row.M [Seg.arr .i64 t l]) 1 l false),Seg.one (AV.slcT none (Row.M [Seg.arr .i64 d k]) 1 k false),Seg.arr .i64 g 30]) 0,none),(1,AV.int .i64 h,none),(2,AV.fn (Fn.func 76) [] [AV.ptr 1 c1 0 0,AV.ptr 1 c2 0 0],none),(7,AV.int .i64 j,none),(9,AV.bool false,some 1)],lvE::H)):=by kernel_rfl
theorem u72B (n s l k:Nat) (c1 c2:Nat) (t d g:Nat→Int) (H:Heap) (h r:Int) (B:Bool):bodyT Try.prog (cd n) 100000 72 Try.f72 (KtL.kt 72) (il noCt n 0) (blkE noBT 0 (fr72 s l t k d g h (.fn (.func 76) [] [.ptr 1 c1 0 0,.ptr 1 c2 0 0]) 1) (lvE::H) (.ite B (.ok (.ret,[(6,.int .i64 r,none)],lvE::H)) (.ok (.normal,hints (fr72 s l t k d g h (.fn (.func 76) [] [.ptr 1 c1 0 0,.ptr 1 c2 0 0]) 40++[(9,.bool false)]),lvE::H)))) noRT [(tbA s l t k d g,none),(.int .i64 h,none),(.fn (.func 76) [] [.ptr 0 c1 0 0,.ptr 0 c2 0 0],none)] H =
 (fun (Z0:Frm)=>Tr.reqP (Z0=Z0∧lvE::H=lvE::H) (Tr.ite B (Tr.ok ((AV.int .i64 r,none),H)) (Tr.ok ((AV.int .i64 (Int.ofNat 40),some 1),H)))) [(0,AV.ptrT (some (Nat.succ s)) (Row.M [Seg.one (AV.slcT none (Row.M [Seg.arr .i64 t l]) 1 l false),Seg.one (AV.slcT none (Row.M [Seg.arr .i64 d k]) 1 k false),Seg.arr .i64 g 30]) 0),(1,AV.int .i64 h),(2,AV.fn (Fn.func 76) [] [AV.ptr 1 c1 0 0,AV.ptr 1 c2 0 0]),(7,AV.int .i64 (Int.ofNat 1))]:=by kernel_rfl
theorem b72:∀ b,(0,b) ∈ blocksOf (bodyOf Try.f72)→b=.loop (part Try.f72 [1,0,1,0,0]):=by
 have:((blocksOf (bodyOf Try.f72)).filter fun x=>Nat.beq x.1 0)=[(0,.loop (part Try.f72 [1,0,1,0,0]))]:=by kernel_rfl
 intro b hb
 have hm:(0,b) ∈ ((blocksOf (bodyOf Try.f72)).filter fun x=>Nat.beq x.1 0):=List.mem_filter.2 ⟨hb,rfl⟩
 rw[this] at hm;simpa using hm
def leaN (p:Nat→Bool):Nat:=if exN (fun j=>p (j+1)) 39=true then fN (fun j=>p (j+1)) 39 0+1 else 40
section
variable (n:Nat) (H:Heap)
theorem c77 (i e T q:Int) (L L2:Lvl) (b0:Nat×Blk) (bs:List (Nat×Blk)):cd (n+1) (.fn 77) [.int .i64 i,.int .i64 e,.ptr 3 1 0 0,.ptr 1 0 0 0] (L::lvC T::L2::⟨false,b0::cel q::bs⟩::H)=some (.int .i64 (if i=q then min e T else e),L::lvC T::L2::⟨false,b0::cel q::bs⟩::H):=by
 refine fn_all (n:=n) Try.func77 rfl rfl rfl (u77 n i e T q L L2 b0 bs H) (il_no0 _) (noBT_ok _ _) (noRT_ok _ _) ?_
 rw[minO_min]
 by_cases c:i=q
 · rw[if_pos c]
   repeat' first | (refine Tr.all_ite (fun hc=>?_) (fun hc=>?_)<;>(try simp (disch:=omega) only[nV,nW] at hc)<;>try omega) | (refine Tr.all_req ?_ ?_;· (try simp (disch:=omega) only[nV,nW]);try omega) | (refine Tr.all_reqP ?_ ?_;· first | exact trivial | rfl | exact ⟨rfl,rfl⟩ | exact ⟨rfl,rfl,rfl⟩ | (simp (disch:=omega) only[nV,nW];done) | ((try simp (disch:=omega) only[nV,nW]);omega)) | fail
   all_goals first
    | exact Tr.all_ok ⟨rfl,rfl⟩
    | fail
 · rw[if_neg c]
   repeat' first | (refine Tr.all_ite (fun hc=>?_) (fun hc=>?_)<;>(try simp (disch:=omega) only[nV,nW] at hc)<;>try omega) | (refine Tr.all_req ?_ ?_;· (try simp (disch:=omega) only[nV,nW]);try omega) | (refine Tr.all_reqP ?_ ?_;· first | exact trivial | rfl | exact ⟨rfl,rfl⟩ | exact ⟨rfl,rfl,rfl⟩ | (simp (disch:=omega) only[nV,nW];done) | ((try simp (disch:=omega) only[nV,nW]);omega)) | fail
   all_goals first
    | exact Tr.all_ok ⟨rfl,rfl⟩
    | fail
variable (l k:Nat) (t d g:Nat→Int)
theorem c76 (b0 b2:Nat×Blk) (T q:Int) (h0:0<k) (hk:k≤1000):cd (n+3) (.fn 76) [.int .i64 T,.ptr 1 3 0 0,.ptr 1 1 0 0] (lvE::⟨false,[b0,cel q,b2,(0,.row (.G [tbA 0 l t k d g]))]⟩::H)=some (sl1 k (lstO (faN (fun i=>if (i:Int)=q then min (d i) T else d i) k)) false,lvE::⟨false,[b0,cel q,b2,(0,.row (.G [tbA 0 l t k d g]))]⟩::H):=by
 refine fn_all (n:=n+2) Try.func76 rfl rfl rfl (u76 (n+2) l k t d g (lstO (faN (fun i=>if (i:Int)=q then min (d i) T else d i) k)) b0 b2 H T q) (il_ok0 _ (n+2) (ctE_ok (noCt_ok _) (fun x hy=>by
  rw[← Tr.ok_some hy]
  exact c74B (n+1) 2 l k 1 t d g (fun i e=>if i=q then min e T else e) _ h0 hk (fun i e L=>c77 n _ i e T q L _ b0 _)))) (noBT_ok _ _) (noRT_ok _ _) ?_
 generalize lstO (faN (fun i=>if (i:Int)=q then min (d i) T else d i) k)=Y at *
 repeat' first | (refine Tr.all_ite (fun hc=>?_) (fun hc=>?_)<;>(try simp (disch:=omega) only[nV,nW] at hc)<;>try omega) | (refine Tr.all_req ?_ ?_;· (try simp (disch:=omega) only[nV,nW]);try omega) | (refine Tr.all_reqP ?_ ?_;· first | exact trivial | rfl | exact ⟨rfl,rfl⟩ | exact ⟨rfl,rfl,rfl⟩ | (simp (disch:=omega) only[nV,nW];done) | ((try simp (disch:=omega) only[nV,nW]);omega)) | fail
 all_goals first
  | exact Tr.all_ok ⟨rfl,rfl⟩
  | fail
end
section
variable (n s l k:Nat) (c1:Nat) (t d g:Nat→Int) (H:Heap) (h:Int) (W:Nat→Nat→Int)
end
section
variable (n s l k:Nat) (c1 c2:Nat) (t d g:Nat→Int) (H:Heap) (h:Int) (W:Nat→Nat→Int)
theorem c72B (hl:l≤30) (hk:k=l) (ht:∀ j,j<l→t j<l) (hc:cycB l t=false) (hW:∀ T,1≤T→T<40→Bd l (W T)) (hh:0≤h∧h≤1000)
 (hF:∀ T,1≤T→T<40→cd (n+4) (.fn 76) (.int .i64 (T:Nat)::[.ptr 1 c1 0 0,.ptr 1 c2 0 0]) (lvE::H)=some (sl1 k (W T) false,lvE::H)) :
 cd (n+5) (.fn 72) [tbA s l t k d g,.int .i64 h,.fn (.func 76) [] [.ptr 0 c1 0 0,.ptr 0 c2 0 0]] H=some (.int .i64 (leaN (fun T=>canB l t (W T) h):Nat),H):=by
 have hC:∀ j,j<39→(tX (ctE noCt 76 (.int .i64 ((j+1:Nat):Int)::[.ptr 1 c1 0 0,.ptr 1 c2 0 0]) (lvE::H) (.ok (sl1 k (W (j+1)) false,lvE::H))) 69 [tbA (s+1) l t k d g,sl1 k (W (j+1)) false,.int .i64 h] (.int .i64 (crT l t (W (j+1)) h))).Ok (cd (n+4)):=fun j hj =>
  tX_ok (ctE_ok (noCt_ok _) (fun x hy=>by rw[← Tr.ok_some hy];exact hF (j+1) (by omega) (by omega))) (fun H=>c69 n (s+1) l k k t d g (W (j+1)) false H h hl hk ht hc (hW (j+1) (by omega) (by omega)) hh)
 have hx:=findX (n:=n+4) (f:=72) (nt:=20) (c:=part Try.f72 [1,0,1,0,0]) 0 (fun j=>fr72 s l t k d g h (.fn (.func 76) [] [.ptr 1 c1 0 0,.ptr 1 c2 0 0]) ((j+1:Nat):Int)) (fun _=>lvE::H) 39 (fun j=>canB l t (W (j+1)) h) (fun j=>([(6,.int .i64 ((j+1:Nat):Int))],lvE::H)) (fr72 s l t k d g h (.fn (.func 76) [] [.ptr 1 c1 0 0,.ptr 1 c2 0 0]) 40++[(9,.bool false)],lvE::H) (by omega) (fun j hj=>?_) ?_
 · have hr:cond (exN (fun j=>canB l t (W (j+1)) h) 39) ((fN (fun j=>canB l t (W (j+1)) h) 39 0+1:Nat):Int) 40=(leaN (fun T=>canB l t (W T) h):Nat):=by
    unfold leaN
    cases exN (fun j=>canB l t (W (j+1)) h) 39 with
    | true=>rw[if_pos rfl];rfl
    | false=>rw[if_neg (by decide)];rfl
   refine fn_all (n:=n+4) Try.func72 rfl rfl rfl (u72B (n+4) s l k c1 c2 t d g H h ((fN (fun j=>canB l t (W (j+1)) h) 39 0+1:Nat):Int) (exN (fun j=>canB l t (W (j+1)) h) 39)) (il_no0 _) (blkE_ok (noBT_ok _ _) b72 (fun x hy=>blk_ite hy hx)) (noRT_ok _ _) ?_
   rw[← hr]
   generalize ((fN (fun j=>canB l t (W (j+1)) h) 39 0+1:Nat):Int)=R at *
   generalize exN (fun j=>canB l t (W (j+1)) h) 39=B at *
   cases B
   all_goals
    simp only[cond_true,cond_false]
    repeat' first | (refine Tr.all_ite (fun hc=>?_) (fun hc=>?_)<;>(try simp (disch:=omega) only[nV,nW] at hc)<;>try omega) | (refine Tr.all_req ?_ ?_;· (try simp (disch:=omega) only[nV,nW]);try omega) | (refine Tr.all_reqP ?_ ?_;· first | exact trivial | rfl | exact ⟨rfl,rfl⟩ | exact ⟨rfl,rfl,rfl⟩ | (simp (disch:=omega) only[nV,nW];done) | ((try simp (disch:=omega) only[nV,nW]);omega)) | fail
    all_goals first
     | exact Tr.all_ok ⟨rfl,rfl⟩
     | fail
 · refine ex_all (t72B (n+4) s l k c1 c2 t d g (W (j+1)) H h ((j+1:Nat):Int) (crT l t (W (j+1)) h)) (il_ok0 _ (n+4) (hC j hj)) (noBT_ok _ _) (noRT_ok _ _) ?_
   show Tr.all _ (fun r=>if canB l t (W (j+1)) h=true then _ else _)
   obtain ⟨q1,q2⟩:=crT_can l t (W (j+1)) h
   rw[cs64 (j:=j+1) (by omega)]
   generalize crT l t (W (j+1)) h=C at *
   cases hB:canB l t (W (j+1)) h with
   | true =>
     have:=q1.2 hB
     simp only[if_true]
     repeat' first | (refine Tr.all_ite (fun hc=>?_) (fun hc=>?_)<;>(try simp (disch:=omega) only[nV,nW] at hc)<;>try omega) | (refine Tr.all_req ?_ ?_;· (try simp (disch:=omega) only[nV,nW]);try omega) | (refine Tr.all_reqP ?_ ?_;· first | exact trivial | rfl | exact ⟨rfl,rfl⟩ | exact ⟨rfl,rfl,rfl⟩ | (simp (disch:=omega) only[nV,nW];done) | ((try simp (disch:=omega) only[nV,nW]);omega)) | fail
     all_goals first
      | exact Tr.all_ok rfl
      | fail
   | false =>
     have:=q2.2 hB
     simp only[Bool.false_eq_true,if_false]
     repeat' first | (refine Tr.all_ite (fun hc=>?_) (fun hc=>?_)<;>(try simp (disch:=omega) only[nV,nW] at hc)<;>try omega) | (refine Tr.all_req ?_ ?_;· (try simp (disch:=omega) only[nV,nW]);try omega) | (refine Tr.all_reqP ?_ ?_;· first | exact trivial | rfl | exact ⟨rfl,rfl⟩ | exact ⟨rfl,rfl,rfl⟩ | (simp (disch:=omega) only[nV,nW];done) | ((try simp (disch:=omega) only[nV,nW]);omega)) | fail
     all_goals first
      | exact Tr.all_ok ⟨rfl,rfl⟩
      | fail
 · exact ex_off (t72xB (n+4) s l k c1 c2 t d g H h 40) (il_ok0 _ (n+4) (tN_ok (noCt_ok _))) (noBT_ok _ _) (noRT_ok _ _) (by first | (simp (disch:=omega) only[nV,nW];done) | (simp (disch:=omega) only[nV,nW];omega))
end
section
variable (n s l k:Nat) (c1:Nat) (t d g:Nat→Int) (H:Heap) (h:Int) (W:Nat→Nat→Int)
end
end Go.Eng
end
section
namespace Go.Eng
set_option linter.unusedVariables false
set_option linter.unusedSimpArgs false
theorem fN_is {p:Nat→Bool} {N m:Nat} (h1:m<N) (h2:p m=true) (h3:∀ i,i<m→p i=false):fN p N 0=m:=by
 obtain ⟨_,b,c,d⟩:=fN_spec p N 0
 have c:=fun i hi=>c i (Nat.zero_le i) hi
 have:fN p N 0<N:=Classical.byContradiction fun hn=>by
  have:=c m (by omega)
  rw[h2] at this;cases this
 have d:=d (by omega)
 rcases Nat.lt_trichotomy (fN p N 0) m with e | e | e
 · have:=h3 _ e;rw[d] at this;cases this
 · exact e
 · have:=c m e;rw[h2] at this;cases this
theorem lsV_congr {t e e':Nat→Int} {i l:Nat} (he:∀ j,j<l→e j=e' j) (ht:∀ j,j<l→t j<l) (hi:i<l):∀ m,(∀ q,q<m→0≤stp t q (i:Int))→lsV t e i m=lsV t e' i m
 | 0,_=>he i hi
 | m+1,hp=>by
   have h1:=hp m (by omega)
   have h2:=stp_lt ht (show (i:Int)<l by omega) m
   show min (lsV t e i m) _=min (lsV t e' i m) _
   rw[lsV_congr he ht hi m (fun q hq=>hp q (by omega)),he _ (by omega)]
theorem la_congr {l:Nat} {t e e':Nat→Int} (h:Fw l t) (he:∀ j,j<l→e j=e' j) {i:Nat} (hi:i<l):laV l t e i=laV l t e' i :=
 lsV_congr he h.tl hi _ (cyc_lv h.cyc i hi).2.1
theorem cr_congr {l:Nat} {t e e':Nat→Int} (h:Fw l t) (he:∀ j,j<l→e j=e' j) (T:Int):crN l t e T=crN l t e' T :=
 cn_congr (fun i hi=>by rw[la_congr h he hi])
theorem crB_congr {l:Nat} {t e e':Nat→Int} (h:Fw l t) (he:∀ j,j<l→e j=e' j) (hh T:Int):crB l t e hh T=crB l t e' hh T:=by
 unfold crB;rw[cr_congr h he]
theorem can_congr {l:Nat} {t e e':Nat→Int} (h:Fw l t) (he:∀ j,j<l→e j=e' j) (hh:Int):canB l t e hh=canB l t e' hh:=by
 unfold canB;rw[exN_congr (fun T _=>crB_congr h he hh T)]
theorem lea_congr {p q:Nat→Bool} (h:∀ T,1≤T→T<40→p T=q T):leaN p=leaN q:=by
 unfold leaN
 have e:exN (fun j=>p (j+1)) 39=exN (fun j=>q (j+1)) 39:=exN_congr (fun j hj=>h _ (by omega) (by omega))
 rw[e]
 by_cases c:exN (fun j=>q (j+1)) 39=true
 · rw[if_pos c,if_pos c]
   obtain ⟨_,b,c1,d⟩:=fN_spec (fun j=>q (j+1)) 39 0
   have hl:=exN_true c
   rw[fN_is (p:=fun j=>p (j+1)) hl (by rw[h _ (by omega) (by omega)];exact d (by omega)) (fun i hi=>by rw[h _ (by omega) (by omega)];exact c1 i (by omega) hi)]
 · rw[if_neg c,if_neg c]
end Go.Eng
end
