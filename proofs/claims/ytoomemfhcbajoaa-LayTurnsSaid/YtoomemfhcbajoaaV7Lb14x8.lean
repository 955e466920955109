/- Lay: other Dues, by a closure. -/
import Derived.Test.YtoomemfhcbajoaaV7Lb11x3
section
namespace Go.Eng
open Go.Proofs
set_option linter.unusedVariables false
set_option linter.unusedSimpArgs false
set_option maxRecDepth 100000
noncomputable def gD (P:Int→Int→Int) (Q:List AV→Heap→Prop) (args:List AV) (H:Heap):Tr (AV×Heap) :=
 match args with
 | .int .i64 i::.int .i64 e::C=>.reqP (Q C H) (.ok (.int .i64 (P i e),H))
 | _=>.bad
noncomputable def ctD (f:FuncId) (P:Int→Int→Int) (Q:List AV→Heap→Prop):Ctr:=addCt noCt f (gD P Q)
noncomputable def fr74 (F:AV) (o:AV) (k:Nat) (d:Nat→Int) (j:Int):Frm:=[(1,F),(5,o),(12,sl1 k d false),(13,.int .i64 (Int.ofNat k)),(14,.int .i64 j)]
theorem t74Aa (n k:Nat) (d:Nat→Int) (P:Int→Int→Int) (Q:List AV→Heap→Prop) (H:Heap) (j:Int):execT (cxD n 74 28) (il (ctD 75 P Q) n 0) noBT noRT (part Try.f74 [1,1,0,1,0,0]) (hints (fr74 (.fn (.func 75) [] [.ptr 1 0 0 0]) .nils k d j)) (lvE::H) =
 Tr.ite (ltI j (Int.ofNat k)) (Tr.req (inI j k) (Tr.req (ltN (idO 0 j 1) k) (Tr.reqP (Q [AV.ptr 1 0 0 0] (lvE::H)) (Tr.req (roomO 0 1 8) (Tr.req (eqN 0 0) (Tr.req (leN 1 1) (Tr.ok (Ex.normal,[(1,AV.fn (Fn.func 75) [] [AV.ptr 1 0 0 0],none),(5,AV.slc 0 1 0 0 1 1 none,none),(12,AV.slcT none (Row.M [Seg.arr .i64 d k]) 1 k false,none),(13,AV.int .i64 (Int.ofNat k),none),(14,AV.int .i64 (addI .i64 j (Int.ofNat 1)),none)],{ lock:=false,bs:=[(0,Blk.row (Row.I .i64 [P j (d (idO 0 j 1))])),(0,Blk.row (Row.M [Seg.arr .i64 (lstO [P j (d (idO 0 j 1))]) 1]))] } :: H)))))))) (Tr.ok (Ex.exit 0,[(1,AV.fn (Fn.func 75) [] [AV.ptr 1 0 0 0],none),(5,AV.nils,none),(12,AV.slcT none (Row.M [Seg.arr .i64 d k]) 1 k false,none),(13,AV.int .i64 (Int.ofNat k),none),(14,AV.int .i64 j,none),(15,AV.bool false,some 1)],lvE::H)):=by kernel_rfl
theorem t74Ab (n k:Nat) (d:Nat→Int) (v m:Nat) (y:Nat→Int) (P:Int→Int→Int) (Q:List AV→Heap→Prop) (H:Heap) (j:Int):execT (cxD n 74 28) (il (ctD 75 P Q) n 0) noBT noRT (part Try.f74 [1,1,0,1,0,0]) (hints (fr74 (.fn (.func 75) [] [.ptr 1 0 0 0]) (.slc 0 0 v 0 1 m none) k d j)) (lvO v m y::H) =
 Tr.ite (ltI j (Int.ofNat k)) (Tr.req (inI j k) (Tr.req (ltN (idO 0 j 1) k) (Tr.reqP (Q [AV.ptr 1 0 0 0] ({ lock:=false,bs:=[(v,Blk.row (Row.M [Seg.arr .i64 y m]))] } :: H)) (Tr.req (roomO m 1 8) (Tr.req (eqN 0 0) (Tr.req (leN 1 1) (Tr.req (eqN v v) (Tr.req (eqN (addO 0 m) m) (Tr.ok (Ex.normal,[(1,AV.fn (Fn.func 75) [] [AV.ptr 1 0 0 0],none),(5,AV.slc 0 0 (Nat.succ v) 0 1 (addO m 1) none,none),(12,AV.slcT none (Row.M [Seg.arr .i64 d k]) 1 k false,none),(13,AV.int .i64 (Int.ofNat k),none),(14,AV.int .i64 (addI .i64 j (Int.ofNat 1)),none)],{ lock:=false,bs:=[(Nat.succ v,Blk.row (Row.M [Seg.arr .i64 (appO (shO y 0) m (lstO [P j (d (idO 0 j 1))])) (addO m 1)])),(0,Blk.row (Row.I .i64 [P j (d (idO 0 j 1))]))] } :: H)))))))))) (Tr.ok (Ex.exit 0,[(1,AV.fn (Fn.func 75) [] [AV.ptr 1 0 0 0],none),(5,AV.slc 0 0 v 0 1 m none,none),(12,AV.slcT none (Row.M [Seg.arr .i64 d k]) 1 k false,none),(13,AV.int .i64 (Int.ofNat k),none),(14,AV.int .i64 j,none),(15,AV.bool false,some 1)],{ lock:=false,bs:=[(v,Blk.row (Row.M [Seg.arr .i64 y m]))] } :: H)):=by kernel_rfl
theorem u74A (n s l k q:Nat) (t d e y:Nat→Int) (H:Heap):bodyT Try.prog (cd n) 100000 74 Try.f74 (KtL.kt 74) (il noCt n 0) (blkE noBT 0 (fr74 (.fn (.func 75) [] [.ptr 1 0 0 0]) .nils k d 0) (lvE::H) (.ok (.normal,hints (fr74 (.fn (.func 75) [] [.ptr 1 0 0 0]) (.slc 0 0 q 0 1 (q+1) none) k d (Int.ofNat k)++[(15,.bool false)]),lvO q (q+1) y::H))) noRT [(tbA s l t k d e,none),((.fn (.func 75) [] [.ptr 0 0 0 0]),none)] H =
 (fun (Z0:Frm)=>Tr.reqP (Z0=Z0∧lvE::H=lvE::H) (Tr.req (eqN q q) (Tr.req (inO 0 (Nat.succ q) 0 (Nat.succ q)) (Tr.ok ((AV.slcT none (Row.M [Seg.arr .i64 (shO y 0) (Nat.succ q)]) 1 (Nat.succ q) false,none),H))))) [(1,AV.fn (Fn.func 75) [] [AV.ptr 1 0 0 0]),(5,AV.nils),(12,AV.slcT none (Row.M [Seg.arr .i64 d k]) 1 k false),(13,AV.int .i64 (Int.ofNat k)),(14,AV.int .i64 (Int.ofNat 0))]:=by kernel_rfl
theorem b74:∀ b,(0,b) ∈ blocksOf (bodyOf Try.f74)→b=.loop (part Try.f74 [1,1,0,1,0,0]):=by
 have:((blocksOf (bodyOf Try.f74)).filter fun x=>Nat.beq x.1 0)=[(0,.loop (part Try.f74 [1,1,0,1,0,0]))]:=by kernel_rfl
 intro b hb
 have hm:(0,b) ∈ ((blocksOf (bodyOf Try.f74)).filter fun x=>Nat.beq x.1 0):=List.mem_filter.2 ⟨hb,rfl⟩
 rw[this] at hm;simpa using hm
theorem ctD_ok {k:Nat} {f:FuncId} {P:Int→Int→Int} {Q:List AV→Heap→Prop} (h:∀ i e C H,Q C H→cd k (.fn f) (.int .i64 i::.int .i64 e::C) H=some (.int .i64 (P i e),H)):(ctD f P Q).Ok (cd k):=by
 refine addCt_ok (noCt_ok _) (fun args H x hx=>?_)
 unfold gD at hx
 split at hx
 · obtain ⟨h1,h2⟩:=Tr.reqP_some hx
   rw[h _ _ _ _ h1,← Tr.ok_some h2]
 · exact (Tr.bad_some hx).elim
noncomputable def o74:Nat→AV
 | 0=>.nils
 | q+1=>.slc 0 0 q 0 1 (q+1) none
noncomputable def lv74 (z:Nat→Int):Nat→Lvl
 | 0=>lvE
 | q+1=>lvO q (q+1) (lstO (faN z (q+1)))
section
variable (n s l k:Nat) (t d e:Nat→Int) (P:Int→Int→Int) (H:Heap)
theorem l74A (h0:0<k) (hk:k≤1000) (hP:∀ i e L,cd n (.fn 75) (.int .i64 i::.int .i64 e::[.ptr 1 0 0 0]) (L::H)=some (.int .i64 (P i e),L::H)):exec (cxD n 74 28) (.block 0 (.loop (part Try.f74 [1,1,0,1,0,0]))) (fr74 (.fn (.func 75) [] [.ptr 1 0 0 0]) .nils k d 0) (lvE::H)=some (.normal,fr74 (.fn (.func 75) [] [.ptr 1 0 0 0]) (o74 k) k d (Int.ofNat k)++[(15,.bool false)],lv74 (fun i=>P (i:Nat) (d i)) k::H):=by
 have hC:(ctD 75 P (fun C G=>C=[.ptr 1 0 0 0]∧∃ L,G=L::H)).Ok (cd n):=ctD_ok (fun i e C G hq=>by
  obtain ⟨rfl,L,rfl⟩:=hq
  exact hP i e L)
 refine forX (n:=n) (f:=74) (nt:=28) (c:=part Try.f74 [1,1,0,1,0,0]) 0 (fun j=>fr74 (.fn (.func 75) [] [.ptr 1 0 0 0]) (o74 j) k d (j:Nat)) (fun j=>lv74 (fun i=>P (i:Nat) (d i)) j::H) k _ (by omega) (fun j hj=>?_) ?_
 · cases j with
   | zero =>
     refine ex_all (t74Aa n k d P (fun C G=>C=[.ptr 1 0 0 0]∧∃ L,G=L::H) H (0:Nat)) (il_ok0 _ n hC) (noBT_ok _ _) (noRT_ok _ _) ?_
     show Tr.all _ (fun x=>_∧tidy _ _ _=(fr74 (.fn (.func 75) [] [.ptr 1 0 0 0]) (.slc 0 0 0 0 1 1 none) k d ((0+1:Nat):Int),lvO 0 1 (lstO [P (0:Nat) (d 0)])::H))
     rw[cs64 (j:=0) (by omega)]
     simp only[id1]
     generalize P (0:Nat) (d 0)=W at *
     repeat' first | (refine Tr.all_ite (fun hc=>?_) (fun hc=>?_)<;>(try simp (disch:=omega) only[nV,nW] at hc)<;>try omega) | (refine Tr.all_req ?_ ?_;· (try simp (disch:=omega) only[nV,nW]);try omega) | (refine Tr.all_reqP ?_ ?_;· first | exact trivial | rfl | exact ⟨rfl,rfl⟩ | exact ⟨rfl,rfl,rfl⟩ | (simp (disch:=omega) only[nV,nW];done) | ((try simp (disch:=omega) only[nV,nW]);omega)) | fail
     all_goals first
      | exact ⟨rfl,_,rfl⟩
      | (refine Tr.all_reqP ⟨(by first | rfl | trivial),_,rfl⟩ ?_
         repeat' first | (refine Tr.all_ite (fun hc=>?_) (fun hc=>?_)<;>(try simp (disch:=omega) only[nV,nW] at hc)<;>try omega) | (refine Tr.all_req ?_ ?_;· (try simp (disch:=omega) only[nV,nW]);try omega) | (refine Tr.all_reqP ?_ ?_;· first | exact trivial | rfl | exact ⟨rfl,rfl⟩ | exact ⟨rfl,rfl,rfl⟩ | (simp (disch:=omega) only[nV,nW];done) | ((try simp (disch:=omega) only[nV,nW]);omega)) | fail
         all_goals first
          | exact Tr.all_ok ⟨rfl,rfl⟩
          | fail)
      | fail
   | succ j =>
     refine ex_all (t74Ab n k d j (j+1) (lstO (faN (fun i=>P (i:Nat) (d i)) (j+1))) P (fun C G=>C=[.ptr 1 0 0 0]∧∃ L,G=L::H) H (j+1:Nat)) (il_ok0 _ n hC) (noBT_ok _ _) (noRT_ok _ _) ?_
     show Tr.all _ (fun x=>_∧tidy _ _ _=(fr74 (.fn (.func 75) [] [.ptr 1 0 0 0]) (.slc 0 0 (j+1) 0 1 (j+1+1) none) k d ((j+1+1:Nat):Int),lvO (j+1) (j+1+1) (lstO (faN (fun i=>P (i:Nat) (d i)) (j+1+1)))::H))
     have hap:=faN_app (fun i=>P (i:Nat) (d i)) (j+1)
     have ea:addO (j+1) 1=j+1+1:=addO_eq _ _
     rw[cs64 (j:=j+1) (by omega)]
     simp only[id1,hap,ea]
     generalize lstO (faN (fun i=>P (i:Nat) (d i)) (j+1+1))=Y2 at *
     generalize lstO (faN (fun i=>P (i:Nat) (d i)) (j+1))=Y at *
     repeat' first | (refine Tr.all_ite (fun hc=>?_) (fun hc=>?_)<;>(try simp (disch:=omega) only[nV,nW] at hc)<;>try omega) | (refine Tr.all_req ?_ ?_;· (try simp (disch:=omega) only[nV,nW]);try omega) | (refine Tr.all_reqP ?_ ?_;· first | exact trivial | rfl | exact ⟨rfl,rfl⟩ | exact ⟨rfl,rfl,rfl⟩ | (simp (disch:=omega) only[nV,nW];done) | ((try simp (disch:=omega) only[nV,nW]);omega)) | fail
     all_goals first
      | exact ⟨rfl,_,rfl⟩
      | (refine Tr.all_reqP ⟨(by first | rfl | trivial),_,rfl⟩ ?_
         repeat' first | (refine Tr.all_ite (fun hc=>?_) (fun hc=>?_)<;>(try simp (disch:=omega) only[nV,nW] at hc)<;>try omega) | (refine Tr.all_req ?_ ?_;· (try simp (disch:=omega) only[nV,nW]);try omega) | (refine Tr.all_reqP ?_ ?_;· first | exact trivial | rfl | exact ⟨rfl,rfl⟩ | exact ⟨rfl,rfl,rfl⟩ | (simp (disch:=omega) only[nV,nW];done) | ((try simp (disch:=omega) only[nV,nW]);omega)) | fail
         all_goals first
          | exact Tr.all_ok ⟨rfl,rfl⟩
          | fail)
      | fail
 · obtain ⟨q,rfl⟩:∃ q,k=q+1:=⟨k-1,by omega⟩
   exact ex_off (t74Ab n (q+1) d q (q+1) (lstO (faN (fun i=>P (i:Nat) (d i)) (q+1))) P (fun C G=>C=[.ptr 1 0 0 0]∧∃ L,G=L::H) H (Int.ofNat (q+1))) (il_ok0 _ n hC) (noBT_ok _ _) (noRT_ok _ _) (by first | (simp (disch:=omega) only[nV,nW];done) | (simp (disch:=omega) only[nV,nW];omega))
theorem c74A (h0:0<k) (hk:k≤1000) (hP:∀ i e L,cd n (.fn 75) (.int .i64 i::.int .i64 e::[.ptr 1 0 0 0]) (L::H)=some (.int .i64 (P i e),L::H)):cd (n+1) (.fn 74) [tbA s l t k d e,(.fn (.func 75) [] [.ptr 0 0 0 0])] H=some (sl1 k (lstO (faN (fun i=>P (i:Nat) (d i)) k)) false,H):=by
 have hx:=l74A n k d P H h0 hk hP
 obtain ⟨q,rfl⟩:∃ q,k=q+1:=⟨k-1,by omega⟩
 refine fn_all (n:=n) Try.func74 rfl rfl rfl (u74A n s l (q+1) q t d e (lstO (faN (fun i=>P (i:Nat) (d i)) (q+1))) H) (il_no0 _) (blkE_ok (noBT_ok _ _) b74 (fun x hy=>blk_ok hy hx)) (noRT_ok _ _) ?_
 rw[shO_zero]
 generalize lstO (faN (fun i=>P (i:Nat) (d i)) (q+1))=Y at *
 repeat' first | (refine Tr.all_ite (fun hc=>?_) (fun hc=>?_)<;>(try simp (disch:=omega) only[nV,nW] at hc)<;>try omega) | (refine Tr.all_req ?_ ?_;· (try simp (disch:=omega) only[nV,nW]);try omega) | (refine Tr.all_reqP ?_ ?_;· first | exact trivial | rfl | exact ⟨rfl,rfl⟩ | exact ⟨rfl,rfl,rfl⟩ | (simp (disch:=omega) only[nV,nW];done) | ((try simp (disch:=omega) only[nV,nW]);omega)) | fail
 all_goals first
  | exact Tr.all_ok ⟨rfl,rfl⟩
  | fail
end
section
variable (n s l k:Nat) (c:Nat) (t d e:Nat→Int) (P:Int→Int→Int) (H:Heap)
end
section
variable (n s l k:Nat) (c:Nat) (t d e:Nat→Int) (P:Int→Int→Int) (H:Heap)
end
end Go.Eng
end
section
namespace Go.Eng
open Go.Proofs
set_option linter.unusedVariables false
set_option linter.unusedSimpArgs false
set_option maxRecDepth 100000
noncomputable def fr72 (s l:Nat) (t:Nat→Int) (k:Nat) (d g:Nat→Int) (h:Int) (F:AV) (j:Int):Frm:=[(0,tbA (s+1) l t k d g),(1,.int .i64 h),(2,F),(7,.int .i64 j)]
noncomputable def lvC (T:Int):Lvl:=⟨false,[(0,.row (.I .i64 [T]))]⟩
theorem u75 (n:Nat) (i e T:Int) (L:Lvl) (H:Heap):bodyT Try.prog (cd n) 100000 75 Try.f75 (KtL.kt 75) (il noCt n 0) noBT noRT [(.int .i64 i,none),(.int .i64 e,none),(.ptr 1 0 0 0,none)] (L::lvC T::H) =
 Tr.ok ((AV.int .i64 (minO e T),none),L::{ lock:=false,bs:=[(0,Blk.row (Row.I .i64 [T]))] } :: H):=by kernel_rfl
theorem u73 (n l k:Nat) (t d g y:Nat→Int) (b0:Nat×Blk) (H:Heap) (T:Int):bodyT Try.prog (cd n) 100000 73 Try.f73 (KtL.kt 73) (il (ctE noCt 74 [tbA 2 l t k d g,.fn (.func 75) [] [.ptr 0 0 0 0]] (lvC T::lvE::⟨false,[b0,(0,.row (.G [tbA 0 l t k d g]))]⟩::H) (.ok (sl1 k y false,lvC T::lvE::⟨false,[b0,(0,.row (.G [tbA 0 l t k d g]))]⟩::H))) n 0) noBT noRT [(.int .i64 T,none),(.ptr 1 1 0 0,none)] (lvE::⟨false,[b0,(0,.row (.G [tbA 0 l t k d g]))]⟩::H) =
 (fun (Z0:Row)=>((fun (Z1:Lvl)=>Tr.reqP ([AV.ptrT (some 2) Z0 0,AV.fn (Fn.func 75) [] [AV.ptr 0 0 0 0]]=[AV.ptrT (some 2) Z0 0,AV.fn (Fn.func 75) [] [AV.ptr 0 0 0 0]]∧{ lock:=false,bs:=[(0,Blk.row (Row.I .i64 [T]))] } :: lvE::Z1::H={ lock:=false,bs:=[(0,Blk.row (Row.I .i64 [T]))] } :: lvE::Z1::H) (Tr.ok ((AV.slcT none (Row.M [Seg.arr .i64 y k]) 1 k false,none),lvE::Z1::H))) { lock:=false,bs:=[b0,(0,Blk.row (Row.G [AV.ptrT (some 0) Z0 0]))] })) (Row.M [Seg.one (AV.slcT none (Row.M [Seg.arr .i64 t l]) 1 l false),Seg.one (AV.slcT none (Row.M [Seg.arr .i64 d k]) 1 k false),Seg.arr .i64 g 30]):=by kernel_rfl
theorem t72A (n s l k:Nat) (c1:Nat) (t d g y:Nat→Int) (H:Heap) (h j c:Int):execT (cxD n 72 20) (il (tX (ctE noCt 73 (.int .i64 j::[.ptr 1 c1 0 0]) (lvE::H) (.ok (sl1 k y false,lvE::H))) 69 [tbA (s+1) l t k d g,sl1 k y false,.int .i64 h] (.int .i64 c)) n 0) noBT noRT (part Try.f72 [1,0,1,0,0]) (hints (fr72 s l t k d g h (.fn (.func 73) [] [.ptr 1 c1 0 0]) j)) (lvE::H) =
 (fun (Z0:Row)=>((fun (Z1:List AV)=>Tr.ite (ltI j (Int.ofNat 40)) (Tr.reqP ([AV.int .i64 j,AV.ptr 1 c1 0 0]=[AV.int .i64 j,AV.ptr 1 c1 0 0]∧lvE::H=lvE::H) (Tr.reqP (Z1=Z1) (Tr.ite (ltI c (Int.ofNat 0)) (Tr.ok (Ex.ret,[(6,AV.int .i64 j,none)],lvE::H)) (Tr.ok (Ex.normal,[(0,AV.ptrT (some (Nat.succ s)) Z0 0,none),(1,AV.int .i64 h,none),(2,AV.fn (Fn.func 73) [] [AV.ptr 1 c1 0 0],none),(7,AV.int .i64 (addI .i64 j (Int.ofNat 1)),none)],lvE::H))))) (Tr.ok (Ex.exit 0,[(0,AV.ptrT (some (Nat.succ s)) Z0 0,none),(1,AV.int .i64 h,none),(2,AV.fn (Fn.func 73) [] [AV.ptr 1 c1 0 0],none),(7,AV.int .i64 j,none),(9,AV.bool false,some 1)],lvE::H))) [AV.ptrT (some (Nat.succ s)) Z0 0,AV.slcT none (Row.M [Seg.arr .i64 y k]) 1 k false,AV.int .i64 h])) (Row.M [Seg.one (AV.slcT none (Row.M [Seg.arr .i64 t l]) 1 l false),Seg.one (AV.slcT none (Row.M [Seg.arr .i64 d k]) 1 k false),Seg.arr .i64 g 30]):=by kernel_rfl
theorem t72xA (n s l k:Nat) (c1:Nat) (t d g:Nat→Int) (H:Heap) (h j:Int):execT (cxD n 72 20) (il (tN noCt 73) n 0) noBT noRT (part Try.f72 [1,0,1,0,0]) (hints (fr72 s l t k d g h (.fn (.func 73) [] [.ptr 1 c1 0 0]) j)) (lvE::H) =
 Tr.ite (ltI j (Int.ofNat 40)) Tr.bad (Tr.ok (Ex.exit 0,[(0,AV.ptrT (some (Nat.succ s)) (Row.M [Seg.one (AV.slcT none (Row.M [Seg.arr .i64 t l]) 1 l false),Seg.one (AV.slcT none (Row.M [Seg.arr .i64 d k]) 1 k false),Seg.arr .i64 g 30]) 0,none),(1,AV.int .i64 h,none),(2,AV.fn (Fn.func 73) [] [AV.ptr 1 c1 0 0],none),(7,AV.int .i64 j,none),(9,AV.bool false,some 1)],lvE::H)):=by kernel_rfl
theorem u72A (n s l k:Nat) (c1:Nat) (t d g:Nat→Int) (H:Heap) (h r:Int) (B:Bool):bodyT Try.prog (cd n) 100000 72 Try.f72 (KtL.kt 72) (il noCt n 0) (blkE noBT 0 (fr72 s l t k d g h (.fn (.func 73) [] [.ptr 1 c1 0 0]) 1) (lvE::H) (.ite B (.ok (.ret,[(6,.int .i64 r,none)],lvE::H)) (.ok (.normal,hints (fr72 s l t k d g h (.fn (.func 73) [] [.ptr 1 c1 0 0]) 40++[(9,.bool false)]),lvE::H)))) noRT [(tbA s l t k d g,none),(.int .i64 h,none),(.fn (.func 73) [] [.ptr 0 c1 0 0],none)] H =
 (fun (Z0:Frm)=>Tr.reqP (Z0=Z0∧lvE::H=lvE::H) (Tr.ite B (Tr.ok ((AV.int .i64 r,none),H)) (Tr.ok ((AV.int .i64 (Int.ofNat 40),some 1),H)))) [(0,AV.ptrT (some (Nat.succ s)) (Row.M [Seg.one (AV.slcT none (Row.M [Seg.arr .i64 t l]) 1 l false),Seg.one (AV.slcT none (Row.M [Seg.arr .i64 d k]) 1 k false),Seg.arr .i64 g 30]) 0),(1,AV.int .i64 h),(2,AV.fn (Fn.func 73) [] [AV.ptr 1 c1 0 0]),(7,AV.int .i64 (Int.ofNat 1))]:=by kernel_rfl
theorem b72:∀ b,(0,b) ∈ blocksOf (bodyOf Try.f72)→b=.loop (part Try.f72 [1,0,1,0,0]):=by
 have:((blocksOf (bodyOf Try.f72)).filter fun x=>Nat.beq x.1 0)=[(0,.loop (part Try.f72 [1,0,1,0,0]))]:=by kernel_rfl
 intro b hb
 have hm:(0,b) ∈ ((blocksOf (bodyOf Try.f72)).filter fun x=>Nat.beq x.1 0):=List.mem_filter.2 ⟨hb,rfl⟩
 rw[this] at hm;simpa using hm
def leaN (p:Nat→Bool):Nat:=if exN (fun j=>p (j+1)) 39=true then fN (fun j=>p (j+1)) 39 0+1 else 40
section
variable (n:Nat) (H:Heap)
theorem c75 (i e T:Int) (L:Lvl):cd (n+1) (.fn 75) [.int .i64 i,.int .i64 e,.ptr 1 0 0 0] (L::lvC T::H)=some (.int .i64 (min e T),L::lvC T::H):=by
 refine fn_all (n:=n) Try.func75 rfl rfl rfl (u75 n i e T L H) (il_no0 _) (noBT_ok _ _) (noRT_ok _ _) ?_
 rw[minO_min]
 repeat' first | (refine Tr.all_ite (fun hc=>?_) (fun hc=>?_)<;>(try simp (disch:=omega) only[nV,nW] at hc)<;>try omega) | (refine Tr.all_req ?_ ?_;· (try simp (disch:=omega) only[nV,nW]);try omega) | (refine Tr.all_reqP ?_ ?_;· first | exact trivial | rfl | exact ⟨rfl,rfl⟩ | exact ⟨rfl,rfl,rfl⟩ | (simp (disch:=omega) only[nV,nW];done) | ((try simp (disch:=omega) only[nV,nW]);omega)) | fail
 all_goals first
  | exact Tr.all_ok ⟨rfl,rfl⟩
  | fail
variable (l k:Nat) (t d g:Nat→Int)
theorem c73 (b0:Nat×Blk) (T:Int) (h0:0<k) (hk:k≤1000):cd (n+3) (.fn 73) [.int .i64 T,.ptr 1 1 0 0] (lvE::⟨false,[b0,(0,.row (.G [tbA 0 l t k d g]))]⟩::H)=some (sl1 k (lstO (faN (fun i=>min (d i) T) k)) false,lvE::⟨false,[b0,(0,.row (.G [tbA 0 l t k d g]))]⟩::H):=by
 refine fn_all (n:=n+2) Try.func73 rfl rfl rfl (u73 (n+2) l k t d g (lstO (faN (fun i=>min (d i) T) k)) b0 H T) (il_ok0 _ (n+2) (ctE_ok (noCt_ok _) (fun x hy=>by
  rw[← Tr.ok_some hy]
  exact c74A (n+1) 2 l k t d g (fun i e=>min e T) _ h0 hk (fun i e L=>c75 n _ i e T L)))) (noBT_ok _ _) (noRT_ok _ _) ?_
 generalize lstO (faN (fun i=>min (d i) T) k)=Y at *
 repeat' first | (refine Tr.all_ite (fun hc=>?_) (fun hc=>?_)<;>(try simp (disch:=omega) only[nV,nW] at hc)<;>try omega) | (refine Tr.all_req ?_ ?_;· (try simp (disch:=omega) only[nV,nW]);try omega) | (refine Tr.all_reqP ?_ ?_;· first | exact trivial | rfl | exact ⟨rfl,rfl⟩ | exact ⟨rfl,rfl,rfl⟩ | (simp (disch:=omega) only[nV,nW];done) | ((try simp (disch:=omega) only[nV,nW]);omega)) | fail
 all_goals first
  | exact Tr.all_ok ⟨rfl,rfl⟩
  | fail
end
section
variable (n s l k:Nat) (c1:Nat) (t d g:Nat→Int) (H:Heap) (h:Int) (W:Nat→Nat→Int)
theorem c72A (hl:l≤30) (hk:k=l) (ht:∀ j,j<l→t j<l) (hc:cycB l t=false) (hW:∀ T,1≤T→T<40→Bd l (W T)) (hh:0≤h∧h≤1000)
 (hF:∀ T,1≤T→T<40→cd (n+4) (.fn 73) (.int .i64 (T:Nat)::[.ptr 1 c1 0 0]) (lvE::H)=some (sl1 k (W T) false,lvE::H)) :
 cd (n+5) (.fn 72) [tbA s l t k d g,.int .i64 h,.fn (.func 73) [] [.ptr 0 c1 0 0]] H=some (.int .i64 (leaN (fun T=>canB l t (W T) h):Nat),H):=by
 have hC:∀ j,j<39→(tX (ctE noCt 73 (.int .i64 ((j+1:Nat):Int)::[.ptr 1 c1 0 0]) (lvE::H) (.ok (sl1 k (W (j+1)) false,lvE::H))) 69 [tbA (s+1) l t k d g,sl1 k (W (j+1)) false,.int .i64 h] (.int .i64 (crT l t (W (j+1)) h))).Ok (cd (n+4)):=fun j hj =>
  tX_ok (ctE_ok (noCt_ok _) (fun x hy=>by rw[← Tr.ok_some hy];exact hF (j+1) (by omega) (by omega))) (fun H=>c69 n (s+1) l k k t d g (W (j+1)) false H h hl hk ht hc (hW (j+1) (by omega) (by omega)) hh)
 have hx:=findX (n:=n+4) (f:=72) (nt:=20) (c:=part Try.f72 [1,0,1,0,0]) 0 (fun j=>fr72 s l t k d g h (.fn (.func 73) [] [.ptr 1 c1 0 0]) ((j+1:Nat):Int)) (fun _=>lvE::H) 39 (fun j=>canB l t (W (j+1)) h) (fun j=>([(6,.int .i64 ((j+1:Nat):Int))],lvE::H)) (fr72 s l t k d g h (.fn (.func 73) [] [.ptr 1 c1 0 0]) 40++[(9,.bool false)],lvE::H) (by omega) (fun j hj=>?_) ?_
 · have hr:cond (exN (fun j=>canB l t (W (j+1)) h) 39) ((fN (fun j=>canB l t (W (j+1)) h) 39 0+1:Nat):Int) 40=(leaN (fun T=>canB l t (W T) h):Nat):=by
    unfold leaN
    cases exN (fun j=>canB l t (W (j+1)) h) 39 with
    | true=>rw[if_pos rfl];rfl
    | false=>rw[if_neg (by decide)];rfl
   refine fn_all (n:=n+4) Try.func72 rfl rfl rfl (u72A (n+4) s l k c1 t d g H h ((fN (fun j=>canB l t (W (j+1)) h) 39 0+1:Nat):Int) (exN (fun j=>canB l t (W (j+1)) h) 39)) (il_no0 _) (blkE_ok (noBT_ok _ _) b72 (fun x hy=>blk_ite hy hx)) (noRT_ok _ _) ?_
   rw[← hr]
   generalize ((fN (fun j=>canB l t (W (j+1)) h) 39 0+1:Nat):Int)=R at *
   generalize exN (fun j=>canB l t (W (j+1)) h) 39=B at *
   cases B
   all_goals
    simp only[cond_true,cond_false]
    repeat' first | (refine Tr.all_ite (fun hc=>?_) (fun hc=>?_)<;>(try simp (disch:=omega) only[nV,nW] at hc)<;>try omega) | (refine Tr.all_req ?_ ?_;· (try simp (disch:=omega) only[nV,nW]);try omega) | (refine Tr.all_reqP ?_ ?_;· first | exact trivial | rfl | exact ⟨rfl,rfl⟩ | exact ⟨rfl,rfl,rfl⟩ | (simp (disch:=omega) only[nV,nW];done) | ((try simp (disch:=omega) only[nV,nW]);omega)) | fail
    all_goals first
     | exact Tr.all_ok ⟨rfl,rfl⟩
     | fail
 · refine ex_all (t72A (n+4) s l k c1 t d g (W (j+1)) H h ((j+1:Nat):Int) (crT l t (W (j+1)) h)) (il_ok0 _ (n+4) (hC j hj)) (noBT_ok _ _) (noRT_ok _ _) ?_
   show Tr.all _ (fun r=>if canB l t (W (j+1)) h=true then _ else _)
   obtain ⟨q1,q2⟩:=crT_can l t (W (j+1)) h
   rw[cs64 (j:=j+1) (by omega)]
   generalize crT l t (W (j+1)) h=C at *
   cases hB:canB l t (W (j+1)) h with
   | true =>
     have:=q1.2 hB
     simp only[if_true]
     repeat' first | (refine Tr.all_ite (fun hc=>?_) (fun hc=>?_)<;>(try simp (disch:=omega) only[nV,nW] at hc)<;>try omega) | (refine Tr.all_req ?_ ?_;· (try simp (disch:=omega) only[nV,nW]);try omega) | (refine Tr.all_reqP ?_ ?_;· first | exact trivial | rfl | exact ⟨rfl,rfl⟩ | exact ⟨rfl,rfl,rfl⟩ | (simp (disch:=omega) only[nV,nW];done) | ((try simp (disch:=omega) only[nV,nW]);omega)) | fail
     all_goals first
      | exact Tr.all_ok rfl
      | fail
   | false =>
     have:=q2.2 hB
     simp only[Bool.false_eq_true,if_false]
     repeat' first | (refine Tr.all_ite (fun hc=>?_) (fun hc=>?_)<;>(try simp (disch:=omega) only[nV,nW] at hc)<;>try omega) | (refine Tr.all_req ?_ ?_;· (try simp (disch:=omega) only[nV,nW]);try omega) | (refine Tr.all_reqP ?_ ?_;· first | exact trivial | rfl | exact ⟨rfl,rfl⟩ | exact ⟨rfl,rfl,rfl⟩ | (simp (disch:=omega) only[nV,nW];done) | ((try simp (disch:=omega) only[nV,nW]);omega)) | fail
     all_goals first
      | exact Tr.all_ok ⟨rfl,rfl⟩
      | fail
 · exact ex_off (t72xA (n+4) s l k c1 t d g H h 40) (il_ok0 _ (n+4) (tN_ok (noCt_ok _))) (noBT_ok _ _) (noRT_ok _ _) (by first | (simp (disch:=omega) only[nV,nW];done) | (simp (disch:=omega) only[nV,nW];omega))
end
section
variable (n s l k:Nat) (c1 c2:Nat) (t d g:Nat→Int) (H:Heap) (h:Int) (W:Nat→Nat→Int)
end
section
variable (n s l k:Nat) (c1:Nat) (t d g:Nat→Int) (H:Heap) (h:Int) (W:Nat→Nat→Int)
end
end Go.Eng
end
section
namespace Go.Eng
set_option linter.unusedVariables false
set_option linter.unusedSimpArgs false
theorem fN_is {p:Nat→Bool} {N m:Nat} (h1:m<N) (h2:p m=true) (h3:∀ i,i<m→p i=false):fN p N 0=m:=by
 obtain ⟨_,b,c,d⟩:=fN_spec p N 0
 have c:=fun i hi=>c i (Nat.zero_le i) hi
 have:fN p N 0<N:=Classical.byContradiction fun hn=>by
  have:=c m (by omega)
  rw[h2] at this;cases this
 have d:=d (by omega)
 rcases Nat.lt_trichotomy (fN p N 0) m with e | e | e
 · have:=h3 _ e;rw[d] at this;cases this
 · exact e
 · have:=c m e;rw[h2] at this;cases this
theorem lsV_congr {t e e':Nat→Int} {i l:Nat} (he:∀ j,j<l→e j=e' j) (ht:∀ j,j<l→t j<l) (hi:i<l):∀ m,(∀ q,q<m→0≤stp t q (i:Int))→lsV t e i m=lsV t e' i m
 | 0,_=>he i hi
 | m+1,hp=>by
   have h1:=hp m (by omega)
   have h2:=stp_lt ht (show (i:Int)<l by omega) m
   show min (lsV t e i m) _=min (lsV t e' i m) _
   rw[lsV_congr he ht hi m (fun q hq=>hp q (by omega)),he _ (by omega)]
theorem la_congr {l:Nat} {t e e':Nat→Int} (h:Fw l t) (he:∀ j,j<l→e j=e' j) {i:Nat} (hi:i<l):laV l t e i=laV l t e' i :=
 lsV_congr he h.tl hi _ (cyc_lv h.cyc i hi).2.1
theorem cr_congr {l:Nat} {t e e':Nat→Int} (h:Fw l t) (he:∀ j,j<l→e j=e' j) (T:Int):crN l t e T=crN l t e' T :=
 cn_congr (fun i hi=>by rw[la_congr h he hi])
theorem crB_congr {l:Nat} {t e e':Nat→Int} (h:Fw l t) (he:∀ j,j<l→e j=e' j) (hh T:Int):crB l t e hh T=crB l t e' hh T:=by
 unfold crB;rw[cr_congr h he]
theorem can_congr {l:Nat} {t e e':Nat→Int} (h:Fw l t) (he:∀ j,j<l→e j=e' j) (hh:Int):canB l t e hh=canB l t e' hh:=by
 unfold canB;rw[exN_congr (fun T _=>crB_congr h he hh T)]
theorem can_iff (l:Nat) (t e:Nat→Int) (h:Int):canB l t e h=true↔∀ T:Nat,T≤40→(crN l t e T:Int)≤h*T:=by
 unfold canB
 rw[Bool.not_eq_true']
 constructor
 · intro hx T hT
   have:=exN_not hx T (by omega)
   unfold crB at this
   rw[decide_eq_false_iff_not] at this;omega
 · intro hx
   refine exN_no (fun T hT=>?_)
   have:=hx T (by omega)
   unfold crB
   rw[decide_eq_false_iff_not];omega
theorem lea_congr {p q:Nat→Bool} (h:∀ T,1≤T→T<40→p T=q T):leaN p=leaN q:=by
 unfold leaN
 have e:exN (fun j=>p (j+1)) 39=exN (fun j=>q (j+1)) 39:=exN_congr (fun j hj=>h _ (by omega) (by omega))
 rw[e]
 by_cases c:exN (fun j=>q (j+1)) 39=true
 · rw[if_pos c,if_pos c]
   obtain ⟨_,b,c1,d⟩:=fN_spec (fun j=>q (j+1)) 39 0
   have hl:=exN_true c
   rw[fN_is (p:=fun j=>p (j+1)) hl (by rw[h _ (by omega) (by omega)];exact d (by omega)) (fun i hi=>by rw[h _ (by omega) (by omega)];exact c1 i (by omega) hi)]
 · rw[if_neg c,if_neg c]
end Go.Eng
end
section
namespace Go.Eng
open Go.Proofs
set_option linter.unusedVariables false
set_option linter.unusedSimpArgs false
set_option maxRecDepth 100000
noncomputable def lv36 (l:Nat) (t:Nat→Int) (k:Nat) (d g:Nat→Int):Lvl:=⟨false,[bxS l t k d,(0,.row (.G [tbA 0 l t k d g]))]⟩
theorem u36 (n l k:Nat) (t d g:Nat→Int) (H:Heap) (h r:Int):bodyT Try.prog (cd n) 100000 36 Try.f36 (KtL.kt 36) (il (ctE (tX noCt 61 [shA l t k d,.int .i64 h,.int .i64 0] (.tup [tbA 0 l t k d g,.int .i64 0])) 72 [tbA 0 l t k d g,.int .i64 h,.fn (.func 73) [] [.ptr 0 1 0 0]] (lv36 l t k d g::H) (.ok (.int .i64 r,lv36 l t k d g::H))) n 0) noBT noRT [(shA l t k d,none),(.int .i64 h,none)] H =
 (fun (Z0:Row)=>((fun (Z1:Row)=>((fun (Z2:Lvl)=>Tr.reqP ([AV.agg Z1,AV.int .i64 h,AV.int .i64 (Int.ofNat 0)]=[AV.agg Z1,AV.int .i64 h,AV.int .i64 (Int.ofNat 0)]) (Tr.ite (notB (eqI (Int.ofNat 0) (Int.ofNat 0))) (Tr.ok ((AV.tup [AV.int .i64 (Int.ofNat 0),AV.int .i64 (Int.ofNat 0)],none),H)) (Tr.reqP ([AV.ptrT (some 0) Z0 0,AV.int .i64 h,AV.fn (Fn.func 73) [] [AV.ptr 0 1 0 0]]=[AV.ptrT (some 0) Z0 0,AV.int .i64 h,AV.fn (Fn.func 73) [] [AV.ptr 0 1 0 0]]∧Z2::H=Z2::H) (Tr.ok ((AV.tup [AV.int .i64 r,AV.int .i64 (Int.ofNat 0)],none),H))))) { lock:=false,bs:=[(0,Blk.row Z1),(0,Blk.row (Row.G [AV.ptrT (some 0) Z0 0]))] })) (Row.G [AV.slcT none (Row.M [Seg.arr .i64 t l]) 1 l false,AV.slcT none (Row.M [Seg.arr .i64 d k]) 1 k false]))) (Row.M [Seg.one (AV.slcT none (Row.M [Seg.arr .i64 t l]) 1 l false),Seg.one (AV.slcT none (Row.M [Seg.arr .i64 d k]) 1 k false),Seg.arr .i64 g 30]):=by kernel_rfl
theorem u36s (n l k:Nat) (t d:Nat→Int) (H:Heap) (h e:Int):bodyT Try.prog (cd n) 100000 36 Try.f36 (KtL.kt 36) (il (tX noCt 61 [shA l t k d,.int .i64 h,.int .i64 0] (.tup [.nilp,.int .i64 e])) n 0) noBT noRT [(shA l t k d,none),(.int .i64 h,none)] H =
 (fun (Z0:List AV)=>Tr.reqP (Z0=Z0) (Tr.ite (notB (eqI e (Int.ofNat 0))) (Tr.ok ((AV.tup [AV.int .i64 (Int.ofNat 0),AV.int .i64 e],none),H)) Tr.bad)) [AV.agg (Row.G [AV.slcT none (Row.M [Seg.arr .i64 t l]) 1 l false,AV.slcT none (Row.M [Seg.arr .i64 d k]) 1 k false]),AV.int .i64 h,AV.int .i64 (Int.ofNat 0)]:=by kernel_rfl
def trV (l:Nat) (t:Nat→Int) (d:Nat→Int) (h:Int):Nat:=leaN (fun T=>canB l t (fun i=>min (d i) (T:Nat)) h)
section
variable (n l k:Nat) (t d:Nat→Int) (H:Heap) (h:Int)
theorem c61y (e:needE l k t d h=0):cd (n+11) (.fn 61) [shA l t k d,.int .i64 h,.int .i64 0] H=some (.tup [tbS 0 l t k d,.int .i64 0],H):=by
 obtain ⟨e1,e2⟩:=need_of e
 rw[c61 n l k t d H h 0 e1,if_pos rfl,if_pos e2]
theorem c61n (e:needE l k t d h≠0):cd (n+11) (.fn 61) [shA l t k d,.int .i64 h,.int .i64 0] H=some (.tup [.nilp,.int .i64 (needE l k t d h)],H):=by
 by_cases c:askE l t k d h=0
 · rw[c61 n l k t d H h 0 c,if_pos rfl]
   have:needE l k t d h=if canB l t d h=true then 0 else 13:=by unfold needE;rw[if_pos c]
   rw[this] at e ⊢
   by_cases c2:canB l t d h=true
   · rw[if_pos c2] at e;exact absurd rfl e
   · rw[if_neg c2,if_neg c2]
 · rw[c61e n l k t d H h 0 c]
   have:needE l k t d h=askE l t k d h:=by unfold needE;rw[if_neg c]
   rw[this]
theorem bd_min {l:Nat} {d:Nat→Int} (hb:Bd l d) (T:Int) (hT:0≤T):Bd l (fun i=>min (d i) T):=fun j hj=>by
 have:=hb j hj
 show -900≤min (d j) T∧min (d j) T≤900
 omega
theorem bd_fa {l k:Nat} {z:Nat→Int} (hk:k=l) (hb:Bd l z):Bd l (lstO (faN z k)):=fun j hj=>by
 subst hk;rw[faN_at _ hj];exact hb j hj
theorem can_fa {l k:Nat} {t z:Nat→Int} (h:Fw l t) (hk:k=l) (hh:Int):canB l t (lstO (faN z k)) hh=canB l t z hh :=
 can_congr h (fun j hj=>by subst hk;exact faN_at z hj) hh
noncomputable def trA:AV:=if needE l k t d h=0 then .tup [.int .i64 (trV l t d h:Nat),.int .i64 0] else .tup [.int .i64 0,.int .i64 (needE l k t d h)]
theorem c36:cd (n+12) (.fn 36) [shA l t k d,.int .i64 h] H=some (trA l k t d h,H):=by
 unfold trA
 by_cases e:needE l k t d h=0
 · rw[if_pos e]
   obtain ⟨e1,e2⟩:=need_of e
   obtain ⟨hs,h1,h2⟩:=ask_of e1
   have hl1:=hs.l1
   have hl2:=hs.l30
   have hkl:=hs.kl
   have h72:cd (n+11) (.fn 72) [tbA 0 l t k d (ldF t l),.int .i64 h,.fn (.func 73) [] [.ptr 0 1 0 0]] (lv36 l t k d (ldF t l)::H)=some (.int .i64 (trV l t d h:Nat),lv36 l t k d (ldF t l)::H):=by
    have:=c72A (n+6) 0 l k 1 t d (ldF t l) (lv36 l t k d (ldF t l)::H) h (fun T=>lstO (faN (fun i=>min (d i) (T:Nat)) k)) hs.l30 hs.kl hs.tl hs.cyc (fun T _ _=>bd_fa hs.kl (bd_min hs.bd _ (by omega))) (by omega) (fun T _ _=>c73 (n+7) H l k t d (ldF t l) _ (T:Nat) (by omega) (by omega))
    rw[lea_congr (q:=fun T=>canB l t (fun i=>min (d i) (T:Nat)) h) (fun T _ _=>can_fa hs.fw hs.kl h)] at this
    exact this
   refine fn_all (n:=n+11) Try.func36 rfl rfl rfl (u36 (n+11) l k t d (ldF t l) H h (trV l t d h:Nat)) (il_ok0 _ (n+11) (ctE_ok (tX_ok (noCt_ok _) (fun H=>c61y n l k t d H h e)) (fun x hy=>by rw[← Tr.ok_some hy];exact h72))) (noBT_ok _ _) (noRT_ok _ _) ?_
   generalize ldF t l=g at *
   repeat' first | (refine Tr.all_ite (fun hc=>?_) (fun hc=>?_)<;>(try simp (disch:=omega) only[nV,nW] at hc)<;>try omega) | (refine Tr.all_req ?_ ?_;· (try simp (disch:=omega) only[nV,nW]);try omega) | (refine Tr.all_reqP ?_ ?_;· first | exact trivial | rfl | exact ⟨rfl,rfl⟩ | exact ⟨rfl,rfl,rfl⟩ | (simp (disch:=omega) only[nV,nW];done) | ((try simp (disch:=omega) only[nV,nW]);omega)) | fail
   all_goals first
    | exact Tr.all_ok ⟨rfl,rfl⟩
    | fail
 · rw[if_neg e]
   refine fn_all (n:=n+11) Try.func36 rfl rfl rfl (u36s (n+11) l k t d H h (needE l k t d h)) (il_ok0 _ (n+11) (tX_ok (noCt_ok _) (fun H=>c61n n l k t d H h e))) (noBT_ok _ _) (noRT_ok _ _) ?_
   generalize needE l k t d h=E at *
   repeat' first | (refine Tr.all_ite (fun hc=>?_) (fun hc=>?_)<;>(try simp (disch:=omega) only[nV,nW] at hc)<;>try omega) | (refine Tr.all_req ?_ ?_;· (try simp (disch:=omega) only[nV,nW]);try omega) | (refine Tr.all_reqP ?_ ?_;· first | exact trivial | rfl | exact ⟨rfl,rfl⟩ | exact ⟨rfl,rfl,rfl⟩ | (simp (disch:=omega) only[nV,nW];done) | ((try simp (disch:=omega) only[nV,nW]);omega)) | fail
   all_goals first
    | exact Tr.all_ok ⟨rfl,rfl⟩
    | fail
theorem lea_of {p:Nat→Bool}:(exN (fun j=>p (j+1)) 39=true→(leaN p=fN (fun j=>p (j+1)) 39 0+1))∧(exN (fun j=>p (j+1)) 39=false→leaN p=40):=by
 unfold leaN
 constructor
 · intro h;rw[if_pos h]
 · intro h;rw[if_neg (by rw[h];decide)]
end
end Go.Eng
end
section
namespace Go.Eng
set_option linter.unusedVariables false
set_option linter.unusedSimpArgs false
theorem cn_mono {p q:Nat→Bool}:∀ {n:Nat},(∀ j,j<n→p j=true→q j=true)→cn p n≤cn q n
 | 0,_=>Nat.le_refl _
 | n+1,h=>by
   have ih:=cn_mono (n:=n) (fun j hj=>h j (by omega))
   have hn:=h n (by omega)
   show cn p n+(p n).toNat≤cn q n+(q n).toNat
   cases hp:p n with
   | false=>simp;omega
   | true=>rw[hn hp];omega
end Go.Eng
end
section
namespace Go.Eng
set_option linter.unusedVariables false
set_option linter.unusedSimpArgs false
def abN (l:Nat) (t:Nat→Int) (k:Int):Nat:=cn (fun i=>decide (k<(lvN l t i:Nat))) l
theorem lv_pos {l:Nat} {t:Nat→Int} (h:Fw l t) {i:Nat} (hi:i<l):1≤lvN l t i∧lvN l t i≤l:=by
 obtain ⟨a,b,c⟩:=cyc_lv h.cyc i hi
 refine ⟨?_,a⟩
 apply Classical.byContradiction
 intro hc
 rw[show lvN l t i=0 by omega] at c
 have:stp t 0 (i:Int)=i:=rfl
 omega
theorem lsV_const (t:Nat→Int) (T:Int) (i:Nat):∀ m,lsV t (fun _=>T) i (m+1)=T-(m:Int)
 | 0=>by show min T (T-((0:Nat):Int))=_;omega
 | m+1=>by
   show min (lsV t (fun _=>T) i (m+1)) (T-((m+1:Nat):Int))=_
   rw[lsV_const t T i m];omega
theorem la_const {l:Nat} {t:Nat→Int} (h:Fw l t) (T:Int) {i:Nat} (hi:i<l):laV l t (fun _=>T) i=T-((lvN l t i:Nat):Int)+1:=by
 obtain ⟨a,_⟩:=lv_pos h hi
 unfold laV
 obtain ⟨m,hm⟩:∃ m,lvN l t i=m+1:=⟨lvN l t i-1,by omega⟩
 rw[hm,lsV_const];omega
theorem cr_const {l:Nat} {t:Nat→Int} (h:Fw l t) (T u:Int):crN l t (fun _=>T) u=abN l t (T-u) :=
 cn_congr (fun i hi=>by rw[la_const h T hi,decide_eq_decide];omega)
theorem ab_neg {l:Nat} {t:Nat→Int} (h:Fw l t) {k:Int} (hk:k≤0):abN l t k=l:=by
 have:∀ m,m≤l→cn (fun i=>decide (k<(lvN l t i:Nat))) m=m:=by
  intro m
  induction m with
  | zero=>intro _;rfl
  | succ m ih =>
    intro hm
    have:=(lv_pos h (show m<l by omega)).1
    show cn _ m+(decide (k<(lvN l t m:Nat))).toNat=_
    rw[ih (by omega),decide_eq_true (by omega)];rfl
 exact this l (Nat.le_refl _)
theorem ab_big {l:Nat} {t:Nat→Int} (h:Fw l t) {k:Int} (hk:l≤k):abN l t k=0 :=
 cn_none (fun i hi=>by have:=(lv_pos h hi).2;exact decide_eq_false (by omega))
theorem ab_anti {l:Nat} {t:Nat→Int} {k k':Int} (hk:k≤k'):abN l t k'≤abN l t k :=
 cn_mono (fun i hi hp=>by simp only[decide_eq_true_eq] at hp ⊢;omega)
theorem can_const {l:Nat} {t:Nat→Int} (h:Fw l t) {T:Nat} {hh:Int} (hT:T≤40) (h1:1≤hh):canB l t (fun _=>(T:Int)) hh=true↔∀ k:Nat,k≤T→(abN l t k:Int)≤hh*((T:Int)-k):=by
 rw[can_iff]
 constructor
 · intro hx k hk
   have:=hx (T-k) (by omega)
   rw[cr_const h,show (T:Int)-((T-k:Nat):Int)=k by omega,show ((T-k:Nat):Int)=(T:Int)-k by omega] at this
   exact this
 · intro hx u hu
   rw[cr_const h]
   by_cases c:u≤T
   · have:=hx (T-u) (by omega)
     rw[show ((T-u:Nat):Int)=(T:Int)-u by omega,show (T:Int)-((T:Int)-u)=u by omega] at this
     exact this
   · have h0:=hx 0 (by omega)
     rw[show (((0:Nat)):Int)=0 from rfl,ab_neg h (Int.le_refl 0)] at h0
     rw[ab_neg h (by omega)]
     have:hh*((T:Int)-0)≤hh*(u:Int):=Int.mul_le_mul_of_nonneg_left (by omega) (by omega)
     omega
def moF (l:Nat) (t:Nat→Int) (h:Int):Nat→Int
 | 0=>0
 | j+1=>if 0<abN l t (j:Nat) then max (moF l t h j) ((j:Int)+((abN l t (j:Nat):Int)+h-1).tdiv h) else moF l t h j
theorem ceil_le2 {c:Nat} {h x:Int} (h1:1≤h):((c:Int)+h-1).tdiv h≤x↔(c:Int)≤h*x:=by
 rw[Int.tdiv_eq_ediv_of_nonneg (by omega)]
 constructor
 · intro hx
   have e1:=Int.mul_ediv_add_emod ((c:Int)+h-1) h
   have e2:=Int.emod_lt_of_pos ((c:Int)+h-1) (show (0:Int)<h by omega)
   have e3:h*(((c:Int)+h-1) / h)≤h*x:=Int.mul_le_mul_of_nonneg_left hx (by omega)
   omega
 · intro hx
   refine Int.le_of_lt_add_one (Int.ediv_lt_of_lt_mul (by omega) ?_)
   rw[Int.add_mul,Int.one_mul,Int.mul_comm x];omega
theorem mo_le {l:Nat} {t:Nat→Int} {h:Int} (h1:1≤h) (x:Int):∀ j,moF l t h j≤x↔0≤x∧∀ k:Nat,k<j→0<abN l t (k:Nat)→(abN l t (k:Nat):Int)≤h*(x-k)
 | 0=>⟨fun e=>⟨e,fun k hk=>by omega⟩,fun e=>e.1⟩
 | j + 1=>by
   have ih:=mo_le (l:=l) (t:=t) h1 x j
   unfold moF
   by_cases c:0<abN l t (j:Nat)
   · rw[if_pos c,Int.max_le,ih]
     have hc:=ceil_le2 (c:=abN l t (j:Nat)) (x:=x-j) h1
     constructor
     · rintro ⟨⟨a,b⟩,e⟩
       refine ⟨a,fun k hk hp=>?_⟩
       by_cases ek:k=j
       · subst ek;exact hc.1 (by omega)
       · exact b k (by omega) hp
     · rintro ⟨a,b⟩
       refine ⟨⟨a,fun k hk hp=>b k (by omega) hp⟩,?_⟩
       have:=hc.2 (b j (by omega) c)
       omega
   · rw[if_neg c,ih]
     constructor
     · rintro ⟨a,b⟩
       refine ⟨a,fun k hk hp=>?_⟩
       by_cases ek:k=j
       · subst ek;exact absurd hp c
       · exact b k (by omega) hp
     · rintro ⟨a,b⟩;exact ⟨a,fun k hk hp=>b k (by omega) hp⟩
theorem can_mo {l:Nat} {t:Nat→Int} (h:Fw l t) {T:Nat} {hh:Int} (hT:T≤40) (h1:1≤hh):canB l t (fun _=>(T:Int)) hh=true↔moF l t hh l≤T:=by
 rw[can_const h hT h1,mo_le h1]
 constructor
 · intro hx
   refine ⟨by omega,fun k hk hp=>?_⟩
   by_cases c:k≤T
   · exact hx k c
   · have h2:=hx T (Nat.le_refl _)
     rw[Int.sub_self,Int.mul_zero] at h2
     have:=ab_anti (l:=l) (t:=t) (show (T:Int)≤(k:Int) by omega)
     omega
 · rintro ⟨_,hx⟩ k hk
   have hn:0≤hh*((T:Int)-k):=Int.mul_nonneg (by omega) (by omega)
   by_cases c:0<abN l t (k:Nat)
   · by_cases ck:k<l
     · exact hx k ck c
     · rw[ab_big h (show (l:Int)≤(k:Int) by omega)] at c;omega
   · omega
theorem lv_stp {l:Nat} {t:Nat→Int} (h:Fw l t) {i:Nat} (hi:i<l):∀ m,m<lvN l t i→0≤stp t m (i:Int)∧lvN l t (stp t m (i:Int)).toNat=lvN l t i-m:=by
 intro m hm
 obtain ⟨a,b,c⟩:=cyc_lv h.cyc i hi
 have h0:=b m hm
 have hlt:=stp_lt h.tl (show (i:Int)<l by omega) m
 refine ⟨h0,?_⟩
 have hx:(stp t m (i:Int)).toNat<l:=by omega
 obtain ⟨a2,b2,c2⟩:=cyc_lv h.cyc _ hx
 have comp:∀ q,stp t q ((stp t m (i:Int)).toNat:Int)=stp t (m+q) (i:Int):=by
  intro q
  induction q with
  | zero=>show (((stp t m (i:Int)).toNat:Nat):Int)=stp t m (i:Int);omega
  | succ q ih =>
    show (if 0≤stp t q ((stp t m (i:Int)).toNat:Int) then t (stp t q ((stp t m (i:Int)).toNat:Int)).toNat else stp t q ((stp t m (i:Int)).toNat:Int))=(if 0≤stp t (m+q) (i:Int) then t (stp t (m+q) (i:Int)).toNat else stp t (m+q) (i:Int))
    rw[ih]
 generalize lvN l t (stp t m (i:Int)).toNat=N at *
 rcases Nat.lt_trichotomy N (lvN l t i-m) with e | e | e
 · rw[comp] at c2
   have:=b (m+N) (by omega)
   omega
 · exact e
 · have:=b2 (lvN l t i-m) e
   rw[comp,show m+(lvN l t i-m)=lvN l t i by omega] at this
   omega
theorem cn_two (p q:Nat→Bool) (h:∀ j,p j=true→q j=true→False):∀ n,cn p n+cn q n≤n
 | 0=>Nat.le_refl _
 | n+1=>by
   have ih:=cn_two p q h n
   show cn p n+(p n).toNat+(cn q n+(q n).toNat)≤n+1
   cases e1:p n<;>cases e2:q n
   · simp;omega
   · simp;omega
   · simp;omega
   · exact (h n e1 e2).elim
theorem cn_inj {p:Nat→Bool} {n:Nat} (f:Nat→Nat):∀ (m:Nat),(∀ j,j<m→f j<n∧p (f j)=true)→(∀ i j,i<m→j<m→f i=f j→i=j)→m≤cn p n:=by
 intro m h1 h2
 induction m generalizing p with
 | zero=>omega
 | succ m ih =>
   have:=ih (p:=fun x=>if x=f m then false else p x) (fun j hj=>by
    obtain ⟨a,b⟩:=h1 j (by omega)
    refine ⟨a,?_⟩
    have:f j≠f m:=fun e=>by have:=h2 j m (by omega) (by omega) e;omega
    rw[if_neg this];exact b) (fun i j hi hj e=>h2 i j (by omega) (by omega) e)
   obtain ⟨a,b⟩:=h1 m (by omega)
   have h3:=cn_set (p:=fun x=>if x=f m then false else p x) (q:=p) (i:=f m) (n:=n) (by simp) b (fun j _ hne=>by simp[hne]) a
   omega
theorem ab_room {l:Nat} {t:Nat→Int} (h:Fw l t) (v:Nat) (hp:0<abN l t (v:Nat)):abN l t (v:Nat)+v≤l:=by
 obtain ⟨i,hi,e⟩:=cn_pos hp
 simp only[decide_eq_true_eq] at e
 have h2:v≤cn (fun x=>decide ((lvN l t x:Int)≤v)) l:=by
  refine cn_inj (fun j=>(stp t (lvN l t i-1-j) (i:Int)).toNat) v (fun j hj=>?_) (fun a b ha hb e2=>?_)
  · obtain ⟨x1,x2⟩:=lv_stp h hi (lvN l t i-1-j) (by omega)
    have hlt:=stp_lt h.tl (show (i:Int)<l by omega) (lvN l t i-1-j)
    refine ⟨by omega,?_⟩
    rw[decide_eq_true_eq,x2];omega
  · obtain ⟨_,x2⟩:=lv_stp h hi (lvN l t i-1-a) (by omega)
    obtain ⟨_,y2⟩:=lv_stp h hi (lvN l t i-1-b) (by omega)
    try dsimp only at e2
    rw[e2,y2] at x2;omega
 have h3:=cn_two (fun i=>decide ((v:Int)<(lvN l t i:Nat))) (fun x=>decide ((lvN l t x:Int)≤v)) (fun j a b=>by simp only[decide_eq_true_eq] at a b;omega) l
 have:abN l t (v:Nat)=cn (fun i=>decide ((v:Int)<(lvN l t i:Nat))) l:=rfl
 omega
theorem mo_bd {l:Nat} {t:Nat→Int} (h:Fw l t) (h0:1≤l) {hh:Int} (h1:1≤hh):1≤moF l t hh l∧moF l t hh l≤40:=by
 have hl:=h.l30
 constructor
 · apply Classical.byContradiction
   intro hc
   have:=(mo_le (l:=l) (t:=t) h1 0 l).1 (by omega)
   have h2:=this.2 0 (by omega) (by rw[show (((0:Nat)):Int)=0 from rfl,ab_neg h (Int.le_refl 0)];omega)
   rw[show (((0:Nat)):Int)=0 from rfl,ab_neg h (Int.le_refl 0),Int.sub_self,Int.mul_zero] at h2
   omega
 · refine (mo_le h1 40 l).2 ⟨by omega,fun k hk hp=>?_⟩
   have:=ab_room h k hp
   have e:1*((40:Int)-k)≤hh*(40-k):=Int.mul_le_mul_of_nonneg_right h1 (by omega)
   omega
theorem tr_const {l:Nat} {t:Nat→Int} (h:Fw l t) (h0:1≤l) {hh:Int} (h1:1≤hh) {d:Nat→Int} (hd:∀ j,j<l→d j=40):canB l t d hh=true∧((trV l t d hh:Nat):Int)=moF l t hh l:=by
 obtain ⟨b1,b2⟩:=mo_bd h h0 h1
 have e40:canB l t d hh=true:=by
  rw[can_congr h (e':=fun _=>((40:Nat):Int)) (fun j hj=>by rw[hd j hj];rfl),can_mo h (by omega) h1];omega
 refine ⟨e40,?_⟩
 have key:∀ T:Nat,1≤T→T<40→canB l t (fun i=>min (d i) (T:Nat)) hh=decide (moF l t hh l≤T):=fun T t1 t2=>by
  rw[can_congr h (e':=fun _=>(T:Int)) (fun j hj=>by show min (d j) (T:Int)=T;rw[hd j hj];omega)]
  have:=can_mo h (T:=T) (hh:=hh) (by omega) h1
  cases c:canB l t (fun _=>(T:Int)) hh with
  | true=>rw[decide_eq_true (this.1 c)]
  | false=>rw[decide_eq_false (fun x=>by have:=this.2 x;rw[c] at this;cases this)]
 unfold trV
 rw[lea_congr (q:=fun T=>decide (moF l t hh l≤(T:Nat))) key]
 generalize moF l t hh l=M at *
 by_cases c:M<40
 · have hm:M.toNat-1<39:=by omega
   have ht:decide (M≤((M.toNat-1+1:Nat):Int))=true:=decide_eq_true (by omega)
   have hf:∀ i,i<M.toNat-1→decide (M≤((i+1:Nat):Int))=false:=fun i hi=>decide_eq_false (by omega)
   rw[(lea_of (p:=fun T:Nat=>decide (M≤(T:Int)))).1 ((exN_iff _ _).2 ⟨_,hm,ht⟩),fN_is (p:=fun j:Nat=>decide (M≤((j+1:Nat):Int))) hm ht hf]
   omega
 · rw[(lea_of (p:=fun T:Nat=>decide (M≤(T:Int)))).2 (exN_no (fun j hj=>decide_eq_false (by omega)))]
   omega
end Go.Eng
end
section
namespace Go.Eng
open Go.Proofs
set_option linter.unusedVariables false
set_option linter.unusedSimpArgs false
set_option maxRecDepth 100000
section
variable (n l k:Nat) (t d:Nat→Int) (H:Heap) (h:Int)
end
end Go.Eng
end
section
namespace Go.Eng
open Go.Proofs
set_option linter.unusedVariables false
set_option linter.unusedSimpArgs false
set_option maxRecDepth 100000
section
variable (n l k:Nat) (t d:Nat→Int) (H:Heap) (h c:Int)
end
end Go.Eng
end
