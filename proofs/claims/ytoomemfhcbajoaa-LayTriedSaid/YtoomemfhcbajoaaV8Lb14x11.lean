/- Lay: other Dues, by a closure. -/
import Derived.Test.YtoomemfhcbajoaaV8Lb10x4
set_option linter.unusedVariables false
set_option linter.unusedSimpArgs false
set_option maxRecDepth 100000
section
namespace Go.Eng
open Go.Proofs
noncomputable def gD (P:Int→Int→Int) (Q:List AV→aa→Prop) (args:List AV) (H:aa):Tr (AV×aa) :=
 match args with
 | .int .i64 i::.int .i64 e::C=>.reqP (Q C H) (.ok (.int .i64 (P i e),H))
 | _=>.bad
noncomputable def IN (f:FuncId) (P:Int→Int→Int) (Q:List AV→aa→Prop):pf:=jb aQ f (gD P Q)
noncomputable def lu (F:AV) (o:AV) (k:Nat) (d:Nat→Int) (j:Int):aq:=[(1,F),(5,o),(12,dc k d false),(13,.int .i64 (Int.ofNat k)),(14,.int .i64 j)]
theorem LA (n k:Nat) (d:Nat→Int) (P:Int→Int→Int) (Q:List AV→aa→Prop) (H:aa) (j:Int):aN (bA n 74 28) (il (IN 87 P Q) n 0) aT aU (part Try.f74 [1,1,0,1,0,0]) (hints (lu (.fn (.func 87) [] [.ptr 1 0 0 0]) .nils k d j)) (aG::H) =
 Tr.ite (cF j (Int.ofNat k)) (Tr.req (dJ j k) (Tr.req (dg (aA 0 j 1) k) (Tr.reqP (Q [AV.ptr 1 0 0 0] (aG::H)) (Tr.req (j8 0 1 8) (Tr.req (cT 0 0) (Tr.req (jz 1 1) (Tr.ok (Ex.normal,[(1,AV.fn (Fn.func 87) [] [AV.ptr 1 0 0 0],none),(5,AV.slc 0 1 0 0 1 1 none,none),(12,AV.slcT none (Row.M [ah.arr .i64 d k]) 1 k false,none),(13,AV.int .i64 (Int.ofNat k),none),(14,AV.int .i64 (bf .i64 j (Int.ofNat 1)),none)],{ lock:=false,bs:=[(0,ak.row (Row.I .i64 [P j (d (aA 0 j 1))])),(0,ak.row (Row.M [ah.arr .i64 (aK [P j (d (aA 0 j 1))]) 1]))] } :: H)))))))) (Tr.ok (Ex.exit 0,[(1,AV.fn (Fn.func 87) [] [AV.ptr 1 0 0 0],none),(5,AV.nils,none),(12,AV.slcT none (Row.M [ah.arr .i64 d k]) 1 k false,none),(13,AV.int .i64 (Int.ofNat k),none),(14,AV.int .i64 j,none),(15,AV.bool false,some 1)],aG::H)):=by kernel_rfl
theorem H6 (n k:Nat) (d:Nat→Int) (v m:Nat) (y:Nat→Int) (P:Int→Int→Int) (Q:List AV→aa→Prop) (H:aa) (j:Int):aN (bA n 74 28) (il (IN 87 P Q) n 0) aT aU (part Try.f74 [1,1,0,1,0,0]) (hints (lu (.fn (.func 87) [] [.ptr 1 0 0 0]) (.slc 0 0 v 0 1 m none) k d j)) (GK v m y::H) =
 Tr.ite (cF j (Int.ofNat k)) (Tr.req (dJ j k) (Tr.req (dg (aA 0 j 1) k) (Tr.reqP (Q [AV.ptr 1 0 0 0] ({ lock:=false,bs:=[(v,ak.row (Row.M [ah.arr .i64 y m]))] } :: H)) (Tr.req (j8 m 1 8) (Tr.req (cT 0 0) (Tr.req (jz 1 1) (Tr.req (cT v v) (Tr.req (cT (cM 0 m) m) (Tr.ok (Ex.normal,[(1,AV.fn (Fn.func 87) [] [AV.ptr 1 0 0 0],none),(5,AV.slc 0 0 (Nat.succ v) 0 1 (cM m 1) none,none),(12,AV.slcT none (Row.M [ah.arr .i64 d k]) 1 k false,none),(13,AV.int .i64 (Int.ofNat k),none),(14,AV.int .i64 (bf .i64 j (Int.ofNat 1)),none)],{ lock:=false,bs:=[(Nat.succ v,ak.row (Row.M [ah.arr .i64 (w8 (ep y 0) m (aK [P j (d (aA 0 j 1))])) (cM m 1)])),(0,ak.row (Row.I .i64 [P j (d (aA 0 j 1))]))] } :: H)))))))))) (Tr.ok (Ex.exit 0,[(1,AV.fn (Fn.func 87) [] [AV.ptr 1 0 0 0],none),(5,AV.slc 0 0 v 0 1 m none,none),(12,AV.slcT none (Row.M [ah.arr .i64 d k]) 1 k false,none),(13,AV.int .i64 (Int.ofNat k),none),(14,AV.int .i64 j,none),(15,AV.bool false,some 1)],{ lock:=false,bs:=[(v,ak.row (Row.M [ah.arr .i64 y m]))] } :: H)):=by kernel_rfl
theorem On (n s l k q:Nat) (t d e y:Nat→Int) (H:aa):bz Try.prog (cd n) 100000 74 Try.f74 (KtL.kt 74) (il aQ n 0) (dp aT 0 (lu (.fn (.func 87) [] [.ptr 1 0 0 0]) .nils k d 0) (aG::H) (.ok (.normal,hints (lu (.fn (.func 87) [] [.ptr 1 0 0 0]) (.slc 0 0 q 0 1 (q+1) none) k d (Int.ofNat k)++[(15,.bool false)]),GK q (q+1) y::H))) aU [(dK s l t k d e,none),((.fn (.func 87) [] [.ptr 0 0 0 0]),none)] H =
 (fun (Z0:aq)=>Tr.reqP (Z0=Z0∧aG::H=aG::H) (Tr.req (cT q q) (Tr.req (kH 0 (Nat.succ q) 0 (Nat.succ q)) (Tr.ok ((AV.slcT none (Row.M [ah.arr .i64 (ep y 0) (Nat.succ q)]) 1 (Nat.succ q) false,none),H))))) [(1,AV.fn (Fn.func 87) [] [AV.ptr 1 0 0 0]),(5,AV.nils),(12,AV.slcT none (Row.M [ah.arr .i64 d k]) 1 k false),(13,AV.int .i64 (Int.ofNat k)),(14,AV.int .i64 (Int.ofNat 0))]:=by kernel_rfl
theorem LB (n k:Nat) (c:Nat) (d:Nat→Int) (P:Int→Int→Int) (Q:List AV→aa→Prop) (H:aa) (j:Int):aN (bA n 74 28) (il (IN 88 P Q) n 0) aT aU (part Try.f74 [1,1,0,1,0,0]) (hints (lu (.fn (.func 88) [] [.ptr 1 c 0 0]) .nils k d j)) (aG::H) =
 Tr.ite (cF j (Int.ofNat k)) (Tr.req (dJ j k) (Tr.req (dg (aA 0 j 1) k) (Tr.reqP (Q [AV.ptr 1 c 0 0] (aG::H)) (Tr.req (j8 0 1 8) (Tr.req (cT 0 0) (Tr.req (jz 1 1) (Tr.ok (Ex.normal,[(1,AV.fn (Fn.func 88) [] [AV.ptr 1 c 0 0],none),(5,AV.slc 0 1 0 0 1 1 none,none),(12,AV.slcT none (Row.M [ah.arr .i64 d k]) 1 k false,none),(13,AV.int .i64 (Int.ofNat k),none),(14,AV.int .i64 (bf .i64 j (Int.ofNat 1)),none)],{ lock:=false,bs:=[(0,ak.row (Row.I .i64 [P j (d (aA 0 j 1))])),(0,ak.row (Row.M [ah.arr .i64 (aK [P j (d (aA 0 j 1))]) 1]))] } :: H)))))))) (Tr.ok (Ex.exit 0,[(1,AV.fn (Fn.func 88) [] [AV.ptr 1 c 0 0],none),(5,AV.nils,none),(12,AV.slcT none (Row.M [ah.arr .i64 d k]) 1 k false,none),(13,AV.int .i64 (Int.ofNat k),none),(14,AV.int .i64 j,none),(15,AV.bool false,some 1)],aG::H)):=by kernel_rfl
theorem H7 (n k:Nat) (c:Nat) (d:Nat→Int) (v m:Nat) (y:Nat→Int) (P:Int→Int→Int) (Q:List AV→aa→Prop) (H:aa) (j:Int):aN (bA n 74 28) (il (IN 88 P Q) n 0) aT aU (part Try.f74 [1,1,0,1,0,0]) (hints (lu (.fn (.func 88) [] [.ptr 1 c 0 0]) (.slc 0 0 v 0 1 m none) k d j)) (GK v m y::H) =
 Tr.ite (cF j (Int.ofNat k)) (Tr.req (dJ j k) (Tr.req (dg (aA 0 j 1) k) (Tr.reqP (Q [AV.ptr 1 c 0 0] ({ lock:=false,bs:=[(v,ak.row (Row.M [ah.arr .i64 y m]))] } :: H)) (Tr.req (j8 m 1 8) (Tr.req (cT 0 0) (Tr.req (jz 1 1) (Tr.req (cT v v) (Tr.req (cT (cM 0 m) m) (Tr.ok (Ex.normal,[(1,AV.fn (Fn.func 88) [] [AV.ptr 1 c 0 0],none),(5,AV.slc 0 0 (Nat.succ v) 0 1 (cM m 1) none,none),(12,AV.slcT none (Row.M [ah.arr .i64 d k]) 1 k false,none),(13,AV.int .i64 (Int.ofNat k),none),(14,AV.int .i64 (bf .i64 j (Int.ofNat 1)),none)],{ lock:=false,bs:=[(Nat.succ v,ak.row (Row.M [ah.arr .i64 (w8 (ep y 0) m (aK [P j (d (aA 0 j 1))])) (cM m 1)])),(0,ak.row (Row.I .i64 [P j (d (aA 0 j 1))]))] } :: H)))))))))) (Tr.ok (Ex.exit 0,[(1,AV.fn (Fn.func 88) [] [AV.ptr 1 c 0 0],none),(5,AV.slc 0 0 v 0 1 m none,none),(12,AV.slcT none (Row.M [ah.arr .i64 d k]) 1 k false,none),(13,AV.int .i64 (Int.ofNat k),none),(14,AV.int .i64 j,none),(15,AV.bool false,some 1)],{ lock:=false,bs:=[(v,ak.row (Row.M [ah.arr .i64 y m]))] } :: H)):=by kernel_rfl
theorem Oo (n s l k q:Nat) (c:Nat) (t d e y:Nat→Int) (H:aa):bz Try.prog (cd n) 100000 74 Try.f74 (KtL.kt 74) (il aQ n 0) (dp aT 0 (lu (.fn (.func 88) [] [.ptr 1 c 0 0]) .nils k d 0) (aG::H) (.ok (.normal,hints (lu (.fn (.func 88) [] [.ptr 1 c 0 0]) (.slc 0 0 q 0 1 (q+1) none) k d (Int.ofNat k)++[(15,.bool false)]),GK q (q+1) y::H))) aU [(dK s l t k d e,none),((.fn (.func 88) [] [.ptr 0 c 0 0]),none)] H =
 (fun (Z0:aq)=>Tr.reqP (Z0=Z0∧aG::H=aG::H) (Tr.req (cT q q) (Tr.req (kH 0 (Nat.succ q) 0 (Nat.succ q)) (Tr.ok ((AV.slcT none (Row.M [ah.arr .i64 (ep y 0) (Nat.succ q)]) 1 (Nat.succ q) false,none),H))))) [(1,AV.fn (Fn.func 88) [] [AV.ptr 1 c 0 0]),(5,AV.nils),(12,AV.slcT none (Row.M [ah.arr .i64 d k]) 1 k false),(13,AV.int .i64 (Int.ofNat k)),(14,AV.int .i64 (Int.ofNat 0))]:=by kernel_rfl
theorem OL:∀ b,(0,b) ∈ aM (bR Try.f74)→b=.loop (part Try.f74 [1,1,0,1,0,0]):=g7 (by kernel_rfl)
theorem Ea {k:Nat} {f:FuncId} {P:Int→Int→Int} {Q:List AV→aa→Prop} (h:∀ i e C H,Q C H→cd k (.fn f) (.int .i64 i::.int .i64 e::C) H=some (.int .i64 (P i e),H)):(IN f P Q).Ok (cd k):=by
 refine jG (aX _) (fun args H x hx=>?_)
 unfold gD at hx
 split at hx
 · obtain ⟨h1,h2⟩:=Tr.cY hx
   rw[h _ _ _ _ h1,← Tr.ab h2]
 · exact (Tr.ae hx).elim
noncomputable def L5:Nat→AV
 | 0=>.nils
 | q+1=>.slc 0 0 q 0 1 (q+1) none
noncomputable def GJ (z:Nat→Int):Nat→aV
 | 0=>aG
 | q+1=>GK q (q+1) (aK (kz z (q+1)))
section
variable (n s l k:Nat) (t d e:Nat→Int) (P:Int→Int→Int) (H:aa)
end
section
variable (n s l k:Nat) (c:Nat) (t d e:Nat→Int) (P:Int→Int→Int) (H:aa)
end
section
variable (n s l k:Nat) (c:Nat) (t d e:Nat→Int) (P:Int→Int→Int) (H:aa)
end
section
variable (n s l k:Nat) (t d e:Nat→Int) (P:Int→Int→Int) (H:aa)
theorem Np (h0:0<k) (hk:k≤1000) (hP:∀ i e L,cd n (.fn 87) (.int .i64 i::.int .i64 e::[.ptr 1 0 0 0]) (L::H)=some (.int .i64 (P i e),L::H)):exec (bA n 74 28) (.block 0 (.loop (part Try.f74 [1,1,0,1,0,0]))) (lu (.fn (.func 87) [] [.ptr 1 0 0 0]) .nils k d 0) (aG::H)=some (.normal,lu (.fn (.func 87) [] [.ptr 1 0 0 0]) (L5 k) k d (Int.ofNat k)++[(15,.bool false)],GJ (fun i=>P (i:Nat) (d i)) k::H):=by
 have hC:(IN 87 P (fun C G=>C=[.ptr 1 0 0 0]∧∃ L,G=L::H)).Ok (cd n):=Ea (fun i e C G hq=>by
  obtain ⟨rfl,L,rfl⟩:=hq
  exact hP i e L)
 refine ot (n:=n) (f:=74) (nt:=28) (c:=part Try.f74 [1,1,0,1,0,0]) 0 (fun j=>lu (.fn (.func 87) [] [.ptr 1 0 0 0]) (L5 j) k d (j:Nat)) (fun j=>GJ (fun i=>P (i:Nat) (d i)) j::H) k _ (by omega) (fun j hj=>?_) ?_
 · cases j with
   | zero =>
     refine aO (LA n k d P (fun C G=>C=[.ptr 1 0 0 0]∧∃ L,G=L::H) H (0:Nat)) (bj _ n hC) (af _ _) (ag _ _) ?_
     show Tr.all _ (fun x=>_∧tidy _ _ _=(lu (.fn (.func 87) [] [.ptr 1 0 0 0]) (.slc 0 0 0 0 1 1 none) k d ((0+1:Nat):Int),GK 0 1 (aK [P (0:Nat) (d 0)])::H))
     rw[ft (j:=0) (by omega)]
     simp only[nj]
     generalize P (0:Nat) (d 0)=W at *
     repeat' first | (refine Tr.bn (fun hc=>?_) (fun hc=>?_)<;>(try simp (disch:=omega) only[nV,nW] at hc)<;>try omega) | (refine Tr.cj ?_ ?_;· (try simp (disch:=omega) only[nV,nW]);try omega) | (refine Tr.bg ?_ ?_;· first | exact trivial | rfl | exact ⟨rfl,rfl⟩ | exact ⟨rfl,rfl,rfl⟩ | (simp (disch:=omega) only[nV,nW];done) | ((try simp (disch:=omega) only[nV,nW]);omega)) | fail
     all_goals first
      | exact ⟨rfl,_,rfl⟩
      | (refine Tr.bg ⟨(by first | rfl | trivial),_,rfl⟩ ?_
         exact wF)
      | fail
   | succ j =>
     refine aO (H6 n k d j (j+1) (aK (kz (fun i=>P (i:Nat) (d i)) (j+1))) P (fun C G=>C=[.ptr 1 0 0 0]∧∃ L,G=L::H) H (j+1:Nat)) (bj _ n hC) (af _ _) (ag _ _) ?_
     show Tr.all _ (fun x=>_∧tidy _ _ _=(lu (.fn (.func 87) [] [.ptr 1 0 0 0]) (.slc 0 0 (j+1) 0 1 (j+1+1) none) k d ((j+1+1:Nat):Int),GK (j+1) (j+1+1) (aK (kz (fun i=>P (i:Nat) (d i)) (j+1+1)))::H))
     have hap:=A9 (fun i=>P (i:Nat) (d i)) (j+1)
     have ea:cM (j+1) 1=j+1+1:=bK _ _
     rw[ft (j:=j+1) (by omega)]
     simp only[nj,hap,ea]
     generalize aK (kz (fun i=>P (i:Nat) (d i)) (j+1+1))=Y2 at *
     generalize aK (kz (fun i=>P (i:Nat) (d i)) (j+1))=Y at *
     repeat' first | (refine Tr.bn (fun hc=>?_) (fun hc=>?_)<;>(try simp (disch:=omega) only[nV,nW] at hc)<;>try omega) | (refine Tr.cj ?_ ?_;· (try simp (disch:=omega) only[nV,nW]);try omega) | (refine Tr.bg ?_ ?_;· first | exact trivial | rfl | exact ⟨rfl,rfl⟩ | exact ⟨rfl,rfl,rfl⟩ | (simp (disch:=omega) only[nV,nW];done) | ((try simp (disch:=omega) only[nV,nW]);omega)) | fail
     all_goals first
      | exact ⟨rfl,_,rfl⟩
      | (refine Tr.bg ⟨(by first | rfl | trivial),_,rfl⟩ ?_
         exact wF)
      | fail
 · obtain ⟨q,rfl⟩:∃ q,k=q+1:=⟨k-1,by omega⟩
   exact hJ (H6 n (q+1) d q (q+1) (aK (kz (fun i=>P (i:Nat) (d i)) (q+1))) P (fun C G=>C=[.ptr 1 0 0 0]∧∃ L,G=L::H) H (Int.ofNat (q+1))) (bj _ n hC) (af _ _) (ag _ _) (by first | (simp (disch:=omega) only[nV,nW];done) | (simp (disch:=omega) only[nV,nW];omega))
theorem Mt (h0:0<k) (hk:k≤1000) (hP:∀ i e L,cd n (.fn 87) (.int .i64 i::.int .i64 e::[.ptr 1 0 0 0]) (L::H)=some (.int .i64 (P i e),L::H)):cd (n+1) (.fn 74) [dK s l t k d e,(.fn (.func 87) [] [.ptr 0 0 0 0])] H=some (dc k (aK (kz (fun i=>P (i:Nat) (d i)) k)) false,H):=by
 have hx:=Np n k d P H h0 hk hP
 obtain ⟨q,rfl⟩:∃ q,k=q+1:=⟨k-1,by omega⟩
 refine aR (n:=n) Try.func74 rfl rfl rfl (On n s l (q+1) q t d e (aK (kz (fun i=>P (i:Nat) (d i)) (q+1))) H) (aB _) (aW (af _ _) OL (fun x hy=>cG hy hx)) (ag _ _) ?_
 rw[gi]
 generalize aK (kz (fun i=>P (i:Nat) (d i)) (q+1))=Y at *
 exact wF
end
section
variable (n s l k:Nat) (c:Nat) (t d e:Nat→Int) (P:Int→Int→Int) (H:aa)
theorem Nq (h0:0<k) (hk:k≤1000) (hP:∀ i e L,cd n (.fn 88) (.int .i64 i::.int .i64 e::[.ptr 1 c 0 0]) (L::H)=some (.int .i64 (P i e),L::H)):exec (bA n 74 28) (.block 0 (.loop (part Try.f74 [1,1,0,1,0,0]))) (lu (.fn (.func 88) [] [.ptr 1 c 0 0]) .nils k d 0) (aG::H)=some (.normal,lu (.fn (.func 88) [] [.ptr 1 c 0 0]) (L5 k) k d (Int.ofNat k)++[(15,.bool false)],GJ (fun i=>P (i:Nat) (d i)) k::H):=by
 have hC:(IN 88 P (fun C G=>C=[.ptr 1 c 0 0]∧∃ L,G=L::H)).Ok (cd n):=Ea (fun i e C G hq=>by
  obtain ⟨rfl,L,rfl⟩:=hq
  exact hP i e L)
 refine ot (n:=n) (f:=74) (nt:=28) (c:=part Try.f74 [1,1,0,1,0,0]) 0 (fun j=>lu (.fn (.func 88) [] [.ptr 1 c 0 0]) (L5 j) k d (j:Nat)) (fun j=>GJ (fun i=>P (i:Nat) (d i)) j::H) k _ (by omega) (fun j hj=>?_) ?_
 · cases j with
   | zero =>
     refine aO (LB n k c d P (fun C G=>C=[.ptr 1 c 0 0]∧∃ L,G=L::H) H (0:Nat)) (bj _ n hC) (af _ _) (ag _ _) ?_
     show Tr.all _ (fun x=>_∧tidy _ _ _=(lu (.fn (.func 88) [] [.ptr 1 c 0 0]) (.slc 0 0 0 0 1 1 none) k d ((0+1:Nat):Int),GK 0 1 (aK [P (0:Nat) (d 0)])::H))
     rw[ft (j:=0) (by omega)]
     simp only[nj]
     generalize P (0:Nat) (d 0)=W at *
     repeat' first | (refine Tr.bn (fun hc=>?_) (fun hc=>?_)<;>(try simp (disch:=omega) only[nV,nW] at hc)<;>try omega) | (refine Tr.cj ?_ ?_;· (try simp (disch:=omega) only[nV,nW]);try omega) | (refine Tr.bg ?_ ?_;· first | exact trivial | rfl | exact ⟨rfl,rfl⟩ | exact ⟨rfl,rfl,rfl⟩ | (simp (disch:=omega) only[nV,nW];done) | ((try simp (disch:=omega) only[nV,nW]);omega)) | fail
     all_goals first
      | exact ⟨rfl,_,rfl⟩
      | (refine Tr.bg ⟨(by first | rfl | trivial),_,rfl⟩ ?_
         exact wF)
      | fail
   | succ j =>
     refine aO (H7 n k c d j (j+1) (aK (kz (fun i=>P (i:Nat) (d i)) (j+1))) P (fun C G=>C=[.ptr 1 c 0 0]∧∃ L,G=L::H) H (j+1:Nat)) (bj _ n hC) (af _ _) (ag _ _) ?_
     show Tr.all _ (fun x=>_∧tidy _ _ _=(lu (.fn (.func 88) [] [.ptr 1 c 0 0]) (.slc 0 0 (j+1) 0 1 (j+1+1) none) k d ((j+1+1:Nat):Int),GK (j+1) (j+1+1) (aK (kz (fun i=>P (i:Nat) (d i)) (j+1+1)))::H))
     have hap:=A9 (fun i=>P (i:Nat) (d i)) (j+1)
     have ea:cM (j+1) 1=j+1+1:=bK _ _
     rw[ft (j:=j+1) (by omega)]
     simp only[nj,hap,ea]
     generalize aK (kz (fun i=>P (i:Nat) (d i)) (j+1+1))=Y2 at *
     generalize aK (kz (fun i=>P (i:Nat) (d i)) (j+1))=Y at *
     repeat' first | (refine Tr.bn (fun hc=>?_) (fun hc=>?_)<;>(try simp (disch:=omega) only[nV,nW] at hc)<;>try omega) | (refine Tr.cj ?_ ?_;· (try simp (disch:=omega) only[nV,nW]);try omega) | (refine Tr.bg ?_ ?_;· first | exact trivial | rfl | exact ⟨rfl,rfl⟩ | exact ⟨rfl,rfl,rfl⟩ | (simp (disch:=omega) only[nV,nW];done) | ((try simp (disch:=omega) only[nV,nW]);omega)) | fail
     all_goals first
      | exact ⟨rfl,_,rfl⟩
      | (refine Tr.bg ⟨(by first | rfl | trivial),_,rfl⟩ ?_
         exact wF)
      | fail
 · obtain ⟨q,rfl⟩:∃ q,k=q+1:=⟨k-1,by omega⟩
   exact hJ (H7 n (q+1) c d q (q+1) (aK (kz (fun i=>P (i:Nat) (d i)) (q+1))) P (fun C G=>C=[.ptr 1 c 0 0]∧∃ L,G=L::H) H (Int.ofNat (q+1))) (bj _ n hC) (af _ _) (ag _ _) (by first | (simp (disch:=omega) only[nV,nW];done) | (simp (disch:=omega) only[nV,nW];omega))
theorem Mv (h0:0<k) (hk:k≤1000) (hP:∀ i e L,cd n (.fn 88) (.int .i64 i::.int .i64 e::[.ptr 1 c 0 0]) (L::H)=some (.int .i64 (P i e),L::H)):cd (n+1) (.fn 74) [dK s l t k d e,(.fn (.func 88) [] [.ptr 0 c 0 0])] H=some (dc k (aK (kz (fun i=>P (i:Nat) (d i)) k)) false,H):=by
 have hx:=Nq n k c d P H h0 hk hP
 obtain ⟨q,rfl⟩:∃ q,k=q+1:=⟨k-1,by omega⟩
 refine aR (n:=n) Try.func74 rfl rfl rfl (Oo n s l (q+1) q c t d e (aK (kz (fun i=>P (i:Nat) (d i)) (q+1))) H) (aB _) (aW (af _ _) OL (fun x hy=>cG hy hx)) (ag _ _) ?_
 rw[gi]
 generalize aK (kz (fun i=>P (i:Nat) (d i)) (q+1))=Y at *
 exact wF
end
end Go.Eng
end
section
namespace Go.Eng
open Go.Proofs
noncomputable def CT (s l:Nat) (t:Nat→Int) (k:Nat) (d g:Nat→Int) (h:Int) (F:AV) (j:Int):aq:=[(0,dK (s+1) l t k d g),(1,.int .i64 h),(2,F),(7,.int .i64 j)]
noncomputable def K7 (T:Int):aV:=⟨false,[(0,.row (.I .i64 [T]))]⟩
theorem RQ (n:Nat) (i e T:Int) (L:aV) (H:aa):bz Try.prog (cd n) 100000 87 Try.f87 (KtL.kt 87) (il aQ n 0) aT aU [(.int .i64 i,none),(.int .i64 e,none),(.ptr 1 0 0 0,none)] (L::K7 T::H) =
 Tr.ok ((AV.int .i64 (yn e T),none),L::{ lock:=false,bs:=[(0,ak.row (Row.I .i64 [T]))] } :: H):=by kernel_rfl
theorem N6 (n s l k:Nat) (c1:Nat) (t d g y:Nat→Int) (H:aa) (h j c:Int):aN (bA n 72 20) (il (tX (A5 aQ 86 (.int .i64 j::[.ptr 1 c1 0 0]) (aG::H) (.ok (dc k y false,aG::H))) 69 [dK (s+1) l t k d g,dc k y false,.int .i64 h] (.int .i64 c)) n 0) aT aU (part Try.f72 [1,0,1,0,0]) (hints (CT s l t k d g h (.fn (.func 86) [] [.ptr 1 c1 0 0]) j)) (aG::H) =
 (fun (Z0:Row)=>((fun (Z1:List AV)=>Tr.ite (cF j (Int.ofNat 40)) (Tr.reqP ([AV.int .i64 j,AV.ptr 1 c1 0 0]=[AV.int .i64 j,AV.ptr 1 c1 0 0]∧aG::H=aG::H) (Tr.reqP (Z1=Z1) (Tr.ite (cF c (Int.ofNat 0)) (Tr.ok (Ex.ret,[(6,AV.int .i64 j,none)],aG::H)) (Tr.ok (Ex.normal,[(0,AV.ptrT (some (Nat.succ s)) Z0 0,none),(1,AV.int .i64 h,none),(2,AV.fn (Fn.func 86) [] [AV.ptr 1 c1 0 0],none),(7,AV.int .i64 (bf .i64 j (Int.ofNat 1)),none)],aG::H))))) (Tr.ok (Ex.exit 0,[(0,AV.ptrT (some (Nat.succ s)) Z0 0,none),(1,AV.int .i64 h,none),(2,AV.fn (Fn.func 86) [] [AV.ptr 1 c1 0 0],none),(7,AV.int .i64 j,none),(9,AV.bool false,some 1)],aG::H))) [AV.ptrT (some (Nat.succ s)) Z0 0,AV.slcT none (Row.M [ah.arr .i64 y k]) 1 k false,AV.int .i64 h])) (Row.M [ah.one (AV.slcT none (Row.M [ah.arr .i64 t l]) 1 l false),ah.one (AV.slcT none (Row.M [ah.arr .i64 d k]) 1 k false),ah.arr .i64 g 30]):=by kernel_rfl
theorem Lz (n s l k:Nat) (c1:Nat) (t d g:Nat→Int) (H:aa) (h j:Int):aN (bA n 72 20) (il (tN aQ 86) n 0) aT aU (part Try.f72 [1,0,1,0,0]) (hints (CT s l t k d g h (.fn (.func 86) [] [.ptr 1 c1 0 0]) j)) (aG::H) =
 Tr.ite (cF j (Int.ofNat 40)) Tr.bad (Tr.ok (Ex.exit 0,[(0,AV.ptrT (some (Nat.succ s)) (Row.M [ah.one (AV.slcT none (Row.M [ah.arr .i64 t l]) 1 l false),ah.one (AV.slcT none (Row.M [ah.arr .i64 d k]) 1 k false),ah.arr .i64 g 30]) 0,none),(1,AV.int .i64 h,none),(2,AV.fn (Fn.func 86) [] [AV.ptr 1 c1 0 0],none),(7,AV.int .i64 j,none),(9,AV.bool false,some 1)],aG::H)):=by kernel_rfl
theorem Om (n s l k:Nat) (c1:Nat) (t d g:Nat→Int) (H:aa) (h r:Int) (B:Bool):bz Try.prog (cd n) 100000 72 Try.f72 (KtL.kt 72) (il aQ n 0) (dp aT 0 (CT s l t k d g h (.fn (.func 86) [] [.ptr 1 c1 0 0]) 1) (aG::H) (.ite B (.ok (.ret,[(6,.int .i64 r,none)],aG::H)) (.ok (.normal,hints (CT s l t k d g h (.fn (.func 86) [] [.ptr 1 c1 0 0]) 40++[(9,.bool false)]),aG::H)))) aU [(dK s l t k d g,none),(.int .i64 h,none),(.fn (.func 86) [] [.ptr 0 c1 0 0],none)] H =
 (fun (Z0:aq)=>Tr.reqP (Z0=Z0∧aG::H=aG::H) (Tr.ite B (Tr.ok ((AV.int .i64 r,none),H)) (Tr.ok ((AV.int .i64 (Int.ofNat 40),some 1),H)))) [(0,AV.ptrT (some (Nat.succ s)) (Row.M [ah.one (AV.slcT none (Row.M [ah.arr .i64 t l]) 1 l false),ah.one (AV.slcT none (Row.M [ah.arr .i64 d k]) 1 k false),ah.arr .i64 g 30]) 0),(1,AV.int .i64 h),(2,AV.fn (Fn.func 86) [] [AV.ptr 1 c1 0 0]),(7,AV.int .i64 (Int.ofNat 1))]:=by kernel_rfl
theorem O3:∀ b,(0,b) ∈ aM (bR Try.f72)→b=.loop (part Try.f72 [1,0,1,0,0]):=g7 (by kernel_rfl)
def oF (p:Nat→Bool):Nat:=if dC (fun j=>p (j+1)) 39=true then fN (fun j=>p (j+1)) 39 0+1 else 40
theorem GB (p:Nat→Bool):1≤oF p∧oF p≤40:=by
 unfold oF
 by_cases c:dC (fun j=>p (j+1)) 39=true
 · rw[if_pos c]
   have:=iH c
   omega
 · rw[if_neg c];omega
section
variable (n:Nat) (H:aa)
theorem Pq (i e T:Int) (L:aV):cd (n+1) (.fn 87) [.int .i64 i,.int .i64 e,.ptr 1 0 0 0] (L::K7 T::H)=some (.int .i64 (min e T),L::K7 T::H):=by
 refine aR (n:=n) Try.func87 rfl rfl rfl (RQ n i e T L H) (aB _) (af _ _) (ag _ _) ?_
 rw[oQ]
 exact wF
variable (l k:Nat) (t d g:Nat→Int)
end
section
variable (n s l k:Nat) (c1:Nat) (t d g:Nat→Int) (H:aa) (h:Int) (W:Nat→Nat→Int)
end
section
variable (n s l k:Nat) (c1 c2:Nat) (t d g:Nat→Int) (H:aa) (h:Int) (W:Nat→Nat→Int)
end
section
variable (n s l k:Nat) (c1:Nat) (t d g:Nat→Int) (H:aa) (h:Int) (W:Nat→Nat→Int)
theorem Ms (hl:l≤30) (hk:k=l) (ht:∀ j,j<l→t j<l) (hc:g9 l t=false) (hW:∀ T,1≤T→T<40→Bd l (W T)) (hh:0≤h∧h≤1000)
 (hF:∀ T,1≤T→T<40→cd (n+4) (.fn 86) (.int .i64 (T:Nat)::[.ptr 1 c1 0 0]) (aG::H)=some (dc k (W T) false,aG::H)) :
 cd (n+5) (.fn 72) [dK s l t k d g,.int .i64 h,.fn (.func 86) [] [.ptr 0 c1 0 0]] H=some (.int .i64 (oF (fun T=>bV l t (W T) h):Nat),H):=by
 have hC:∀ j,j<39→(tX (A5 aQ 86 (.int .i64 ((j+1:Nat):Int)::[.ptr 1 c1 0 0]) (aG::H) (.ok (dc k (W (j+1)) false,aG::H))) 69 [dK (s+1) l t k d g,dc k (W (j+1)) false,.int .i64 h] (.int .i64 (zQ l t (W (j+1)) h))).Ok (cd (n+4)):=fun j hj =>
  cL (iG (aX _) (fun x hy=>by rw[← Tr.ab hy];exact hF (j+1) (by omega) (by omega))) (fun H=>OP n (s+1) l k k t d g (W (j+1)) false H h hl hk ht hc (hW (j+1) (by omega) (by omega)) hh)
 have hx:=qk (n:=n+4) (f:=72) (nt:=20) (c:=part Try.f72 [1,0,1,0,0]) 0 (fun j=>CT s l t k d g h (.fn (.func 86) [] [.ptr 1 c1 0 0]) ((j+1:Nat):Int)) (fun _=>aG::H) 39 (fun j=>bV l t (W (j+1)) h) (fun j=>([(6,.int .i64 ((j+1:Nat):Int))],aG::H)) (CT s l t k d g h (.fn (.func 86) [] [.ptr 1 c1 0 0]) 40++[(9,.bool false)],aG::H) (by omega) (fun j hj=>?_) ?_
 · have hr:cond (dC (fun j=>bV l t (W (j+1)) h) 39) ((fN (fun j=>bV l t (W (j+1)) h) 39 0+1:Nat):Int) 40=(oF (fun T=>bV l t (W T) h):Nat):=by
    unfold oF
    cases dC (fun j=>bV l t (W (j+1)) h) 39 with
    | true=>rw[if_pos rfl];rfl
    | false=>rw[if_neg (by decide)];rfl
   refine aR (n:=n+4) Try.func72 rfl rfl rfl (Om (n+4) s l k c1 t d g H h ((fN (fun j=>bV l t (W (j+1)) h) 39 0+1:Nat):Int) (dC (fun j=>bV l t (W (j+1)) h) 39)) (aB _) (aW (af _ _) O3 (fun x hy=>jf hy hx)) (ag _ _) ?_
   rw[← hr]
   generalize ((fN (fun j=>bV l t (W (j+1)) h) 39 0+1:Nat):Int)=R at *
   generalize dC (fun j=>bV l t (W (j+1)) h) 39=B at *
   cases B
   all_goals
    simp only[cond_true,cond_false]
    exact wF
 · refine aO (N6 (n+4) s l k c1 t d g (W (j+1)) H h ((j+1:Nat):Int) (zQ l t (W (j+1)) h)) (bj _ (n+4) (hC j hj)) (af _ _) (ag _ _) ?_
   show Tr.all _ (fun r=>if bV l t (W (j+1)) h=true then _ else _)
   obtain ⟨q1,q2⟩:=A0 l t (W (j+1)) h
   rw[ft (j:=j+1) (by omega)]
   generalize zQ l t (W (j+1)) h=C at *
   cases hB:bV l t (W (j+1)) h with
   | true =>
     have:=q1.2 hB
     simp only[if_true]
     exact wF
   | false =>
     have:=q2.2 hB
     simp only[Bool.false_eq_true,if_false]
     exact wF
 · exact hJ (Lz (n+4) s l k c1 t d g H h 40) (bj _ (n+4) (zg (aX _))) (af _ _) (ag _ _) (by first | (simp (disch:=omega) only[nV,nW];done) | (simp (disch:=omega) only[nV,nW];omega))
end
end Go.Eng
end
section
namespace Go.Eng
theorem KF {p:Nat→Bool} {N m:Nat} (h1:m<N) (h2:p m=true) (h3:∀ i,i<m→p i=false):fN p N 0=m:=by
 obtain ⟨_,b,c,d⟩:=mj p N 0
 have c:=fun i hi=>c i (Nat.zero_le i) hi
 have:fN p N 0<N:=Classical.byContradiction fun hn=>by
  have:=c m (by omega)
  rw[h2] at this;cases this
 have d:=d (by omega)
 rcases Nat.lt_trichotomy (fN p N 0) m with e | e | e
 · have:=h3 _ e;rw[d] at this;cases this
 · exact e
 · have:=c m e;rw[h2] at this;cases this
theorem uL {t e e':Nat→Int} {i l:Nat} (he:∀ j,j<l→e j=e' j) (ht:∀ j,j<l→t j<l) (hi:i<l):∀ m,(∀ q,q<m→0≤bO t q (i:Int))→C4 t e i m=C4 t e' i m
 | 0,_=>he i hi
 | m+1,hp=>by
   have h1:=hp m (by omega)
   have h2:=ia ht (show (i:Int)<l by omega) m
   show min (C4 t e i m) _=min (C4 t e' i m) _
   rw[uL he ht hi m (fun q hq=>hp q (by omega)),he _ (by omega)]
theorem x7 {l:Nat} {t e e':Nat→Int} (h:Fw l t) (he:∀ j,j<l→e j=e' j) {i:Nat} (hi:i<l):nQ l t e i=nQ l t e' i :=
 uL he h.tl hi _ (pq h.cyc i hi).2.1
theorem D8 {l:Nat} {t e e':Nat→Int} (h:Fw l t) (he:∀ j,j<l→e j=e' j) (T:Int):jE l t e T=jE l t e' T :=
 dq (fun i hi=>by rw[x7 h he hi])
theorem CJ {l:Nat} {t e e':Nat→Int} (h:Fw l t) (he:∀ j,j<l→e j=e' j) (hh T:Int):D7 l t e hh T=D7 l t e' hh T:=by
 unfold D7;rw[D8 h he]
theorem ug {l:Nat} {t e e':Nat→Int} (h:Fw l t) (he:∀ j,j<l→e j=e' j) (hh:Int):bV l t e hh=bV l t e' hh:=by
 unfold bV;rw[pw (fun T _=>CJ h he hh T)]
theorem mf (l:Nat) (t e:Nat→Int) (h:Int):bV l t e h=true↔∀ T:Nat,T≤40→(jE l t e T:Int)≤h*T:=by
 unfold bV
 rw[Bool.not_eq_true']
 constructor
 · intro hx T hT
   have:=gI hx T (by omega)
   unfold D7 at this
   rw[decide_eq_false_iff_not] at this;omega
 · intro hx
   refine jx (fun T hT=>?_)
   have:=hx T (by omega)
   unfold D7
   rw[decide_eq_false_iff_not];omega
theorem Ku (l:Nat) (t e:Nat→Int) (T:Int):jE l t e T≤l:=lB _ _
theorem C0 {p q:Nat→Bool} (h:∀ T,1≤T→T<40→p T=q T):oF p=oF q:=by
 unfold oF
 have e:dC (fun j=>p (j+1)) 39=dC (fun j=>q (j+1)) 39:=pw (fun j hj=>h _ (by omega) (by omega))
 rw[e]
 by_cases c:dC (fun j=>q (j+1)) 39=true
 · rw[if_pos c,if_pos c]
   obtain ⟨_,b,c1,d⟩:=mj (fun j=>q (j+1)) 39 0
   have hl:=iH c
   rw[KF (p:=fun j=>p (j+1)) hl (by rw[h _ (by omega) (by omega)];exact d (by omega)) (fun i hi=>by rw[h _ (by omega) (by omega)];exact c1 i (by omega) hi)]
 · rw[if_neg c,if_neg c]
def Bm (l:Nat) (t e:Nat→Int):Nat→Int
 | 0=>1
 | j+1=>max (Bm l t e j) (((jE l t e ((j+1:Nat):Int):Int)+((j+1:Nat):Int)-1).tdiv ((j+1:Nat):Int))
theorem F9 {c:Nat} {T:Nat} {h:Int} (hT:0<T):((c:Int)+(T:Int)-1).tdiv (T:Int)≤h↔(c:Int)≤h*T:=by
 rw[Int.tdiv_eq_ediv_of_nonneg (by omega)]
 constructor
 · intro hx
   have h1:=Int.mul_ediv_add_emod ((c:Int)+T-1) T
   have h2:=Int.emod_lt_of_pos ((c:Int)+T-1) (show (0:Int)<T by omega)
   have h3:(T:Int)*(((c:Int)+T-1) / T)≤T*h:=Int.mul_le_mul_of_nonneg_left hx (by omega)
   rw[Int.mul_comm h]
   omega
 · intro hx
   refine Int.le_of_lt_add_one (Int.ediv_lt_of_lt_mul (by omega) ?_)
   rw[Int.add_mul,Int.one_mul];omega
theorem HP (l:Nat) (t e:Nat→Int) (h:Int):∀ j,Bm l t e j≤h↔1≤h∧∀ T:Nat,1≤T→T≤j→(jE l t e T:Int)≤h*T
 | 0=>⟨fun x=>⟨x,fun T h1 h2=>by omega⟩,fun x=>x.1⟩
 | j + 1=>by
   have ih:=HP l t e h j
   have hc:=F9 (c:=jE l t e ((j+1:Nat):Int)) (T:=j+1) (h:=h) (by omega)
   show max (Bm l t e j) _≤h↔_
   rw[Int.max_le,ih,hc]
   constructor
   · rintro ⟨⟨a,b⟩,c⟩
     refine ⟨a,fun T h1 h2=>?_⟩
     by_cases x:T=j+1
     · subst x;exact c
     · exact b T h1 (by omega)
   · rintro ⟨a,b⟩
     exact ⟨⟨a,fun T h1 h2=>b T h1 (by omega)⟩,b (j+1) (by omega) (by omega)⟩
theorem IJ (l:Nat) (t e:Nat→Int) (h:Int) (h1:1≤h) (h0:jE l t e 0=0):bV l t e h=true↔Bm l t e 40≤h:=by
 rw[mf,HP]
 constructor
 · intro x;exact ⟨h1,fun T _ h2=>x T h2⟩
 · rintro ⟨_,x⟩ T hT
   cases T with
   | zero =>
     show ((jE l t e ((0:Nat):Int):Nat):Int)≤h*((0:Nat):Int)
     rw[show ((0:Nat):Int)=0 from rfl,h0];simp
   | succ T=>exact x _ (by omega) hT
theorem IK (l:Nat) (t e:Nat→Int) (h:Int) (h0:0<jE l t e 0):bV l t e h=false:=by
 cases c:bV l t e h with
 | false=>rfl
 | true =>
   have:=(mf l t e h).1 c 0 (by omega)
   rw[show ((0:Nat):Int)=0 from rfl] at this
   omega
def Bi (l:Nat) (t:Nat→Int) (k:Nat) (d:Nat→Int):Int×Int:=if mP l t k d=0 then (if jE l t d 0=0 then (Bm l t d 40,0) else (0,13)) else (0,mP l t k d)
end Go.Eng
end
section
namespace Go.Eng
open Go.Proofs
noncomputable def zW (s l:Nat) (t:Nat→Int) (k:Nat) (d g:Nat→Int) (x j:Int):aq:=[(1,.ptr 0 0 0 0),(4,dK s l t k d g),(6,.int .i64 x),(7,.int .i64 j)]
theorem t34 (n s l k:Nat) (t d g:Nat→Int) (H:aa) (x j c:Int):aN (bA n 34 40) (il (tX aQ 71 [dK s l t k d g,dc k d false,.int .i64 j] (.int .i64 c)) n 0) aT aU (part Try.f34 [1,1,1,1,0,1,0,0]) (hints (zW s l t k d g x j)) (C5 l t k d::H) =
 (fun (Z0:Row)=>((fun (Z1:aV)=>((fun (Z2:List AV)=>Tr.ite (mU j (Int.ofNat 40)) (Tr.reqP (Z2=Z2) (Tr.req (bx (dX j (Int.ofNat 0))) (Tr.ok (Ex.normal,[(1,AV.ptr 0 0 0 0,none),(4,AV.ptrT (some s) Z0 0,none),(6,AV.int .i64 (C7 x (Fj IntKind.i64 (cB .i64 (bf .i64 c j) (Int.ofNat 1)) j)),none),(7,AV.int .i64 (bf .i64 j (Int.ofNat 1)),none)],Z1::H)))) (Tr.ok (Ex.exit 1,[(1,AV.ptr 0 0 0 0,none),(4,AV.ptrT (some s) Z0 0,none),(6,AV.int .i64 x,none),(7,AV.int .i64 j,none),(24,AV.bool false,some 1)],Z1::H))) [AV.ptrT (some s) Z0 0,AV.slcT none (Row.M [ah.arr .i64 d k]) 1 k false,AV.int .i64 j])) { lock:=false,bs:=[(0,ak.row (Row.G [AV.slcT none (Row.M [ah.arr .i64 t l]) 1 l false,AV.slcT none (Row.M [ah.arr .i64 d k]) 1 k false]))] })) (Row.M [ah.one (AV.slcT none (Row.M [ah.arr .i64 t l]) 1 l false),ah.one (AV.slcT none (Row.M [ah.arr .i64 d k]) 1 k false),ah.arr .i64 g 30]):=by kernel_rfl
theorem Ry (n l k:Nat) (t d g:Nat→Int) (H:aa) (c r:Int):bz Try.prog (cd n) 100000 34 Try.f34 (KtL.kt 34) (il (tX (tX aQ 51 [dV l t k d] (.tup [dK 0 l t k d g,.int .i64 0])) 71 [dK 0 l t k d g,dc k d false,.int .i64 0] (.int .i64 c)) n 0) (dp aT 1 (zW 0 l t k d g 1 1) (C5 l t k d::H) (.ok (.normal,hints (zW 0 l t k d g r 41++[(24,.bool false)]),C5 l t k d::H))) aU [(dV l t k d,none)] H =
 (fun (Z0:Row)=>((fun (Z1:Row)=>((fun (Z2:aq)=>((fun (Z3:List AV)=>Tr.reqP ([AV.agg Z1]=[AV.agg Z1]) (Tr.ite (bx (dX (Int.ofNat 0) (Int.ofNat 0))) (Tr.ok ((AV.tup [AV.int .i64 (Int.ofNat 0),AV.int .i64 (Int.ofNat 0)],none),H)) (Tr.reqP (Z3=Z3) (Tr.ite (cF (Int.ofNat 0) c) (Tr.ok ((AV.tup [AV.int .i64 (Int.ofNat 0),AV.int .i64 (Int.ofNat 13)],none),H)) (Tr.reqP (Z2=Z2∧{ lock:=false,bs:=[(0,ak.row Z1)] } :: H={ lock:=false,bs:=[(0,ak.row Z1)] } :: H) (Tr.ok ((AV.tup [AV.int .i64 r,AV.int .i64 (Int.ofNat 0)],none),H))))))) [AV.ptrT (some 0) Z0 0,AV.slcT none (Row.M [ah.arr .i64 d k]) 1 k false,AV.int .i64 (Int.ofNat 0)])) [(1,AV.ptr 0 0 0 0),(4,AV.ptrT (some 0) Z0 0),(6,AV.int .i64 (Int.ofNat 1)),(7,AV.int .i64 (Int.ofNat 1))])) (Row.G [AV.slcT none (Row.M [ah.arr .i64 t l]) 1 l false,AV.slcT none (Row.M [ah.arr .i64 d k]) 1 k false]))) (Row.M [ah.one (AV.slcT none (Row.M [ah.arr .i64 t l]) 1 l false),ah.one (AV.slcT none (Row.M [ah.arr .i64 d k]) 1 k false),ah.arr .i64 g 30]):=by kernel_rfl
theorem Of (n l k:Nat) (t d:Nat→Int) (H:aa) (e:Int):bz Try.prog (cd n) 100000 34 Try.f34 (KtL.kt 34) (il (tX aQ 51 [dV l t k d] (.tup [.nilp,.int .i64 e])) n 0) (m4 aT 1) aU [(dV l t k d,none)] H =
 (fun (Z0:List AV)=>Tr.reqP (Z0=Z0) (Tr.ite (bx (dX e (Int.ofNat 0))) (Tr.ok ((AV.tup [AV.int .i64 (Int.ofNat 0),AV.int .i64 e],none),H)) Tr.bad)) [AV.agg (Row.G [AV.slcT none (Row.M [ah.arr .i64 t l]) 1 l false,AV.slcT none (Row.M [ah.arr .i64 d k]) 1 k false])]:=by kernel_rfl
theorem Oe (n l k:Nat) (t d g:Nat→Int) (H:aa) (c:Int):bz Try.prog (cd n) 100000 34 Try.f34 (KtL.kt 34) (il (tX (tX aQ 51 [dV l t k d] (.tup [dK 0 l t k d g,.int .i64 0])) 71 [dK 0 l t k d g,dc k d false,.int .i64 0] (.int .i64 c)) n 0) (m4 aT 1) aU [(dV l t k d,none)] H =
 (fun (Z0:List AV)=>((fun (Z1:List AV)=>Tr.reqP (Z1=Z1) (Tr.ite (bx (dX (Int.ofNat 0) (Int.ofNat 0))) (Tr.ok ((AV.tup [AV.int .i64 (Int.ofNat 0),AV.int .i64 (Int.ofNat 0)],none),H)) (Tr.reqP (Z0=Z0) (Tr.ite (cF (Int.ofNat 0) c) (Tr.ok ((AV.tup [AV.int .i64 (Int.ofNat 0),AV.int .i64 (Int.ofNat 13)],none),H)) Tr.bad)))) [AV.agg (Row.G [AV.slcT none (Row.M [ah.arr .i64 t l]) 1 l false,AV.slcT none (Row.M [ah.arr .i64 d k]) 1 k false])])) [AV.ptrT (some 0) (Row.M [ah.one (AV.slcT none (Row.M [ah.arr .i64 t l]) 1 l false),ah.one (AV.slcT none (Row.M [ah.arr .i64 d k]) 1 k false),ah.arr .i64 g 30]) 0,AV.slcT none (Row.M [ah.arr .i64 d k]) 1 k false,AV.int .i64 (Int.ofNat 0)]:=by kernel_rfl
theorem OY:∀ b,(1,b) ∈ aM (bR Try.f34)→b=.loop (part Try.f34 [1,1,1,1,0,1,0,0]):=g7 (by kernel_rfl)
def fR (l:Nat) (t:Nat→Int) (d:Nat→Int) (h:Int):Nat:=oF (fun T=>bV l t (fun i=>min (d i) (T:Nat)) h)
section
variable (n l k:Nat) (t d:Nat→Int) (H:aa) (h:Int)
theorem Mq (e:eU l k t d h=0):cd (n+11) (.fn 61) [dV l t k d,.int .i64 h,.int .i64 0] H=some (.tup [JR 0 l t k d,.int .i64 0],H):=by
 obtain ⟨e1,e2⟩:=BM e
 rw[OO n l k t d H h 0 e1,if_pos rfl,if_pos e2]
theorem Mp (e:eU l k t d h≠0):cd (n+11) (.fn 61) [dV l t k d,.int .i64 h,.int .i64 0] H=some (.tup [.nilp,.int .i64 (eU l k t d h)],H):=by
 by_cases c:iX l t k d h=0
 · rw[OO n l k t d H h 0 c,if_pos rfl]
   have:eU l k t d h=if bV l t d h=true then 0 else 13:=by unfold eU;rw[if_pos c]
   rw[this] at e ⊢
   by_cases c2:bV l t d h=true
   · rw[if_pos c2] at e;exact absurd rfl e
   · rw[if_neg c2,if_neg c2]
 · rw[Mo n l k t d H h 0 c]
   have:eU l k t d h=iX l t k d h:=by unfold eU;rw[if_neg c]
   rw[this]
theorem DP {l:Nat} {d:Nat→Int} (hb:Bd l d) (T:Int) (hT:0≤T):Bd l (fun i=>min (d i) T):=fun j hj=>by
 have:=hb j hj
 show -900≤min (d j) T∧min (d j) T≤900
 omega
theorem HF {l k:Nat} {z:Nat→Int} (hk:k=l) (hb:Bd l z):Bd l (aK (kz z k)):=fun j hj=>by
 subst hk;rw[zV _ hj];exact hb j hj
theorem IG {l k:Nat} {t z:Nat→Int} (h:Fw l t) (hk:k=l) (hh:Int):bV l t (aK (kz z k)) hh=bV l t z hh :=
 ug h (fun j hj=>by subst hk;exact zV z hj) hh
noncomputable def OT:AV:=.tup [.int .i64 (Bi l t k d).1,.int .i64 (Bi l t k d).2]
theorem Q3 (hs:Sh l t k d):exec (bA (n+4) 34 40) (.block 1 (.loop (part Try.f34 [1,1,1,1,0,1,0,0]))) (zW 0 l t k d (cu t l) 1 1) (C5 l t k d::H)=some (.normal,zW 0 l t k d (cu t l) (Bm l t d 40) 41++[(24,.bool false)],C5 l t k d::H):=by
 have hC:∀ j:Nat,(tX aQ 71 [dK 0 l t k d (cu t l),dc k d false,.int .i64 ((j+1:Nat):Int)] (.int .i64 (jE l t d ((j+1:Nat):Int):Nat))).Ok (cd (n+4)):=fun j =>
  cL (aX _) (fun H=>OQ n 0 l k k t d _ d false H _ hs.l30 hs.kl hs.tl hs.cyc hs.bd)
 refine ot (n:=n+4) (f:=34) (nt:=40) (c:=part Try.f34 [1,1,1,1,0,1,0,0]) 1 (fun j=>zW 0 l t k d (cu t l) (Bm l t d j) ((j+1:Nat):Int)) (fun _=>C5 l t k d::H) 40 _ (by omega) (fun j hj=>?_) ?_
 · refine aO (t34 (n+4) 0 l k t d (cu t l) H (Bm l t d j) ((j+1:Nat):Int) (jE l t d ((j+1:Nat):Int):Nat)) (bj _ (n+4) (hC j)) (af _ _) (ag _ _) ?_
   have hle:=Ku l t d ((j+1:Nat):Int)
   have hl:=hs.l30
   show Tr.all _ (fun r=>_∧tidy _ _ _=(zW 0 l t k d (cu t l) (max (Bm l t d j) (((jE l t d ((j+1:Nat):Int):Int)+((j+1:Nat):Int)-1).tdiv ((j+1:Nat):Int))) ((j+1+1:Nat):Int),_))
   have e1:bf .i64 (jE l t d ((j+1:Nat):Int):Nat) ((j+1:Nat):Int)=(jE l t d ((j+1:Nat):Int):Int)+((j+1:Nat):Int):=Cu (by omega) (by omega)
   have e2:cB .i64 ((jE l t d ((j+1:Nat):Int):Int)+((j+1:Nat):Int)) (Int.ofNat 1)=(jE l t d ((j+1:Nat):Int):Int)+((j+1:Nat):Int)-1:=by rw[show Int.ofNat 1=1 from rfl];exact Aq (by omega) (by omega)
   have e3:Fj .i64 ((jE l t d ((j+1:Nat):Int):Int)+((j+1:Nat):Int)-1) ((j+1:Nat):Int)=((jE l t d ((j+1:Nat):Int):Int)+((j+1:Nat):Int)-1).tdiv ((j+1:Nat):Int):=by
    rw[BW]
    have hd:0≤((jE l t d ((j+1:Nat):Int):Int)+((j+1:Nat):Int)-1).tdiv ((j+1:Nat):Int)∧((jE l t d ((j+1:Nat):Int):Int)+((j+1:Nat):Int)-1).tdiv ((j+1:Nat):Int)≤(jE l t d ((j+1:Nat):Int):Int)+((j+1:Nat):Int)-1:=by
     rw[Int.tdiv_eq_ediv_of_nonneg (by omega)]
     exact ⟨Int.ediv_nonneg (by omega) (by omega),Int.ediv_le_self _ (by omega)⟩
    exact lq (by omega) (by omega)
   rw[ft (j:=j+1) (by omega),e1,e2,e3,ym]
   generalize max (Bm l t d j) _=M at *
   generalize jE l t d ((j+1:Nat):Int)=C at *
   generalize cu t l=g at *
   exact wF
 · exact hJ (t34 (n+4) 0 l k t d (cu t l) H (Bm l t d 40) ((40+1:Nat):Int) (jE l t d ((40+1:Nat):Int):Nat)) (bj _ (n+4) (hC 40)) (af _ _) (ag _ _) (by first | (simp (disch:=omega) only[nV,nW];done) | (simp (disch:=omega) only[nV,nW];omega))
theorem Pc:cd (n+9) (.fn 34) [dV l t k d] H=some (OT l k t d,H):=by
 unfold OT Bi
 by_cases e:mP l t k d=0
 · have hs:=za e
   rw[if_pos e]
   have h51:∀ H,cd (n+8) (.fn 51) [dV l t k d] H=some (.tup [dK 0 l t k d (cu t l),.int .i64 0],H):=fun H=>Mm n l k t d H hs
   have h71:∀ H,cd (n+8) (.fn 71) [dK 0 l t k d (cu t l),dc k d false,.int .i64 0] H=some (.int .i64 (jE l t d 0:Nat),H):=fun H=>OQ (n+4) 0 l k k t d _ d false H _ hs.l30 hs.kl hs.tl hs.cyc hs.bd
   by_cases c:jE l t d 0=0
   · rw[if_pos c]
     have hx:=Q3 (n+4) l k t d H hs
     refine aR (n:=n+8) Try.func34 rfl rfl rfl (Ry (n+8) l k t d (cu t l) H (jE l t d 0:Nat) (Bm l t d 40)) (bj _ (n+8) (cL (cL (aX _) h51) h71)) (aW (af _ _) OY (fun x hy=>cG hy hx)) (ag _ _) ?_
     rw[c]
     generalize Bm l t d 40=M at *
     generalize cu t l=g at *
     exact wF
   · rw[if_neg c]
     refine aR (n:=n+8) Try.func34 rfl rfl rfl (Oe (n+8) l k t d (cu t l) H (jE l t d 0:Nat)) (bj _ (n+8) (cL (cL (aX _) h51) h71)) (eK (af _ _) 1) (ag _ _) ?_
     generalize jE l t d 0=C at *
     generalize cu t l=g at *
     exact wF
 · rw[if_neg e]
   refine aR (n:=n+8) Try.func34 rfl rfl rfl (Of (n+8) l k t d H (mP l t k d)) (bj _ (n+8) (cL (aX _) (fun H=>Kg n l k t d H e))) (eK (af _ _) 1) (ag _ _) ?_
   generalize mP l t k d=E at *
   exact wF
end
end Go.Eng
end
section
namespace Go.Eng
theorem ij {p q:Nat→Bool}:∀ {n:Nat},(∀ j,j<n→p j=true→q j=true)→cn p n≤cn q n
 | 0,_=>Nat.le_refl _
 | n+1,h=>by
   have ih:=ij (n:=n) (fun j hj=>h j (by omega))
   have hn:=h n (by omega)
   show cn p n+(p n).toNat≤cn q n+(q n).toNat
   cases hp:p n with
   | false=>simp;omega
   | true=>rw[hn hp];omega
end Go.Eng
end
section
namespace Go.Eng
theorem v8 {l:Nat} {t:Nat→Int} (h:Fw l t) {i:Nat} (hi:i<l):1≤pc l t i∧pc l t i≤l:=by
 obtain ⟨a,b,c⟩:=pq h.cyc i hi
 refine ⟨?_,a⟩
 apply Classical.byContradiction
 intro hc
 rw[show pc l t i=0 by omega] at c
 have:bO t 0 (i:Int)=i:=rfl
 omega
theorem np {l:Nat} {t:Nat→Int} (h:Fw l t) {i:Nat} (hi:i<l):∀ m,m<pc l t i→0≤bO t m (i:Int)∧pc l t (bO t m (i:Int)).toNat=pc l t i-m:=by
 intro m hm
 obtain ⟨a,b,c⟩:=pq h.cyc i hi
 have h0:=b m hm
 have hlt:=ia h.tl (show (i:Int)<l by omega) m
 refine ⟨h0,?_⟩
 have hx:(bO t m (i:Int)).toNat<l:=by omega
 obtain ⟨a2,b2,c2⟩:=pq h.cyc _ hx
 have comp:∀ q,bO t q ((bO t m (i:Int)).toNat:Int)=bO t (m+q) (i:Int):=by
  intro q
  induction q with
  | zero=>show (((bO t m (i:Int)).toNat:Nat):Int)=bO t m (i:Int);omega
  | succ q ih =>
    show (if 0≤bO t q ((bO t m (i:Int)).toNat:Int) then t (bO t q ((bO t m (i:Int)).toNat:Int)).toNat else bO t q ((bO t m (i:Int)).toNat:Int))=(if 0≤bO t (m+q) (i:Int) then t (bO t (m+q) (i:Int)).toNat else bO t (m+q) (i:Int))
    rw[ih]
 generalize pc l t (bO t m (i:Int)).toNat=N at *
 rcases Nat.lt_trichotomy N (pc l t i-m) with e | e | e
 · rw[comp] at c2
   have:=b (m+N) (by omega)
   omega
 · exact e
 · have:=b2 (pc l t i-m) e
   rw[comp,show m+(pc l t i-m)=pc l t i by omega] at this
   omega
end Go.Eng
end
section
namespace Go.Eng
def kd (z:Nat→Int) (w:Nat→Bool):Nat→Option Nat
 | 0=>none
 | j+1=>match kd z w j with
   | none=>if w j=true then some j else none
   | some i=>if w j=true∧z j<z i then some j else some i
theorem jW (z:Nat→Int) (w:Nat→Bool):∀ l,(match kd z w l with | none=>∀ j,j<l→w j=false | some i=>i<l∧w i=true∧∀ j,j<l→w j=true→z i<z j∨(z i=z j∧i≤j))
 | 0=>fun j hj=>by omega
 | l + 1 => by
   have ih:=jW z w l
   unfold kd
   cases hm:kd z w l with
   | none =>
     rw[hm] at ih
     dsimp only at ih ⊢
     by_cases c:w l=true
     · rw[if_pos c]
       refine ⟨by omega,c,fun j hj hw=>?_⟩
       by_cases e:j=l
       · subst e;exact .inr ⟨rfl,Nat.le_refl _⟩
       · have:=ih j (by omega);rw[this] at hw;cases hw
     · rw[if_neg c]
       intro j hj
       by_cases e:j=l
       · subst e
         cases h:w j with
         | true=>exact absurd h c
         | false=>rfl
       · exact ih j (by omega)
   | some i =>
     rw[hm] at ih
     dsimp only at ih ⊢
     obtain ⟨h1,h2,h3⟩:=ih
     by_cases c:w l=true∧z l<z i
     · rw[if_pos c]
       refine ⟨by omega,c.1,fun j hj hw=>?_⟩
       by_cases e:j=l
       · subst e;exact .inr ⟨rfl,Nat.le_refl _⟩
       · have:=h3 j (by omega) hw
         exact .inl (by omega)
     · rw[if_neg c]
       refine ⟨by omega,h2,fun j hj hw=>?_⟩
       by_cases e:j=l
       · subst e
         have:¬ z j<z i:=fun hx=>c ⟨hw,hx⟩
         by_cases e2:z i=z j
         · exact .inr ⟨e2,by omega⟩
         · exact .inl (by omega)
       · exact h3 j (by omega) hw
def mR (w:Nat→Bool) (i:Nat):Nat→Bool:=fun j=>if j=i then false else w j
def ja (w:Nat→Bool) (i:Nat):Nat→Bool:=fun j=>if j=i then true else w j
def rb (t:Nat→Int) (s:(Nat→Int)×(Nat→Bool)) (c:Nat):(Nat→Int)×(Nat→Bool) :=
 if t c<0 then s else
  (uI s.1 (t c).toNat (s.1 (t c).toNat-1),if s.1 (t c).toNat-1=0 then ja s.2 (t c).toNat else s.2)
end Go.Eng
end
section
namespace Go.Eng
open Go.Proofs
section
variable (n l k:Nat) (t d:Nat→Int) (H:aa) (h:Int)
end
end Go.Eng
end
section
namespace Go.Eng
open Go.Proofs
section
variable (n l k:Nat) (t d:Nat→Int) (H:aa) (h c:Int)
end
end Go.Eng
end
section
namespace Go.Eng
open Go.Proofs
theorem Ru (n l k:Nat) (t d:Nat→Int) (H:aa):bz Try.prog (cd n) 100000 15 Try.f15 (KtL.kt 15) (il aQ n 0) aT aU [(dV l t k d,none)] H =
 Tr.ite (cF (Int.ofNat 40) (Int.ofNat l)) (Tr.ok ((AV.bool true,some 1),H)) (Tr.ok ((AV.bool (cF (Int.ofNat 40) (Int.ofNat k)),none),H)):=by kernel_rfl
theorem Rz (n l k:Nat) (t d:Nat→Int) (b:Bool) (e:Int) (H:aa):bz Try.prog (cd n) 100000 43 Try.f43 (KtL.kt 43) (il (tX (tX aQ 15 [dV l t k d] (.bool b)) 22 [dV l t k d] (.int .i64 e)) n 0) aT aU [(dV l t k d,none)] H =
 (fun (Z0:List AV)=>Tr.reqP (Z0=Z0) (Tr.ite (bx b) (Tr.reqP (Z0=Z0) (Tr.ok ((AV.bool (dX e (Int.ofNat 0)),none),H))) (Tr.ok ((AV.bool false,some 1),H)))) [AV.agg (Row.G [AV.slcT none (Row.M [ah.arr .i64 t l]) 1 l false,AV.slcT none (Row.M [ah.arr .i64 d k]) 1 k false])]:=by kernel_rfl
section
variable (n l k:Nat) (t d:Nat→Int) (H:aa)
theorem O8:cd (n+1) (.fn 15) [dV l t k d] H=some (.bool (decide (40<l) || decide (40<k)),H):=by
 refine aR (n:=n) Try.func15 rfl rfl rfl (Ru n l k t d H) (aB _) (af _ _) (ag _ _) ?_
 have e:cF (Int.ofNat 40) (Int.ofNat k)=decide (40<k):=by rw[eH,decide_eq_decide];show (40:Int)<(k:Int)↔_;omega
 rw[e]
 by_cases c:40<l
 · rw[decide_eq_true c,Bool.true_or]
   exact wF
 · rw[decide_eq_false c,Bool.false_or]
   exact wF
theorem Pd:cd (n+3) (.fn 43) [dV l t k d] H=some (.bool (decide (mP l t k d=0)),H):=by
 refine aR (n:=n+2) Try.func43 rfl rfl rfl (Rz (n+2) l k t d (decide (40<l) || decide (40<k)) (mP l t k d) H) (bj _ (n+2) (cL (cL (aX _) (fun H=>O8 (n+1) l k t d H)) (fun H=>Pa n l k t d H))) (af _ _) (ag _ _) ?_
 by_cases c:40<l∨40<k
 · have hb:(decide (40<l) || decide (40<k))=true:=by simpa using c
   have he:mP l t k d≠0:=fun h=>by
    have hs:=za h
    have:=hs.l30
    have:=hs.kl
    omega
   rw[hb,decide_eq_false he]
   exact wF
 · have hb:(decide (40<l) || decide (40<k))=false:=by simpa using c
   rw[hb,dB]
   exact wF
end
end Go.Eng
end
section
namespace Go.Eng
open Go.Proofs
noncomputable def Rs (m:Nat) (f:Nat→Nat→Int) (g:Nat→Nat):AV:=.slcT none (.F (fun j=>dc (g j) (f j) false) m) 1 m false
section
variable (n m:Nat) (f:Nat→Nat→Int) (g:Nat→Nat) (H:aa)
end
end Go.Eng
end
