/- Lay: Last; levels and last turns as they are defined. -/
import Derived.Test.YtoomemfhcbajoaaV5Lb9x2
section
namespace Go.Eng
open Go.Proofs
set_option linter.unusedVariables false
set_option linter.unusedSimpArgs false
set_option maxRecDepth 100000
noncomputable def fr46 (o:AV) (j:Int):Frm:=[(1,.ptr 0 0 0 0),(3,o),(4,.int .i64 j)]
noncomputable def fr55i (o:AV) (j v c x:Int):Frm:=[(1,.ptr 0 0 0 0),(3,o),(4,.int .i64 j),(5,.int .i64 v),(6,.int .i64 c),(7,.int .i64 x)]
noncomputable def lvO1 (l:Nat) (t:Nat→Int) (k:Nat) (d:Nat→Int) (v m:Nat) (y:Nat→Int):Lvl:=⟨false,[bxS l t k d,(v,.row (.M [.arr .i64 y m]))]⟩
noncomputable def lvO0 (l:Nat) (t:Nat→Int) (k:Nat) (d:Nat→Int):Lvl:=⟨false,[bxS l t k d]⟩
theorem t55ia (n l k:Nat) (t d:Nat→Int) (H:Heap) (j w c x:Int):execT (cxD n 55 44) (il noCt n 0) noBT noRT (part Try.f55 [1,1,0,1,0,0,1,0,0,1,0,1,0,0]) (hints (fr55i .nils j w c x)) (lvO0 l t k d::H) =
 (fun (Z0:Lvl)=>Tr.ite (leI (Int.ofNat 0) x) (Tr.req (inI x k) (Tr.req (ltN (idO 0 x 1) k) (Tr.req (inI x l) (Tr.req (ltN (idO 0 x 1) l) (Tr.ok (Ex.normal,[(1,AV.ptr 0 0 0 0,none),(3,AV.nils,none),(4,AV.int .i64 j,none),(5,AV.int .i64 (minO w (subI .i64 (d (idO 0 x 1)) c)),none),(6,AV.int .i64 (addI .i64 c (Int.ofNat 1)),none),(7,AV.int .i64 (t (idO 0 x 1)),none)],Z0::H)))))) (Tr.ok (Ex.exit 2,[(1,AV.ptr 0 0 0 0,none),(3,AV.nils,none),(4,AV.int .i64 j,none),(5,AV.int .i64 w,none),(6,AV.int .i64 c,none),(7,AV.int .i64 x,none),(22,AV.bool false,some 1)],Z0::H))) { lock:=false,bs:=[(0,Blk.row (Row.G [AV.slcT none (Row.M [Seg.arr .i64 t l]) 1 l false,AV.slcT none (Row.M [Seg.arr .i64 d k]) 1 k false]))] }:=by kernel_rfl
theorem t55a (n l k:Nat) (t d:Nat→Int) (H:Heap) (j w c x:Int):execT (cxD n 55 44) (il noCt n 0) (blkE noBT 2 (fr55i .nils j (d (idO 0 j 1)) 0 j) (lvO0 l t k d::H) (.ok (.normal,hints (fr55i .nils j w c x++[(22,.bool false)]),lvO0 l t k d::H))) noRT (part Try.f55 [1,1,0,1,0,0]) (hints (fr46 .nils j)) (lvO0 l t k d::H) =
 (fun (Z0:Nat×Blk)=>((fun (Z1:Frm)=>Tr.ite (ltI j (Int.ofNat l)) (Tr.req (inI j k) (Tr.req (ltN (idO 0 j 1) k) (Tr.reqP (Z1=Z1∧{ lock:=false,bs:=[Z0] } :: H={ lock:=false,bs:=[Z0] } :: H) (Tr.req (roomO 0 1 8) (Tr.req (eqN 0 0) (Tr.req (leN 1 1) (Tr.ok (Ex.normal,[(1,AV.ptr 0 0 0 0,none),(3,AV.slc 0 2 0 0 1 1 none,none),(4,AV.int .i64 (addI .i64 j (Int.ofNat 1)),none)],{ lock:=false,bs:=[Z0,(0,Blk.row (Row.I .i64 [w])),(0,Blk.row (Row.M [Seg.arr .i64 (lstO [w]) 1]))] } :: H)))))))) (Tr.ok (Ex.exit 0,[(1,AV.ptr 0 0 0 0,none),(3,AV.nils,none),(4,AV.int .i64 j,none),(12,AV.bool false,some 1)],{ lock:=false,bs:=[Z0] } :: H))) [(1,AV.ptr 0 0 0 0),(3,AV.nils),(4,AV.int .i64 j),(5,AV.int .i64 (d (idO 0 j 1))),(6,AV.int .i64 (Int.ofNat 0)),(7,AV.int .i64 j)])) (0,Blk.row (Row.G [AV.slcT none (Row.M [Seg.arr .i64 t l]) 1 l false,AV.slcT none (Row.M [Seg.arr .i64 d k]) 1 k false])):=by kernel_rfl
theorem t55ib (n l k:Nat) (t d:Nat→Int) (v m:Nat) (y:Nat→Int) (H:Heap) (j w c x:Int):execT (cxD n 55 44) (il noCt n 0) noBT noRT (part Try.f55 [1,1,0,1,0,0,1,0,0,1,0,1,0,0]) (hints (fr55i (.slc 0 1 v 0 1 m none) j w c x)) (lvO1 l t k d v m y::H) =
 (fun (Z0:Lvl)=>Tr.ite (leI (Int.ofNat 0) x) (Tr.req (inI x k) (Tr.req (ltN (idO 0 x 1) k) (Tr.req (inI x l) (Tr.req (ltN (idO 0 x 1) l) (Tr.ok (Ex.normal,[(1,AV.ptr 0 0 0 0,none),(3,AV.slc 0 1 v 0 1 m none,none),(4,AV.int .i64 j,none),(5,AV.int .i64 (minO w (subI .i64 (d (idO 0 x 1)) c)),none),(6,AV.int .i64 (addI .i64 c (Int.ofNat 1)),none),(7,AV.int .i64 (t (idO 0 x 1)),none)],Z0::H)))))) (Tr.ok (Ex.exit 2,[(1,AV.ptr 0 0 0 0,none),(3,AV.slc 0 1 v 0 1 m none,none),(4,AV.int .i64 j,none),(5,AV.int .i64 w,none),(6,AV.int .i64 c,none),(7,AV.int .i64 x,none),(22,AV.bool false,some 1)],Z0::H))) { lock:=false,bs:=[(0,Blk.row (Row.G [AV.slcT none (Row.M [Seg.arr .i64 t l]) 1 l false,AV.slcT none (Row.M [Seg.arr .i64 d k]) 1 k false])),(v,Blk.row (Row.M [Seg.arr .i64 y m]))] }:=by kernel_rfl
theorem t55b (n l k:Nat) (t d:Nat→Int) (v m:Nat) (y:Nat→Int) (H:Heap) (j w c x:Int):execT (cxD n 55 44) (il noCt n 0) (blkE noBT 2 (fr55i (.slc 0 1 v 0 1 m none) j (d (idO 0 j 1)) 0 j) (lvO1 l t k d v m y::H) (.ok (.normal,hints (fr55i (.slc 0 1 v 0 1 m none) j w c x++[(22,.bool false)]),lvO1 l t k d v m y::H))) noRT (part Try.f55 [1,1,0,1,0,0]) (hints (fr46 (.slc 0 1 v 0 1 m none) j)) (lvO1 l t k d v m y::H) =
 (fun (Z0:Lvl)=>((fun (Z1:Frm)=>Tr.ite (ltI j (Int.ofNat l)) (Tr.req (inI j k) (Tr.req (ltN (idO 0 j 1) k) (Tr.reqP (Z1=Z1∧Z0::H=Z0::H) (Tr.req (roomO m 1 8) (Tr.req (eqN 0 0) (Tr.req (leN 1 1) (Tr.req (eqN v v) (Tr.req (eqN (addO 0 m) m) (Tr.ok (Ex.normal,[(1,AV.ptr 0 0 0 0,none),(3,AV.slc 0 1 (Nat.succ v) 0 1 (addO m 1) none,none),(4,AV.int .i64 (addI .i64 j (Int.ofNat 1)),none)],{ lock:=false,bs:=[(0,Blk.row (Row.G [AV.slcT none (Row.M [Seg.arr .i64 t l]) 1 l false,AV.slcT none (Row.M [Seg.arr .i64 d k]) 1 k false])),(Nat.succ v,Blk.row (Row.M [Seg.arr .i64 (appO (shO y 0) m (lstO [w])) (addO m 1)])),(0,Blk.row (Row.I .i64 [w]))] } :: H)))))))))) (Tr.ok (Ex.exit 0,[(1,AV.ptr 0 0 0 0,none),(3,AV.slc 0 1 v 0 1 m none,none),(4,AV.int .i64 j,none),(12,AV.bool false,some 1)],Z0::H))) [(1,AV.ptr 0 0 0 0),(3,AV.slc 0 1 v 0 1 m none),(4,AV.int .i64 j),(5,AV.int .i64 (d (idO 0 j 1))),(6,AV.int .i64 (Int.ofNat 0)),(7,AV.int .i64 j)])) { lock:=false,bs:=[(0,Blk.row (Row.G [AV.slcT none (Row.M [Seg.arr .i64 t l]) 1 l false,AV.slcT none (Row.M [Seg.arr .i64 d k]) 1 k false])),(v,Blk.row (Row.M [Seg.arr .i64 y m]))] }:=by kernel_rfl
theorem t55x (n l k:Nat) (t d:Nat→Int) (v m:Nat) (y:Nat→Int) (H:Heap) (j:Int):execT (cxD n 55 44) (il noCt n 0) (stopB noBT 2) noRT (part Try.f55 [1,1,0,1,0,0]) (hints (fr46 (.slc 0 1 v 0 1 m none) j)) (lvO1 l t k d v m y::H) =
 Tr.ite (ltI j (Int.ofNat l)) (Tr.req (inI j k) (Tr.req (ltN (idO 0 j 1) k) Tr.bad)) (Tr.ok (Ex.exit 0,[(1,AV.ptr 0 0 0 0,none),(3,AV.slc 0 1 v 0 1 m none,none),(4,AV.int .i64 j,none),(12,AV.bool false,some 1)],{ lock:=false,bs:=[(0,Blk.row (Row.G [AV.slcT none (Row.M [Seg.arr .i64 t l]) 1 l false,AV.slcT none (Row.M [Seg.arr .i64 d k]) 1 k false])),(v,Blk.row (Row.M [Seg.arr .i64 y m]))] } :: H)):=by kernel_rfl
theorem u55 (n l k q:Nat) (t d y:Nat→Int) (H:Heap):bodyT Try.prog (cd n) 100000 55 Try.f55 (KtL.kt 55) (il noCt n 0) (blkE noBT 0 (fr46 .nils 0) (lvO0 l t k d::H) (.ok (.normal,hints (fr46 (.slc 0 1 q 0 1 (q+1) none) (Int.ofNat l)++[(12,.bool false)]),lvO1 l t k d q (q+1) y::H))) noRT [(shA l t k d,none)] H =
 (fun (Z0:Lvl)=>Tr.reqP ([(1,AV.ptr 0 0 0 0),(3,AV.nils),(4,AV.int .i64 (Int.ofNat 0))]=[(1,AV.ptr 0 0 0 0),(3,AV.nils),(4,AV.int .i64 (Int.ofNat 0))]∧Z0::H=Z0::H) (Tr.req (eqN q q) (Tr.req (inO 0 (Nat.succ q) 0 (Nat.succ q)) (Tr.ok ((AV.slcT none (Row.M [Seg.arr .i64 (shO y 0) (Nat.succ q)]) 1 (Nat.succ q) false,none),H))))) { lock:=false,bs:=[(0,Blk.row (Row.G [AV.slcT none (Row.M [Seg.arr .i64 t l]) 1 l false,AV.slcT none (Row.M [Seg.arr .i64 d k]) 1 k false]))] }:=by kernel_rfl
theorem b55:∀ b,(0,b) ∈ blocksOf (bodyOf Try.f55)→b=.loop (part Try.f55 [1,1,0,1,0,0]):=by
 have:((blocksOf (bodyOf Try.f55)).filter fun x=>Nat.beq x.1 0)=[(0,.loop (part Try.f55 [1,1,0,1,0,0]))]:=by kernel_rfl
 intro b hb
 have hm:(0,b) ∈ ((blocksOf (bodyOf Try.f55)).filter fun x=>Nat.beq x.1 0):=List.mem_filter.2 ⟨hb,rfl⟩
 rw[this] at hm;simpa using hm
theorem b55i:∀ b,(2,b) ∈ blocksOf (part Try.f55 [1,1,0,1,0,0])→b=.loop (part Try.f55 [1,1,0,1,0,0,1,0,0,1,0,1,0,0]):=by
 have:((blocksOf (part Try.f55 [1,1,0,1,0,0])).filter fun x=>Nat.beq x.1 2)=[(2,.loop (part Try.f55 [1,1,0,1,0,0,1,0,0,1,0,1,0,0]))]:=by kernel_rfl
 intro b hb
 have hm:(2,b) ∈ ((blocksOf (part Try.f55 [1,1,0,1,0,0])).filter fun x=>Nat.beq x.1 2):=List.mem_filter.2 ⟨hb,rfl⟩
 rw[this] at hm;simpa using hm
def faN (z:Nat→Int) (j:Nat):List Int:=(List.range j).map z
theorem faN_len (z:Nat→Int) (j:Nat):(faN z j).length=j:=by simp[faN]
theorem faN_suc (z:Nat→Int) (j:Nat):faN z (j+1)=faN z j++[z j]:=by simp[faN,List.range_succ]
theorem faN_app (z:Nat→Int) (j:Nat):appO (shO (lstO (faN z j)) 0) j (lstO [z j])=lstO (faN z (j+1)):=by
 have:=lst_app (faN z j) (z j)
 rw[faN_len,← faN_suc] at this;exact this
theorem faN_at (z:Nat→Int) {j i:Nat} (h:i<j):lstO (faN z j) i=z i:=by
 rw[lst_el _ _ (by rw[faN_len];exact h)];simp[faN]
noncomputable def o46:Nat→AV
 | 0=>.nils
 | q+1=>.slc 0 1 q 0 1 (q+1) none
noncomputable def lv46 (l:Nat) (t:Nat→Int) (k:Nat) (d:Nat→Int) (z:Nat→Int):Nat→Lvl
 | 0=>lvO0 l t k d
 | q+1=>lvO1 l t k d q (q+1) (lstO (faN z (q+1)))
structure Fw (l:Nat) (t:Nat→Int):Prop where
 l30:l≤30
 tl:∀ j,j<l→t j<l
 cyc:cycB l t=false
theorem Sh.fw {l k:Nat} {t d:Nat→Int} (h:Sh l t k d):Fw l t:=⟨h.l30,h.tl,h.cyc⟩
def Bd (l:Nat) (e:Nat→Int):Prop:=∀ j,j<l→-900≤e j∧e j≤900
theorem Sh.bd {l k:Nat} {t d:Nat→Int} (h:Sh l t k d):Bd l d:=fun j hj=>by
 have:=h.d1 j hj
 have:=h.d40 j hj
 omega
section
variable (n l k:Nat) (t d:Nat→Int) (H:Heap)
theorem l55ia (j:Nat) (h:Fw l t) (hk:k=l) (hb:Bd l d) (hj:j<l):exec (cxD n 55 44) (.block 2 (.loop (part Try.f55 [1,1,0,1,0,0,1,0,0,1,0,1,0,0]))) (fr55i .nils (j:Nat) (d j) 0 (j:Nat)) (lvO0 l t k d::H)=some (.normal,fr55i .nils (j:Nat) (laV l t d j) (lvN l t j:Nat) (stp t (lvN l t j) (j:Nat))++[(22,.bool false)],lvO0 l t k d::H):=by
 obtain ⟨e1,e2,e3⟩:=cyc_lv h.cyc j hj
 have hl:=h.l30
 refine forX (n:=n) (f:=55) (nt:=44) (c:=part Try.f55 [1,1,0,1,0,0,1,0,0,1,0,1,0,0]) 2 (fun p=>fr55i .nils (j:Nat) (lsV t d j p) (p:Nat) (stp t p (j:Nat))) (fun _=>lvO0 l t k d::H) (lvN l t j) _ (by omega) (fun p hp=>?_) ?_
 · have h1:=e2 p hp
   have h2:=stp_lt h.tl (show (j:Int)<l by omega) p
   have h3:=stp_suc h1
   have h4:=hb (stp t p (j:Nat)).toNat (by omega)
   have h5:subI .i64 (d (stp t p (j:Nat)).toNat) (p:Int)=d (stp t p (j:Nat)).toNat-(p:Int):=sb64 (by omega) (by omega)
   refine ex_all (t55ia n l k t d H (j:Nat) (lsV t d j p) (p:Nat) (stp t p (j:Nat))) (il_no0 n) (noBT_ok _ _) (noRT_ok _ _) ?_
   rw[cs64 (j:=p) (by omega),idI h1,h5,minO_min]
   show Tr.all _ (fun r=>_∧tidy _ _ _=(fr55i .nils (j:Nat) (min (lsV t d j p) (d (stp t p (j:Int)).toNat-(p:Int))) ((p+1:Nat):Int) (stp t (p+1) (j:Nat)),_))
   rw[h3]
   generalize min (lsV t d j p) (d (stp t p (j:Int)).toNat-(p:Int))=V at *
   generalize stp t p (j:Nat)=x at *
   repeat' first | (refine Tr.all_ite (fun hc=>?_) (fun hc=>?_)<;>(try simp (disch:=omega) only[nV,nW] at hc)<;>try omega) | (refine Tr.all_req ?_ ?_;· (try simp (disch:=omega) only[nV,nW]);try omega) | (refine Tr.all_reqP ?_ ?_;· first | exact trivial | rfl | exact ⟨rfl,rfl⟩ | exact ⟨rfl,rfl,rfl⟩ | (simp (disch:=omega) only[nV,nW];done) | ((try simp (disch:=omega) only[nV,nW]);omega)) | fail
   all_goals first
    | exact Tr.all_ok ⟨rfl,rfl⟩
    | fail
 · obtain ⟨r,h1,rfl⟩:=ex_all (Q:=fun r=>r=(.exit 2,fr55i .nils (j:Nat) (laV l t d j) (lvN l t j:Nat) (stp t (lvN l t j) (j:Nat))++[(22,.bool false)],lvO0 l t k d::H)) (t55ia n l k t d H (j:Nat) (laV l t d j) (lvN l t j:Nat) (stp t (lvN l t j) (j:Nat))) (il_no0 n) (noBT_ok _ _) (noRT_ok _ _) (by
    refine Tr.all_ite (fun hc=>?_) (fun hc=>Tr.all_ok rfl)
    simp (disch:=omega) only[nV,nW] at hc;omega)
   exact h1
theorem l55ib (v m:Nat) (y:Nat→Int) (j:Nat) (h:Fw l t) (hk:k=l) (hb:Bd l d) (hj:j<l):exec (cxD n 55 44) (.block 2 (.loop (part Try.f55 [1,1,0,1,0,0,1,0,0,1,0,1,0,0]))) (fr55i (.slc 0 1 v 0 1 m none) (j:Nat) (d j) 0 (j:Nat)) (lvO1 l t k d v m y::H)=some (.normal,fr55i (.slc 0 1 v 0 1 m none) (j:Nat) (laV l t d j) (lvN l t j:Nat) (stp t (lvN l t j) (j:Nat))++[(22,.bool false)],lvO1 l t k d v m y::H):=by
 obtain ⟨e1,e2,e3⟩:=cyc_lv h.cyc j hj
 have hl:=h.l30
 refine forX (n:=n) (f:=55) (nt:=44) (c:=part Try.f55 [1,1,0,1,0,0,1,0,0,1,0,1,0,0]) 2 (fun p=>fr55i (.slc 0 1 v 0 1 m none) (j:Nat) (lsV t d j p) (p:Nat) (stp t p (j:Nat))) (fun _=>lvO1 l t k d v m y::H) (lvN l t j) _ (by omega) (fun p hp=>?_) ?_
 · have h1:=e2 p hp
   have h2:=stp_lt h.tl (show (j:Int)<l by omega) p
   have h3:=stp_suc h1
   have h4:=hb (stp t p (j:Nat)).toNat (by omega)
   have h5:subI .i64 (d (stp t p (j:Nat)).toNat) (p:Int)=d (stp t p (j:Nat)).toNat-(p:Int):=sb64 (by omega) (by omega)
   refine ex_all (t55ib n l k t d v m y H (j:Nat) (lsV t d j p) (p:Nat) (stp t p (j:Nat))) (il_no0 n) (noBT_ok _ _) (noRT_ok _ _) ?_
   rw[cs64 (j:=p) (by omega),idI h1,h5,minO_min]
   show Tr.all _ (fun r=>_∧tidy _ _ _=(fr55i (.slc 0 1 v 0 1 m none) (j:Nat) (min (lsV t d j p) (d (stp t p (j:Int)).toNat-(p:Int))) ((p+1:Nat):Int) (stp t (p+1) (j:Nat)),_))
   rw[h3]
   generalize min (lsV t d j p) (d (stp t p (j:Int)).toNat-(p:Int))=V at *
   generalize stp t p (j:Nat)=x at *
   repeat' first | (refine Tr.all_ite (fun hc=>?_) (fun hc=>?_)<;>(try simp (disch:=omega) only[nV,nW] at hc)<;>try omega) | (refine Tr.all_req ?_ ?_;· (try simp (disch:=omega) only[nV,nW]);try omega) | (refine Tr.all_reqP ?_ ?_;· first | exact trivial | rfl | exact ⟨rfl,rfl⟩ | exact ⟨rfl,rfl,rfl⟩ | (simp (disch:=omega) only[nV,nW];done) | ((try simp (disch:=omega) only[nV,nW]);omega)) | fail
   all_goals first
    | exact Tr.all_ok ⟨rfl,rfl⟩
    | fail
 · obtain ⟨r,h1,rfl⟩:=ex_all (Q:=fun r=>r=(.exit 2,fr55i (.slc 0 1 v 0 1 m none) (j:Nat) (laV l t d j) (lvN l t j:Nat) (stp t (lvN l t j) (j:Nat))++[(22,.bool false)],lvO1 l t k d v m y::H)) (t55ib n l k t d v m y H (j:Nat) (laV l t d j) (lvN l t j:Nat) (stp t (lvN l t j) (j:Nat))) (il_no0 n) (noBT_ok _ _) (noRT_ok _ _) (by
    refine Tr.all_ite (fun hc=>?_) (fun hc=>Tr.all_ok rfl)
    simp (disch:=omega) only[nV,nW] at hc;omega)
   exact h1
theorem l55 (h:Fw l t) (h0:0<l) (hk:k=l) (hb:Bd l d):exec (cxD n 55 44) (.block 0 (.loop (part Try.f55 [1,1,0,1,0,0]))) (fr46 .nils 0) (lvO0 l t k d::H)=some (.normal,fr46 (o46 l) (Int.ofNat l)++[(12,.bool false)],lv46 l t k d (fun i=>laV l t d i) l::H):=by
 have hl:=h.l30
 refine forX (n:=n) (f:=55) (nt:=44) (c:=part Try.f55 [1,1,0,1,0,0]) 0 (fun j=>fr46 (o46 j) (j:Nat)) (fun j=>lv46 l t k d (fun i=>laV l t d i) j::H) l (fr46 (o46 l) (Int.ofNat l)++[(12,.bool false)],lv46 l t k d (fun i=>laV l t d i) l::H) (by omega) (fun j hj=>?_) ?_
 · cases j with
   | zero =>
     have hx:=l55ia n l k t d H 0 h hk hb hj
     have he:=t55a n l k t d H (0:Nat) (laV l t d 0) (lvN l t 0:Nat) (stp t (lvN l t 0) (0:Nat))
     rw[id1] at he
     refine ex_all he (il_no0 n) (blkE_ok (noBT_ok _ _) b55i (fun x hy=>blk_ok hy hx)) (noRT_ok _ _) ?_
     show Tr.all _ (fun x=>_∧tidy _ _ _=(fr46 (.slc 0 1 0 0 1 1 none) ((0+1:Nat):Int),lvO1 l t k d 0 1 (lstO [laV l t d 0])::H))
     rw[cs64 (j:=0) (by omega)]
     generalize laV l t d 0=W at *
     generalize lvN l t 0=N at *
     repeat' first | (refine Tr.all_ite (fun hc=>?_) (fun hc=>?_)<;>(try simp (disch:=omega) only[nV,nW] at hc)<;>try omega) | (refine Tr.all_req ?_ ?_;· (try simp (disch:=omega) only[nV,nW]);try omega) | (refine Tr.all_reqP ?_ ?_;· first | exact trivial | rfl | exact ⟨rfl,rfl⟩ | exact ⟨rfl,rfl,rfl⟩ | (simp (disch:=omega) only[nV,nW];done) | ((try simp (disch:=omega) only[nV,nW]);omega)) | fail
     all_goals first
      | exact Tr.all_ok ⟨rfl,rfl⟩
      | fail
   | succ j =>
     have hx:=l55ib n l k t d H j (j+1) (lstO (faN (fun i=>laV l t d i) (j+1))) (j+1) h hk hb hj
     have he:=t55b n l k t d j (j+1) (lstO (faN (fun i=>laV l t d i) (j+1))) H (j+1:Nat) (laV l t d (j+1)) (lvN l t (j+1):Nat) (stp t (lvN l t (j+1)) (j+1:Nat))
     rw[id1] at he
     refine ex_all he (il_no0 n) (blkE_ok (noBT_ok _ _) b55i (fun x hy=>blk_ok hy hx)) (noRT_ok _ _) ?_
     show Tr.all _ (fun x=>_∧tidy _ _ _=(fr46 (.slc 0 1 (j+1) 0 1 (j+1+1) none) ((j+1+1:Nat):Int),lvO1 l t k d (j+1) (j+1+1) (lstO (faN (fun i=>laV l t d i) (j+1+1)))::H))
     have hap:=faN_app (fun i=>laV l t d i) (j+1)
     have ea:addO (j+1) 1=j+1+1:=addO_eq _ _
     try dsimp only at hap
     rw[cs64 (j:=j+1) (by omega),hap,ea]
     generalize lstO (faN (fun i=>laV l t d i) (j+1+1))=Y2 at *
     generalize lstO (faN (fun i=>laV l t d i) (j+1))=Y at *
     generalize laV l t d (j+1)=W at *
     generalize lvN l t (j+1)=N at *
     repeat' first | (refine Tr.all_ite (fun hc=>?_) (fun hc=>?_)<;>(try simp (disch:=omega) only[nV,nW] at hc)<;>try omega) | (refine Tr.all_req ?_ ?_;· (try simp (disch:=omega) only[nV,nW]);try omega) | (refine Tr.all_reqP ?_ ?_;· first | exact trivial | rfl | exact ⟨rfl,rfl⟩ | exact ⟨rfl,rfl,rfl⟩ | (simp (disch:=omega) only[nV,nW];done) | ((try simp (disch:=omega) only[nV,nW]);omega)) | fail
     all_goals first
      | exact Tr.all_ok ⟨rfl,rfl⟩
      | fail
 · obtain ⟨q,rfl⟩:∃ q,l=q+1:=⟨l-1,by omega⟩
   obtain ⟨x,h1,rfl⟩:=ex_all (Q:=fun x=>x=(.exit 0,fr46 (o46 (q+1)) (Int.ofNat (q+1))++[(12,.bool false)],lv46 (q+1) t k d (fun i=>laV (q+1) t d i) (q+1)::H)) (t55x n (q+1) k t d q (q+1) (lstO (faN (fun i=>laV (q+1) t d i) (q+1))) H (Int.ofNat (q+1))) (il_no0 n) (stopB_ok (noBT_ok _ _) 2) (noRT_ok _ _) (by
    refine Tr.all_ite (fun hc=>?_) (fun hc=>Tr.all_ok rfl)
    simp (disch:=omega) only[nV,nW] at hc;omega)
   exact h1
theorem c55 (h:Fw l t) (h0:0<l) (hk:k=l) (hb:Bd l d):cd (n+1) (.fn 55) [shA l t k d] H=some (sl1 l (lstO (faN (fun i=>laV l t d i) l)) false,H):=by
 have hx:=l55 n l k t d H h h0 hk hb
 obtain ⟨q,rfl⟩:∃ q,l=q+1:=⟨l-1,by omega⟩
 refine fn_all (n:=n) Try.func55 rfl rfl rfl (u55 n (q+1) k q t d (lstO (faN (fun i=>laV (q+1) t d i) (q+1))) H) (il_no0 _) (blkE_ok (noBT_ok _ _) b55 (fun x hy=>blk_ok hy hx)) (noRT_ok _ _) ?_
 rw[shO_zero]
 generalize lstO (faN (fun i=>laV (q+1) t d i) (q+1))=Y at *
 repeat' first | (refine Tr.all_ite (fun hc=>?_) (fun hc=>?_)<;>(try simp (disch:=omega) only[nV,nW] at hc)<;>try omega) | (refine Tr.all_req ?_ ?_;· (try simp (disch:=omega) only[nV,nW]);try omega) | (refine Tr.all_reqP ?_ ?_;· first | exact trivial | rfl | exact ⟨rfl,rfl⟩ | exact ⟨rfl,rfl,rfl⟩ | (simp (disch:=omega) only[nV,nW];done) | ((try simp (disch:=omega) only[nV,nW]);omega)) | fail
 all_goals first
  | exact Tr.all_ok ⟨rfl,rfl⟩
  | fail
end
end Go.Eng
end
section
namespace Go.Eng
open Go.Proofs
set_option linter.unusedVariables false
set_option linter.unusedSimpArgs false
set_option maxRecDepth 100000
noncomputable def fr23 (l:Nat) (x:Nat→Int) (u:Bool) (k:Nat) (y:Nat→Int) (v:Bool) (j:Int):Frm:=[(0,sl1 l x u),(1,sl1 k y v),(5,.int .i64 j)]
noncomputable def g23 (I:Nat→(Nat→Int)→Nat→(Nat→Int)→Bool):List AV→Option (Prop×AV)
 | [.nils,.nils]=>some (True,.bool true)
 | [.slcT none (.M [.arr .i64 x m]) 1 m' u,.slcT none (.M [.arr .i64 y q]) 1 q' v]=>some ((m=m'∧q=q')∧m≤1000,.bool (I m x q y))
 | _=>none
theorem t23 (n l k:Nat) (x y:Nat→Int) (u v:Bool) (H:Heap) (j:Int):execT (cxD n 23 26) (il noCt n 0) noBT noRT (part Try.f23 [1,1,0,1,0,0]) (hints (fr23 l x u k y v j)) (lvE::H) =
 Tr.ite (ltI j (Int.ofNat l)) (Tr.req (inI j l) (Tr.req (ltN (idO 0 j 1) l) (Tr.req (inI j k) (Tr.req (ltN (idO 0 j 1) k) (Tr.ite (notB (eqI (x (idO 0 j 1)) (y (idO 0 j 1)))) (Tr.ok (Ex.ret,[(4,AV.bool false,some 1)],lvE::H)) (Tr.ok (Ex.normal,[(0,AV.slcT none (Row.M [Seg.arr .i64 x l]) 1 l u,none),(1,AV.slcT none (Row.M [Seg.arr .i64 y k]) 1 k v,none),(5,AV.int .i64 (addI .i64 j (Int.ofNat 1)),none)],lvE::H))))))) (Tr.ok (Ex.exit 0,[(0,AV.slcT none (Row.M [Seg.arr .i64 x l]) 1 l u,none),(1,AV.slcT none (Row.M [Seg.arr .i64 y k]) 1 k v,none),(5,AV.int .i64 j,none),(14,AV.bool false,some 1)],lvE::H)):=by kernel_rfl
theorem u23 (n l k:Nat) (x y:Nat→Int) (u v b:Bool) (H:Heap):bodyT Try.prog (cd n) 100000 23 Try.f23 (KtL.kt 23) (il noCt n 0) (blkE noBT 0 (fr23 l x u k y v 0) (lvE::H) (.ite b (.ok (.ret,[(4,.bool false,some 1)],lvE::H)) (.ok (.normal,hints (fr23 l x u k y v (Int.ofNat l)++[(14,.bool false)]),lvE::H)))) noRT [(sl1 l x u,none),(sl1 k y v,none)] H =
 (fun (Z0:Frm)=>Tr.ite (notB (eqI (Int.ofNat l) (Int.ofNat k))) (Tr.ok ((AV.bool false,some 1),H)) (Tr.reqP (Z0=Z0∧lvE::H=lvE::H) (Tr.ite b (Tr.ok ((AV.bool false,some 1),H)) (Tr.ok ((AV.bool true,some 1),H))))) [(0,AV.slcT none (Row.M [Seg.arr .i64 x l]) 1 l u),(1,AV.slcT none (Row.M [Seg.arr .i64 y k]) 1 k v),(5,AV.int .i64 (Int.ofNat 0))]:=by kernel_rfl
theorem u23s (n l k:Nat) (x y:Nat→Int) (u v:Bool) (H:Heap):bodyT Try.prog (cd n) 100000 23 Try.f23 (KtL.kt 23) (il noCt n 0) (stopB noBT 0) noRT [(sl1 l x u,none),(sl1 k y v,none)] H =
 Tr.ite (notB (eqI (Int.ofNat l) (Int.ofNat k))) (Tr.ok ((AV.bool false,some 1),H)) Tr.bad:=by kernel_rfl
theorem u23n (n:Nat) (H:Heap):bodyT Try.prog (cd n) 100000 23 Try.f23 (KtL.kt 23) (il noCt n 0) noBT noRT [(.nils,none),(.nils,none)] H =
 Tr.ok ((AV.bool true,some 1),H):=by kernel_rfl
theorem b23:∀ b,(0,b) ∈ blocksOf (bodyOf Try.f23)→b=.loop (part Try.f23 [1,1,0,1,0,0]):=by
 have:((blocksOf (bodyOf Try.f23)).filter fun x=>Nat.beq x.1 0)=[(0,.loop (part Try.f23 [1,1,0,1,0,0]))]:=by kernel_rfl
 intro b hb
 have hm:(0,b) ∈ ((blocksOf (bodyOf Try.f23)).filter fun x=>Nat.beq x.1 0):=List.mem_filter.2 ⟨hb,rfl⟩
 rw[this] at hm;simpa using hm
def inB (m:Nat) (x:Nat→Int) (k:Nat) (y:Nat→Int):Bool:=decide (m=k) && !exN (fun j=>decide (x j≠y j)) m
theorem inB_iff (m k:Nat) (x y:Nat→Int):inB m x k y=true↔m=k∧∀ j,j<m→x j=y j:=by
 unfold inB
 rw[Bool.and_eq_true,decide_eq_true_eq,Bool.not_eq_true']
 constructor
 · rintro ⟨h1,h2⟩
   exact ⟨h1,fun j hj=>by have:=exN_not h2 j hj;simpa using this⟩
 · rintro ⟨h1,h2⟩
   exact ⟨h1,exN_no (fun j hj=>by simpa using h2 j hj)⟩
section
variable (n:Nat) (H:Heap)
theorem c23 (l k:Nat) (x y:Nat→Int) (u v:Bool) (hl:l≤1000):cd (n+1) (.fn 23) [sl1 l x u,sl1 k y v] H=some (.bool (inB l x k y),H):=by
 by_cases hk:l=k
 · subst hk
   have hx:=findX (n:=n) (f:=23) (nt:=26) (c:=part Try.f23 [1,1,0,1,0,0]) 0 (fun j=>fr23 l x u l y v (j:Nat)) (fun _=>lvE::H) l (fun j=>decide (x j≠y j)) (fun j=>([(4,.bool false)],lvE::H)) (fr23 l x u l y v (Int.ofNat l)++[(14,.bool false)],lvE::H) (by omega) (fun j hj=>?_) ?_
   · refine fn_all (n:=n) Try.func23 rfl rfl rfl (u23 n l l x y u v (exN (fun j=>decide (x j≠y j)) l) H) (il_no0 _) (blkE_ok (noBT_ok _ _) b23 (fun x hy=>blk_ite hy hx)) (noRT_ok _ _) ?_
     unfold inB
     rw[decide_eq_true rfl,Bool.true_and]
     generalize exN (fun j=>decide (x j≠y j)) l=B at *
     cases B
     all_goals
      repeat' first | (refine Tr.all_ite (fun hc=>?_) (fun hc=>?_)<;>(try simp (disch:=omega) only[nV,nW] at hc)<;>try omega) | (refine Tr.all_req ?_ ?_;· (try simp (disch:=omega) only[nV,nW]);try omega) | (refine Tr.all_reqP ?_ ?_;· first | exact trivial | rfl | exact ⟨rfl,rfl⟩ | exact ⟨rfl,rfl,rfl⟩ | (simp (disch:=omega) only[nV,nW];done) | ((try simp (disch:=omega) only[nV,nW]);omega)) | fail
      all_goals first
       | exact Tr.all_ok ⟨rfl,rfl⟩
       | fail
   · refine ex_all (t23 n l l x y u v H (j:Nat)) (il_no0 n) (noBT_ok _ _) (noRT_ok _ _) ?_
     show Tr.all _ (fun r=>if decide (x j≠y j)=true then _ else _)
     rw[cs64 (j:=j) (by omega)]
     simp only[id1]
     generalize x j=p at *
     generalize y j=q at *
     by_cases c:p=q
     · simp only[c,ne_eq,not_true,decide_false,Bool.false_eq_true,if_false]
       repeat' first | (refine Tr.all_ite (fun hc=>?_) (fun hc=>?_)<;>(try simp (disch:=omega) only[nV,nW] at hc)<;>try omega) | (refine Tr.all_req ?_ ?_;· (try simp (disch:=omega) only[nV,nW]);try omega) | (refine Tr.all_reqP ?_ ?_;· first | exact trivial | rfl | exact ⟨rfl,rfl⟩ | exact ⟨rfl,rfl,rfl⟩ | (simp (disch:=omega) only[nV,nW];done) | ((try simp (disch:=omega) only[nV,nW]);omega)) | fail
       all_goals first
        | exact Tr.all_ok ⟨rfl,rfl⟩
        | fail
     · simp only[ne_eq,c,not_false_eq_true,decide_true,if_true]
       repeat' first | (refine Tr.all_ite (fun hc=>?_) (fun hc=>?_)<;>(try simp (disch:=omega) only[nV,nW] at hc)<;>try omega) | (refine Tr.all_req ?_ ?_;· (try simp (disch:=omega) only[nV,nW]);try omega) | (refine Tr.all_reqP ?_ ?_;· first | exact trivial | rfl | exact ⟨rfl,rfl⟩ | exact ⟨rfl,rfl,rfl⟩ | (simp (disch:=omega) only[nV,nW];done) | ((try simp (disch:=omega) only[nV,nW]);omega)) | fail
       all_goals first
        | exact Tr.all_ok rfl
        | fail
   · obtain ⟨r,h1,rfl⟩:=ex_all (Q:=fun r=>r=(.exit 0,fr23 l x u l y v (Int.ofNat l)++[(14,.bool false)],lvE::H)) (t23 n l l x y u v H (Int.ofNat l)) (il_no0 n) (noBT_ok _ _) (noRT_ok _ _) (by
      refine Tr.all_ite (fun hc=>?_) (fun hc=>Tr.all_ok rfl)
      simp (disch:=omega) only[nV,nW] at hc;omega)
     exact h1
 · have hi:inB l x k y=false:=by unfold inB;rw[decide_eq_false hk];rfl
   rw[hi]
   refine fn_all (n:=n) Try.func23 rfl rfl rfl (u23s n l k x y u v H) (il_no0 _) (stopB_ok (noBT_ok _ _) 0) (noRT_ok _ _) ?_
   repeat' first | (refine Tr.all_ite (fun hc=>?_) (fun hc=>?_)<;>(try simp (disch:=omega) only[nV,nW] at hc)<;>try omega) | (refine Tr.all_req ?_ ?_;· (try simp (disch:=omega) only[nV,nW]);try omega) | (refine Tr.all_reqP ?_ ?_;· first | exact trivial | rfl | exact ⟨rfl,rfl⟩ | exact ⟨rfl,rfl,rfl⟩ | (simp (disch:=omega) only[nV,nW];done) | ((try simp (disch:=omega) only[nV,nW]);omega)) | fail
   all_goals first
    | exact Tr.all_ok ⟨rfl,rfl⟩
    | fail
theorem c23n:cd (n+1) (.fn 23) [.nils,.nils] H=some (.bool true,H):=by
 refine fn_all (n:=n) Try.func23 rfl rfl rfl (u23n n H) (il_no0 _) (noBT_ok _ _) (noRT_ok _ _) ?_
 repeat' first | (refine Tr.all_ite (fun hc=>?_) (fun hc=>?_)<;>(try simp (disch:=omega) only[nV,nW] at hc)<;>try omega) | (refine Tr.all_req ?_ ?_;· (try simp (disch:=omega) only[nV,nW]);try omega) | (refine Tr.all_reqP ?_ ?_;· first | exact trivial | rfl | exact ⟨rfl,rfl⟩ | exact ⟨rfl,rfl,rfl⟩ | (simp (disch:=omega) only[nV,nW];done) | ((try simp (disch:=omega) only[nV,nW]);omega)) | fail
 all_goals first
  | exact Tr.all_ok ⟨rfl,rfl⟩
  | fail
theorem g23_ok {c:Nat} {t:Ctr} (ht:t.Ok (cd (c+1))):(ctG t 23 (g23 inB)).Ok (cd (c+1)):=by
 refine ctG_ok ht (fun args p v hg hp H=>?_)
 unfold g23 at hg
 split at hg
 · simp only[nP] at hg
   obtain ⟨_,rfl⟩:=hg
   exact c23n c H
 · simp only[nP] at hg
   obtain ⟨rfl,rfl⟩:=hg
   obtain ⟨⟨rfl,rfl⟩,hm⟩:=hp
   exact c23 c H _ _ _ _ _ _ hm
 · cases hg
variable (l k:Nat) (t d:Nat→Int)
end
end Go.Eng
end
