/- Lay: Last; levels and last turns as they are defined. -/
import Derived.Test.YtoomemfhcbajoaaV7Lb9x2
section
namespace Go.Eng
open Go.Proofs
set_option linter.unusedVariables false
set_option linter.unusedSimpArgs false
set_option maxRecDepth 100000
noncomputable def fr46 (o:AV) (j:Int):Frm:=[(1,.ptr 0 0 0 0),(3,o),(4,.int .i64 j)]
noncomputable def fr46i (o:AV) (j c x:Int):Frm:=[(1,.ptr 0 0 0 0),(3,o),(4,.int .i64 j),(5,.int .i64 c),(6,.int .i64 x)]
noncomputable def lvO1 (l:Nat) (t:Nat→Int) (k:Nat) (d:Nat→Int) (v m:Nat) (y:Nat→Int):Lvl:=⟨false,[bxS l t k d,(v,.row (.M [.arr .i64 y m]))]⟩
noncomputable def lvO0 (l:Nat) (t:Nat→Int) (k:Nat) (d:Nat→Int):Lvl:=⟨false,[bxS l t k d]⟩
theorem t46ia (n l k:Nat) (t d:Nat→Int) (H:Heap) (j c x:Int):execT (cxD n 46 29) (il noCt n 0) noBT noRT (part Try.f46 [1,1,0,1,0,0,1,0,0,1,0,1,0,0]) (hints (fr46i .nils j c x)) (lvO0 l t k d::H) =
 (fun (Z0:Lvl)=>Tr.ite (leI (Int.ofNat 0) x) (Tr.req (inI x l) (Tr.req (ltN (idO 0 x 1) l) (Tr.ok (Ex.normal,[(1,AV.ptr 0 0 0 0,none),(3,AV.nils,none),(4,AV.int .i64 j,none),(5,AV.int .i64 (addI .i64 c (Int.ofNat 1)),none),(6,AV.int .i64 (t (idO 0 x 1)),none)],Z0::H)))) (Tr.ok (Ex.exit 2,[(1,AV.ptr 0 0 0 0,none),(3,AV.nils,none),(4,AV.int .i64 j,none),(5,AV.int .i64 c,none),(6,AV.int .i64 x,none),(16,AV.bool false,some 1)],Z0::H))) { lock:=false,bs:=[(0,Blk.row (Row.G [AV.slcT none (Row.M [Seg.arr .i64 t l]) 1 l false,AV.slcT none (Row.M [Seg.arr .i64 d k]) 1 k false]))] }:=by kernel_rfl
theorem t46a (n l k:Nat) (t d:Nat→Int) (H:Heap) (j c x:Int):execT (cxD n 46 29) (il noCt n 0) (blkE noBT 2 (fr46i .nils j 0 j) (lvO0 l t k d::H) (.ok (.normal,hints (fr46i .nils j c x++[(16,.bool false)]),lvO0 l t k d::H))) noRT (part Try.f46 [1,1,0,1,0,0]) (hints (fr46 .nils j)) (lvO0 l t k d::H) =
 (fun (Z0:Nat×Blk)=>((fun (Z1:Frm)=>Tr.ite (ltI j (Int.ofNat l)) (Tr.reqP (Z1=Z1∧{ lock:=false,bs:=[Z0] } :: H={ lock:=false,bs:=[Z0] } :: H) (Tr.req (roomO 0 1 8) (Tr.req (eqN 0 0) (Tr.req (leN 1 1) (Tr.ok (Ex.normal,[(1,AV.ptr 0 0 0 0,none),(3,AV.slc 0 2 0 0 1 1 none,none),(4,AV.int .i64 (addI .i64 j (Int.ofNat 1)),none)],{ lock:=false,bs:=[Z0,(0,Blk.row (Row.I .i64 [c])),(0,Blk.row (Row.M [Seg.arr .i64 (lstO [c]) 1]))] } :: H)))))) (Tr.ok (Ex.exit 0,[(1,AV.ptr 0 0 0 0,none),(3,AV.nils,none),(4,AV.int .i64 j,none),(11,AV.bool false,some 1)],{ lock:=false,bs:=[Z0] } :: H))) [(1,AV.ptr 0 0 0 0),(3,AV.nils),(4,AV.int .i64 j),(5,AV.int .i64 (Int.ofNat 0)),(6,AV.int .i64 j)])) (0,Blk.row (Row.G [AV.slcT none (Row.M [Seg.arr .i64 t l]) 1 l false,AV.slcT none (Row.M [Seg.arr .i64 d k]) 1 k false])):=by kernel_rfl
theorem t46ib (n l k:Nat) (t d:Nat→Int) (v m:Nat) (y:Nat→Int) (H:Heap) (j c x:Int):execT (cxD n 46 29) (il noCt n 0) noBT noRT (part Try.f46 [1,1,0,1,0,0,1,0,0,1,0,1,0,0]) (hints (fr46i (.slc 0 1 v 0 1 m none) j c x)) (lvO1 l t k d v m y::H) =
 (fun (Z0:Lvl)=>Tr.ite (leI (Int.ofNat 0) x) (Tr.req (inI x l) (Tr.req (ltN (idO 0 x 1) l) (Tr.ok (Ex.normal,[(1,AV.ptr 0 0 0 0,none),(3,AV.slc 0 1 v 0 1 m none,none),(4,AV.int .i64 j,none),(5,AV.int .i64 (addI .i64 c (Int.ofNat 1)),none),(6,AV.int .i64 (t (idO 0 x 1)),none)],Z0::H)))) (Tr.ok (Ex.exit 2,[(1,AV.ptr 0 0 0 0,none),(3,AV.slc 0 1 v 0 1 m none,none),(4,AV.int .i64 j,none),(5,AV.int .i64 c,none),(6,AV.int .i64 x,none),(16,AV.bool false,some 1)],Z0::H))) { lock:=false,bs:=[(0,Blk.row (Row.G [AV.slcT none (Row.M [Seg.arr .i64 t l]) 1 l false,AV.slcT none (Row.M [Seg.arr .i64 d k]) 1 k false])),(v,Blk.row (Row.M [Seg.arr .i64 y m]))] }:=by kernel_rfl
theorem t46b (n l k:Nat) (t d:Nat→Int) (v m:Nat) (y:Nat→Int) (H:Heap) (j c x:Int):execT (cxD n 46 29) (il noCt n 0) (blkE noBT 2 (fr46i (.slc 0 1 v 0 1 m none) j 0 j) (lvO1 l t k d v m y::H) (.ok (.normal,hints (fr46i (.slc 0 1 v 0 1 m none) j c x++[(16,.bool false)]),lvO1 l t k d v m y::H))) noRT (part Try.f46 [1,1,0,1,0,0]) (hints (fr46 (.slc 0 1 v 0 1 m none) j)) (lvO1 l t k d v m y::H) =
 (fun (Z0:Lvl)=>((fun (Z1:Frm)=>Tr.ite (ltI j (Int.ofNat l)) (Tr.reqP (Z1=Z1∧Z0::H=Z0::H) (Tr.req (roomO m 1 8) (Tr.req (eqN 0 0) (Tr.req (leN 1 1) (Tr.req (eqN v v) (Tr.req (eqN (addO 0 m) m) (Tr.ok (Ex.normal,[(1,AV.ptr 0 0 0 0,none),(3,AV.slc 0 1 (Nat.succ v) 0 1 (addO m 1) none,none),(4,AV.int .i64 (addI .i64 j (Int.ofNat 1)),none)],{ lock:=false,bs:=[(0,Blk.row (Row.G [AV.slcT none (Row.M [Seg.arr .i64 t l]) 1 l false,AV.slcT none (Row.M [Seg.arr .i64 d k]) 1 k false])),(Nat.succ v,Blk.row (Row.M [Seg.arr .i64 (appO (shO y 0) m (lstO [c])) (addO m 1)])),(0,Blk.row (Row.I .i64 [c]))] } :: H)))))))) (Tr.ok (Ex.exit 0,[(1,AV.ptr 0 0 0 0,none),(3,AV.slc 0 1 v 0 1 m none,none),(4,AV.int .i64 j,none),(11,AV.bool false,some 1)],Z0::H))) [(1,AV.ptr 0 0 0 0),(3,AV.slc 0 1 v 0 1 m none),(4,AV.int .i64 j),(5,AV.int .i64 (Int.ofNat 0)),(6,AV.int .i64 j)])) { lock:=false,bs:=[(0,Blk.row (Row.G [AV.slcT none (Row.M [Seg.arr .i64 t l]) 1 l false,AV.slcT none (Row.M [Seg.arr .i64 d k]) 1 k false])),(v,Blk.row (Row.M [Seg.arr .i64 y m]))] }:=by kernel_rfl
theorem t46x (n l k:Nat) (t d:Nat→Int) (v m:Nat) (y:Nat→Int) (H:Heap) (j:Int):execT (cxD n 46 29) (il noCt n 0) (stopB noBT 2) noRT (part Try.f46 [1,1,0,1,0,0]) (hints (fr46 (.slc 0 1 v 0 1 m none) j)) (lvO1 l t k d v m y::H) =
 Tr.ite (ltI j (Int.ofNat l)) Tr.bad (Tr.ok (Ex.exit 0,[(1,AV.ptr 0 0 0 0,none),(3,AV.slc 0 1 v 0 1 m none,none),(4,AV.int .i64 j,none),(11,AV.bool false,some 1)],{ lock:=false,bs:=[(0,Blk.row (Row.G [AV.slcT none (Row.M [Seg.arr .i64 t l]) 1 l false,AV.slcT none (Row.M [Seg.arr .i64 d k]) 1 k false])),(v,Blk.row (Row.M [Seg.arr .i64 y m]))] } :: H)):=by kernel_rfl
theorem u46 (n l k q:Nat) (t d y:Nat→Int) (H:Heap):bodyT Try.prog (cd n) 100000 46 Try.f46 (KtL.kt 46) (il noCt n 0) (blkE noBT 0 (fr46 .nils 0) (lvO0 l t k d::H) (.ok (.normal,hints (fr46 (.slc 0 1 q 0 1 (q+1) none) (Int.ofNat l)++[(11,.bool false)]),lvO1 l t k d q (q+1) y::H))) noRT [(shA l t k d,none)] H =
 (fun (Z0:Lvl)=>Tr.reqP ([(1,AV.ptr 0 0 0 0),(3,AV.nils),(4,AV.int .i64 (Int.ofNat 0))]=[(1,AV.ptr 0 0 0 0),(3,AV.nils),(4,AV.int .i64 (Int.ofNat 0))]∧Z0::H=Z0::H) (Tr.req (eqN q q) (Tr.req (inO 0 (Nat.succ q) 0 (Nat.succ q)) (Tr.ok ((AV.slcT none (Row.M [Seg.arr .i64 (shO y 0) (Nat.succ q)]) 1 (Nat.succ q) false,none),H))))) { lock:=false,bs:=[(0,Blk.row (Row.G [AV.slcT none (Row.M [Seg.arr .i64 t l]) 1 l false,AV.slcT none (Row.M [Seg.arr .i64 d k]) 1 k false]))] }:=by kernel_rfl
theorem b46:∀ b,(0,b) ∈ blocksOf (bodyOf Try.f46)→b=.loop (part Try.f46 [1,1,0,1,0,0]):=by
 have:((blocksOf (bodyOf Try.f46)).filter fun x=>Nat.beq x.1 0)=[(0,.loop (part Try.f46 [1,1,0,1,0,0]))]:=by kernel_rfl
 intro b hb
 have hm:(0,b) ∈ ((blocksOf (bodyOf Try.f46)).filter fun x=>Nat.beq x.1 0):=List.mem_filter.2 ⟨hb,rfl⟩
 rw[this] at hm;simpa using hm
theorem b46i:∀ b,(2,b) ∈ blocksOf (part Try.f46 [1,1,0,1,0,0])→b=.loop (part Try.f46 [1,1,0,1,0,0,1,0,0,1,0,1,0,0]):=by
 have:((blocksOf (part Try.f46 [1,1,0,1,0,0])).filter fun x=>Nat.beq x.1 2)=[(2,.loop (part Try.f46 [1,1,0,1,0,0,1,0,0,1,0,1,0,0]))]:=by kernel_rfl
 intro b hb
 have hm:(2,b) ∈ ((blocksOf (part Try.f46 [1,1,0,1,0,0])).filter fun x=>Nat.beq x.1 2):=List.mem_filter.2 ⟨hb,rfl⟩
 rw[this] at hm;simpa using hm
def faN (z:Nat→Int) (j:Nat):List Int:=(List.range j).map z
theorem faN_len (z:Nat→Int) (j:Nat):(faN z j).length=j:=by simp[faN]
theorem faN_suc (z:Nat→Int) (j:Nat):faN z (j+1)=faN z j++[z j]:=by simp[faN,List.range_succ]
theorem faN_app (z:Nat→Int) (j:Nat):appO (shO (lstO (faN z j)) 0) j (lstO [z j])=lstO (faN z (j+1)):=by
 have:=lst_app (faN z j) (z j)
 rw[faN_len,← faN_suc] at this;exact this
theorem faN_at (z:Nat→Int) {j i:Nat} (h:i<j):lstO (faN z j) i=z i:=by
 rw[lst_el _ _ (by rw[faN_len];exact h)];simp[faN]
noncomputable def o46:Nat→AV
 | 0=>.nils
 | q+1=>.slc 0 1 q 0 1 (q+1) none
noncomputable def lv46 (l:Nat) (t:Nat→Int) (k:Nat) (d:Nat→Int) (z:Nat→Int):Nat→Lvl
 | 0=>lvO0 l t k d
 | q+1=>lvO1 l t k d q (q+1) (lstO (faN z (q+1)))
structure Fw (l:Nat) (t:Nat→Int):Prop where
 l30:l≤30
 tl:∀ j,j<l→t j<l
 cyc:cycB l t=false
theorem Sh.fw {l k:Nat} {t d:Nat→Int} (h:Sh l t k d):Fw l t:=⟨h.l30,h.tl,h.cyc⟩
def Bd (l:Nat) (e:Nat→Int):Prop:=∀ j,j<l→-900≤e j∧e j≤900
theorem Sh.bd {l k:Nat} {t d:Nat→Int} (h:Sh l t k d):Bd l d:=fun j hj=>by
 have:=h.d1 j hj
 have:=h.d40 j hj
 omega
section
variable (n l k:Nat) (t d:Nat→Int) (H:Heap)
theorem l46ia (j:Nat) (h:Fw l t) (hj:j<l):exec (cxD n 46 29) (.block 2 (.loop (part Try.f46 [1,1,0,1,0,0,1,0,0,1,0,1,0,0]))) (fr46i .nils (j:Nat) 0 (j:Nat)) (lvO0 l t k d::H)=some (.normal,fr46i .nils (j:Nat) (lvN l t j:Nat) (stp t (lvN l t j) (j:Nat))++[(16,.bool false)],lvO0 l t k d::H):=by
 obtain ⟨e1,e2,e3⟩:=cyc_lv h.cyc j hj
 have hl:=h.l30
 refine forX (n:=n) (f:=46) (nt:=29) (c:=part Try.f46 [1,1,0,1,0,0,1,0,0,1,0,1,0,0]) 2 (fun p=>fr46i .nils (j:Nat) (p:Nat) (stp t p (j:Nat))) (fun _=>lvO0 l t k d::H) (lvN l t j) _ (by omega) (fun p hp=>?_) ?_
 · have h1:=e2 p hp
   have h2:=stp_lt h.tl (show (j:Int)<l by omega) p
   have h3:=stp_suc h1
   refine ex_all (t46ia n l k t d H (j:Nat) (p:Nat) (stp t p (j:Nat))) (il_no0 n) (noBT_ok _ _) (noRT_ok _ _) ?_
   rw[cs64 (j:=p) (by omega),idI h1]
   show Tr.all _ (fun r=>_∧tidy _ _ _=(fr46i .nils (j:Nat) ((p+1:Nat):Int) (stp t (p+1) (j:Nat)),_))
   rw[h3]
   generalize stp t p (j:Nat)=x at *
   repeat' first | (refine Tr.all_ite (fun hc=>?_) (fun hc=>?_)<;>(try simp (disch:=omega) only[nV,nW] at hc)<;>try omega) | (refine Tr.all_req ?_ ?_;· (try simp (disch:=omega) only[nV,nW]);try omega) | (refine Tr.all_reqP ?_ ?_;· first | exact trivial | rfl | exact ⟨rfl,rfl⟩ | exact ⟨rfl,rfl,rfl⟩ | (simp (disch:=omega) only[nV,nW];done) | ((try simp (disch:=omega) only[nV,nW]);omega)) | fail
   all_goals first
    | exact Tr.all_ok ⟨rfl,rfl⟩
    | fail
 · obtain ⟨r,h1,rfl⟩:=ex_all (Q:=fun r=>r=(.exit 2,fr46i .nils (j:Nat) (lvN l t j:Nat) (stp t (lvN l t j) (j:Nat))++[(16,.bool false)],lvO0 l t k d::H)) (t46ia n l k t d H (j:Nat) (lvN l t j:Nat) (stp t (lvN l t j) (j:Nat))) (il_no0 n) (noBT_ok _ _) (noRT_ok _ _) (by
    refine Tr.all_ite (fun hc=>?_) (fun hc=>Tr.all_ok rfl)
    simp (disch:=omega) only[nV,nW] at hc;omega)
   exact h1
theorem l46ib (v m:Nat) (y:Nat→Int) (j:Nat) (h:Fw l t) (hj:j<l):exec (cxD n 46 29) (.block 2 (.loop (part Try.f46 [1,1,0,1,0,0,1,0,0,1,0,1,0,0]))) (fr46i (.slc 0 1 v 0 1 m none) (j:Nat) 0 (j:Nat)) (lvO1 l t k d v m y::H)=some (.normal,fr46i (.slc 0 1 v 0 1 m none) (j:Nat) (lvN l t j:Nat) (stp t (lvN l t j) (j:Nat))++[(16,.bool false)],lvO1 l t k d v m y::H):=by
 obtain ⟨e1,e2,e3⟩:=cyc_lv h.cyc j hj
 have hl:=h.l30
 refine forX (n:=n) (f:=46) (nt:=29) (c:=part Try.f46 [1,1,0,1,0,0,1,0,0,1,0,1,0,0]) 2 (fun p=>fr46i (.slc 0 1 v 0 1 m none) (j:Nat) (p:Nat) (stp t p (j:Nat))) (fun _=>lvO1 l t k d v m y::H) (lvN l t j) _ (by omega) (fun p hp=>?_) ?_
 · have h1:=e2 p hp
   have h2:=stp_lt h.tl (show (j:Int)<l by omega) p
   have h3:=stp_suc h1
   refine ex_all (t46ib n l k t d v m y H (j:Nat) (p:Nat) (stp t p (j:Nat))) (il_no0 n) (noBT_ok _ _) (noRT_ok _ _) ?_
   rw[cs64 (j:=p) (by omega),idI h1]
   show Tr.all _ (fun r=>_∧tidy _ _ _=(fr46i (.slc 0 1 v 0 1 m none) (j:Nat) ((p+1:Nat):Int) (stp t (p+1) (j:Nat)),_))
   rw[h3]
   generalize stp t p (j:Nat)=x at *
   repeat' first | (refine Tr.all_ite (fun hc=>?_) (fun hc=>?_)<;>(try simp (disch:=omega) only[nV,nW] at hc)<;>try omega) | (refine Tr.all_req ?_ ?_;· (try simp (disch:=omega) only[nV,nW]);try omega) | (refine Tr.all_reqP ?_ ?_;· first | exact trivial | rfl | exact ⟨rfl,rfl⟩ | exact ⟨rfl,rfl,rfl⟩ | (simp (disch:=omega) only[nV,nW];done) | ((try simp (disch:=omega) only[nV,nW]);omega)) | fail
   all_goals first
    | exact Tr.all_ok ⟨rfl,rfl⟩
    | fail
 · obtain ⟨r,h1,rfl⟩:=ex_all (Q:=fun r=>r=(.exit 2,fr46i (.slc 0 1 v 0 1 m none) (j:Nat) (lvN l t j:Nat) (stp t (lvN l t j) (j:Nat))++[(16,.bool false)],lvO1 l t k d v m y::H)) (t46ib n l k t d v m y H (j:Nat) (lvN l t j:Nat) (stp t (lvN l t j) (j:Nat))) (il_no0 n) (noBT_ok _ _) (noRT_ok _ _) (by
    refine Tr.all_ite (fun hc=>?_) (fun hc=>Tr.all_ok rfl)
    simp (disch:=omega) only[nV,nW] at hc;omega)
   exact h1
theorem l46 (h:Fw l t) (h0:0<l):exec (cxD n 46 29) (.block 0 (.loop (part Try.f46 [1,1,0,1,0,0]))) (fr46 .nils 0) (lvO0 l t k d::H)=some (.normal,fr46 (o46 l) (Int.ofNat l)++[(11,.bool false)],lv46 l t k d (fun i=>(lvN l t i:Int)) l::H):=by
 have hl:=h.l30
 refine forX (n:=n) (f:=46) (nt:=29) (c:=part Try.f46 [1,1,0,1,0,0]) 0 (fun j=>fr46 (o46 j) (j:Nat)) (fun j=>lv46 l t k d (fun i=>(lvN l t i:Int)) j::H) l (fr46 (o46 l) (Int.ofNat l)++[(11,.bool false)],lv46 l t k d (fun i=>(lvN l t i:Int)) l::H) (by omega) (fun j hj=>?_) ?_
 · cases j with
   | zero =>
     have hx:=l46ia n l k t d H 0 h hj
     have he:=t46a n l k t d H (0:Nat) (lvN l t 0:Nat) (stp t (lvN l t 0) (0:Nat))
     refine ex_all he (il_no0 n) (blkE_ok (noBT_ok _ _) b46i (fun x hy=>blk_ok hy hx)) (noRT_ok _ _) ?_
     show Tr.all _ (fun x=>_∧tidy _ _ _=(fr46 (.slc 0 1 0 0 1 1 none) ((0+1:Nat):Int),lvO1 l t k d 0 1 (lstO [(lvN l t 0:Int)])::H))
     rw[cs64 (j:=0) (by omega)]
     generalize lvN l t 0=N at *
     repeat' first | (refine Tr.all_ite (fun hc=>?_) (fun hc=>?_)<;>(try simp (disch:=omega) only[nV,nW] at hc)<;>try omega) | (refine Tr.all_req ?_ ?_;· (try simp (disch:=omega) only[nV,nW]);try omega) | (refine Tr.all_reqP ?_ ?_;· first | exact trivial | rfl | exact ⟨rfl,rfl⟩ | exact ⟨rfl,rfl,rfl⟩ | (simp (disch:=omega) only[nV,nW];done) | ((try simp (disch:=omega) only[nV,nW]);omega)) | fail
     all_goals first
      | exact Tr.all_ok ⟨rfl,rfl⟩
      | fail
   | succ j =>
     have hx:=l46ib n l k t d H j (j+1) (lstO (faN (fun i=>(lvN l t i:Int)) (j+1))) (j+1) h hj
     have he:=t46b n l k t d j (j+1) (lstO (faN (fun i=>(lvN l t i:Int)) (j+1))) H (j+1:Nat) (lvN l t (j+1):Nat) (stp t (lvN l t (j+1)) (j+1:Nat))
     refine ex_all he (il_no0 n) (blkE_ok (noBT_ok _ _) b46i (fun x hy=>blk_ok hy hx)) (noRT_ok _ _) ?_
     show Tr.all _ (fun x=>_∧tidy _ _ _=(fr46 (.slc 0 1 (j+1) 0 1 (j+1+1) none) ((j+1+1:Nat):Int),lvO1 l t k d (j+1) (j+1+1) (lstO (faN (fun i=>(lvN l t i:Int)) (j+1+1)))::H))
     have hap:=faN_app (fun i=>(lvN l t i:Int)) (j+1)
     have ea:addO (j+1) 1=j+1+1:=addO_eq _ _
     try dsimp only at hap
     rw[cs64 (j:=j+1) (by omega),hap,ea]
     generalize lstO (faN (fun i=>(lvN l t i:Int)) (j+1+1))=Y2 at *
     generalize lstO (faN (fun i=>(lvN l t i:Int)) (j+1))=Y at *
     generalize lvN l t (j+1)=N at *
     repeat' first | (refine Tr.all_ite (fun hc=>?_) (fun hc=>?_)<;>(try simp (disch:=omega) only[nV,nW] at hc)<;>try omega) | (refine Tr.all_req ?_ ?_;· (try simp (disch:=omega) only[nV,nW]);try omega) | (refine Tr.all_reqP ?_ ?_;· first | exact trivial | rfl | exact ⟨rfl,rfl⟩ | exact ⟨rfl,rfl,rfl⟩ | (simp (disch:=omega) only[nV,nW];done) | ((try simp (disch:=omega) only[nV,nW]);omega)) | fail
     all_goals first
      | exact Tr.all_ok ⟨rfl,rfl⟩
      | fail
 · obtain ⟨q,rfl⟩:∃ q,l=q+1:=⟨l-1,by omega⟩
   obtain ⟨x,h1,rfl⟩:=ex_all (Q:=fun x=>x=(.exit 0,fr46 (o46 (q+1)) (Int.ofNat (q+1))++[(11,.bool false)],lv46 (q+1) t k d (fun i=>(lvN (q+1) t i:Int)) (q+1)::H)) (t46x n (q+1) k t d q (q+1) (lstO (faN (fun i=>(lvN (q+1) t i:Int)) (q+1))) H (Int.ofNat (q+1))) (il_no0 n) (stopB_ok (noBT_ok _ _) 2) (noRT_ok _ _) (by
    refine Tr.all_ite (fun hc=>?_) (fun hc=>Tr.all_ok rfl)
    simp (disch:=omega) only[nV,nW] at hc;omega)
   exact h1
theorem c46 (h:Fw l t) (h0:0<l):cd (n+1) (.fn 46) [shA l t k d] H=some (sl1 l (lstO (faN (fun i=>(lvN l t i:Int)) l)) false,H):=by
 have hx:=l46 n l k t d H h h0
 obtain ⟨q,rfl⟩:∃ q,l=q+1:=⟨l-1,by omega⟩
 refine fn_all (n:=n) Try.func46 rfl rfl rfl (u46 n (q+1) k q t d (lstO (faN (fun i=>(lvN (q+1) t i:Int)) (q+1))) H) (il_no0 _) (blkE_ok (noBT_ok _ _) b46 (fun x hy=>blk_ok hy hx)) (noRT_ok _ _) ?_
 rw[shO_zero]
 generalize lstO (faN (fun i=>(lvN (q+1) t i:Int)) (q+1))=Y at *
 repeat' first | (refine Tr.all_ite (fun hc=>?_) (fun hc=>?_)<;>(try simp (disch:=omega) only[nV,nW] at hc)<;>try omega) | (refine Tr.all_req ?_ ?_;· (try simp (disch:=omega) only[nV,nW]);try omega) | (refine Tr.all_reqP ?_ ?_;· first | exact trivial | rfl | exact ⟨rfl,rfl⟩ | exact ⟨rfl,rfl,rfl⟩ | (simp (disch:=omega) only[nV,nW];done) | ((try simp (disch:=omega) only[nV,nW]);omega)) | fail
 all_goals first
  | exact Tr.all_ok ⟨rfl,rfl⟩
  | fail
end
end Go.Eng
end
section
namespace Go.Eng
open Go.Proofs
set_option linter.unusedVariables false
set_option linter.unusedSimpArgs false
set_option maxRecDepth 100000
noncomputable def fr23 (l:Nat) (x:Nat→Int) (u:Bool) (k:Nat) (y:Nat→Int) (v:Bool) (j:Int):Frm:=[(0,sl1 l x u),(1,sl1 k y v),(5,.int .i64 j)]
noncomputable def g23 (I:Nat→(Nat→Int)→Nat→(Nat→Int)→Bool):List AV→Option (Prop×AV)
 | [.nils,.nils]=>some (True,.bool true)
 | [.slcT none (.M [.arr .i64 x m]) 1 m' u,.slcT none (.M [.arr .i64 y q]) 1 q' v]=>some ((m=m'∧q=q')∧m≤1000,.bool (I m x q y))
 | _=>none
theorem t23 (n l k:Nat) (x y:Nat→Int) (u v:Bool) (H:Heap) (j:Int):execT (cxD n 23 26) (il noCt n 0) noBT noRT (part Try.f23 [1,1,0,1,0,0]) (hints (fr23 l x u k y v j)) (lvE::H) =
 Tr.ite (ltI j (Int.ofNat l)) (Tr.req (inI j l) (Tr.req (ltN (idO 0 j 1) l) (Tr.req (inI j k) (Tr.req (ltN (idO 0 j 1) k) (Tr.ite (notB (eqI (x (idO 0 j 1)) (y (idO 0 j 1)))) (Tr.ok (Ex.ret,[(4,AV.bool false,some 1)],lvE::H)) (Tr.ok (Ex.normal,[(0,AV.slcT none (Row.M [Seg.arr .i64 x l]) 1 l u,none),(1,AV.slcT none (Row.M [Seg.arr .i64 y k]) 1 k v,none),(5,AV.int .i64 (addI .i64 j (Int.ofNat 1)),none)],lvE::H))))))) (Tr.ok (Ex.exit 0,[(0,AV.slcT none (Row.M [Seg.arr .i64 x l]) 1 l u,none),(1,AV.slcT none (Row.M [Seg.arr .i64 y k]) 1 k v,none),(5,AV.int .i64 j,none),(14,AV.bool false,some 1)],lvE::H)):=by kernel_rfl
theorem u23 (n l k:Nat) (x y:Nat→Int) (u v b:Bool) (H:Heap):bodyT Try.prog (cd n) 100000 23 Try.f23 (KtL.kt 23) (il noCt n 0) (blkE noBT 0 (fr23 l x u k y v 0) (lvE::H) (.ite b (.ok (.ret,[(4,.bool false,some 1)],lvE::H)) (.ok (.normal,hints (fr23 l x u k y v (Int.ofNat l)++[(14,.bool false)]),lvE::H)))) noRT [(sl1 l x u,none),(sl1 k y v,none)] H =
 (fun (Z0:Frm)=>Tr.ite (notB (eqI (Int.ofNat l) (Int.ofNat k))) (Tr.ok ((AV.bool false,some 1),H)) (Tr.reqP (Z0=Z0∧lvE::H=lvE::H) (Tr.ite b (Tr.ok ((AV.bool false,some 1),H)) (Tr.ok ((AV.bool true,some 1),H))))) [(0,AV.slcT none (Row.M [Seg.arr .i64 x l]) 1 l u),(1,AV.slcT none (Row.M [Seg.arr .i64 y k]) 1 k v),(5,AV.int .i64 (Int.ofNat 0))]:=by kernel_rfl
theorem u23s (n l k:Nat) (x y:Nat→Int) (u v:Bool) (H:Heap):bodyT Try.prog (cd n) 100000 23 Try.f23 (KtL.kt 23) (il noCt n 0) (stopB noBT 0) noRT [(sl1 l x u,none),(sl1 k y v,none)] H =
 Tr.ite (notB (eqI (Int.ofNat l) (Int.ofNat k))) (Tr.ok ((AV.bool false,some 1),H)) Tr.bad:=by kernel_rfl
theorem u23n (n:Nat) (H:Heap):bodyT Try.prog (cd n) 100000 23 Try.f23 (KtL.kt 23) (il noCt n 0) noBT noRT [(.nils,none),(.nils,none)] H =
 Tr.ok ((AV.bool true,some 1),H):=by kernel_rfl
theorem b23:∀ b,(0,b) ∈ blocksOf (bodyOf Try.f23)→b=.loop (part Try.f23 [1,1,0,1,0,0]):=by
 have:((blocksOf (bodyOf Try.f23)).filter fun x=>Nat.beq x.1 0)=[(0,.loop (part Try.f23 [1,1,0,1,0,0]))]:=by kernel_rfl
 intro b hb
 have hm:(0,b) ∈ ((blocksOf (bodyOf Try.f23)).filter fun x=>Nat.beq x.1 0):=List.mem_filter.2 ⟨hb,rfl⟩
 rw[this] at hm;simpa using hm
def inB (m:Nat) (x:Nat→Int) (k:Nat) (y:Nat→Int):Bool:=decide (m=k) && !exN (fun j=>decide (x j≠y j)) m
theorem inB_iff (m k:Nat) (x y:Nat→Int):inB m x k y=true↔m=k∧∀ j,j<m→x j=y j:=by
 unfold inB
 rw[Bool.and_eq_true,decide_eq_true_eq,Bool.not_eq_true']
 constructor
 · rintro ⟨h1,h2⟩
   exact ⟨h1,fun j hj=>by have:=exN_not h2 j hj;simpa using this⟩
 · rintro ⟨h1,h2⟩
   exact ⟨h1,exN_no (fun j hj=>by simpa using h2 j hj)⟩
section
variable (n:Nat) (H:Heap)
theorem c23 (l k:Nat) (x y:Nat→Int) (u v:Bool) (hl:l≤1000):cd (n+1) (.fn 23) [sl1 l x u,sl1 k y v] H=some (.bool (inB l x k y),H):=by
 by_cases hk:l=k
 · subst hk
   have hx:=findX (n:=n) (f:=23) (nt:=26) (c:=part Try.f23 [1,1,0,1,0,0]) 0 (fun j=>fr23 l x u l y v (j:Nat)) (fun _=>lvE::H) l (fun j=>decide (x j≠y j)) (fun j=>([(4,.bool false)],lvE::H)) (fr23 l x u l y v (Int.ofNat l)++[(14,.bool false)],lvE::H) (by omega) (fun j hj=>?_) ?_
   · refine fn_all (n:=n) Try.func23 rfl rfl rfl (u23 n l l x y u v (exN (fun j=>decide (x j≠y j)) l) H) (il_no0 _) (blkE_ok (noBT_ok _ _) b23 (fun x hy=>blk_ite hy hx)) (noRT_ok _ _) ?_
     unfold inB
     rw[decide_eq_true rfl,Bool.true_and]
     generalize exN (fun j=>decide (x j≠y j)) l=B at *
     cases B
     all_goals
      repeat' first | (refine Tr.all_ite (fun hc=>?_) (fun hc=>?_)<;>(try simp (disch:=omega) only[nV,nW] at hc)<;>try omega) | (refine Tr.all_req ?_ ?_;· (try simp (disch:=omega) only[nV,nW]);try omega) | (refine Tr.all_reqP ?_ ?_;· first | exact trivial | rfl | exact ⟨rfl,rfl⟩ | exact ⟨rfl,rfl,rfl⟩ | (simp (disch:=omega) only[nV,nW];done) | ((try simp (disch:=omega) only[nV,nW]);omega)) | fail
      all_goals first
       | exact Tr.all_ok ⟨rfl,rfl⟩
       | fail
   · refine ex_all (t23 n l l x y u v H (j:Nat)) (il_no0 n) (noBT_ok _ _) (noRT_ok _ _) ?_
     show Tr.all _ (fun r=>if decide (x j≠y j)=true then _ else _)
     rw[cs64 (j:=j) (by omega)]
     simp only[id1]
     generalize x j=p at *
     generalize y j=q at *
     by_cases c:p=q
     · simp only[c,ne_eq,not_true,decide_false,Bool.false_eq_true,if_false]
       repeat' first | (refine Tr.all_ite (fun hc=>?_) (fun hc=>?_)<;>(try simp (disch:=omega) only[nV,nW] at hc)<;>try omega) | (refine Tr.all_req ?_ ?_;· (try simp (disch:=omega) only[nV,nW]);try omega) | (refine Tr.all_reqP ?_ ?_;· first | exact trivial | rfl | exact ⟨rfl,rfl⟩ | exact ⟨rfl,rfl,rfl⟩ | (simp (disch:=omega) only[nV,nW];done) | ((try simp (disch:=omega) only[nV,nW]);omega)) | fail
       all_goals first
        | exact Tr.all_ok ⟨rfl,rfl⟩
        | fail
     · simp only[ne_eq,c,not_false_eq_true,decide_true,if_true]
       repeat' first | (refine Tr.all_ite (fun hc=>?_) (fun hc=>?_)<;>(try simp (disch:=omega) only[nV,nW] at hc)<;>try omega) | (refine Tr.all_req ?_ ?_;· (try simp (disch:=omega) only[nV,nW]);try omega) | (refine Tr.all_reqP ?_ ?_;· first | exact trivial | rfl | exact ⟨rfl,rfl⟩ | exact ⟨rfl,rfl,rfl⟩ | (simp (disch:=omega) only[nV,nW];done) | ((try simp (disch:=omega) only[nV,nW]);omega)) | fail
       all_goals first
        | exact Tr.all_ok rfl
        | fail
   · obtain ⟨r,h1,rfl⟩:=ex_all (Q:=fun r=>r=(.exit 0,fr23 l x u l y v (Int.ofNat l)++[(14,.bool false)],lvE::H)) (t23 n l l x y u v H (Int.ofNat l)) (il_no0 n) (noBT_ok _ _) (noRT_ok _ _) (by
      refine Tr.all_ite (fun hc=>?_) (fun hc=>Tr.all_ok rfl)
      simp (disch:=omega) only[nV,nW] at hc;omega)
     exact h1
 · have hi:inB l x k y=false:=by unfold inB;rw[decide_eq_false hk];rfl
   rw[hi]
   refine fn_all (n:=n) Try.func23 rfl rfl rfl (u23s n l k x y u v H) (il_no0 _) (stopB_ok (noBT_ok _ _) 0) (noRT_ok _ _) ?_
   repeat' first | (refine Tr.all_ite (fun hc=>?_) (fun hc=>?_)<;>(try simp (disch:=omega) only[nV,nW] at hc)<;>try omega) | (refine Tr.all_req ?_ ?_;· (try simp (disch:=omega) only[nV,nW]);try omega) | (refine Tr.all_reqP ?_ ?_;· first | exact trivial | rfl | exact ⟨rfl,rfl⟩ | exact ⟨rfl,rfl,rfl⟩ | (simp (disch:=omega) only[nV,nW];done) | ((try simp (disch:=omega) only[nV,nW]);omega)) | fail
   all_goals first
    | exact Tr.all_ok ⟨rfl,rfl⟩
    | fail
theorem c23n:cd (n+1) (.fn 23) [.nils,.nils] H=some (.bool true,H):=by
 refine fn_all (n:=n) Try.func23 rfl rfl rfl (u23n n H) (il_no0 _) (noBT_ok _ _) (noRT_ok _ _) ?_
 repeat' first | (refine Tr.all_ite (fun hc=>?_) (fun hc=>?_)<;>(try simp (disch:=omega) only[nV,nW] at hc)<;>try omega) | (refine Tr.all_req ?_ ?_;· (try simp (disch:=omega) only[nV,nW]);try omega) | (refine Tr.all_reqP ?_ ?_;· first | exact trivial | rfl | exact ⟨rfl,rfl⟩ | exact ⟨rfl,rfl,rfl⟩ | (simp (disch:=omega) only[nV,nW];done) | ((try simp (disch:=omega) only[nV,nW]);omega)) | fail
 all_goals first
  | exact Tr.all_ok ⟨rfl,rfl⟩
  | fail
theorem g23_ok {c:Nat} {t:Ctr} (ht:t.Ok (cd (c+1))):(ctG t 23 (g23 inB)).Ok (cd (c+1)):=by
 refine ctG_ok ht (fun args p v hg hp H=>?_)
 unfold g23 at hg
 split at hg
 · simp only[nP] at hg
   obtain ⟨_,rfl⟩:=hg
   exact c23n c H
 · simp only[nP] at hg
   obtain ⟨rfl,rfl⟩:=hg
   obtain ⟨⟨rfl,rfl⟩,hm⟩:=hp
   exact c23 c H _ _ _ _ _ _ hm
 · cases hg
variable (l k:Nat) (t d:Nat→Int)
end
end Go.Eng
end
section
namespace Go.Eng
open Go.Proofs
set_option linter.unusedVariables false
set_option linter.unusedSimpArgs false
set_option maxRecDepth 100000
theorem u66 (n l k:Nat) (t d g:Nat→Int) (W:Int→Int→Nat→(Nat→Int)→Bool) (h:Int) (H:Heap):bodyT Try.prog (cd n) 100000 66 Try.f66 (KtL.kt 66) (il (addCt (tX noCt 51 [shA l t k d] (.tup [tbA 0 l t k d g,.int .i64 0])) 56 (g56 W)) n 0) noBT noRT [(shA l t k d,none),(.int .i64 h,none)] H =
 (fun (Z0:AV×Option Nat)=>((fun (Z1:List AV)=>((fun (Z2:AV×Option Nat)=>Tr.reqP (Z1=Z1) (Tr.ite (notB (eqI (Int.ofNat 0) (Int.ofNat 0))) (Tr.ok ((AV.tup [AV.nilp,AV.int .i64 (Int.ofNat 0)],none),H)) (Tr.ite (ltI h (Int.ofNat 1)) (Tr.ite (notB false) (Tr.ok (Z2,H)) (Tr.ok (Z0,H))) (Tr.ite (ltI (Int.ofNat 10) h) (Tr.ite (notB false) (Tr.ok (Z2,H)) (Tr.ok (Z0,H))) (Tr.ite (notB true) (Tr.ok (Z2,H)) (Tr.ok (Z0,H))))))) (AV.tup [AV.nilp,AV.int .i64 (Int.ofNat 2)],none))) [AV.agg (Row.G [AV.slcT none (Row.M [Seg.arr .i64 t l]) 1 l false,AV.slcT none (Row.M [Seg.arr .i64 d k]) 1 k false])])) (AV.tup [AV.ptrT (some 0) (Row.M [Seg.one (AV.slcT none (Row.M [Seg.arr .i64 t l]) 1 l false),Seg.one (AV.slcT none (Row.M [Seg.arr .i64 d k]) 1 k false),Seg.arr .i64 g 30]) 0,AV.int .i64 (Int.ofNat 0)],none):=by kernel_rfl
theorem u66s (n l k:Nat) (t d:Nat→Int) (e h:Int) (H:Heap):bodyT Try.prog (cd n) 100000 66 Try.f66 (KtL.kt 66) (il (tX noCt 51 [shA l t k d] (.tup [.nilp,.int .i64 e])) n 0) noBT noRT [(shA l t k d,none),(.int .i64 h,none)] H =
 (fun (Z0:List AV)=>Tr.reqP (Z0=Z0) (Tr.ite (notB (eqI e (Int.ofNat 0))) (Tr.ok ((AV.tup [AV.nilp,AV.int .i64 e],none),H)) Tr.bad)) [AV.agg (Row.G [AV.slcT none (Row.M [Seg.arr .i64 t l]) 1 l false,AV.slcT none (Row.M [Seg.arr .i64 d k]) 1 k false])]:=by kernel_rfl
theorem u61 (n l k:Nat) (t d g:Nat→Int) (H:Heap) (h a c:Int):bodyT Try.prog (cd n) 100000 61 Try.f61 (KtL.kt 61) (il (tX (tX noCt 66 [shA l t k d,.int .i64 h] (.tup [tbA 0 l t k d g,.int .i64 0])) 69 [tbA 0 l t k d g,sl1 k d false,.int .i64 h] (.int .i64 c)) n 0) noBT noRT [(shA l t k d,none),(.int .i64 h,none),(.int .i64 a,none)] H =
 (fun (Z0:Row)=>((fun (Z1:List AV)=>((fun (Z2:List AV)=>Tr.reqP (Z1=Z1) (Tr.ite (notB (eqI (Int.ofNat 0) (Int.ofNat 0))) (Tr.ok ((AV.tup [AV.nilp,AV.int .i64 (Int.ofNat 0)],none),H)) (Tr.ite (notB (eqI a (Int.ofNat 0))) (Tr.ok ((AV.tup [AV.nilp,AV.int .i64 a],none),H)) (Tr.reqP (Z2=Z2) (Tr.ite (leI (Int.ofNat 0) c) (Tr.ok ((AV.tup [AV.nilp,AV.int .i64 (Int.ofNat 13)],none),H)) (Tr.ok ((AV.tup [AV.ptrT (some 0) Z0 0,AV.int .i64 (Int.ofNat 0)],none),H))))))) [AV.ptrT (some 0) Z0 0,AV.slcT none (Row.M [Seg.arr .i64 d k]) 1 k false,AV.int .i64 h])) [AV.agg (Row.G [AV.slcT none (Row.M [Seg.arr .i64 t l]) 1 l false,AV.slcT none (Row.M [Seg.arr .i64 d k]) 1 k false]),AV.int .i64 h])) (Row.M [Seg.one (AV.slcT none (Row.M [Seg.arr .i64 t l]) 1 l false),Seg.one (AV.slcT none (Row.M [Seg.arr .i64 d k]) 1 k false),Seg.arr .i64 g 30]):=by kernel_rfl
theorem u61s (n l k:Nat) (t d:Nat→Int) (H:Heap) (h a e:Int):bodyT Try.prog (cd n) 100000 61 Try.f61 (KtL.kt 61) (il (tX noCt 66 [shA l t k d,.int .i64 h] (.tup [.nilp,.int .i64 e])) n 0) noBT noRT [(shA l t k d,none),(.int .i64 h,none),(.int .i64 a,none)] H =
 (fun (Z0:List AV)=>Tr.reqP (Z0=Z0) (Tr.ite (notB (eqI e (Int.ofNat 0))) (Tr.ok ((AV.tup [AV.nilp,AV.int .i64 e],none),H)) (Tr.ite (notB (eqI a (Int.ofNat 0))) (Tr.ok ((AV.tup [AV.nilp,AV.int .i64 a],none),H)) Tr.bad))) [AV.agg (Row.G [AV.slcT none (Row.M [Seg.arr .i64 t l]) 1 l false,AV.slcT none (Row.M [Seg.arr .i64 d k]) 1 k false]),AV.int .i64 h]:=by kernel_rfl
theorem ex_off {n f nt:Nat} {c:Code} {callR:CallTr} {bl:BlkT} {rg:RgT} {fr:Frm} {H:Heap} {b:Bool} {A:Tr Res} {y:Res} (e:execT (cxD n f nt) callR bl rg c (hints fr) H=.ite b A (.ok y)) (hC:callR.Ok (cd n)) (hB:bl.Ok (cxD n f nt) c) (hR:rg.Ok (cxD n f nt) c) (hb:b=false):exec (cxD n f nt) c fr H=some y.st:=by
 obtain ⟨x,h1,rfl⟩:=ex_all (Q:=fun x=>x=y.st) e hC hB hR (Tr.all_ite (fun h=>by rw[hb] at h;cases h) (fun _=>Tr.all_ok rfl))
 exact h1
def askE (l:Nat) (t:Nat→Int) (k:Nat) (d:Nat→Int) (h:Int):Int:=if shE l t k d=0 then (if h<1∨10<h then 2 else 0) else shE l t k d
theorem ask_of {l k:Nat} {t d:Nat→Int} {h:Int} (e:askE l t k d h=0):Sh l t k d∧1≤h∧h≤10:=by
 unfold askE at e
 by_cases c:shE l t k d=0
 · rw[if_pos c] at e
   refine ⟨sh_of c,?_⟩
   by_cases c2:h<1∨10<h
   · rw[if_pos c2] at e;omega
   · omega
 · rw[if_neg c] at e;exact absurd e c
theorem ask_to {l k:Nat} {t d:Nat→Int} {h:Int} (e:Sh l t k d) (h1:1≤h) (h2:h≤10):askE l t k d h=0:=by
 unfold askE
 rw[if_pos (sh_to e),if_neg (by omega)]
def canB (l:Nat) (t e:Nat→Int) (h:Int):Bool:=!exN (fun T=>crB l t e h (T:Nat)) 41
theorem crT_can (l:Nat) (t e:Nat→Int) (h:Int):(crT l t e h<0↔canB l t e h=true)∧(0≤crT l t e h↔canB l t e h=false):=by
 unfold crT ixF canB
 cases exN (fun T:Nat=>crB l t e h (T:Nat)) 41 with
 | true=>rw[if_pos rfl];constructor<;>simp<;>omega
 | false=>rw[if_neg (by decide)];constructor<;>simp
section
variable (n l k:Nat) (t d:Nat→Int) (H:Heap) (h:Int)
theorem c66 (e:askE l t k d h=0):cd (n+10) (.fn 66) [shA l t k d,.int .i64 h] H=some (.tup [tbS 0 l t k d,.int .i64 0],H):=by
 obtain ⟨hs,h1,h2⟩:=ask_of e
 refine fn_all (n:=n+9) Try.func66 rfl rfl rfl (u66 (n+9) l k t d (ldF t l) W56 h H) (il_ok0 _ (n+9) (g56_ok (c:=n+3) (tX_ok (noCt_ok _) (fun H=>c51 (n+1) l k t d H hs)))) (noBT_ok _ _) (noRT_ok _ _) ?_
 unfold tbS
 generalize ldF t l=g at *
 repeat' first | (refine Tr.all_ite (fun hc=>?_) (fun hc=>?_)<;>(try simp (disch:=omega) only[nV,nW] at hc)<;>try omega) | (refine Tr.all_req ?_ ?_;· (try simp (disch:=omega) only[nV,nW]);try omega) | (refine Tr.all_reqP ?_ ?_;· first | exact trivial | rfl | exact ⟨rfl,rfl⟩ | exact ⟨rfl,rfl,rfl⟩ | (simp (disch:=omega) only[nV,nW];done) | ((try simp (disch:=omega) only[nV,nW]);omega)) | fail
 all_goals first
  | exact Tr.all_ok ⟨rfl,rfl⟩
  | fail
theorem c66e (e:askE l t k d h≠0):cd (n+10) (.fn 66) [shA l t k d,.int .i64 h] H=some (.tup [.nilp,.int .i64 (askE l t k d h)],H):=by
 by_cases c:shE l t k d=0
 · have hs:=sh_of c
   have ea:askE l t k d h=if h<1∨10<h then 2 else 0:=by unfold askE;rw[if_pos c]
   by_cases c2:h<1∨10<h
   · rw[ea,if_pos c2]
     refine fn_all (n:=n+9) Try.func66 rfl rfl rfl (u66 (n+9) l k t d (ldF t l) W56 h H) (il_ok0 _ (n+9) (g56_ok (c:=n+3) (tX_ok (noCt_ok _) (fun H=>c51 (n+1) l k t d H hs)))) (noBT_ok _ _) (noRT_ok _ _) ?_
     generalize ldF t l=g at *
     repeat' first | (refine Tr.all_ite (fun hc=>?_) (fun hc=>?_)<;>(try simp (disch:=omega) only[nV,nW] at hc)<;>try omega) | (refine Tr.all_req ?_ ?_;· (try simp (disch:=omega) only[nV,nW]);try omega) | (refine Tr.all_reqP ?_ ?_;· first | exact trivial | rfl | exact ⟨rfl,rfl⟩ | exact ⟨rfl,rfl,rfl⟩ | (simp (disch:=omega) only[nV,nW];done) | ((try simp (disch:=omega) only[nV,nW]);omega)) | fail
     all_goals first
      | exact Tr.all_ok ⟨rfl,rfl⟩
      | fail
   · rw[ea,if_neg c2] at e;exact absurd rfl e
 · have ea:askE l t k d h=shE l t k d:=by unfold askE;rw[if_neg c]
   rw[ea]
   refine fn_all (n:=n+9) Try.func66 rfl rfl rfl (u66s (n+9) l k t d (shE l t k d) h H) (il_ok0 _ (n+9) (tX_ok (noCt_ok _) (fun H=>c51e (n+1) l k t d H c))) (noBT_ok _ _) (noRT_ok _ _) ?_
   generalize shE l t k d=e at *
   repeat' first | (refine Tr.all_ite (fun hc=>?_) (fun hc=>?_)<;>(try simp (disch:=omega) only[nV,nW] at hc)<;>try omega) | (refine Tr.all_req ?_ ?_;· (try simp (disch:=omega) only[nV,nW]);try omega) | (refine Tr.all_reqP ?_ ?_;· first | exact trivial | rfl | exact ⟨rfl,rfl⟩ | exact ⟨rfl,rfl,rfl⟩ | (simp (disch:=omega) only[nV,nW];done) | ((try simp (disch:=omega) only[nV,nW]);omega)) | fail
   all_goals first
    | exact Tr.all_ok ⟨rfl,rfl⟩
    | fail
def needE:Int:=if askE l t k d h=0 then (if canB l t d h=true then 0 else 13) else askE l t k d h
theorem need_of {l k:Nat} {t d:Nat→Int} {h:Int} (e:needE l k t d h=0):askE l t k d h=0∧canB l t d h=true:=by
 unfold needE at e
 by_cases c:askE l t k d h=0
 · rw[if_pos c] at e
   refine ⟨c,?_⟩
   by_cases c2:canB l t d h=true
   · exact c2
   · rw[if_neg c2] at e;omega
 · rw[if_neg c] at e;exact absurd e c
theorem c61 (a:Int) (e:askE l t k d h=0):cd (n+11) (.fn 61) [shA l t k d,.int .i64 h,.int .i64 a] H=some (if a=0 then (if canB l t d h=true then .tup [tbS 0 l t k d,.int .i64 0] else .tup [.nilp,.int .i64 13]) else .tup [.nilp,.int .i64 a],H):=by
 obtain ⟨hs,h1,h2⟩:=ask_of e
 refine fn_all (n:=n+10) Try.func61 rfl rfl rfl (u61 (n+10) l k t d (ldF t l) H h a (crT l t d h)) (il_ok0 _ (n+10) (tX_ok (tX_ok (noCt_ok _) (fun H=>c66 n l k t d H h e)) (fun H=>c69 (n+6) 0 l k k t d _ d false H h hs.l30 hs.kl hs.tl hs.cyc hs.bd (by omega)))) (noBT_ok _ _) (noRT_ok _ _) ?_
 obtain ⟨q1,q2⟩:=crT_can l t d h
 unfold tbS
 generalize ldF t l=g at *
 generalize crT l t d h=C at *
 by_cases c:a=0
 · rw [if_pos c]
   cases hB:canB l t d h with
   | true =>
     have:=q1.2 hB
     simp only[if_true]
     repeat' first | (refine Tr.all_ite (fun hc=>?_) (fun hc=>?_)<;>(try simp (disch:=omega) only[nV,nW] at hc)<;>try omega) | (refine Tr.all_req ?_ ?_;· (try simp (disch:=omega) only[nV,nW]);try omega) | (refine Tr.all_reqP ?_ ?_;· first | exact trivial | rfl | exact ⟨rfl,rfl⟩ | exact ⟨rfl,rfl,rfl⟩ | (simp (disch:=omega) only[nV,nW];done) | ((try simp (disch:=omega) only[nV,nW]);omega)) | fail
     all_goals first
      | exact Tr.all_ok ⟨rfl,rfl⟩
      | fail
   | false =>
     have:=q2.2 hB
     simp only[Bool.false_eq_true,if_false]
     repeat' first | (refine Tr.all_ite (fun hc=>?_) (fun hc=>?_)<;>(try simp (disch:=omega) only[nV,nW] at hc)<;>try omega) | (refine Tr.all_req ?_ ?_;· (try simp (disch:=omega) only[nV,nW]);try omega) | (refine Tr.all_reqP ?_ ?_;· first | exact trivial | rfl | exact ⟨rfl,rfl⟩ | exact ⟨rfl,rfl,rfl⟩ | (simp (disch:=omega) only[nV,nW];done) | ((try simp (disch:=omega) only[nV,nW]);omega)) | fail
     all_goals first
      | exact Tr.all_ok ⟨rfl,rfl⟩
      | fail
 · rw[if_neg c]
   repeat' first | (refine Tr.all_ite (fun hc=>?_) (fun hc=>?_)<;>(try simp (disch:=omega) only[nV,nW] at hc)<;>try omega) | (refine Tr.all_req ?_ ?_;· (try simp (disch:=omega) only[nV,nW]);try omega) | (refine Tr.all_reqP ?_ ?_;· first | exact trivial | rfl | exact ⟨rfl,rfl⟩ | exact ⟨rfl,rfl,rfl⟩ | (simp (disch:=omega) only[nV,nW];done) | ((try simp (disch:=omega) only[nV,nW]);omega)) | fail
   all_goals first
    | exact Tr.all_ok ⟨rfl,rfl⟩
    | fail
theorem c61e (a:Int) (e:askE l t k d h≠0):cd (n+11) (.fn 61) [shA l t k d,.int .i64 h,.int .i64 a] H=some (.tup [.nilp,.int .i64 (askE l t k d h)],H):=by
 refine fn_all (n:=n+10) Try.func61 rfl rfl rfl (u61s (n+10) l k t d H h a (askE l t k d h)) (il_ok0 _ (n+10) (tX_ok (noCt_ok _) (fun H=>c66e n l k t d H h e))) (noBT_ok _ _) (noRT_ok _ _) ?_
 generalize askE l t k d h=e at *
 repeat' first | (refine Tr.all_ite (fun hc=>?_) (fun hc=>?_)<;>(try simp (disch:=omega) only[nV,nW] at hc)<;>try omega) | (refine Tr.all_req ?_ ?_;· (try simp (disch:=omega) only[nV,nW]);try omega) | (refine Tr.all_reqP ?_ ?_;· first | exact trivial | rfl | exact ⟨rfl,rfl⟩ | exact ⟨rfl,rfl,rfl⟩ | (simp (disch:=omega) only[nV,nW];done) | ((try simp (disch:=omega) only[nV,nW]);omega)) | fail
 all_goals first
  | exact Tr.all_ok ⟨rfl,rfl⟩
  | fail
end
end Go.Eng
end
