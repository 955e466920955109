/- Bath: births as baths; whether one of them does an order. -/
import Derived.Test.YtigmfpmabgekoaaGreatV4Bc9x3
namespace Go.Eng
open Go.Proofs
set_option linter.unusedVariables false
set_option linter.unusedSimpArgs false
set_option maxRecDepth 100000
noncomputable def fr70 (k:Nat) (b:Nat→Int) (full:Bool) (x j:Int):Frm:=[(3,.int .i64 x),(9,sl1 k b full),(10,.int .i64 (Int.ofNat k)),(11,.int .i64 j)]
noncomputable def fr38 (k:Nat) (b:Nat→Int) (full:Bool) (j:Int):Frm:=[(0,sl1 k b full),(3,.int .i64 j)]
noncomputable abbrev o72 (a:Nat→Int):AV:=.fn (.func 72) [.agg (.I .i64 [a 0,a 1,a 2,a 3,a 4,a 5,a 6])] []
noncomputable def fr89 (k:Nat) (b:Nat→Int) (full:Bool) (a:Nat→Int) (j:Int):Frm:=[(0,sl1 k b full),(1,o72 a),(7,.int .i64 (Int.ofNat k)),(8,.int .i64 j)]
noncomputable def g89 (k:Nat) (b:Nat→Int) (full:Bool) (a:Nat→Int) (r:Int):List AV→Option (Prop×AV):=fun x=>some (x=[sl1 k b full,o72 a],.int .i64 r)
theorem t70 (n k:Nat) (b:Nat→Int) (full:Bool) (H:Heap) (x j:Int):execT (cxD (n+4) 70 23) (il noCt n 4) noBT noRT (part Tryz.f70 [1,1,1,0,1,0,0]) (hints (fr70 k b full x j)) (lvE::H) =
 (fun (Z0:Lvl)=>Tr.ite (ltI j (Int.ofNat k)) (Tr.req (inI j k) (Tr.req (ltN (idO 0 j 1) k) (Tr.req (inI (Int.ofNat 0) 1) (Tr.ite (ltI (b (idO 0 j 1)) x) (Tr.ok (Ex.ret,[(2,AV.int .i64 (Int.ofNat 3),some 1)],Z0::H)) (Tr.ite (ltI (Int.ofNat 10000) (b (idO 0 j 1))) (Tr.ok (Ex.ret,[(2,AV.int .i64 (Int.ofNat 3),some 1)],Z0::H)) (Tr.ok (Ex.normal,[(3,AV.int .i64 (addI .i64 (b (idO 0 j 1)) (Int.ofNat 1)),none),(9,AV.slcT none (Row.M [Seg.arr .i64 b k]) 1 k full,none),(10,AV.int .i64 (Int.ofNat k),none),(11,AV.int .i64 (addI .i64 j (Int.ofNat 1)),none)],Z0::H))))))) (Tr.ok (Ex.exit 0,[(3,AV.int .i64 x,none),(9,AV.slcT none (Row.M [Seg.arr .i64 b k]) 1 k full,none),(10,AV.int .i64 (Int.ofNat k),none),(11,AV.int .i64 j,none),(12,AV.bool false,some 1)],lvE::H))) { lock:=false,bs:=[(0,Blk.row (Row.I .i64 [b (idO 0 j 1)]))] }:=by kernel_rfl
theorem u70 (n k:Nat) (b:Nat→Int) (full:Bool) (H:Heap) (e:Bool) (x w:Int):bodyT Tryz.prog (cd n) 100000 70 Tryz.f70 (KtB.kt 70) (il noCt n 0) (blkE noBT 0 (fr70 k b full (-10000) 0) (lvE::H) (.ite e (.ok (.ret,hints [(2,.int .i64 3)],⟨false,[(0,.row (.I .i64 [w]))]⟩::H)) (.ok (.normal,hints (fr70 k b full x (Int.ofNat k)++[(12,.bool false)]),lvE::H)))) noRT [(sl1 k b full,none)] H =
 (fun (Z0:Frm)=>Tr.ite (ltI (Int.ofNat 14) (Int.ofNat k)) (Tr.ok ((AV.int .i64 (Int.ofNat 6),some 1),H)) (Tr.reqP (Z0=Z0∧lvE::H=lvE::H) (Tr.ite e (Tr.ok ((AV.int .i64 (Int.ofNat 3),none),H)) (Tr.ok ((AV.int .i64 (Int.ofNat 0),some 1),H))))) [(3,AV.int .i64 (Int.negSucc 9999)),(9,AV.slcT none (Row.M [Seg.arr .i64 b k]) 1 k full),(10,AV.int .i64 (Int.ofNat k)),(11,AV.int .i64 (Int.ofNat 0))]:=by kernel_rfl
theorem u70x (n k:Nat) (b:Nat→Int) (full:Bool) (H:Heap):bodyT Tryz.prog (cd n) 100000 70 Tryz.f70 (KtB.kt 70) (il noCt n 0) (stopB noBT 0) noRT [(sl1 k b full,none)] H =
 Tr.ite (ltI (Int.ofNat 14) (Int.ofNat k)) (Tr.ok ((AV.int .i64 (Int.ofNat 6),some 1),H)) Tr.bad:=by kernel_rfl
theorem t38 (n k:Nat) (b:Nat→Int) (full:Bool) (H:Heap) (j:Int):execT (cxD n 38 41) (il noCt n 0) noBT noRT (part Tryz.f38 [1,1,0,1,0,0]) (hints (fr38 k b full j)) (lvE::H) =
 (fun (Z0:HFrm)=>Tr.ite (ltI j (Int.ofNat k)) (Tr.req (inI j k) (Tr.req (ltN (idO 0 j 1) k) (Tr.ite (ltI (b (idO 0 j 1)) (Int.negSucc 9999)) (Tr.ok (Ex.ret,[(2,AV.int .i64 (Int.ofNat 3),some 1)],lvE::H)) (Tr.req (inI j k) (Tr.req (ltN (idO 0 j 1) k) (Tr.ite (ltI (Int.ofNat 10000) (b (idO 0 j 1))) (Tr.ok (Ex.ret,[(2,AV.int .i64 (Int.ofNat 3),some 1)],lvE::H)) (Tr.ite (ltI (Int.ofNat 0) j) (Tr.req (inI j k) (Tr.req (ltN (idO 0 j 1) k) (Tr.req (inI (subI .i64 j (Int.ofNat 1)) k) (Tr.req (ltN (idO 0 (subI .i64 j (Int.ofNat 1)) 1) k) (Tr.ite (leI (b (idO 0 j 1)) (b (idO 0 (subI .i64 j (Int.ofNat 1)) 1))) (Tr.ok (Ex.ret,[(2,AV.int .i64 (Int.ofNat 3),some 1)],lvE::H)) (Tr.ok (Ex.normal,Z0,lvE::H))))))) (Tr.ok (Ex.normal,Z0,lvE::H))))))))) (Tr.ok (Ex.exit 0,[(0,AV.slcT none (Row.M [Seg.arr .i64 b k]) 1 k full,none),(3,AV.int .i64 j,none),(10,AV.bool false,some 1)],lvE::H))) [(0,AV.slcT none (Row.M [Seg.arr .i64 b k]) 1 k full,none),(3,AV.int .i64 (addI .i64 j (Int.ofNat 1)),none)]:=by kernel_rfl
theorem u38 (n k:Nat) (b:Nat→Int) (full:Bool) (H:Heap) (e:Bool):bodyT Tryz.prog (cd n) 100000 38 Tryz.f38 (KtB.kt 38) (il noCt n 0) (blkE noBT 0 (fr38 k b full 0) (lvE::H) (.ite e (.ok (.ret,hints [(2,.int .i64 3)],lvE::H)) (.ok (.normal,hints (fr38 k b full (Int.ofNat k)++[(10,.bool false)]),lvE::H)))) noRT [(sl1 k b full,none)] H =
 (fun (Z0:Frm)=>Tr.ite (ltI (Int.ofNat 14) (Int.ofNat k)) (Tr.ok ((AV.int .i64 (Int.ofNat 6),some 1),H)) (Tr.reqP (Z0=Z0∧lvE::H=lvE::H) (Tr.ite e (Tr.ok ((AV.int .i64 (Int.ofNat 3),none),H)) (Tr.ok ((AV.int .i64 (Int.ofNat 0),some 1),H))))) [(0,AV.slcT none (Row.M [Seg.arr .i64 b k]) 1 k full),(3,AV.int .i64 (Int.ofNat 0))]:=by kernel_rfl
theorem u38x (n k:Nat) (b:Nat→Int) (full:Bool) (H:Heap):bodyT Tryz.prog (cd n) 100000 38 Tryz.f38 (KtB.kt 38) (il noCt n 0) (stopB noBT 0) noRT [(sl1 k b full,none)] H =
 Tr.ite (ltI (Int.ofNat 14) (Int.ofNat k)) (Tr.ok ((AV.int .i64 (Int.ofNat 6),some 1),H)) Tr.bad:=by kernel_rfl
theorem t89 (n k:Nat) (b:Nat→Int) (full:Bool) (a:Nat→Int) (H:Heap) (j:Int):execT (cxD (n+1) 89 19) (il noCt n 1) noBT noRT (part Tryz.f89 [1,0,1,0,0]) (hints (fr89 k b full a j)) (lvE::H) =
 (fun (Z0:HFrm)=>Tr.ite (ltI j (Int.ofNat k)) (Tr.req (inI j k) (Tr.req (ltN (idO 0 j 1) k) (Tr.ite (leI (a 5) (b (idO 0 j 1))) (Tr.ite (leI (b (idO 0 j 1)) (a 6)) (Tr.ok (Ex.ret,[(4,AV.int .i64 j,none)],lvE::H)) (Tr.ok (Ex.normal,Z0,lvE::H))) (Tr.ok (Ex.normal,Z0,lvE::H))))) (Tr.ok (Ex.exit 0,[(0,AV.slcT none (Row.M [Seg.arr .i64 b k]) 1 k full,none),(1,AV.fn (Fn.func 72) [AV.agg (Row.I .i64 [a 0,a 1,a 2,a 3,a 4,a 5,a 6])] [],none),(7,AV.int .i64 (Int.ofNat k),none),(8,AV.int .i64 j,none),(9,AV.bool false,some 1)],lvE::H))) [(0,AV.slcT none (Row.M [Seg.arr .i64 b k]) 1 k full,none),(1,AV.fn (Fn.func 72) [AV.agg (Row.I .i64 [a 0,a 1,a 2,a 3,a 4,a 5,a 6])] [],none),(7,AV.int .i64 (Int.ofNat k),none),(8,AV.int .i64 (addI .i64 j (Int.ofNat 1)),none)]:=by kernel_rfl
theorem u89 (n k:Nat) (b:Nat→Int) (full:Bool) (a:Nat→Int) (H:Heap) (e:Bool) (r:Nat):bodyT Tryz.prog (cd n) 100000 89 Tryz.f89 (KtB.kt 89) (il noCt n 0) (blkE noBT 0 (fr89 k b full a 0) (lvE::H) (.ite e (.ok (.ret,hints [(4,.int .i64 (Int.ofNat r))],lvE::H)) (.ok (.normal,hints (fr89 k b full a (Int.ofNat k)++[(9,.bool false)]),lvE::H)))) noRT [(sl1 k b full,none),(o72 a,none)] H =
 (fun (Z0:Frm)=>Tr.reqP (Z0=Z0∧lvE::H=lvE::H) (Tr.ite e (Tr.ok ((AV.int .i64 (Int.ofNat r),none),H)) (Tr.ok ((AV.int .i64 (Int.negSucc 0),some 1),H)))) [(0,AV.slcT none (Row.M [Seg.arr .i64 b k]) 1 k full),(1,AV.fn (Fn.func 72) [AV.agg (Row.I .i64 [a 0,a 1,a 2,a 3,a 4,a 5,a 6])] []),(7,AV.int .i64 (Int.ofNat k)),(8,AV.int .i64 (Int.ofNat 0))]:=by kernel_rfl
theorem u71 (n k:Nat) (b:Nat→Int) (full:Bool) (a:Nat→Int) (H:Heap) (r:Int):bodyT Tryz.prog (cd n) 100000 71 Tryz.f71 (KtB.kt 71) (il (ctG noCt 89 (g89 k b full a r)) n 0) noBT noRT [(sl1 k b full,none),(o72 a,none)] H =
 (fun (Z0:List AV)=>Tr.reqP (Z0=Z0) (Tr.ok ((AV.bool (leI (Int.ofNat 0) r),none),H))) [AV.slcT none (Row.M [Seg.arr .i64 b k]) 1 k full,AV.fn (Fn.func 72) [AV.agg (Row.I .i64 [a 0,a 1,a 2,a 3,a 4,a 5,a 6])] []]:=by kernel_rfl
theorem b70:∀ b,(0,b) ∈ blocksOf (bodyOf Tryz.f70)→b=.loop (part Tryz.f70 [1,1,1,0,1,0,0]):=by
 have:((blocksOf (bodyOf Tryz.f70)).filter fun x=>Nat.beq x.1 0)=[(0,.loop (part Tryz.f70 [1,1,1,0,1,0,0]))]:=by kernel_rfl
 intro b hb
 have hm:(0,b) ∈ ((blocksOf (bodyOf Tryz.f70)).filter fun x=>Nat.beq x.1 0):=List.mem_filter.2 ⟨hb,rfl⟩
 rw[this] at hm;simpa using hm
theorem b38:∀ b,(0,b) ∈ blocksOf (bodyOf Tryz.f38)→b=.loop (part Tryz.f38 [1,1,0,1,0,0]):=by
 have:((blocksOf (bodyOf Tryz.f38)).filter fun x=>Nat.beq x.1 0)=[(0,.loop (part Tryz.f38 [1,1,0,1,0,0]))]:=by kernel_rfl
 intro b hb
 have hm:(0,b) ∈ ((blocksOf (bodyOf Tryz.f38)).filter fun x=>Nat.beq x.1 0):=List.mem_filter.2 ⟨hb,rfl⟩
 rw[this] at hm;simpa using hm
theorem b89:∀ b,(0,b) ∈ blocksOf (bodyOf Tryz.f89)→b=.loop (part Tryz.f89 [1,0,1,0,0]):=by
 have:((blocksOf (bodyOf Tryz.f89)).filter fun x=>Nat.beq x.1 0)=[(0,.loop (part Tryz.f89 [1,0,1,0,0]))]:=by kernel_rfl
 intro b hb
 have hm:(0,b) ∈ ((blocksOf (bodyOf Tryz.f89)).filter fun x=>Nat.beq x.1 0):=List.mem_filter.2 ⟨hb,rfl⟩
 rw[this] at hm;simpa using hm
theorem blk_ite {cx:Cx} {id:Nat} {B:Code} {fr:Frm} {H:Heap} {e:Bool} {X Y x:Res} (h:(Tr.ite e (Tr.ok X) (Tr.ok Y)).run=some x) (hx:exec cx (.block id B) fr H=some (cond e X.st Y.st)):exec cx (.block id B) fr H=some x.st:=by
 rw[hx]
 rcases Tr.ite_some h with ⟨hc,h⟩ | ⟨hc,h⟩
 · rw[hc,← Tr.ok_some h];rfl
 · rw[hc,← Tr.ok_some h];rfl
theorem cs64 {j:Nat} (h:j<2 ^ 31):addI .i64 (j:Int) (Int.ofNat 1)=((j+1:Nat):Int):=by rw[addI_eq,show Int.ofNat 1=1 from rfl];exact wr_64 (by omega) (by omega)
theorem id1 (j:Nat):idO 0 (j:Int) 1=j:=by rw[idO_eq];omega
theorem neg10000:Int.negSucc 9999=-10000:=rfl
noncomputable def nxB (b:Nat→Int):Nat→Int
 | 0=>-10000
 | j+1=>addI .i64 (b j) 1
noncomputable def od70 (b:Nat→Int) (j:Nat):Bool:=decide (b j<nxB b j) || decide (10000<b j)
def od38 (b:Nat→Int) (j:Nat):Bool:=decide (b j < -10000) || (decide (10000<b j) || (decide (0<j) && decide (b j≤b (j-1))))
theorem od_same (b:Nat→Int) (k:Nat):exN (od70 b) k=exN (od38 b) k:=by
 have key:∀ j,(∀ i,i<j→od38 b i=false)→od70 b j=od38 b j:=by
  intro j h
  cases j with
  | zero=>simp[od70,od38,nxB];rfl
  | succ j =>
    have h1:=h j (by omega)
    simp only[od38,Bool.or_eq_false_iff,decide_eq_false_iff_not] at h1
    have e:nxB b (j+1)=b j+1:=by show addI .i64 (b j) 1=_;rw[addI_eq];exact wr_64 (by omega) (by omega)
    rw[Bool.eq_iff_iff]
    simp only[od70,od38,e,Bool.or_eq_true,Bool.and_eq_true,decide_eq_true_eq,Nat.add_sub_cancel]
    omega
 have key2:∀ j,(∀ i,i<j→od38 b i=false)∨(∃ i,i<j∧od38 b i=true∧∀ q,q<i→od38 b q=false):=by
  intro j
  induction j with
  | zero=>exact .inl (fun i hi=>by omega)
  | succ j ih =>
    rcases ih with h | ⟨i,h1,h2⟩
    · cases e:od38 b j with
      | true=>exact .inr ⟨j,by omega,e,h⟩
      | false =>
        refine .inl (fun i hi=>?_)
        by_cases x:i<j
        · exact h i x
        · have:i=j:=by omega
          subst this;exact e
    · exact .inr ⟨i,by omega,h2⟩
 rw[Bool.eq_iff_iff,exN_iff,exN_iff]
 rcases key2 k with h | ⟨i,h1,h2,h3⟩
 · constructor
   · rintro ⟨j,hj,e⟩
     exact ⟨j,hj,by rw[← key j (fun i hi=>h i (by omega))];exact e⟩
   · rintro ⟨j,hj,e⟩
     exact ⟨j,hj,by rw[key j (fun i hi=>h i (by omega))];exact e⟩
 · exact ⟨fun _=>⟨i,h1,h2⟩,fun _=>⟨i,h1,by rw[key i h3];exact h2⟩⟩
def ibE (k:Nat) (b:Nat→Int):Int:=if 14<k then 6 else if exN (od38 b) k=true then 3 else 0
section
variable (n k:Nat) (b:Nat→Int) (full:Bool) (H:Heap)
theorem c70:cd (n+5) (.fn 70) [sl1 k b full] H=some (.int .i64 (ibE k b),H):=by
 unfold ibE
 rw[← od_same]
 by_cases hk:14<k
 · rw[if_pos hk]
   refine fn_all (n:=n+4) Tryz.func70 rfl rfl rfl (u70x (n+4) k b full H) (il_no0 _) (stopB_ok (noBT_ok _ _) 0) (noRT_ok _ _) ?_
   repeat' first | (refine Tr.all_ite (fun hc=>?_) (fun hc=>?_)<;>(try simp (disch:=omega) only[nV,nW] at hc)<;>try omega) | (refine Tr.all_req ?_ ?_;· (try simp (disch:=omega) only[nV,nW]);try omega) | (refine Tr.all_reqP ?_ ?_;· first | exact trivial | rfl | exact ⟨rfl,rfl⟩ | exact ⟨rfl,rfl,rfl⟩ | (simp (disch:=omega) only[nV,nW];done) | ((try simp (disch:=omega) only[nV,nW]);omega)) | fail
   all_goals first
    | exact Tr.all_ok ⟨rfl,rfl⟩
    | fail
 rw[if_neg hk]
 have hx:=findX (n:=n+4) (f:=70) (nt:=23) (c:=part Tryz.f70 [1,1,1,0,1,0,0]) 0 (fun j=>fr70 k b full (nxB b j) (j:Int)) (fun _=>lvE::H) k (od70 b) (fun j=>([(2,.int .i64 3)],(⟨false,[(0,.row (.I .i64 [b j]))]⟩:Lvl)::H)) (fr70 k b full (nxB b k) (Int.ofNat k)++[(12,.bool false)],lvE::H) (by omega) (fun j hj=>?_) ?_
 · refine fn_all (n:=n+4) Tryz.func70 rfl rfl rfl (u70 (n+4) k b full H (exN (od70 b) k) (nxB b k) (b (fN (od70 b) k 0))) (il_no0 _) (blkE_ok (noBT_ok _ _) b70 (fun x h=>blk_ite h hx)) (noRT_ok _ _) ?_
   cases exN (od70 b) k with
   | true =>
     rw[if_pos rfl]
     repeat' first | (refine Tr.all_ite (fun hc=>?_) (fun hc=>?_)<;>(try simp (disch:=omega) only[nV,nW] at hc)<;>try omega) | (refine Tr.all_req ?_ ?_;· (try simp (disch:=omega) only[nV,nW]);try omega) | (refine Tr.all_reqP ?_ ?_;· first | exact trivial | rfl | exact ⟨rfl,rfl⟩ | exact ⟨rfl,rfl,rfl⟩ | (simp (disch:=omega) only[nV,nW];done) | ((try simp (disch:=omega) only[nV,nW]);omega)) | fail
     all_goals first
      | exact Tr.all_ok ⟨rfl,rfl⟩
      | fail
   | false =>
     rw[if_neg (by decide)]
     repeat' first | (refine Tr.all_ite (fun hc=>?_) (fun hc=>?_)<;>(try simp (disch:=omega) only[nV,nW] at hc)<;>try omega) | (refine Tr.all_req ?_ ?_;· (try simp (disch:=omega) only[nV,nW]);try omega) | (refine Tr.all_reqP ?_ ?_;· first | exact trivial | rfl | exact ⟨rfl,rfl⟩ | exact ⟨rfl,rfl,rfl⟩ | (simp (disch:=omega) only[nV,nW];done) | ((try simp (disch:=omega) only[nV,nW]);omega)) | fail
     all_goals first
      | exact Tr.all_ok ⟨rfl,rfl⟩
      | fail
 · have ha:addI .i64 (b j) (Int.ofNat 1)=nxB b (j+1):=rfl
   have hp:od70 b j=(decide (b j<nxB b j) || decide (10000<b j)):=rfl
   refine ex_all (t70 n k b full H (nxB b j) (j:Int)) (il_no n 4) (noBT_ok _ _) (noRT_ok _ _) ?_
   show Tr.all _ (fun x=>if od70 b j=true then _ else _)
   rw[cs64 (by omega),id1,ha]
   generalize nxB b (j+1)=y at *
   generalize nxB b j=x at *
   generalize od70 b j=o at *
   by_cases h1:b j<x
   · rw[decide_eq_true h1,Bool.true_or] at hp
     subst hp
     simp only[if_true]
     repeat' first | (refine Tr.all_ite (fun hc=>?_) (fun hc=>?_)<;>(try simp (disch:=omega) only[nV,nW] at hc)<;>try omega) | (refine Tr.all_req ?_ ?_;· (try simp (disch:=omega) only[nV,nW]);try omega) | (refine Tr.all_reqP ?_ ?_;· first | exact trivial | rfl | exact ⟨rfl,rfl⟩ | exact ⟨rfl,rfl,rfl⟩ | (simp (disch:=omega) only[nV,nW];done) | ((try simp (disch:=omega) only[nV,nW]);omega)) | fail
     all_goals first
      | exact Tr.all_ok rfl
      | fail
   · by_cases h2:10000<b j
     · rw[decide_eq_true h2,Bool.or_true] at hp
       subst hp
       simp only[if_true]
       repeat' first | (refine Tr.all_ite (fun hc=>?_) (fun hc=>?_)<;>(try simp (disch:=omega) only[nV,nW] at hc)<;>try omega) | (refine Tr.all_req ?_ ?_;· (try simp (disch:=omega) only[nV,nW]);try omega) | (refine Tr.all_reqP ?_ ?_;· first | exact trivial | rfl | exact ⟨rfl,rfl⟩ | exact ⟨rfl,rfl,rfl⟩ | (simp (disch:=omega) only[nV,nW];done) | ((try simp (disch:=omega) only[nV,nW]);omega)) | fail
       all_goals first
        | exact Tr.all_ok rfl
        | fail
     · rw[decide_eq_false h1,decide_eq_false h2,Bool.or_false] at hp
       subst hp
       simp only[Bool.false_eq_true,if_false]
       repeat' first | (refine Tr.all_ite (fun hc=>?_) (fun hc=>?_)<;>(try simp (disch:=omega) only[nV,nW] at hc)<;>try omega) | (refine Tr.all_req ?_ ?_;· (try simp (disch:=omega) only[nV,nW]);try omega) | (refine Tr.all_reqP ?_ ?_;· first | exact trivial | rfl | exact ⟨rfl,rfl⟩ | exact ⟨rfl,rfl,rfl⟩ | (simp (disch:=omega) only[nV,nW];done) | ((try simp (disch:=omega) only[nV,nW]);omega)) | fail
       all_goals first
        | exact Tr.all_ok ⟨rfl,by kernel_rfl⟩
        | fail
 · obtain ⟨x,h1,rfl⟩:=ex_all (Q:=fun x=>x=(.exit 0,fr70 k b full (nxB b k) (Int.ofNat k)++[(12,.bool false)],lvE::H)) (t70 n k b full H (nxB b k) (Int.ofNat k)) (il_no n 4) (noBT_ok _ _) (noRT_ok _ _) (by
    refine Tr.all_ite (fun hc=>?_) (fun hc=>Tr.all_ok rfl)
    simp (disch:=omega) only[nV,nW] at hc;omega)
   exact h1
theorem c38 : cd (n+1) (.fn 38) [sl1 k b full] H=some (.int .i64 (ibE k b),H):=by
 unfold ibE
 by_cases hk:14<k
 · rw[if_pos hk]
   refine fn_all (n:=n) Tryz.func38 rfl rfl rfl (u38x n k b full H) (il_no0 _) (stopB_ok (noBT_ok _ _) 0) (noRT_ok _ _) ?_
   repeat' first | (refine Tr.all_ite (fun hc=>?_) (fun hc=>?_)<;>(try simp (disch:=omega) only[nV,nW] at hc)<;>try omega) | (refine Tr.all_req ?_ ?_;· (try simp (disch:=omega) only[nV,nW]);try omega) | (refine Tr.all_reqP ?_ ?_;· first | exact trivial | rfl | exact ⟨rfl,rfl⟩ | exact ⟨rfl,rfl,rfl⟩ | (simp (disch:=omega) only[nV,nW];done) | ((try simp (disch:=omega) only[nV,nW]);omega)) | fail
   all_goals first
    | exact Tr.all_ok ⟨rfl,rfl⟩
    | fail
 rw[if_neg hk]
 have hx:=findX (n:=n) (f:=38) (nt:=41) (c:=part Tryz.f38 [1,1,0,1,0,0]) 0 (fun j=>fr38 k b full (j:Int)) (fun _=>lvE::H) k (od38 b) (fun j=>([(2,.int .i64 3)],lvE::H)) (fr38 k b full (Int.ofNat k)++[(10,.bool false)],lvE::H) (by omega) (fun j hj=>?_) ?_
 · refine fn_all (n:=n) Tryz.func38 rfl rfl rfl (u38 n k b full H (exN (od38 b) k)) (il_no0 _) (blkE_ok (noBT_ok _ _) b38 (fun x h=>blk_ite h hx)) (noRT_ok _ _) ?_
   cases exN (od38 b) k with
   | true =>
     rw[if_pos rfl]
     repeat' first | (refine Tr.all_ite (fun hc=>?_) (fun hc=>?_)<;>(try simp (disch:=omega) only[nV,nW] at hc)<;>try omega) | (refine Tr.all_req ?_ ?_;· (try simp (disch:=omega) only[nV,nW]);try omega) | (refine Tr.all_reqP ?_ ?_;· first | exact trivial | rfl | exact ⟨rfl,rfl⟩ | exact ⟨rfl,rfl,rfl⟩ | (simp (disch:=omega) only[nV,nW];done) | ((try simp (disch:=omega) only[nV,nW]);omega)) | fail
     all_goals first
      | exact Tr.all_ok ⟨rfl,rfl⟩
      | fail
   | false =>
     rw[if_neg (by decide)]
     repeat' first | (refine Tr.all_ite (fun hc=>?_) (fun hc=>?_)<;>(try simp (disch:=omega) only[nV,nW] at hc)<;>try omega) | (refine Tr.all_req ?_ ?_;· (try simp (disch:=omega) only[nV,nW]);try omega) | (refine Tr.all_reqP ?_ ?_;· first | exact trivial | rfl | exact ⟨rfl,rfl⟩ | exact ⟨rfl,rfl,rfl⟩ | (simp (disch:=omega) only[nV,nW];done) | ((try simp (disch:=omega) only[nV,nW]);omega)) | fail
     all_goals first
      | exact Tr.all_ok ⟨rfl,rfl⟩
      | fail
 · have hp : od38 b j=(decide (b j < -10000) || (decide (10000<b j) || (decide (0<j) && decide (b j≤b (j-1))))):=rfl
   refine ex_all (t38 n k b full H (j:Int)) (il_no0 n) (noBT_ok _ _) (noRT_ok _ _) ?_
   show Tr.all _ (fun x=>if od38 b j=true then _ else _)
   rw[cs64 (by omega),id1,neg10000]
   have e1:0<j→idO 0 (subI .i64 (j:Int) (Int.ofNat 1)) 1=j-1:=fun h=>by
    have:subI .i64 (j:Int) (Int.ofNat 1)=((j-1:Nat):Int):=by rw[subI_eq,show Int.ofNat 1=1 from rfl,wr_64 (by omega) (by omega)];omega
    rw[this,id1]
   by_cases h0:0<j
   · rw [e1 h0]
     generalize b (j-1)=y at *
     by_cases h1:b j < -10000
     · have hp:od38 b j=true:=by rw[hp];simp[h1]
       rw[hp]
       simp only[if_true]
       repeat' first | (refine Tr.all_ite (fun hc=>?_) (fun hc=>?_)<;>(try simp (disch:=omega) only[nV,nW] at hc)<;>try omega) | (refine Tr.all_req ?_ ?_;· (try simp (disch:=omega) only[nV,nW]);try omega) | (refine Tr.all_reqP ?_ ?_;· first | exact trivial | rfl | exact ⟨rfl,rfl⟩ | exact ⟨rfl,rfl,rfl⟩ | (simp (disch:=omega) only[nV,nW];done) | ((try simp (disch:=omega) only[nV,nW]);omega)) | fail
       all_goals first
        | exact Tr.all_ok rfl
        | fail
     · by_cases h2:10000<b j
       · have hp:od38 b j=true:=by rw[hp];simp[h2]
         rw[hp]
         simp only[if_true]
         repeat' first | (refine Tr.all_ite (fun hc=>?_) (fun hc=>?_)<;>(try simp (disch:=omega) only[nV,nW] at hc)<;>try omega) | (refine Tr.all_req ?_ ?_;· (try simp (disch:=omega) only[nV,nW]);try omega) | (refine Tr.all_reqP ?_ ?_;· first | exact trivial | rfl | exact ⟨rfl,rfl⟩ | exact ⟨rfl,rfl,rfl⟩ | (simp (disch:=omega) only[nV,nW];done) | ((try simp (disch:=omega) only[nV,nW]);omega)) | fail
         all_goals first
          | exact Tr.all_ok rfl
          | fail
       · by_cases h3:b j≤y
         · have hp:od38 b j=true:=by rw[hp];simp[h3,h0]
           rw[hp]
           simp only[if_true]
           repeat' first | (refine Tr.all_ite (fun hc=>?_) (fun hc=>?_)<;>(try simp (disch:=omega) only[nV,nW] at hc)<;>try omega) | (refine Tr.all_req ?_ ?_;· (try simp (disch:=omega) only[nV,nW]);try omega) | (refine Tr.all_reqP ?_ ?_;· first | exact trivial | rfl | exact ⟨rfl,rfl⟩ | exact ⟨rfl,rfl,rfl⟩ | (simp (disch:=omega) only[nV,nW];done) | ((try simp (disch:=omega) only[nV,nW]);omega)) | fail
           all_goals first
            | exact Tr.all_ok rfl
            | fail
         · have hp:od38 b j=false:=by rw[hp];simp only[decide_eq_false h1,decide_eq_false h2,decide_eq_false h3];simp
           rw[hp]
           simp only[Bool.false_eq_true,if_false]
           repeat' first | (refine Tr.all_ite (fun hc=>?_) (fun hc=>?_)<;>(try simp (disch:=omega) only[nV,nW] at hc)<;>try omega) | (refine Tr.all_req ?_ ?_;· (try simp (disch:=omega) only[nV,nW]);try omega) | (refine Tr.all_reqP ?_ ?_;· first | exact trivial | rfl | exact ⟨rfl,rfl⟩ | exact ⟨rfl,rfl,rfl⟩ | (simp (disch:=omega) only[nV,nW];done) | ((try simp (disch:=omega) only[nV,nW]);omega)) | fail
           all_goals first
            | exact Tr.all_ok ⟨rfl,rfl⟩
            | fail
   · by_cases h1:b j < -10000
     · have hp:od38 b j=true:=by rw[hp];simp[h1]
       rw[hp]
       simp only[if_true]
       repeat' first | (refine Tr.all_ite (fun hc=>?_) (fun hc=>?_)<;>(try simp (disch:=omega) only[nV,nW] at hc)<;>try omega) | (refine Tr.all_req ?_ ?_;· (try simp (disch:=omega) only[nV,nW]);try omega) | (refine Tr.all_reqP ?_ ?_;· first | exact trivial | rfl | exact ⟨rfl,rfl⟩ | exact ⟨rfl,rfl,rfl⟩ | (simp (disch:=omega) only[nV,nW];done) | ((try simp (disch:=omega) only[nV,nW]);omega)) | fail
       all_goals first
        | exact Tr.all_ok rfl
        | fail
     · by_cases h2:10000<b j
       · have hp:od38 b j=true:=by rw[hp];simp[h2]
         rw[hp]
         simp only[if_true]
         repeat' first | (refine Tr.all_ite (fun hc=>?_) (fun hc=>?_)<;>(try simp (disch:=omega) only[nV,nW] at hc)<;>try omega) | (refine Tr.all_req ?_ ?_;· (try simp (disch:=omega) only[nV,nW]);try omega) | (refine Tr.all_reqP ?_ ?_;· first | exact trivial | rfl | exact ⟨rfl,rfl⟩ | exact ⟨rfl,rfl,rfl⟩ | (simp (disch:=omega) only[nV,nW];done) | ((try simp (disch:=omega) only[nV,nW]);omega)) | fail
         all_goals first
          | exact Tr.all_ok rfl
          | fail
       · have hp:od38 b j=false:=by rw[hp];simp only[decide_eq_false h1,decide_eq_false h2,decide_eq_false h0];simp
         rw[hp]
         simp only[Bool.false_eq_true,if_false]
         repeat' first | (refine Tr.all_ite (fun hc=>?_) (fun hc=>?_)<;>(try simp (disch:=omega) only[nV,nW] at hc)<;>try omega) | (refine Tr.all_req ?_ ?_;· (try simp (disch:=omega) only[nV,nW]);try omega) | (refine Tr.all_reqP ?_ ?_;· first | exact trivial | rfl | exact ⟨rfl,rfl⟩ | exact ⟨rfl,rfl,rfl⟩ | (simp (disch:=omega) only[nV,nW];done) | ((try simp (disch:=omega) only[nV,nW]);omega)) | fail
         all_goals first
          | exact Tr.all_ok ⟨rfl,rfl⟩
          | fail
 · obtain ⟨x,h1,rfl⟩:=ex_all (Q:=fun x=>x=(.exit 0,fr38 k b full (Int.ofNat k)++[(10,.bool false)],lvE::H)) (t38 n k b full H (Int.ofNat k)) (il_no0 n) (noBT_ok _ _) (noRT_ok _ _) (by
    refine Tr.all_ite (fun hc=>?_) (fun hc=>Tr.all_ok rfl)
    simp (disch:=omega) only[nV,nW] at hc;omega)
   exact h1
def inB (a:Nat→Int) (x:Int):Bool:=decide (a 5≤x) && decide (x≤a 6)
theorem c89 (a:Nat→Int) (hk:k≤1000):cd (n+2) (.fn 89) [sl1 k b full,o72 a] H=some (.int .i64 (ixF (fun j=>inB a (b j)) k),H):=by
 have hx:=findX (n:=n+1) (f:=89) (nt:=19) (c:=part Tryz.f89 [1,0,1,0,0]) 0 (fun j=>fr89 k b full a (j:Int)) (fun _=>lvE::H) k (fun j=>inB a (b j)) (fun j=>([(4,.int .i64 (j:Nat))],lvE::H)) (fr89 k b full a (Int.ofNat k)++[(9,.bool false)],lvE::H) (by omega) (fun j hj=>?_) ?_
 · refine fn_all (n:=n+1) Tryz.func89 rfl rfl rfl (u89 (n+1) k b full a H (exN (fun j=>inB a (b j)) k) (fN (fun j=>inB a (b j)) k 0)) (il_no0 _) (blkE_ok (noBT_ok _ _) b89 (fun x h=>blk_ite h hx)) (noRT_ok _ _) ?_
   refine Tr.all_reqP ⟨rfl,rfl⟩ (Tr.all_ite (fun hc=>Tr.all_ok ⟨?_,rfl⟩) (fun hc=>Tr.all_ok ⟨?_,rfl⟩))
   · unfold ixF;rw[if_pos hc];rfl
   · unfold ixF;rw[if_neg (by rw[hc];decide)];rfl
 · have hp:inB a (b j)=(decide (a 5≤b j) && decide (b j≤a 6)):=rfl
   refine ex_all (t89 n k b full a H (j:Int)) (il_no n 1) (noBT_ok _ _) (noRT_ok _ _) ?_
   show Tr.all _ (fun x=>if inB a (b j)=true then _ else _)
   rw[cs64 (by omega),id1]
   by_cases h1:a 5≤b j
   · by_cases h2:b j≤a 6
     · have hp:inB a (b j)=true:=by rw[hp];simp[h1,h2]
       rw[hp]
       simp only[if_true]
       repeat' first | (refine Tr.all_ite (fun hc=>?_) (fun hc=>?_)<;>(try simp (disch:=omega) only[nV,nW] at hc)<;>try omega) | (refine Tr.all_req ?_ ?_;· (try simp (disch:=omega) only[nV,nW]);try omega) | (refine Tr.all_reqP ?_ ?_;· first | exact trivial | rfl | exact ⟨rfl,rfl⟩ | exact ⟨rfl,rfl,rfl⟩ | (simp (disch:=omega) only[nV,nW];done) | ((try simp (disch:=omega) only[nV,nW]);omega)) | fail
       all_goals first
        | exact Tr.all_ok rfl
        | fail
     · have hp:inB a (b j)=false:=by rw[hp];simp[h2]
       rw[hp]
       simp only[Bool.false_eq_true,if_false]
       repeat' first | (refine Tr.all_ite (fun hc=>?_) (fun hc=>?_)<;>(try simp (disch:=omega) only[nV,nW] at hc)<;>try omega) | (refine Tr.all_req ?_ ?_;· (try simp (disch:=omega) only[nV,nW]);try omega) | (refine Tr.all_reqP ?_ ?_;· first | exact trivial | rfl | exact ⟨rfl,rfl⟩ | exact ⟨rfl,rfl,rfl⟩ | (simp (disch:=omega) only[nV,nW];done) | ((try simp (disch:=omega) only[nV,nW]);omega)) | fail
       all_goals first
        | exact Tr.all_ok ⟨rfl,rfl⟩
        | fail
   · have hp:inB a (b j)=false:=by rw[hp];simp[h1]
     rw[hp]
     simp only[Bool.false_eq_true,if_false]
     repeat' first | (refine Tr.all_ite (fun hc=>?_) (fun hc=>?_)<;>(try simp (disch:=omega) only[nV,nW] at hc)<;>try omega) | (refine Tr.all_req ?_ ?_;· (try simp (disch:=omega) only[nV,nW]);try omega) | (refine Tr.all_reqP ?_ ?_;· first | exact trivial | rfl | exact ⟨rfl,rfl⟩ | exact ⟨rfl,rfl,rfl⟩ | (simp (disch:=omega) only[nV,nW];done) | ((try simp (disch:=omega) only[nV,nW]);omega)) | fail
     all_goals first
      | exact Tr.all_ok ⟨rfl,rfl⟩
      | fail
 · obtain ⟨x,h1,rfl⟩:=ex_all (Q:=fun x=>x=(.exit 0,fr89 k b full a (Int.ofNat k)++[(9,.bool false)],lvE::H)) (t89 n k b full a H (Int.ofNat k)) (il_no n 1) (noBT_ok _ _) (noRT_ok _ _) (by
    refine Tr.all_ite (fun hc=>?_) (fun hc=>Tr.all_ok rfl)
    simp (disch:=omega) only[nV,nW] at hc;omega)
   exact h1
theorem ix_leI (p:Nat→Bool) (k:Nat):leI (Int.ofNat 0) (ixF p k)=exN p k:=by
 rw[leI_eq];unfold ixF
 cases h:exN p k with
 | true =>
   rw[if_pos rfl]
   simp only[Int.ofNat_eq_natCast,decide_eq_true_eq];omega
 | false=>rw[if_neg (by decide)];rfl
theorem c71 (a:Nat→Int) (hk:k≤1000):cd (n+3) (.fn 71) [sl1 k b full,o72 a] H=some (.bool (exN (fun j=>inB a (b j)) k),H):=by
 have hc:∀ H,cd (n+2) (.fn 89) [sl1 k b full,o72 a] H=some (.int .i64 (ixF (fun j=>inB a (b j)) k),H):=fun H=>c89 n k b full H a hk
 refine fn_all (n:=n+2) Tryz.func71 rfl rfl rfl (u71 (n+2) k b full a H (ixF (fun j=>inB a (b j)) k)) (il_ok0 _ (n+2) (ctG_ok (noCt_ok _) (fun args p v hg hp H=>?_))) (noBT_ok _ _) (noRT_ok _ _) ?_
 · unfold g89 at hg
   simp only[nP] at hg
   obtain ⟨rfl,rfl⟩:=hg
   rw[hp];exact hc H
 · refine Tr.all_reqP rfl (Tr.all_ok ⟨?_,rfl⟩)
   rw[ix_leI]
end
end Go.Eng
