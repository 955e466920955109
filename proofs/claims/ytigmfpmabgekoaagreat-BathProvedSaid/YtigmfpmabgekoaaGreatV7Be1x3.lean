/- Bath: births as baths; whether one of them does an order. -/
import Derived.Test.YtigmfpmabgekoaaGreatV7Bc1x11
section
namespace Go.Eng
open Go.Proofs
set_option linter.unusedVariables false
set_option linter.unusedSimpArgs false
set_option maxRecDepth 100000
noncomputable def fr70 (k:Nat) (b:Nat→Int) (full:Bool) (x j:Int):Frm:=[(3,.int .i64 x),(9,sl1 k b full),(10,.int .i64 (Int.ofNat k)),(11,.int .i64 j)]
noncomputable def fr38 (k:Nat) (b:Nat→Int) (full:Bool) (j:Int):Frm:=[(0,sl1 k b full),(3,.int .i64 j)]
noncomputable abbrev o72 (a:Nat→Int):AV:=.fn (.func 72) [.agg (.I .i64 [a 0,a 1,a 2,a 3,a 4,a 5,a 6])] []
noncomputable def fr89 (k:Nat) (b:Nat→Int) (full:Bool) (a:Nat→Int) (j:Int):Frm:=[(0,sl1 k b full),(1,o72 a),(7,.int .i64 (Int.ofNat k)),(8,.int .i64 j)]
noncomputable def g89 (k:Nat) (b:Nat→Int) (full:Bool) (a:Nat→Int) (r:Int):List AV→Option (Prop×AV):=fun x=>some (x=[sl1 k b full,o72 a],.int .i64 r)
theorem t70 (n k:Nat) (b:Nat→Int) (full:Bool) (H:Heap) (x j:Int):execT (cxD (n+4) 70 23) (il noCt n 4) noBT noRT (part Tryz.f70 [1,1,1,0,1,0,0]) (hints (fr70 k b full x j)) (lvE::H) =
 (fun (Z0:Lvl)=>Tr.ite (ltI j (Int.ofNat k)) (Tr.req (inI j k) (Tr.req (ltN (idO 0 j 1) k) (Tr.req (inI (Int.ofNat 0) 1) (Tr.ite (ltI (b (idO 0 j 1)) x) (Tr.ok (Ex.ret,[(2,AV.int .i64 (Int.ofNat 3),some 1)],Z0::H)) (Tr.ite (ltI (Int.ofNat 10000) (b (idO 0 j 1))) (Tr.ok (Ex.ret,[(2,AV.int .i64 (Int.ofNat 3),some 1)],Z0::H)) (Tr.ok (Ex.normal,[(3,AV.int .i64 (addI .i64 (b (idO 0 j 1)) (Int.ofNat 1)),none),(9,AV.slcT none (Row.M [Seg.arr .i64 b k]) 1 k full,none),(10,AV.int .i64 (Int.ofNat k),none),(11,AV.int .i64 (addI .i64 j (Int.ofNat 1)),none)],Z0::H))))))) (Tr.ok (Ex.exit 0,[(3,AV.int .i64 x,none),(9,AV.slcT none (Row.M [Seg.arr .i64 b k]) 1 k full,none),(10,AV.int .i64 (Int.ofNat k),none),(11,AV.int .i64 j,none),(12,AV.bool false,some 1)],lvE::H))) { lock:=false,bs:=[(0,Blk.row (Row.I .i64 [b (idO 0 j 1)]))] }:=by kernel_rfl
theorem u70 (n k:Nat) (b:Nat→Int) (full:Bool) (H:Heap) (e:Bool) (x w:Int):bodyT Tryz.prog (cd n) 100000 70 Tryz.f70 (KtB.kt 70) (il noCt n 0) (blkE noBT 0 (fr70 k b full (-10000) 0) (lvE::H) (.ite e (.ok (.ret,hints [(2,.int .i64 3)],⟨false,[(0,.row (.I .i64 [w]))]⟩::H)) (.ok (.normal,hints (fr70 k b full x (Int.ofNat k)++[(12,.bool false)]),lvE::H)))) noRT [(sl1 k b full,none)] H =
 (fun (Z0:Frm)=>Tr.ite (ltI (Int.ofNat 14) (Int.ofNat k)) (Tr.ok ((AV.int .i64 (Int.ofNat 6),some 1),H)) (Tr.reqP (Z0=Z0∧lvE::H=lvE::H) (Tr.ite e (Tr.ok ((AV.int .i64 (Int.ofNat 3),none),H)) (Tr.ok ((AV.int .i64 (Int.ofNat 0),some 1),H))))) [(3,AV.int .i64 (Int.negSucc 9999)),(9,AV.slcT none (Row.M [Seg.arr .i64 b k]) 1 k full),(10,AV.int .i64 (Int.ofNat k)),(11,AV.int .i64 (Int.ofNat 0))]:=by kernel_rfl
theorem u70x (n k:Nat) (b:Nat→Int) (full:Bool) (H:Heap):bodyT Tryz.prog (cd n) 100000 70 Tryz.f70 (KtB.kt 70) (il noCt n 0) (stopB noBT 0) noRT [(sl1 k b full,none)] H =
 Tr.ite (ltI (Int.ofNat 14) (Int.ofNat k)) (Tr.ok ((AV.int .i64 (Int.ofNat 6),some 1),H)) Tr.bad:=by kernel_rfl
theorem t38 (n k:Nat) (b:Nat→Int) (full:Bool) (H:Heap) (j:Int):execT (cxD n 38 41) (il noCt n 0) noBT noRT (part Tryz.f38 [1,1,0,1,0,0]) (hints (fr38 k b full j)) (lvE::H) =
 (fun (Z0:HFrm)=>Tr.ite (ltI j (Int.ofNat k)) (Tr.req (inI j k) (Tr.req (ltN (idO 0 j 1) k) (Tr.ite (ltI (b (idO 0 j 1)) (Int.negSucc 9999)) (Tr.ok (Ex.ret,[(2,AV.int .i64 (Int.ofNat 3),some 1)],lvE::H)) (Tr.req (inI j k) (Tr.req (ltN (idO 0 j 1) k) (Tr.ite (ltI (Int.ofNat 10000) (b (idO 0 j 1))) (Tr.ok (Ex.ret,[(2,AV.int .i64 (Int.ofNat 3),some 1)],lvE::H)) (Tr.ite (ltI (Int.ofNat 0) j) (Tr.req (inI j k) (Tr.req (ltN (idO 0 j 1) k) (Tr.req (inI (subI .i64 j (Int.ofNat 1)) k) (Tr.req (ltN (idO 0 (subI .i64 j (Int.ofNat 1)) 1) k) (Tr.ite (leI (b (idO 0 j 1)) (b (idO 0 (subI .i64 j (Int.ofNat 1)) 1))) (Tr.ok (Ex.ret,[(2,AV.int .i64 (Int.ofNat 3),some 1)],lvE::H)) (Tr.ok (Ex.normal,Z0,lvE::H))))))) (Tr.ok (Ex.normal,Z0,lvE::H))))))))) (Tr.ok (Ex.exit 0,[(0,AV.slcT none (Row.M [Seg.arr .i64 b k]) 1 k full,none),(3,AV.int .i64 j,none),(10,AV.bool false,some 1)],lvE::H))) [(0,AV.slcT none (Row.M [Seg.arr .i64 b k]) 1 k full,none),(3,AV.int .i64 (addI .i64 j (Int.ofNat 1)),none)]:=by kernel_rfl
theorem u38 (n k:Nat) (b:Nat→Int) (full:Bool) (H:Heap) (e:Bool):bodyT Tryz.prog (cd n) 100000 38 Tryz.f38 (KtB.kt 38) (il noCt n 0) (blkE noBT 0 (fr38 k b full 0) (lvE::H) (.ite e (.ok (.ret,hints [(2,.int .i64 3)],lvE::H)) (.ok (.normal,hints (fr38 k b full (Int.ofNat k)++[(10,.bool false)]),lvE::H)))) noRT [(sl1 k b full,none)] H =
 (fun (Z0:Frm)=>Tr.ite (ltI (Int.ofNat 14) (Int.ofNat k)) (Tr.ok ((AV.int .i64 (Int.ofNat 6),some 1),H)) (Tr.reqP (Z0=Z0∧lvE::H=lvE::H) (Tr.ite e (Tr.ok ((AV.int .i64 (Int.ofNat 3),none),H)) (Tr.ok ((AV.int .i64 (Int.ofNat 0),some 1),H))))) [(0,AV.slcT none (Row.M [Seg.arr .i64 b k]) 1 k full),(3,AV.int .i64 (Int.ofNat 0))]:=by kernel_rfl
theorem u38x (n k:Nat) (b:Nat→Int) (full:Bool) (H:Heap):bodyT Tryz.prog (cd n) 100000 38 Tryz.f38 (KtB.kt 38) (il noCt n 0) (stopB noBT 0) noRT [(sl1 k b full,none)] H =
 Tr.ite (ltI (Int.ofNat 14) (Int.ofNat k)) (Tr.ok ((AV.int .i64 (Int.ofNat 6),some 1),H)) Tr.bad:=by kernel_rfl
theorem t89 (n k:Nat) (b:Nat→Int) (full:Bool) (a:Nat→Int) (H:Heap) (j:Int):execT (cxD (n+1) 89 19) (il noCt n 1) noBT noRT (part Tryz.f89 [1,0,1,0,0]) (hints (fr89 k b full a j)) (lvE::H) =
 (fun (Z0:HFrm)=>Tr.ite (ltI j (Int.ofNat k)) (Tr.req (inI j k) (Tr.req (ltN (idO 0 j 1) k) (Tr.ite (leI (a 5) (b (idO 0 j 1))) (Tr.ite (leI (b (idO 0 j 1)) (a 6)) (Tr.ok (Ex.ret,[(4,AV.int .i64 j,none)],lvE::H)) (Tr.ok (Ex.normal,Z0,lvE::H))) (Tr.ok (Ex.normal,Z0,lvE::H))))) (Tr.ok (Ex.exit 0,[(0,AV.slcT none (Row.M [Seg.arr .i64 b k]) 1 k full,none),(1,AV.fn (Fn.func 72) [AV.agg (Row.I .i64 [a 0,a 1,a 2,a 3,a 4,a 5,a 6])] [],none),(7,AV.int .i64 (Int.ofNat k),none),(8,AV.int .i64 j,none),(9,AV.bool false,some 1)],lvE::H))) [(0,AV.slcT none (Row.M [Seg.arr .i64 b k]) 1 k full,none),(1,AV.fn (Fn.func 72) [AV.agg (Row.I .i64 [a 0,a 1,a 2,a 3,a 4,a 5,a 6])] [],none),(7,AV.int .i64 (Int.ofNat k),none),(8,AV.int .i64 (addI .i64 j (Int.ofNat 1)),none)]:=by kernel_rfl
theorem u89 (n k:Nat) (b:Nat→Int) (full:Bool) (a:Nat→Int) (H:Heap) (e:Bool) (r:Nat):bodyT Tryz.prog (cd n) 100000 89 Tryz.f89 (KtB.kt 89) (il noCt n 0) (blkE noBT 0 (fr89 k b full a 0) (lvE::H) (.ite e (.ok (.ret,hints [(4,.int .i64 (Int.ofNat r))],lvE::H)) (.ok (.normal,hints (fr89 k b full a (Int.ofNat k)++[(9,.bool false)]),lvE::H)))) noRT [(sl1 k b full,none),(o72 a,none)] H =
 (fun (Z0:Frm)=>Tr.reqP (Z0=Z0∧lvE::H=lvE::H) (Tr.ite e (Tr.ok ((AV.int .i64 (Int.ofNat r),none),H)) (Tr.ok ((AV.int .i64 (Int.negSucc 0),some 1),H)))) [(0,AV.slcT none (Row.M [Seg.arr .i64 b k]) 1 k full),(1,AV.fn (Fn.func 72) [AV.agg (Row.I .i64 [a 0,a 1,a 2,a 3,a 4,a 5,a 6])] []),(7,AV.int .i64 (Int.ofNat k)),(8,AV.int .i64 (Int.ofNat 0))]:=by kernel_rfl
theorem u71 (n k:Nat) (b:Nat→Int) (full:Bool) (a:Nat→Int) (H:Heap) (r:Int):bodyT Tryz.prog (cd n) 100000 71 Tryz.f71 (KtB.kt 71) (il (ctG noCt 89 (g89 k b full a r)) n 0) noBT noRT [(sl1 k b full,none),(o72 a,none)] H =
 (fun (Z0:List AV)=>Tr.reqP (Z0=Z0) (Tr.ok ((AV.bool (leI (Int.ofNat 0) r),none),H))) [AV.slcT none (Row.M [Seg.arr .i64 b k]) 1 k full,AV.fn (Fn.func 72) [AV.agg (Row.I .i64 [a 0,a 1,a 2,a 3,a 4,a 5,a 6])] []]:=by kernel_rfl
theorem b70:∀ b,(0,b) ∈ blocksOf (bodyOf Tryz.f70)→b=.loop (part Tryz.f70 [1,1,1,0,1,0,0]):=by
 have:((blocksOf (bodyOf Tryz.f70)).filter fun x=>Nat.beq x.1 0)=[(0,.loop (part Tryz.f70 [1,1,1,0,1,0,0]))]:=by kernel_rfl
 intro b hb
 have hm:(0,b) ∈ ((blocksOf (bodyOf Tryz.f70)).filter fun x=>Nat.beq x.1 0):=List.mem_filter.2 ⟨hb,rfl⟩
 rw[this] at hm;simpa using hm
theorem b38:∀ b,(0,b) ∈ blocksOf (bodyOf Tryz.f38)→b=.loop (part Tryz.f38 [1,1,0,1,0,0]):=by
 have:((blocksOf (bodyOf Tryz.f38)).filter fun x=>Nat.beq x.1 0)=[(0,.loop (part Tryz.f38 [1,1,0,1,0,0]))]:=by kernel_rfl
 intro b hb
 have hm:(0,b) ∈ ((blocksOf (bodyOf Tryz.f38)).filter fun x=>Nat.beq x.1 0):=List.mem_filter.2 ⟨hb,rfl⟩
 rw[this] at hm;simpa using hm
theorem b89:∀ b,(0,b) ∈ blocksOf (bodyOf Tryz.f89)→b=.loop (part Tryz.f89 [1,0,1,0,0]):=by
 have:((blocksOf (bodyOf Tryz.f89)).filter fun x=>Nat.beq x.1 0)=[(0,.loop (part Tryz.f89 [1,0,1,0,0]))]:=by kernel_rfl
 intro b hb
 have hm:(0,b) ∈ ((blocksOf (bodyOf Tryz.f89)).filter fun x=>Nat.beq x.1 0):=List.mem_filter.2 ⟨hb,rfl⟩
 rw[this] at hm;simpa using hm
theorem blk_ite {cx:Cx} {id:Nat} {B:Code} {fr:Frm} {H:Heap} {e:Bool} {X Y x:Res} (h:(Tr.ite e (Tr.ok X) (Tr.ok Y)).run=some x) (hx:exec cx (.block id B) fr H=some (cond e X.st Y.st)):exec cx (.block id B) fr H=some x.st:=by
 rw[hx]
 rcases Tr.ite_some h with ⟨hc,h⟩ | ⟨hc,h⟩
 · rw[hc,← Tr.ok_some h];rfl
 · rw[hc,← Tr.ok_some h];rfl
theorem cs64 {j:Nat} (h:j<2 ^ 31):addI .i64 (j:Int) (Int.ofNat 1)=((j+1:Nat):Int):=by rw[addI_eq,show Int.ofNat 1=1 from rfl];exact wr_64 (by omega) (by omega)
theorem id1 (j:Nat):idO 0 (j:Int) 1=j:=by rw[idO_eq];omega
theorem neg10000:Int.negSucc 9999=-10000:=rfl
noncomputable def nxB (b:Nat→Int):Nat→Int
 | 0=>-10000
 | j+1=>addI .i64 (b j) 1
noncomputable def od70 (b:Nat→Int) (j:Nat):Bool:=decide (b j<nxB b j) || decide (10000<b j)
def od38 (b:Nat→Int) (j:Nat):Bool:=decide (b j < -10000) || (decide (10000<b j) || (decide (0<j) && decide (b j≤b (j-1))))
theorem od_same (b:Nat→Int) (k:Nat):exN (od70 b) k=exN (od38 b) k:=by
 have key:∀ j,(∀ i,i<j→od38 b i=false)→od70 b j=od38 b j:=by
  intro j h
  cases j with
  | zero=>simp[od70,od38,nxB];rfl
  | succ j =>
    have h1:=h j (by omega)
    simp only[od38,Bool.or_eq_false_iff,decide_eq_false_iff_not] at h1
    have e:nxB b (j+1)=b j+1:=by show addI .i64 (b j) 1=_;rw[addI_eq];exact wr_64 (by omega) (by omega)
    rw[Bool.eq_iff_iff]
    simp only[od70,od38,e,Bool.or_eq_true,Bool.and_eq_true,decide_eq_true_eq,Nat.add_sub_cancel]
    omega
 have key2:∀ j,(∀ i,i<j→od38 b i=false)∨(∃ i,i<j∧od38 b i=true∧∀ q,q<i→od38 b q=false):=by
  intro j
  induction j with
  | zero=>exact .inl (fun i hi=>by omega)
  | succ j ih =>
    rcases ih with h | ⟨i,h1,h2⟩
    · cases e:od38 b j with
      | true=>exact .inr ⟨j,by omega,e,h⟩
      | false =>
        refine .inl (fun i hi=>?_)
        by_cases x:i<j
        · exact h i x
        · have:i=j:=by omega
          subst this;exact e
    · exact .inr ⟨i,by omega,h2⟩
 rw[Bool.eq_iff_iff,exN_iff,exN_iff]
 rcases key2 k with h | ⟨i,h1,h2,h3⟩
 · constructor
   · rintro ⟨j,hj,e⟩
     exact ⟨j,hj,by rw[← key j (fun i hi=>h i (by omega))];exact e⟩
   · rintro ⟨j,hj,e⟩
     exact ⟨j,hj,by rw[key j (fun i hi=>h i (by omega))];exact e⟩
 · exact ⟨fun _=>⟨i,h1,h2⟩,fun _=>⟨i,h1,by rw[key i h3];exact h2⟩⟩
def ibE (k:Nat) (b:Nat→Int):Int:=if 14<k then 6 else if exN (od38 b) k=true then 3 else 0
section
variable (n k:Nat) (b:Nat→Int) (full:Bool) (H:Heap)
theorem c70:cd (n+5) (.fn 70) [sl1 k b full] H=some (.int .i64 (ibE k b),H):=by
 unfold ibE
 rw[← od_same]
 by_cases hk:14<k
 · rw[if_pos hk]
   refine fn_all (n:=n+4) Tryz.func70 rfl rfl rfl (u70x (n+4) k b full H) (il_no0 _) (stopB_ok (noBT_ok _ _) 0) (noRT_ok _ _) ?_
   repeat' first | (refine Tr.all_ite (fun hc=>?_) (fun hc=>?_)<;>(try simp (disch:=omega) only[nV,nW] at hc)<;>try omega) | (refine Tr.all_req ?_ ?_;· (try simp (disch:=omega) only[nV,nW]);try omega) | (refine Tr.all_reqP ?_ ?_;· first | exact trivial | rfl | exact ⟨rfl,rfl⟩ | exact ⟨rfl,rfl,rfl⟩ | (simp (disch:=omega) only[nV,nW];done) | ((try simp (disch:=omega) only[nV,nW]);omega)) | fail
   all_goals first
    | exact Tr.all_ok ⟨rfl,rfl⟩
    | fail
 rw[if_neg hk]
 have hx:=findX (n:=n+4) (f:=70) (nt:=23) (c:=part Tryz.f70 [1,1,1,0,1,0,0]) 0 (fun j=>fr70 k b full (nxB b j) (j:Int)) (fun _=>lvE::H) k (od70 b) (fun j=>([(2,.int .i64 3)],(⟨false,[(0,.row (.I .i64 [b j]))]⟩:Lvl)::H)) (fr70 k b full (nxB b k) (Int.ofNat k)++[(12,.bool false)],lvE::H) (by omega) (fun j hj=>?_) ?_
 · refine fn_all (n:=n+4) Tryz.func70 rfl rfl rfl (u70 (n+4) k b full H (exN (od70 b) k) (nxB b k) (b (fN (od70 b) k 0))) (il_no0 _) (blkE_ok (noBT_ok _ _) b70 (fun x h=>blk_ite h hx)) (noRT_ok _ _) ?_
   cases exN (od70 b) k with
   | true =>
     rw[if_pos rfl]
     repeat' first | (refine Tr.all_ite (fun hc=>?_) (fun hc=>?_)<;>(try simp (disch:=omega) only[nV,nW] at hc)<;>try omega) | (refine Tr.all_req ?_ ?_;· (try simp (disch:=omega) only[nV,nW]);try omega) | (refine Tr.all_reqP ?_ ?_;· first | exact trivial | rfl | exact ⟨rfl,rfl⟩ | exact ⟨rfl,rfl,rfl⟩ | (simp (disch:=omega) only[nV,nW];done) | ((try simp (disch:=omega) only[nV,nW]);omega)) | fail
     all_goals first
      | exact Tr.all_ok ⟨rfl,rfl⟩
      | fail
   | false =>
     rw[if_neg (by decide)]
     repeat' first | (refine Tr.all_ite (fun hc=>?_) (fun hc=>?_)<;>(try simp (disch:=omega) only[nV,nW] at hc)<;>try omega) | (refine Tr.all_req ?_ ?_;· (try simp (disch:=omega) only[nV,nW]);try omega) | (refine Tr.all_reqP ?_ ?_;· first | exact trivial | rfl | exact ⟨rfl,rfl⟩ | exact ⟨rfl,rfl,rfl⟩ | (simp (disch:=omega) only[nV,nW];done) | ((try simp (disch:=omega) only[nV,nW]);omega)) | fail
     all_goals first
      | exact Tr.all_ok ⟨rfl,rfl⟩
      | fail
 · have ha:addI .i64 (b j) (Int.ofNat 1)=nxB b (j+1):=rfl
   have hp:od70 b j=(decide (b j<nxB b j) || decide (10000<b j)):=rfl
   refine ex_all (t70 n k b full H (nxB b j) (j:Int)) (il_no n 4) (noBT_ok _ _) (noRT_ok _ _) ?_
   show Tr.all _ (fun x=>if od70 b j=true then _ else _)
   rw[cs64 (by omega),id1,ha]
   generalize nxB b (j+1)=y at *
   generalize nxB b j=x at *
   generalize od70 b j=o at *
   by_cases h1:b j<x
   · rw[decide_eq_true h1,Bool.true_or] at hp
     subst hp
     simp only[if_true]
     repeat' first | (refine Tr.all_ite (fun hc=>?_) (fun hc=>?_)<;>(try simp (disch:=omega) only[nV,nW] at hc)<;>try omega) | (refine Tr.all_req ?_ ?_;· (try simp (disch:=omega) only[nV,nW]);try omega) | (refine Tr.all_reqP ?_ ?_;· first | exact trivial | rfl | exact ⟨rfl,rfl⟩ | exact ⟨rfl,rfl,rfl⟩ | (simp (disch:=omega) only[nV,nW];done) | ((try simp (disch:=omega) only[nV,nW]);omega)) | fail
     all_goals first
      | exact Tr.all_ok rfl
      | fail
   · by_cases h2:10000<b j
     · rw[decide_eq_true h2,Bool.or_true] at hp
       subst hp
       simp only[if_true]
       repeat' first | (refine Tr.all_ite (fun hc=>?_) (fun hc=>?_)<;>(try simp (disch:=omega) only[nV,nW] at hc)<;>try omega) | (refine Tr.all_req ?_ ?_;· (try simp (disch:=omega) only[nV,nW]);try omega) | (refine Tr.all_reqP ?_ ?_;· first | exact trivial | rfl | exact ⟨rfl,rfl⟩ | exact ⟨rfl,rfl,rfl⟩ | (simp (disch:=omega) only[nV,nW];done) | ((try simp (disch:=omega) only[nV,nW]);omega)) | fail
       all_goals first
        | exact Tr.all_ok rfl
        | fail
     · rw[decide_eq_false h1,decide_eq_false h2,Bool.or_false] at hp
       subst hp
       simp only[Bool.false_eq_true,if_false]
       repeat' first | (refine Tr.all_ite (fun hc=>?_) (fun hc=>?_)<;>(try simp (disch:=omega) only[nV,nW] at hc)<;>try omega) | (refine Tr.all_req ?_ ?_;· (try simp (disch:=omega) only[nV,nW]);try omega) | (refine Tr.all_reqP ?_ ?_;· first | exact trivial | rfl | exact ⟨rfl,rfl⟩ | exact ⟨rfl,rfl,rfl⟩ | (simp (disch:=omega) only[nV,nW];done) | ((try simp (disch:=omega) only[nV,nW]);omega)) | fail
       all_goals first
        | exact Tr.all_ok ⟨rfl,by kernel_rfl⟩
        | fail
 · obtain ⟨x,h1,rfl⟩:=ex_all (Q:=fun x=>x=(.exit 0,fr70 k b full (nxB b k) (Int.ofNat k)++[(12,.bool false)],lvE::H)) (t70 n k b full H (nxB b k) (Int.ofNat k)) (il_no n 4) (noBT_ok _ _) (noRT_ok _ _) (by
    refine Tr.all_ite (fun hc=>?_) (fun hc=>Tr.all_ok rfl)
    simp (disch:=omega) only[nV,nW] at hc;omega)
   exact h1
theorem c38 : cd (n+1) (.fn 38) [sl1 k b full] H=some (.int .i64 (ibE k b),H):=by
 unfold ibE
 by_cases hk:14<k
 · rw[if_pos hk]
   refine fn_all (n:=n) Tryz.func38 rfl rfl rfl (u38x n k b full H) (il_no0 _) (stopB_ok (noBT_ok _ _) 0) (noRT_ok _ _) ?_
   repeat' first | (refine Tr.all_ite (fun hc=>?_) (fun hc=>?_)<;>(try simp (disch:=omega) only[nV,nW] at hc)<;>try omega) | (refine Tr.all_req ?_ ?_;· (try simp (disch:=omega) only[nV,nW]);try omega) | (refine Tr.all_reqP ?_ ?_;· first | exact trivial | rfl | exact ⟨rfl,rfl⟩ | exact ⟨rfl,rfl,rfl⟩ | (simp (disch:=omega) only[nV,nW];done) | ((try simp (disch:=omega) only[nV,nW]);omega)) | fail
   all_goals first
    | exact Tr.all_ok ⟨rfl,rfl⟩
    | fail
 rw[if_neg hk]
 have hx:=findX (n:=n) (f:=38) (nt:=41) (c:=part Tryz.f38 [1,1,0,1,0,0]) 0 (fun j=>fr38 k b full (j:Int)) (fun _=>lvE::H) k (od38 b) (fun j=>([(2,.int .i64 3)],lvE::H)) (fr38 k b full (Int.ofNat k)++[(10,.bool false)],lvE::H) (by omega) (fun j hj=>?_) ?_
 · refine fn_all (n:=n) Tryz.func38 rfl rfl rfl (u38 n k b full H (exN (od38 b) k)) (il_no0 _) (blkE_ok (noBT_ok _ _) b38 (fun x h=>blk_ite h hx)) (noRT_ok _ _) ?_
   cases exN (od38 b) k with
   | true =>
     rw[if_pos rfl]
     repeat' first | (refine Tr.all_ite (fun hc=>?_) (fun hc=>?_)<;>(try simp (disch:=omega) only[nV,nW] at hc)<;>try omega) | (refine Tr.all_req ?_ ?_;· (try simp (disch:=omega) only[nV,nW]);try omega) | (refine Tr.all_reqP ?_ ?_;· first | exact trivial | rfl | exact ⟨rfl,rfl⟩ | exact ⟨rfl,rfl,rfl⟩ | (simp (disch:=omega) only[nV,nW];done) | ((try simp (disch:=omega) only[nV,nW]);omega)) | fail
     all_goals first
      | exact Tr.all_ok ⟨rfl,rfl⟩
      | fail
   | false =>
     rw[if_neg (by decide)]
     repeat' first | (refine Tr.all_ite (fun hc=>?_) (fun hc=>?_)<;>(try simp (disch:=omega) only[nV,nW] at hc)<;>try omega) | (refine Tr.all_req ?_ ?_;· (try simp (disch:=omega) only[nV,nW]);try omega) | (refine Tr.all_reqP ?_ ?_;· first | exact trivial | rfl | exact ⟨rfl,rfl⟩ | exact ⟨rfl,rfl,rfl⟩ | (simp (disch:=omega) only[nV,nW];done) | ((try simp (disch:=omega) only[nV,nW]);omega)) | fail
     all_goals first
      | exact Tr.all_ok ⟨rfl,rfl⟩
      | fail
 · have hp : od38 b j=(decide (b j < -10000) || (decide (10000<b j) || (decide (0<j) && decide (b j≤b (j-1))))):=rfl
   refine ex_all (t38 n k b full H (j:Int)) (il_no0 n) (noBT_ok _ _) (noRT_ok _ _) ?_
   show Tr.all _ (fun x=>if od38 b j=true then _ else _)
   rw[cs64 (by omega),id1,neg10000]
   have e1:0<j→idO 0 (subI .i64 (j:Int) (Int.ofNat 1)) 1=j-1:=fun h=>by
    have:subI .i64 (j:Int) (Int.ofNat 1)=((j-1:Nat):Int):=by rw[subI_eq,show Int.ofNat 1=1 from rfl,wr_64 (by omega) (by omega)];omega
    rw[this,id1]
   by_cases h0:0<j
   · rw [e1 h0]
     generalize b (j-1)=y at *
     by_cases h1:b j < -10000
     · have hp:od38 b j=true:=by rw[hp];simp[h1]
       rw[hp]
       simp only[if_true]
       repeat' first | (refine Tr.all_ite (fun hc=>?_) (fun hc=>?_)<;>(try simp (disch:=omega) only[nV,nW] at hc)<;>try omega) | (refine Tr.all_req ?_ ?_;· (try simp (disch:=omega) only[nV,nW]);try omega) | (refine Tr.all_reqP ?_ ?_;· first | exact trivial | rfl | exact ⟨rfl,rfl⟩ | exact ⟨rfl,rfl,rfl⟩ | (simp (disch:=omega) only[nV,nW];done) | ((try simp (disch:=omega) only[nV,nW]);omega)) | fail
       all_goals first
        | exact Tr.all_ok rfl
        | fail
     · by_cases h2:10000<b j
       · have hp:od38 b j=true:=by rw[hp];simp[h2]
         rw[hp]
         simp only[if_true]
         repeat' first | (refine Tr.all_ite (fun hc=>?_) (fun hc=>?_)<;>(try simp (disch:=omega) only[nV,nW] at hc)<;>try omega) | (refine Tr.all_req ?_ ?_;· (try simp (disch:=omega) only[nV,nW]);try omega) | (refine Tr.all_reqP ?_ ?_;· first | exact trivial | rfl | exact ⟨rfl,rfl⟩ | exact ⟨rfl,rfl,rfl⟩ | (simp (disch:=omega) only[nV,nW];done) | ((try simp (disch:=omega) only[nV,nW]);omega)) | fail
         all_goals first
          | exact Tr.all_ok rfl
          | fail
       · by_cases h3:b j≤y
         · have hp:od38 b j=true:=by rw[hp];simp[h3,h0]
           rw[hp]
           simp only[if_true]
           repeat' first | (refine Tr.all_ite (fun hc=>?_) (fun hc=>?_)<;>(try simp (disch:=omega) only[nV,nW] at hc)<;>try omega) | (refine Tr.all_req ?_ ?_;· (try simp (disch:=omega) only[nV,nW]);try omega) | (refine Tr.all_reqP ?_ ?_;· first | exact trivial | rfl | exact ⟨rfl,rfl⟩ | exact ⟨rfl,rfl,rfl⟩ | (simp (disch:=omega) only[nV,nW];done) | ((try simp (disch:=omega) only[nV,nW]);omega)) | fail
           all_goals first
            | exact Tr.all_ok rfl
            | fail
         · have hp:od38 b j=false:=by rw[hp];simp only[decide_eq_false h1,decide_eq_false h2,decide_eq_false h3];simp
           rw[hp]
           simp only[Bool.false_eq_true,if_false]
           repeat' first | (refine Tr.all_ite (fun hc=>?_) (fun hc=>?_)<;>(try simp (disch:=omega) only[nV,nW] at hc)<;>try omega) | (refine Tr.all_req ?_ ?_;· (try simp (disch:=omega) only[nV,nW]);try omega) | (refine Tr.all_reqP ?_ ?_;· first | exact trivial | rfl | exact ⟨rfl,rfl⟩ | exact ⟨rfl,rfl,rfl⟩ | (simp (disch:=omega) only[nV,nW];done) | ((try simp (disch:=omega) only[nV,nW]);omega)) | fail
           all_goals first
            | exact Tr.all_ok ⟨rfl,rfl⟩
            | fail
   · by_cases h1:b j < -10000
     · have hp:od38 b j=true:=by rw[hp];simp[h1]
       rw[hp]
       simp only[if_true]
       repeat' first | (refine Tr.all_ite (fun hc=>?_) (fun hc=>?_)<;>(try simp (disch:=omega) only[nV,nW] at hc)<;>try omega) | (refine Tr.all_req ?_ ?_;· (try simp (disch:=omega) only[nV,nW]);try omega) | (refine Tr.all_reqP ?_ ?_;· first | exact trivial | rfl | exact ⟨rfl,rfl⟩ | exact ⟨rfl,rfl,rfl⟩ | (simp (disch:=omega) only[nV,nW];done) | ((try simp (disch:=omega) only[nV,nW]);omega)) | fail
       all_goals first
        | exact Tr.all_ok rfl
        | fail
     · by_cases h2:10000<b j
       · have hp:od38 b j=true:=by rw[hp];simp[h2]
         rw[hp]
         simp only[if_true]
         repeat' first | (refine Tr.all_ite (fun hc=>?_) (fun hc=>?_)<;>(try simp (disch:=omega) only[nV,nW] at hc)<;>try omega) | (refine Tr.all_req ?_ ?_;· (try simp (disch:=omega) only[nV,nW]);try omega) | (refine Tr.all_reqP ?_ ?_;· first | exact trivial | rfl | exact ⟨rfl,rfl⟩ | exact ⟨rfl,rfl,rfl⟩ | (simp (disch:=omega) only[nV,nW];done) | ((try simp (disch:=omega) only[nV,nW]);omega)) | fail
         all_goals first
          | exact Tr.all_ok rfl
          | fail
       · have hp:od38 b j=false:=by rw[hp];simp only[decide_eq_false h1,decide_eq_false h2,decide_eq_false h0];simp
         rw[hp]
         simp only[Bool.false_eq_true,if_false]
         repeat' first | (refine Tr.all_ite (fun hc=>?_) (fun hc=>?_)<;>(try simp (disch:=omega) only[nV,nW] at hc)<;>try omega) | (refine Tr.all_req ?_ ?_;· (try simp (disch:=omega) only[nV,nW]);try omega) | (refine Tr.all_reqP ?_ ?_;· first | exact trivial | rfl | exact ⟨rfl,rfl⟩ | exact ⟨rfl,rfl,rfl⟩ | (simp (disch:=omega) only[nV,nW];done) | ((try simp (disch:=omega) only[nV,nW]);omega)) | fail
         all_goals first
          | exact Tr.all_ok ⟨rfl,rfl⟩
          | fail
 · obtain ⟨x,h1,rfl⟩:=ex_all (Q:=fun x=>x=(.exit 0,fr38 k b full (Int.ofNat k)++[(10,.bool false)],lvE::H)) (t38 n k b full H (Int.ofNat k)) (il_no0 n) (noBT_ok _ _) (noRT_ok _ _) (by
    refine Tr.all_ite (fun hc=>?_) (fun hc=>Tr.all_ok rfl)
    simp (disch:=omega) only[nV,nW] at hc;omega)
   exact h1
def inB (a:Nat→Int) (x:Int):Bool:=decide (a 5≤x) && decide (x≤a 6)
theorem c89 (a:Nat→Int) (hk:k≤1000):cd (n+2) (.fn 89) [sl1 k b full,o72 a] H=some (.int .i64 (ixF (fun j=>inB a (b j)) k),H):=by
 have hx:=findX (n:=n+1) (f:=89) (nt:=19) (c:=part Tryz.f89 [1,0,1,0,0]) 0 (fun j=>fr89 k b full a (j:Int)) (fun _=>lvE::H) k (fun j=>inB a (b j)) (fun j=>([(4,.int .i64 (j:Nat))],lvE::H)) (fr89 k b full a (Int.ofNat k)++[(9,.bool false)],lvE::H) (by omega) (fun j hj=>?_) ?_
 · refine fn_all (n:=n+1) Tryz.func89 rfl rfl rfl (u89 (n+1) k b full a H (exN (fun j=>inB a (b j)) k) (fN (fun j=>inB a (b j)) k 0)) (il_no0 _) (blkE_ok (noBT_ok _ _) b89 (fun x h=>blk_ite h hx)) (noRT_ok _ _) ?_
   refine Tr.all_reqP ⟨rfl,rfl⟩ (Tr.all_ite (fun hc=>Tr.all_ok ⟨?_,rfl⟩) (fun hc=>Tr.all_ok ⟨?_,rfl⟩))
   · unfold ixF;rw[if_pos hc];rfl
   · unfold ixF;rw[if_neg (by rw[hc];decide)];rfl
 · have hp:inB a (b j)=(decide (a 5≤b j) && decide (b j≤a 6)):=rfl
   refine ex_all (t89 n k b full a H (j:Int)) (il_no n 1) (noBT_ok _ _) (noRT_ok _ _) ?_
   show Tr.all _ (fun x=>if inB a (b j)=true then _ else _)
   rw[cs64 (by omega),id1]
   by_cases h1:a 5≤b j
   · by_cases h2:b j≤a 6
     · have hp:inB a (b j)=true:=by rw[hp];simp[h1,h2]
       rw[hp]
       simp only[if_true]
       repeat' first | (refine Tr.all_ite (fun hc=>?_) (fun hc=>?_)<;>(try simp (disch:=omega) only[nV,nW] at hc)<;>try omega) | (refine Tr.all_req ?_ ?_;· (try simp (disch:=omega) only[nV,nW]);try omega) | (refine Tr.all_reqP ?_ ?_;· first | exact trivial | rfl | exact ⟨rfl,rfl⟩ | exact ⟨rfl,rfl,rfl⟩ | (simp (disch:=omega) only[nV,nW];done) | ((try simp (disch:=omega) only[nV,nW]);omega)) | fail
       all_goals first
        | exact Tr.all_ok rfl
        | fail
     · have hp:inB a (b j)=false:=by rw[hp];simp[h2]
       rw[hp]
       simp only[Bool.false_eq_true,if_false]
       repeat' first | (refine Tr.all_ite (fun hc=>?_) (fun hc=>?_)<;>(try simp (disch:=omega) only[nV,nW] at hc)<;>try omega) | (refine Tr.all_req ?_ ?_;· (try simp (disch:=omega) only[nV,nW]);try omega) | (refine Tr.all_reqP ?_ ?_;· first | exact trivial | rfl | exact ⟨rfl,rfl⟩ | exact ⟨rfl,rfl,rfl⟩ | (simp (disch:=omega) only[nV,nW];done) | ((try simp (disch:=omega) only[nV,nW]);omega)) | fail
       all_goals first
        | exact Tr.all_ok ⟨rfl,rfl⟩
        | fail
   · have hp:inB a (b j)=false:=by rw[hp];simp[h1]
     rw[hp]
     simp only[Bool.false_eq_true,if_false]
     repeat' first | (refine Tr.all_ite (fun hc=>?_) (fun hc=>?_)<;>(try simp (disch:=omega) only[nV,nW] at hc)<;>try omega) | (refine Tr.all_req ?_ ?_;· (try simp (disch:=omega) only[nV,nW]);try omega) | (refine Tr.all_reqP ?_ ?_;· first | exact trivial | rfl | exact ⟨rfl,rfl⟩ | exact ⟨rfl,rfl,rfl⟩ | (simp (disch:=omega) only[nV,nW];done) | ((try simp (disch:=omega) only[nV,nW]);omega)) | fail
     all_goals first
      | exact Tr.all_ok ⟨rfl,rfl⟩
      | fail
 · obtain ⟨x,h1,rfl⟩:=ex_all (Q:=fun x=>x=(.exit 0,fr89 k b full a (Int.ofNat k)++[(9,.bool false)],lvE::H)) (t89 n k b full a H (Int.ofNat k)) (il_no n 1) (noBT_ok _ _) (noRT_ok _ _) (by
    refine Tr.all_ite (fun hc=>?_) (fun hc=>Tr.all_ok rfl)
    simp (disch:=omega) only[nV,nW] at hc;omega)
   exact h1
theorem ix_leI (p:Nat→Bool) (k:Nat):leI (Int.ofNat 0) (ixF p k)=exN p k:=by
 rw[leI_eq];unfold ixF
 cases h:exN p k with
 | true =>
   rw[if_pos rfl]
   simp only[Int.ofNat_eq_natCast,decide_eq_true_eq];omega
 | false=>rw[if_neg (by decide)];rfl
theorem c71 (a:Nat→Int) (hk:k≤1000):cd (n+3) (.fn 71) [sl1 k b full,o72 a] H=some (.bool (exN (fun j=>inB a (b j)) k),H):=by
 have hc:∀ H,cd (n+2) (.fn 89) [sl1 k b full,o72 a] H=some (.int .i64 (ixF (fun j=>inB a (b j)) k),H):=fun H=>c89 n k b full H a hk
 refine fn_all (n:=n+2) Tryz.func71 rfl rfl rfl (u71 (n+2) k b full a H (ixF (fun j=>inB a (b j)) k)) (il_ok0 _ (n+2) (ctG_ok (noCt_ok _) (fun args p v hg hp H=>?_))) (noBT_ok _ _) (noRT_ok _ _) ?_
 · unfold g89 at hg
   simp only[nP] at hg
   obtain ⟨rfl,rfl⟩:=hg
   rw[hp];exact hc H
 · refine Tr.all_reqP rfl (Tr.all_ok ⟨?_,rfl⟩)
   rw[ix_leI]
end
end Go.Eng
end
section
namespace Go.Eng
open Go.Proofs
set_option linter.unusedVariables false
set_option linter.unusedSimpArgs false
set_option maxRecDepth 100000
noncomputable def aY (y:Nat→Int) (j:Int) (c:Nat):Int:=match c with
 | 0=>y (idO 0 j 7)
 | c+1=>y (addO (idO 0 j 7) (c+1))
noncomputable def g71 (k:Nat) (b:Nat→Int) (full:Bool) (y:Nat→Int) (j:Int) (D:Bool):List AV→Option (Prop×AV):=fun x=>some (x=[sl1 k b full,o72 (aY y j)],.bool D)
noncomputable def g70 (B:AV) (e:Int):List AV→Option (Prop×AV):=fun x=>some (x=[B],.int .i64 e)
noncomputable def g73 (l:Nat) (z:Nat→Int) (k:Nat) (b:Nat→Int) (full:Bool) (j:Int) (D:Bool):List AV→Option (Prop×AV):=fun x=>some (x=[slA 5 l z,sl1 k b full,.int .i64 j],.bool D)
noncomputable def fr29 (l k:Nat) (y b:Nat→Int) (full:Bool) (j:Int):Frm:=[(1,sl1 k b full),(5,.ptrT (some 0) (.G [slA 7 l y]) 0),(23,.int .i64 (Int.ofNat l)),(24,.int .i64 j)]
noncomputable def fr30 (l k:Nat) (z b:Nat→Int) (full:Bool) (j:Int):Frm:=[(0,slA 5 l z),(1,sl1 k b full),(5,.int .i64 j)]
theorem t29 (n l k:Nat) (y b:Nat→Int) (full:Bool) (H:Heap) (j:Int) (D:Bool):execT (cxD n 29 39) (il (ctG noCt 71 (g71 k b full y j D)) n 0) noBT noRT (part Tryz.f29 [1,1,1,1,0,1,0,0]) (hints (fr29 l k y b full j)) (lvE::H) =
 (fun (Z0:List AV)=>Tr.ite (ltI j (Int.ofNat l)) (Tr.req (inI j l) (Tr.req (ltN (idO 0 j 7) (mulO l 7)) (Tr.req (ltN (addO (idO 0 j 7) 1) (mulO l 7)) (Tr.req (ltN (addO (idO 0 j 7) 2) (mulO l 7)) (Tr.req (ltN (addO (idO 0 j 7) 3) (mulO l 7)) (Tr.req (ltN (addO (idO 0 j 7) 4) (mulO l 7)) (Tr.req (ltN (addO (idO 0 j 7) 5) (mulO l 7)) (Tr.req (ltN (addO (idO 0 j 7) 6) (mulO l 7)) (Tr.reqP (Z0=Z0) (Tr.ite (notB D) (Tr.ok (Ex.ret,[(4,AV.int .i64 (Int.ofNat 22),some 1)],lvE::H)) (Tr.ok (Ex.normal,[(1,AV.slcT none (Row.M [Seg.arr .i64 b k]) 1 k full,none),(5,AV.ptrT (some 0) (Row.G [slA 7 l y]) 0,none),(23,AV.int .i64 (Int.ofNat l),none),(24,AV.int .i64 (addI .i64 j (Int.ofNat 1)),none)],lvE::H)))))))))))) (Tr.ok (Ex.exit 0,[(1,AV.slcT none (Row.M [Seg.arr .i64 b k]) 1 k full,none),(5,AV.ptrT (some 0) (Row.G [slA 7 l y]) 0,none),(23,AV.int .i64 (Int.ofNat l),none),(24,AV.int .i64 j,none),(25,AV.bool false,some 1)],lvE::H))) [AV.slcT none (Row.M [Seg.arr .i64 b k]) 1 k full,AV.fn (Fn.func 72) [AV.agg (Row.I .i64 [y (idO 0 j 7),y (addO (idO 0 j 7) 1),y (addO (idO 0 j 7) 2),y (addO (idO 0 j 7) 3),y (addO (idO 0 j 7) 4),y (addO (idO 0 j 7) 5),y (addO (idO 0 j 7) 6)])] []]:=by kernel_rfl
theorem t29x (n l k:Nat) (y b:Nat→Int) (full:Bool) (H:Heap) (j:Int):execT (cxD n 29 39) (il noCt n 0) noBT noRT (part Tryz.f29 [1,1,1,1,0,1,0,0]) (hints (fr29 l k y b full j)) (lvE::H) =
 Tr.ite (ltI j (Int.ofNat l)) (Tr.req (inI j l) (Tr.req (ltN (idO 0 j 7) (mulO l 7)) (Tr.req (ltN (addO (idO 0 j 7) 1) (mulO l 7)) (Tr.req (ltN (addO (idO 0 j 7) 2) (mulO l 7)) (Tr.req (ltN (addO (idO 0 j 7) 3) (mulO l 7)) (Tr.req (ltN (addO (idO 0 j 7) 4) (mulO l 7)) (Tr.req (ltN (addO (idO 0 j 7) 5) (mulO l 7)) (Tr.req (ltN (addO (idO 0 j 7) 6) (mulO l 7)) Tr.bad)))))))) (Tr.ok (Ex.exit 0,[(1,AV.slcT none (Row.M [Seg.arr .i64 b k]) 1 k full,none),(5,AV.ptrT (some 0) (Row.G [slA 7 l y]) 0,none),(23,AV.int .i64 (Int.ofNat l),none),(24,AV.int .i64 j,none),(25,AV.bool false,some 1)],lvE::H)):=by kernel_rfl
theorem u29 (n l k:Nat) (z y b:Nat→Int) (full:Bool) (H:Heap) (e:Bool):bodyT Tryz.prog (cd n) 100000 29 Tryz.f29 (KtB.kt 29) (il (ctG (ctG noCt 52 (gO (slA 5 l z) (.tup [.ptrT (some 0) (.G [slA 7 l y]) 0,.int .i64 0]))) 70 (g70 (sl1 k b full) 0)) n 0) (blkE noBT 0 (fr29 l k y b full 0) (lvE::H) (.ite e (.ok (.ret,hints [(4,.int .i64 22)],lvE::H)) (.ok (.normal,hints (fr29 l k y b full (Int.ofNat l)++[(25,.bool false)]),lvE::H)))) noRT [(slA 5 l z,none),(sl1 k b full,none)] H =
 (fun (Z0:Frm)=>Tr.reqP (slA 5 l z=slA 5 l z) (Tr.ite (notB (eqI (Int.ofNat 0) (Int.ofNat 0))) (Tr.ok ((AV.int .i64 (Int.ofNat 0),none),H)) (Tr.reqP ([AV.slcT none (Row.M [Seg.arr .i64 b k]) 1 k full]=[AV.slcT none (Row.M [Seg.arr .i64 b k]) 1 k full]) (Tr.ite (notB (eqI (Int.ofNat 0) (Int.ofNat 0))) (Tr.ok ((AV.int .i64 (Int.ofNat 0),none),H)) (Tr.reqP (Z0=Z0∧lvE::H=lvE::H) (Tr.ite e (Tr.ok ((AV.int .i64 (Int.ofNat 22),none),H)) (Tr.ok ((AV.int .i64 (Int.ofNat 0),some 1),H)))))))) [(1,AV.slcT none (Row.M [Seg.arr .i64 b k]) 1 k full),(5,AV.ptrT (some 0) (Row.G [slA 7 l y]) 0),(23,AV.int .i64 (Int.ofNat l)),(24,AV.int .i64 (Int.ofNat 0))]:=by kernel_rfl
theorem u29x (n l k:Nat) (z b:Nat→Int) (full:Bool) (H:Heap) (e:Int):bodyT Tryz.prog (cd n) 100000 29 Tryz.f29 (KtB.kt 29) (il (ctG noCt 52 (gO (slA 5 l z) (.tup [.nilp,.int .i64 e]))) n 0) (stopB noBT 0) noRT [(slA 5 l z,none),(sl1 k b full,none)] H =
 Tr.reqP (slA 5 l z=slA 5 l z) (Tr.ite (notB (eqI e (Int.ofNat 0))) (Tr.ok ((AV.int .i64 e,none),H)) Tr.bad):=by kernel_rfl
theorem u29y (n l k:Nat) (z y b:Nat→Int) (full:Bool) (H:Heap) (e:Int):bodyT Tryz.prog (cd n) 100000 29 Tryz.f29 (KtB.kt 29) (il (ctG (ctG noCt 52 (gO (slA 5 l z) (.tup [.ptrT (some 0) (.G [slA 7 l y]) 0,.int .i64 0]))) 70 (g70 (sl1 k b full) e)) n 0) (stopB noBT 0) noRT [(slA 5 l z,none),(sl1 k b full,none)] H =
 Tr.reqP (slA 5 l z=slA 5 l z) (Tr.ite (notB (eqI (Int.ofNat 0) (Int.ofNat 0))) (Tr.ok ((AV.int .i64 (Int.ofNat 0),none),H)) (Tr.reqP ([AV.slcT none (Row.M [Seg.arr .i64 b k]) 1 k full]=[AV.slcT none (Row.M [Seg.arr .i64 b k]) 1 k full]) (Tr.ite (notB (eqI e (Int.ofNat 0))) (Tr.ok ((AV.int .i64 e,none),H)) Tr.bad))):=by kernel_rfl
theorem t30 (n l k:Nat) (z b:Nat→Int) (full:Bool) (H:Heap) (j:Int) (D:Bool):execT (cxD n 30 27) (il (ctG noCt 73 (g73 l z k b full j D)) n 0) noBT noRT (part Tryz.f30 [1,1,1,0,1,0,0]) (hints (fr30 l k z b full j)) (lvE::H) =
 Tr.ite (ltI j (Int.ofNat l)) (Tr.reqP ([slA 5 l z,AV.slcT none (Row.M [Seg.arr .i64 b k]) 1 k full,AV.int .i64 j]=[slA 5 l z,AV.slcT none (Row.M [Seg.arr .i64 b k]) 1 k full,AV.int .i64 j]) (Tr.ite (notB D) (Tr.ok (Ex.ret,[(4,AV.int .i64 (Int.ofNat 22),some 1)],lvE::H)) (Tr.ok (Ex.normal,[(0,slA 5 l z,none),(1,AV.slcT none (Row.M [Seg.arr .i64 b k]) 1 k full,none),(5,AV.int .i64 (addI .i64 j (Int.ofNat 1)),none)],lvE::H)))) (Tr.ok (Ex.exit 0,[(0,slA 5 l z,none),(1,AV.slcT none (Row.M [Seg.arr .i64 b k]) 1 k full,none),(5,AV.int .i64 j,none),(19,AV.bool false,some 1)],lvE::H)):=by kernel_rfl
theorem t30x (n l k:Nat) (z b:Nat→Int) (full:Bool) (H:Heap) (j:Int):execT (cxD n 30 27) (il noCt n 0) noBT noRT (part Tryz.f30 [1,1,1,0,1,0,0]) (hints (fr30 l k z b full j)) (lvE::H) =
 Tr.ite (ltI j (Int.ofNat l)) Tr.bad (Tr.ok (Ex.exit 0,[(0,slA 5 l z,none),(1,AV.slcT none (Row.M [Seg.arr .i64 b k]) 1 k full,none),(5,AV.int .i64 j,none),(19,AV.bool false,some 1)],lvE::H)):=by kernel_rfl
theorem u30 (n l k:Nat) (z b:Nat→Int) (full:Bool) (H:Heap) (e:Bool):bodyT Tryz.prog (cd n) 100000 30 Tryz.f30 (KtB.kt 30) (il (ctG (ctG noCt 21 (gO (slA 5 l z) (.int .i64 0))) 38 (g70 (sl1 k b full) 0)) n 0) (blkE noBT 0 (fr30 l k z b full 0) (lvE::H) (.ite e (.ok (.ret,hints [(4,.int .i64 22)],lvE::H)) (.ok (.normal,hints (fr30 l k z b full (Int.ofNat l)++[(19,.bool false)]),lvE::H)))) noRT [(slA 5 l z,none),(sl1 k b full,none)] H =
 (fun (Z0:List AV)=>((fun (Z1:Frm)=>Tr.reqP (slA 5 l z=slA 5 l z) (Tr.ite (notB (eqI (Int.ofNat 0) (Int.ofNat 0))) (Tr.reqP (slA 5 l z=slA 5 l z) (Tr.ok ((AV.int .i64 (Int.ofNat 0),none),H))) (Tr.reqP (Z0=Z0) (Tr.ite (notB (eqI (Int.ofNat 0) (Int.ofNat 0))) (Tr.reqP (Z0=Z0) (Tr.ok ((AV.int .i64 (Int.ofNat 0),none),H))) (Tr.reqP (Z1=Z1∧lvE::H=lvE::H) (Tr.ite e (Tr.ok ((AV.int .i64 (Int.ofNat 22),none),H)) (Tr.ok ((AV.int .i64 (Int.ofNat 0),some 1),H)))))))) [(0,slA 5 l z),(1,AV.slcT none (Row.M [Seg.arr .i64 b k]) 1 k full),(5,AV.int .i64 (Int.ofNat 0))])) [AV.slcT none (Row.M [Seg.arr .i64 b k]) 1 k full]:=by kernel_rfl
theorem u30x (n l k:Nat) (z b:Nat→Int) (full:Bool) (H:Heap) (e f:Int):bodyT Tryz.prog (cd n) 100000 30 Tryz.f30 (KtB.kt 30) (il (ctG (ctG noCt 21 (gO (slA 5 l z) (.int .i64 e))) 38 (g70 (sl1 k b full) f)) n 0) (stopB noBT 0) noRT [(slA 5 l z,none),(sl1 k b full,none)] H =
 (fun (Z0:List AV)=>Tr.reqP (slA 5 l z=slA 5 l z) (Tr.ite (notB (eqI e (Int.ofNat 0))) (Tr.reqP (slA 5 l z=slA 5 l z) (Tr.ok ((AV.int .i64 e,none),H))) (Tr.reqP (Z0=Z0) (Tr.ite (notB (eqI f (Int.ofNat 0))) (Tr.reqP (Z0=Z0) (Tr.ok ((AV.int .i64 f,none),H))) Tr.bad)))) [AV.slcT none (Row.M [Seg.arr .i64 b k]) 1 k full]:=by kernel_rfl
theorem b29:∀ b,(0,b) ∈ blocksOf (bodyOf Tryz.f29)→b=.loop (part Tryz.f29 [1,1,1,1,0,1,0,0]):=by
 have:((blocksOf (bodyOf Tryz.f29)).filter fun x=>Nat.beq x.1 0)=[(0,.loop (part Tryz.f29 [1,1,1,1,0,1,0,0]))]:=by kernel_rfl
 intro b hb
 have hm:(0,b) ∈ ((blocksOf (bodyOf Tryz.f29)).filter fun x=>Nat.beq x.1 0):=List.mem_filter.2 ⟨hb,rfl⟩
 rw[this] at hm;simpa using hm
theorem b30:∀ b,(0,b) ∈ blocksOf (bodyOf Tryz.f30)→b=.loop (part Tryz.f30 [1,1,1,0,1,0,0]):=by
 have:((blocksOf (bodyOf Tryz.f30)).filter fun x=>Nat.beq x.1 0)=[(0,.loop (part Tryz.f30 [1,1,1,0,1,0,0]))]:=by kernel_rfl
 intro b hb
 have hm:(0,b) ∈ ((blocksOf (bodyOf Tryz.f30)).filter fun x=>Nat.beq x.1 0):=List.mem_filter.2 ⟨hb,rfl⟩
 rw[this] at hm;simpa using hm
end Go.Eng
end
section
namespace Go.Eng
open Go.Proofs
set_option linter.unusedVariables false
set_option linter.unusedSimpArgs false
set_option maxRecDepth 100000
theorem ct71 {c k:Nat} {t:Ctr} {b y:Nat→Int} {full D:Bool} {j:Int} (ht:t.Ok (cd c)) (h:∀ H,cd c (.fn 71) [sl1 k b full,o72 (aY y j)] H=some (.bool D,H)):(ctG t 71 (g71 k b full y j D)).Ok (cd c):=by
 refine ctG_ok ht (fun args p v hg hp H=>?_)
 unfold g71 at hg
 simp only[nP] at hg
 obtain ⟨rfl,rfl⟩:=hg
 rw[hp];exact h H
theorem ct70 {c f:Nat} {t:Ctr} {B:AV} {e:Int} (ht:t.Ok (cd c)) (h:∀ H,cd c (.fn f) [B] H=some (.int .i64 e,H)):(ctG t f (g70 B e)).Ok (cd c):=by
 refine ctG_ok ht (fun args p v hg hp H=>?_)
 unfold g70 at hg
 simp only[nP] at hg
 obtain ⟨rfl,rfl⟩:=hg
 rw[hp];exact h H
theorem ct73 {c l k:Nat} {t:Ctr} {z b:Nat→Int} {full D:Bool} {j:Int} (ht:t.Ok (cd c)) (h:∀ H,cd c (.fn 73) [slA 5 l z,sl1 k b full,.int .i64 j] H=some (.bool D,H)):(ctG t 73 (g73 l z k b full j D)).Ok (cd c):=by
 refine ctG_ok ht (fun args p v hg hp H=>?_)
 unfold g73 at hg
 simp only[nP] at hg
 obtain ⟨rfl,rfl⟩:=hg
 rw[hp];exact h H
noncomputable def cbE (l:Nat) (z:Nat→Int) (k:Nat) (b:Nat→Int):Int:=if chkO l z≠0 then chkO l z else if ibE k b≠0 then ibE k b else if exN (fun j=>!dnN z b k j) l=true then 22 else 0
theorem ib_k {k:Nat} {b:Nat→Int} (h:ibE k b=0):k≤14:=by
 unfold ibE at h
 by_cases hk:14<k
 · rw[if_pos hk] at h;cases h
 · omega
section
variable (n l k:Nat) (z b:Nat→Int) (full:Bool) (H:Heap)
theorem dn_aY {l:Nat} (hl:l≤14) (z b:Nat→Int) (k j:Nat) (hj:j<l):exN (fun q=>inB (aY (oY z l) (j:Int)) (b q)) k=dnN z b k j:=by
 have e7:idO 0 (j:Int) 7=j*7:=by rw[idO_eq];omega
 have h5:aY (oY z l) (j:Int) 5=bLo z j:=by show oY z l (addO (idO 0 (j:Int) 7) 5)=_;rw[addO_eq,e7];exact oY_at z (by omega) (by omega)
 have h6:aY (oY z l) (j:Int) 6=bHi z j:=by show oY z l (addO (idO 0 (j:Int) 7) 6)=_;rw[addO_eq,e7];exact oY_at z (by omega) (by omega)
 unfold dnN inB dnB
 rw[h5,h6]
theorem l29 (h:chkO l z=0) (hk:k≤1000):exec (cxD (n+3) 29 39) (.block 0 (.loop (part Tryz.f29 [1,1,1,1,0,1,0,0]))) (fr29 l k (oY z l) b full 0) (lvE::H)=some (cond (exN (fun j=>!dnN z b k j) l) (.ret,[(4,.int .i64 22)],lvE::H) (.normal,fr29 l k (oY z l) b full (Int.ofNat l)++[(25,.bool false)],lvE::H)):=by
 obtain ⟨hl,hb⟩:=chk_odd h
 refine findX 0 (fun j=>fr29 l k (oY z l) b full (j:Int)) (fun _=>lvE::H) l (fun j=>!dnN z b k j) (fun j=>([(4,.int .i64 22)],lvE::H)) (fr29 l k (oY z l) b full (Int.ofNat l)++[(25,.bool false)],lvE::H) (by omega) (fun j hj=>?_) ?_
 · have hc:∀ H,cd (n+3) (.fn 71) [sl1 k b full,o72 (aY (oY z l) (j:Int))] H=some (.bool (dnN z b k j),H):=fun H=>by rw[← dn_aY hl.2 z b k j hj];exact c71 n k b full H _ hk
   refine ex_all (t29 (n+3) l k (oY z l) b full H (j:Int) (dnN z b k j)) (il_ok0 _ _ (ct71 (noCt_ok _) hc)) (noBT_ok _ _) (noRT_ok _ _) ?_
   show Tr.all _ (fun x=>if (!dnN z b k j)=true then _ else _)
   have e7:idO 0 (j:Int) 7=j*7:=by rw[idO_eq];omega
   rw[cs64 (by omega),e7]
   cases dnN z b k j with
   | false =>
     simp only[Bool.not_false,if_true]
     repeat' first | (refine Tr.all_ite (fun hc=>?_) (fun hc=>?_)<;>(try simp (disch:=omega) only[nV,nW] at hc)<;>try omega) | (refine Tr.all_req ?_ ?_;· (try simp (disch:=omega) only[nV,nW]);try omega) | (refine Tr.all_reqP ?_ ?_;· first | exact trivial | rfl | exact ⟨rfl,rfl⟩ | exact ⟨rfl,rfl,rfl⟩ | (simp (disch:=omega) only[nV,nW];done) | ((try simp (disch:=omega) only[nV,nW]);omega)) | fail
     all_goals first
      | exact Tr.all_ok rfl
      | fail
   | true =>
     simp only[Bool.not_true,Bool.false_eq_true,if_false]
     repeat' first | (refine Tr.all_ite (fun hc=>?_) (fun hc=>?_)<;>(try simp (disch:=omega) only[nV,nW] at hc)<;>try omega) | (refine Tr.all_req ?_ ?_;· (try simp (disch:=omega) only[nV,nW]);try omega) | (refine Tr.all_reqP ?_ ?_;· first | exact trivial | rfl | exact ⟨rfl,rfl⟩ | exact ⟨rfl,rfl,rfl⟩ | (simp (disch:=omega) only[nV,nW];done) | ((try simp (disch:=omega) only[nV,nW]);omega)) | fail
     all_goals first
      | exact Tr.all_ok ⟨rfl,rfl⟩
      | fail
 · obtain ⟨x,h1,rfl⟩:=ex_all (Q:=fun x=>x=(.exit 0,fr29 l k (oY z l) b full (Int.ofNat l)++[(25,.bool false)],lvE::H)) (t29x (n+3) l k (oY z l) b full H (Int.ofNat l)) (il_no0 _) (noBT_ok _ _) (noRT_ok _ _) (by
    refine Tr.all_ite (fun hc=>?_) (fun hc=>Tr.all_ok rfl)
    simp (disch:=omega) only[nV,nW] at hc;omega)
   exact h1
theorem opn_ok {l:Nat} {z:Nat→Int} (h:chkO l z=0):opnV l z=.tup [.ptrT (some 0) (.G [slA 7 l (oY z l)]) 0,.int .i64 0]:=by unfold opnV;rw[if_pos h];rfl
theorem opn_er {l:Nat} {z:Nat→Int} (h:¬ chkO l z=0):opnV l z=.tup [.nilp,.int .i64 (chkO l z)]:=by unfold opnV;rw[if_neg h]
theorem c29:cd (n+11) (.fn 29) [slA 5 l z,sl1 k b full] H=some (.int .i64 (cbE l z k b),H):=by
 have hc:∀ k H,cd (n+10+k) (.fn 52) [slA 5 l z] H=some (opnV l z,H):=fun k H=>by rw[show n+10+k=n+k+10 by omega];exact c52 _ l z H
 have h70:∀ q H,cd (n+10+q) (.fn 70) [sl1 k b full] H=some (.int .i64 (ibE k b),H):=fun q H=>by rw[show n+10+q=n+5+q+5 by omega];exact c70 _ k b full H
 unfold cbE
 by_cases h:chkO l z=0
 · rw [opn_ok h] at hc
   rw[if_neg (fun x=>x h)]
   by_cases h2:ibE k b=0
   · rw [if_neg (fun x=>x h2)]
     rw[h2] at h70
     have hx:=l29 (n+7) l k z b full H h (by have:=ib_k h2;omega)
     refine fn_all (n:=n+10) Tryz.func29 rfl rfl rfl (u29 (n+10) l k z (oY z l) b full H (exN (fun j=>!dnN z b k j) l)) (il_ok _ (n+10) 0 (fun k=>ct70 (ctV1 (noCt_ok _) (hc k)) (h70 k))) (blkE_ok (noBT_ok _ _) b29 (fun x h=>blk_ite h hx)) (noRT_ok _ _) ?_
     cases exN (fun j=>!dnN z b k j) l with
     | true =>
       rw[if_pos rfl]
       repeat' first | (refine Tr.all_ite (fun hc=>?_) (fun hc=>?_)<;>(try simp (disch:=omega) only[nV,nW] at hc)<;>try omega) | (refine Tr.all_req ?_ ?_;· (try simp (disch:=omega) only[nV,nW]);try omega) | (refine Tr.all_reqP ?_ ?_;· first | exact trivial | rfl | exact ⟨rfl,rfl⟩ | exact ⟨rfl,rfl,rfl⟩ | (simp (disch:=omega) only[nV,nW];done) | ((try simp (disch:=omega) only[nV,nW]);omega)) | fail
       all_goals first
        | exact Tr.all_ok ⟨rfl,rfl⟩
        | fail
     | false =>
       rw[if_neg (by decide)]
       repeat' first | (refine Tr.all_ite (fun hc=>?_) (fun hc=>?_)<;>(try simp (disch:=omega) only[nV,nW] at hc)<;>try omega) | (refine Tr.all_req ?_ ?_;· (try simp (disch:=omega) only[nV,nW]);try omega) | (refine Tr.all_reqP ?_ ?_;· first | exact trivial | rfl | exact ⟨rfl,rfl⟩ | exact ⟨rfl,rfl,rfl⟩ | (simp (disch:=omega) only[nV,nW];done) | ((try simp (disch:=omega) only[nV,nW]);omega)) | fail
       all_goals first
        | exact Tr.all_ok ⟨rfl,rfl⟩
        | fail
   · rw[if_pos h2]
     refine fn_all (n:=n+10) Tryz.func29 rfl rfl rfl (u29y (n+10) l k z (oY z l) b full H (ibE k b)) (il_ok _ (n+10) 0 (fun k=>ct70 (ctV1 (noCt_ok _) (hc k)) (h70 k))) (stopB_ok (noBT_ok _ _) 0) (noRT_ok _ _) ?_
     repeat' first | (refine Tr.all_ite (fun hc=>?_) (fun hc=>?_)<;>(try simp (disch:=omega) only[nV,nW] at hc)<;>try omega) | (refine Tr.all_req ?_ ?_;· (try simp (disch:=omega) only[nV,nW]);try omega) | (refine Tr.all_reqP ?_ ?_;· first | exact trivial | rfl | exact ⟨rfl,rfl⟩ | exact ⟨rfl,rfl,rfl⟩ | (simp (disch:=omega) only[nV,nW];done) | ((try simp (disch:=omega) only[nV,nW]);omega)) | fail
     all_goals first
      | exact Tr.all_ok ⟨rfl,rfl⟩
      | fail
 · rw[opn_er h] at hc
   rw[if_pos h]
   refine fn_all (n:=n+10) Tryz.func29 rfl rfl rfl (u29x (n+10) l k z b full H (chkO l z)) (il_ok _ (n+10) 0 (fun k=>ctV1 (noCt_ok _) (hc k))) (stopB_ok (noBT_ok _ _) 0) (noRT_ok _ _) ?_
   repeat' first | (refine Tr.all_ite (fun hc=>?_) (fun hc=>?_)<;>(try simp (disch:=omega) only[nV,nW] at hc)<;>try omega) | (refine Tr.all_req ?_ ?_;· (try simp (disch:=omega) only[nV,nW]);try omega) | (refine Tr.all_reqP ?_ ?_;· first | exact trivial | rfl | exact ⟨rfl,rfl⟩ | exact ⟨rfl,rfl,rfl⟩ | (simp (disch:=omega) only[nV,nW];done) | ((try simp (disch:=omega) only[nV,nW]);omega)) | fail
   all_goals first
    | exact Tr.all_ok ⟨rfl,rfl⟩
    | fail
end
end Go.Eng
end
