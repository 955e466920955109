/- Lay: CheckSheet as it is defined. -/
import Derived.Test.YtoomemfhcbajoaaV7Lb3x2
section
namespace Go.Eng
open Go.Proofs
set_option linter.unusedVariables false
set_option linter.unusedSimpArgs false
set_option maxRecDepth 100000
noncomputable def fr22 (l:Nat) (s:Nat) (i:Int):Frm:=[(1,.ptr 0 0 0 0),(3,.int .i64 (Int.ofNat l)),(s,.int .i64 i)]
noncomputable def fr22c (l:Nat) (i x m:Int):Frm:=[(1,.ptr 0 0 0 0),(3,.int .i64 (Int.ofNat l)),(5,.int .i64 i),(6,.int .i64 x),(7,.int .i64 m)]
noncomputable def lvS (l:Nat) (t:Nat→Int) (k:Nat) (d:Nat→Int):Lvl:=⟨false,[(0,.row (.G [sl1 l t false,sl1 k d false]))]⟩
theorem t22a (n l k:Nat) (t d:Nat→Int) (H:Heap) (i:Int):execT (cxD (n+1) 22 90) (il noCt n 1) noBT noRT (part Try.f22 [1,1,1,1,0,1,0,0]) (hints (fr22 l 4 i)) (lvS l t k d::H) =
 (fun (Z0:Lvl)=>((fun (Z1:HFrm)=>((fun (Z2:HFrm)=>Tr.ite (ltI i (Int.ofNat l)) (Tr.req (inI i l) (Tr.req (ltN (idO 0 i 1) l) (Tr.ite (notB (eqI (t (idO 0 i 1)) (Int.negSucc 0))) (Tr.req (inI i l) (Tr.req (ltN (idO 0 i 1) l) (Tr.ite (leI (Int.ofNat 0) (t (idO 0 i 1))) (Tr.ite (notB (ltI (t (idO 0 i 1)) (Int.ofNat l))) (Tr.ok (Ex.ret,Z1,Z0::H)) (Tr.req (inI i l) (Tr.req (ltN (idO 0 i 1) l) (Tr.ite (eqI (t (idO 0 i 1)) i) (Tr.ok (Ex.ret,Z1,Z0::H)) (Tr.req (inI i k) (Tr.req (ltN (idO 0 i 1) k) (Tr.ite (ltI (d (idO 0 i 1)) (Int.ofNat 1)) (Tr.ok (Ex.ret,Z1,Z0::H)) (Tr.req (inI i k) (Tr.req (ltN (idO 0 i 1) k) (Tr.ite (ltI (Int.ofNat 40) (d (idO 0 i 1))) (Tr.ok (Ex.ret,Z1,Z0::H)) (Tr.ok (Ex.normal,Z2,Z0::H)))))))))))) (Tr.ok (Ex.ret,Z1,Z0::H))))) (Tr.req (inI i k) (Tr.req (ltN (idO 0 i 1) k) (Tr.ite (ltI (d (idO 0 i 1)) (Int.ofNat 1)) (Tr.ok (Ex.ret,Z1,Z0::H)) (Tr.req (inI i k) (Tr.req (ltN (idO 0 i 1) k) (Tr.ite (ltI (Int.ofNat 40) (d (idO 0 i 1))) (Tr.ok (Ex.ret,Z1,Z0::H)) (Tr.ok (Ex.normal,Z2,Z0::H))))))))))) (Tr.ok (Ex.exit 0,[(1,AV.ptr 0 0 0 0,none),(3,AV.int .i64 (Int.ofNat l),none),(4,AV.int .i64 i,none),(24,AV.bool false,some 1)],Z0::H))) [(1,AV.ptr 0 0 0 0,none),(3,AV.int .i64 (Int.ofNat l),none),(4,AV.int .i64 (addI .i64 i (Int.ofNat 1)),none)])) [(2,AV.int .i64 (Int.ofNat 3),some 1)])) { lock:=false,bs:=[(0,Blk.row (Row.G [AV.slcT none (Row.M [Seg.arr .i64 t l]) 1 l false,AV.slcT none (Row.M [Seg.arr .i64 d k]) 1 k false]))] }:=by kernel_rfl
theorem t22c (n l k:Nat) (t d:Nat→Int) (H:Heap) (i x m:Int):execT (cxD n 22 90) (il noCt n 0) noBT noRT (part Try.f22 [1,1,1,1,1,0,1,0,0,1,0,0,1,0,1,0,0]) (hints (fr22c l i x m)) (lvS l t k d::H) =
 (fun (Z0:Lvl)=>((fun (Z1:HFrm)=>Tr.ite (ltI m (Int.ofNat l)) (Tr.ite (leI (Int.ofNat 0) x) (Tr.req (inI x l) (Tr.req (ltN (idO 0 x 1) l) (Tr.ok (Ex.normal,[(1,AV.ptr 0 0 0 0,none),(3,AV.int .i64 (Int.ofNat l),none),(5,AV.int .i64 i,none),(6,AV.int .i64 (t (idO 0 x 1)),none),(7,AV.int .i64 (addI .i64 m (Int.ofNat 1)),none)],Z0::H)))) (Tr.ok (Ex.exit 4,Z1,Z0::H))) (Tr.ok (Ex.exit 4,Z1,Z0::H))) [(1,AV.ptr 0 0 0 0,none),(3,AV.int .i64 (Int.ofNat l),none),(5,AV.int .i64 i,none),(6,AV.int .i64 x,none),(7,AV.int .i64 m,none),(80,AV.bool false,some 1)])) { lock:=false,bs:=[(0,Blk.row (Row.G [AV.slcT none (Row.M [Seg.arr .i64 t l]) 1 l false,AV.slcT none (Row.M [Seg.arr .i64 d k]) 1 k false]))] }:=by kernel_rfl
theorem t22b (n l k:Nat) (t d:Nat→Int) (H:Heap) (i x m:Int):execT (cxD n 22 90) (il noCt n 0) (blkE noBT 4 (fr22c l i i 0) (lvS l t k d::H) (.ok (.normal,hints (fr22c l i x m++[(80,.bool false)]),lvS l t k d::H))) noRT (part Try.f22 [1,1,1,1,1,0,1,0,0]) (hints (fr22 l 5 i)) (lvS l t k d::H) =
 (fun (Z0:Lvl)=>((fun (Z1:Frm)=>Tr.ite (ltI i (Int.ofNat l)) (Tr.reqP (Z1=Z1∧Z0::H=Z0::H) (Tr.ite (leI (Int.ofNat 0) x) (Tr.ok (Ex.ret,[(2,AV.int .i64 (Int.ofNat 16),some 1)],Z0::H)) (Tr.ok (Ex.normal,[(1,AV.ptr 0 0 0 0,none),(3,AV.int .i64 (Int.ofNat l),none),(5,AV.int .i64 (addI .i64 i (Int.ofNat 1)),none)],Z0::H)))) (Tr.ok (Ex.exit 2,[(1,AV.ptr 0 0 0 0,none),(3,AV.int .i64 (Int.ofNat l),none),(5,AV.int .i64 i,none),(70,AV.bool false,some 1)],Z0::H))) [(1,AV.ptr 0 0 0 0),(3,AV.int .i64 (Int.ofNat l)),(5,AV.int .i64 i),(6,AV.int .i64 i),(7,AV.int .i64 (Int.ofNat 0))])) { lock:=false,bs:=[(0,Blk.row (Row.G [AV.slcT none (Row.M [Seg.arr .i64 t l]) 1 l false,AV.slcT none (Row.M [Seg.arr .i64 d k]) 1 k false]))] }:=by kernel_rfl
theorem t22x (n l k:Nat) (t d:Nat→Int) (H:Heap) (i:Int):execT (cxD n 22 90) (il noCt n 0) (stopB noBT 4) noRT (part Try.f22 [1,1,1,1,1,0,1,0,0]) (hints (fr22 l 5 i)) (lvS l t k d::H) =
 Tr.ite (ltI i (Int.ofNat l)) Tr.bad (Tr.ok (Ex.exit 2,[(1,AV.ptr 0 0 0 0,none),(3,AV.int .i64 (Int.ofNat l),none),(5,AV.int .i64 i,none),(70,AV.bool false,some 1)],{ lock:=false,bs:=[(0,Blk.row (Row.G [AV.slcT none (Row.M [Seg.arr .i64 t l]) 1 l false,AV.slcT none (Row.M [Seg.arr .i64 d k]) 1 k false]))] } :: H)):=by kernel_rfl
theorem u22 (n l k:Nat) (t d:Nat→Int) (H:Heap) (e b:Bool):bodyT Try.prog (cd n) 100000 22 Try.f22 (KtL.kt 22) (il noCt n 0) (blkE (blkE noBT 2 (fr22 l 5 0) (lvS l t k d::H) (.ite b (.ok (.ret,[(2,.int .i64 16,none)],lvS l t k d::H)) (.ok (.normal,hints (fr22 l 5 (Int.ofNat l)++[(70,.bool false)]),lvS l t k d::H)))) 0 (fr22 l 4 0) (lvS l t k d::H) (.ite e (.ok (.ret,[(2,.int .i64 3,none)],lvS l t k d::H)) (.ok (.normal,hints (fr22 l 4 (Int.ofNat l)++[(24,.bool false)]),lvS l t k d::H)))) noRT [(shA l t k d,none)] H =
 (fun (Z0:Lvl)=>((fun (Z1:Frm)=>((fun (Z2:Frm)=>Tr.ite (ltI (Int.ofNat l) (Int.ofNat 1)) (Tr.ok ((AV.int .i64 (Int.ofNat 6),some 1),H)) (Tr.ite (ltI (Int.ofNat 30) (Int.ofNat l)) (Tr.ok ((AV.int .i64 (Int.ofNat 6),some 1),H)) (Tr.ite (notB (eqI (Int.ofNat k) (Int.ofNat l))) (Tr.ok ((AV.int .i64 (Int.ofNat 15),some 1),H)) (Tr.reqP (Z1=Z1∧Z0::H=Z0::H) (Tr.ite e (Tr.ok ((AV.int .i64 (Int.ofNat 3),none),H)) (Tr.reqP (Z2=Z2∧Z0::H=Z0::H) (Tr.ite b (Tr.ok ((AV.int .i64 (Int.ofNat 16),none),H)) (Tr.ok ((AV.int .i64 (Int.ofNat 0),some 1),H))))))))) [(1,AV.ptr 0 0 0 0),(3,AV.int .i64 (Int.ofNat l)),(5,AV.int .i64 (Int.ofNat 0))])) [(1,AV.ptr 0 0 0 0),(3,AV.int .i64 (Int.ofNat l)),(4,AV.int .i64 (Int.ofNat 0))])) { lock:=false,bs:=[(0,Blk.row (Row.G [AV.slcT none (Row.M [Seg.arr .i64 t l]) 1 l false,AV.slcT none (Row.M [Seg.arr .i64 d k]) 1 k false]))] }:=by kernel_rfl
theorem u22a (n l k:Nat) (t d:Nat→Int) (H:Heap):bodyT Try.prog (cd n) 100000 22 Try.f22 (KtL.kt 22) (il noCt n 0) (blkE (stopB noBT 2) 0 (fr22 l 4 0) (lvS l t k d::H) (.ok (.ret,[(2,.int .i64 3,none)],lvS l t k d::H))) noRT [(shA l t k d,none)] H =
 (fun (Z0:Lvl)=>((fun (Z1:Frm)=>Tr.ite (ltI (Int.ofNat l) (Int.ofNat 1)) (Tr.ok ((AV.int .i64 (Int.ofNat 6),some 1),H)) (Tr.ite (ltI (Int.ofNat 30) (Int.ofNat l)) (Tr.ok ((AV.int .i64 (Int.ofNat 6),some 1),H)) (Tr.ite (notB (eqI (Int.ofNat k) (Int.ofNat l))) (Tr.ok ((AV.int .i64 (Int.ofNat 15),some 1),H)) (Tr.reqP (Z1=Z1∧Z0::H=Z0::H) (Tr.ok ((AV.int .i64 (Int.ofNat 3),none),H)))))) [(1,AV.ptr 0 0 0 0),(3,AV.int .i64 (Int.ofNat l)),(4,AV.int .i64 (Int.ofNat 0))])) { lock:=false,bs:=[(0,Blk.row (Row.G [AV.slcT none (Row.M [Seg.arr .i64 t l]) 1 l false,AV.slcT none (Row.M [Seg.arr .i64 d k]) 1 k false]))] }:=by kernel_rfl
theorem u22x (n l k:Nat) (t d:Nat→Int) (H:Heap):bodyT Try.prog (cd n) 100000 22 Try.f22 (KtL.kt 22) (il noCt n 0) (stopB noBT 0) noRT [(shA l t k d,none)] H =
 Tr.ite (ltI (Int.ofNat l) (Int.ofNat 1)) (Tr.ok ((AV.int .i64 (Int.ofNat 6),some 1),H)) (Tr.ite (ltI (Int.ofNat 30) (Int.ofNat l)) (Tr.ok ((AV.int .i64 (Int.ofNat 6),some 1),H)) (Tr.ite (notB (eqI (Int.ofNat k) (Int.ofNat l))) (Tr.ok ((AV.int .i64 (Int.ofNat 15),some 1),H)) Tr.bad)):=by kernel_rfl
theorem b22a:∀ b,(0,b) ∈ blocksOf (bodyOf Try.f22)→b=.loop (part Try.f22 [1,1,1,1,0,1,0,0]):=by
 have:((blocksOf (bodyOf Try.f22)).filter fun x=>Nat.beq x.1 0)=[(0,.loop (part Try.f22 [1,1,1,1,0,1,0,0]))]:=by kernel_rfl
 intro b hb
 have hm:(0,b) ∈ ((blocksOf (bodyOf Try.f22)).filter fun x=>Nat.beq x.1 0):=List.mem_filter.2 ⟨hb,rfl⟩
 rw[this] at hm;simpa using hm
theorem b22b:∀ b,(2,b) ∈ blocksOf (bodyOf Try.f22)→b=.loop (part Try.f22 [1,1,1,1,1,0,1,0,0]):=by
 have:((blocksOf (bodyOf Try.f22)).filter fun x=>Nat.beq x.1 2)=[(2,.loop (part Try.f22 [1,1,1,1,1,0,1,0,0]))]:=by kernel_rfl
 intro b hb
 have hm:(2,b) ∈ ((blocksOf (bodyOf Try.f22)).filter fun x=>Nat.beq x.1 2):=List.mem_filter.2 ⟨hb,rfl⟩
 rw[this] at hm;simpa using hm
theorem b22c:∀ b,(4,b) ∈ blocksOf (part Try.f22 [1,1,1,1,1,0,1,0,0])→b=.loop (part Try.f22 [1,1,1,1,1,0,1,0,0,1,0,0,1,0,1,0,0]):=by
 have:((blocksOf (part Try.f22 [1,1,1,1,1,0,1,0,0])).filter fun x=>Nat.beq x.1 4)=[(4,.loop (part Try.f22 [1,1,1,1,1,0,1,0,0,1,0,0,1,0,1,0,0]))]:=by kernel_rfl
 intro b hb
 have hm:(4,b) ∈ ((blocksOf (part Try.f22 [1,1,1,1,1,0,1,0,0])).filter fun x=>Nat.beq x.1 4):=List.mem_filter.2 ⟨hb,rfl⟩
 rw[this] at hm;simpa using hm
theorem stp_lt {l:Nat} {t:Nat→Int} (ht:∀ j,j<l→t j<l) {x:Int} (hx:x<l):∀ m,stp t m x<l
 | 0=>hx
 | m+1=>by
   have ih:=stp_lt ht hx m
   show (if 0≤stp t m x then t (stp t m x).toNat else stp t m x) < _
   split
   · exact ht _ (by omega)
   · exact ih
theorem stp_stay {t:Nat→Int} {x:Int} {m:Nat} (h:stp t m x<0):∀ q,stp t (m+q) x=stp t m x
 | 0=>rfl
 | q+1=>by
   show (if 0≤stp t (m+q) x then _ else stp t (m+q) x)=_
   rw[stp_stay h q,if_neg (by omega)]
section
variable (n l k:Nat) (t d:Nat→Int) (H:Heap)
theorem l22a (hl:l≤30) (hk:k=l):exec (cxD (n+1) 22 90) (.block 0 (.loop (part Try.f22 [1,1,1,1,0,1,0,0]))) (fr22 l 4 0) (lvS l t k d::H)=some (cond (exN (badS l t d) l) (.ret,[(2,.int .i64 3)],lvS l t k d::H) (.normal,fr22 l 4 (Int.ofNat l)++[(24,.bool false)],lvS l t k d::H)):=by
 refine findX 0 (fun j=>fr22 l 4 (j:Int)) (fun _=>lvS l t k d::H) l (badS l t d) (fun j=>([(2,.int .i64 3)],lvS l t k d::H)) (fr22 l 4 (Int.ofNat l)++[(24,.bool false)],lvS l t k d::H) (by omega) (fun j hj=>?_) ?_
 · have hb:badS l t d j=true↔(t j < -1∨(l:Int)-1<t j)∨t j=(j:Int)∨(d j<1∨40<d j):=by
    unfold badS outB
    simp only[Bool.or_eq_true,decide_eq_true_eq]
   refine ex_all (t22a n l k t d H (j:Int)) (il_no n 1) (noBT_ok _ _) (noRT_ok _ _) ?_
   show Tr.all _ (fun x=>if badS l t d j=true then _ else _)
   rw[cs64 (by omega),id1]
   generalize badS l t d j=B at *
   by_cases h:(t j < -1∨(l:Int)-1<t j)∨t j=(j:Int)∨(d j<1∨40<d j)
   · have hB:=hb.2 h
     subst hB
     simp only[if_true]
     clear hb
     generalize t j=q at *
     generalize d j=r at *
     repeat' first | (refine Tr.all_ite (fun hc=>?_) (fun hc=>?_)<;>(try simp (disch:=omega) only[nV,nW] at hc)<;>try omega) | (refine Tr.all_req ?_ ?_;· (try simp (disch:=omega) only[nV,nW]);try omega) | (refine Tr.all_reqP ?_ ?_;· first | exact trivial | rfl | exact ⟨rfl,rfl⟩ | exact ⟨rfl,rfl,rfl⟩ | (simp (disch:=omega) only[nV,nW];done) | ((try simp (disch:=omega) only[nV,nW]);omega)) | fail
     all_goals first
      | exact Tr.all_ok rfl
      | fail
   · have hB:B=false:=by
      cases B with
      | false=>rfl
      | true=>exact absurd (hb.1 rfl) h
     subst hB
     simp only[Bool.false_eq_true,if_false]
     clear hb
     generalize t j=q at *
     generalize d j=r at *
     repeat' first | (refine Tr.all_ite (fun hc=>?_) (fun hc=>?_)<;>(try simp (disch:=omega) only[nV,nW] at hc)<;>try omega) | (refine Tr.all_req ?_ ?_;· (try simp (disch:=omega) only[nV,nW]);try omega) | (refine Tr.all_reqP ?_ ?_;· first | exact trivial | rfl | exact ⟨rfl,rfl⟩ | exact ⟨rfl,rfl,rfl⟩ | (simp (disch:=omega) only[nV,nW];done) | ((try simp (disch:=omega) only[nV,nW]);omega)) | fail
     all_goals first
      | exact Tr.all_ok ⟨rfl,rfl⟩
      | fail
 · obtain ⟨x,h1,rfl⟩:=ex_all (Q:=fun x=>x=(.exit 0,fr22 l 4 (Int.ofNat l)++[(24,.bool false)],lvS l t k d::H)) (t22a n l k t d H (Int.ofNat l)) (il_no n 1) (noBT_ok _ _) (noRT_ok _ _) (by
    refine Tr.all_ite (fun hc=>?_) (fun hc=>Tr.all_ok rfl)
    simp (disch:=omega) only[nV,nW] at hc;omega)
   exact h1
theorem l22c (hl:l≤30) (ht:∀ j,j<l→t j<l) (i:Nat) (hi:i<l):∃ m:Nat,exec (cxD n 22 90) (.block 4 (.loop (part Try.f22 [1,1,1,1,1,0,1,0,0,1,0,0,1,0,1,0,0]))) (fr22c l i i 0) (lvS l t k d::H)=some (.normal,fr22c l i (stp t l (i:Int)) m++[(80,.bool false)],lvS l t k d::H):=by
 have key:=loopI (n:=n) (f:=22) (nt:=90) (c:=part Try.f22 [1,1,1,1,1,0,1,0,0,1,0,0,1,0,1,0,0]) 4 (fun m fr Hx=>m≤l∧fr=fr22c l i (stp t m (i:Int)) (m:Nat)∧Hx=lvS l t k d::H) (fun y=>∃ m:Nat,y=(fr22c l i (stp t l (i:Int)) m++[(80,.bool false)],lvS l t k d::H)) l (by omega) (fr0:=fr22c l i i 0) (H0:=lvS l t k d::H) ⟨Nat.zero_le _,rfl,rfl⟩ ?_
 · obtain ⟨y,h1,m,rfl⟩:=key
   exact ⟨m,h1⟩
 rintro m fr Hx ⟨hm,rfl,rfl⟩
 have hlt:=stp_lt ht (show (i:Int)<l by omega) m
 have hstay:stp t m (i:Int)<0→stp t l (i:Int)=stp t m (i:Int):=fun h=>by
  have:=stp_stay h (l-m)
  rwa [show m+(l-m)=l by omega] at this
 have hs:stp t (m+1) (i:Int)=if 0≤stp t m (i:Int) then t (stp t m (i:Int)).toNat else stp t m (i:Int):=rfl
 refine ex_all (t22c n l k t d H i (stp t m (i:Int)) (m:Nat)) (il_no0 n) (noBT_ok _ _) (noRT_ok _ _) ?_
 rw[cs64 (j:=m) (by omega)]
 by_cases h1:m=l
 · subst h1
   generalize stp t m (i:Int)=x at *
   repeat' first | (refine Tr.all_ite (fun hc=>?_) (fun hc=>?_)<;>(try simp (disch:=omega) only[nV,nW] at hc)<;>try omega) | (refine Tr.all_req ?_ ?_;· (try simp (disch:=omega) only[nV,nW]);try omega) | (refine Tr.all_reqP ?_ ?_;· first | exact trivial | rfl | exact ⟨rfl,rfl⟩ | exact ⟨rfl,rfl,rfl⟩ | (simp (disch:=omega) only[nV,nW];done) | ((try simp (disch:=omega) only[nV,nW]);omega)) | fail
   all_goals first
    | exact Tr.all_ok (.inr ⟨rfl,m,rfl⟩)
    | fail
 · by_cases h2:0≤stp t m (i:Int)
   · rw[if_pos h2] at hs
     rw[idI h2]
     generalize hy:stp t (m+1) (i:Int)=y at *
     rw[← hs]
     generalize stp t m (i:Int)=x at *
     repeat' first | (refine Tr.all_ite (fun hc=>?_) (fun hc=>?_)<;>(try simp (disch:=omega) only[nV,nW] at hc)<;>try omega) | (refine Tr.all_req ?_ ?_;· (try simp (disch:=omega) only[nV,nW]);try omega) | (refine Tr.all_reqP ?_ ?_;· first | exact trivial | rfl | exact ⟨rfl,rfl⟩ | exact ⟨rfl,rfl,rfl⟩ | (simp (disch:=omega) only[nV,nW];done) | ((try simp (disch:=omega) only[nV,nW]);omega)) | fail
     all_goals first
      | exact Tr.all_ok (.inl ⟨rfl,by omega,by omega,rfl,rfl⟩)
      | fail
   · have hst:=hstay (by omega)
     rw[hst]
     generalize stp t m (i:Int)=x at *
     repeat' first | (refine Tr.all_ite (fun hc=>?_) (fun hc=>?_)<;>(try simp (disch:=omega) only[nV,nW] at hc)<;>try omega) | (refine Tr.all_req ?_ ?_;· (try simp (disch:=omega) only[nV,nW]);try omega) | (refine Tr.all_reqP ?_ ?_;· first | exact trivial | rfl | exact ⟨rfl,rfl⟩ | exact ⟨rfl,rfl,rfl⟩ | (simp (disch:=omega) only[nV,nW];done) | ((try simp (disch:=omega) only[nV,nW]);omega)) | fail
     all_goals first
      | exact Tr.all_ok (.inr ⟨rfl,m,rfl⟩)
      | fail
theorem l22b (hl:l≤30) (ht:∀ j,j<l→t j<l):exec (cxD n 22 90) (.block 2 (.loop (part Try.f22 [1,1,1,1,1,0,1,0,0]))) (fr22 l 5 0) (lvS l t k d::H)=some (cond (cycB l t) (.ret,[(2,.int .i64 16)],lvS l t k d::H) (.normal,fr22 l 5 (Int.ofNat l)++[(70,.bool false)],lvS l t k d::H)):=by
 refine findX 2 (fun j=>fr22 l 5 (j:Int)) (fun _=>lvS l t k d::H) l (fun i=>decide (0≤stp t l (i:Int))) (fun j=>([(2,.int .i64 16)],lvS l t k d::H)) (fr22 l 5 (Int.ofNat l)++[(70,.bool false)],lvS l t k d::H) (by omega) (fun j hj=>?_) ?_
 · obtain ⟨m,hx⟩:=l22c n l k t d H hl ht j hj
   refine ex_all (t22b n l k t d H (j:Int) (stp t l (j:Int)) (m:Nat)) (il_no0 n) (blkE_ok (noBT_ok _ _) b22c (fun x hy=>blk_ok hy hx)) (noRT_ok _ _) ?_
   rw[cs64 (by omega)]
   by_cases h:0≤stp t l (j:Int)
   · simp only[decide_eq_true h,if_true]
     generalize stp t l (j:Int)=x at *
     repeat' first | (refine Tr.all_ite (fun hc=>?_) (fun hc=>?_)<;>(try simp (disch:=omega) only[nV,nW] at hc)<;>try omega) | (refine Tr.all_req ?_ ?_;· (try simp (disch:=omega) only[nV,nW]);try omega) | (refine Tr.all_reqP ?_ ?_;· first | exact trivial | rfl | exact ⟨rfl,rfl⟩ | exact ⟨rfl,rfl,rfl⟩ | (simp (disch:=omega) only[nV,nW];done) | ((try simp (disch:=omega) only[nV,nW]);omega)) | fail
     all_goals first
      | exact Tr.all_ok rfl
      | fail
   · simp only[decide_eq_false h,Bool.false_eq_true,if_false]
     generalize stp t l (j:Int)=x at *
     repeat' first | (refine Tr.all_ite (fun hc=>?_) (fun hc=>?_)<;>(try simp (disch:=omega) only[nV,nW] at hc)<;>try omega) | (refine Tr.all_req ?_ ?_;· (try simp (disch:=omega) only[nV,nW]);try omega) | (refine Tr.all_reqP ?_ ?_;· first | exact trivial | rfl | exact ⟨rfl,rfl⟩ | exact ⟨rfl,rfl,rfl⟩ | (simp (disch:=omega) only[nV,nW];done) | ((try simp (disch:=omega) only[nV,nW]);omega)) | fail
     all_goals first
      | exact Tr.all_ok ⟨rfl,rfl⟩
      | fail
 · obtain ⟨x,h1,rfl⟩:=ex_all (Q:=fun x=>x=(.exit 2,fr22 l 5 (Int.ofNat l)++[(70,.bool false)],lvS l t k d::H)) (t22x n l k t d H (Int.ofNat l)) (il_no0 n) (stopB_ok (noBT_ok _ _) 4) (noRT_ok _ _) (by
    refine Tr.all_ite (fun hc=>?_) (fun hc=>Tr.all_ok rfl)
    simp (disch:=omega) only[nV,nW] at hc;omega)
   exact h1
theorem bad_t {l:Nat} {t d:Nat→Int} (h:exN (badS l t d) l=false):∀ j,j<l→-1≤t j∧t j<l∧t j≠(j:Int)∧1≤d j∧d j≤40:=fun j hj=>by
 have:=exN_not h j hj
 simp only[badS,outB,Bool.or_eq_false_iff,decide_eq_false_iff_not] at this
 omega
theorem c22:cd (n+2) (.fn 22) [shA l t k d] H=some (.int .i64 (shE l t k d),H):=by
 unfold shE
 by_cases hA:l<1∨30<l
 · rw[if_pos hA]
   refine fn_all (n:=n+1) Try.func22 rfl rfl rfl (u22x (n+1) l k t d H) (il_no0 _) (stopB_ok (noBT_ok _ _) 0) (noRT_ok _ _) ?_
   repeat' first | (refine Tr.all_ite (fun hc=>?_) (fun hc=>?_)<;>(try simp (disch:=omega) only[nV,nW] at hc)<;>try omega) | (refine Tr.all_req ?_ ?_;· (try simp (disch:=omega) only[nV,nW]);try omega) | (refine Tr.all_reqP ?_ ?_;· first | exact trivial | rfl | exact ⟨rfl,rfl⟩ | exact ⟨rfl,rfl,rfl⟩ | (simp (disch:=omega) only[nV,nW];done) | ((try simp (disch:=omega) only[nV,nW]);omega)) | fail
   all_goals first
    | exact Tr.all_ok ⟨rfl,rfl⟩
    | fail
 rw[if_neg hA]
 by_cases hB:k=l
 · have x1:=l22a n l k t d H (by omega) hB
   rw[if_neg (by omega)]
   cases e:exN (badS l t d) l with
   | true =>
     rw[e] at x1
     rw[if_pos rfl]
     refine fn_all (n:=n+1) Try.func22 rfl rfl rfl (u22a (n+1) l k t d H) (il_no0 _) (blkE_ok (stopB_ok (noBT_ok _ _) 2) b22a (fun x hy=>blk_ok hy x1)) (noRT_ok _ _) ?_
     repeat' first | (refine Tr.all_ite (fun hc=>?_) (fun hc=>?_)<;>(try simp (disch:=omega) only[nV,nW] at hc)<;>try omega) | (refine Tr.all_req ?_ ?_;· (try simp (disch:=omega) only[nV,nW]);try omega) | (refine Tr.all_reqP ?_ ?_;· first | exact trivial | rfl | exact ⟨rfl,rfl⟩ | exact ⟨rfl,rfl,rfl⟩ | (simp (disch:=omega) only[nV,nW];done) | ((try simp (disch:=omega) only[nV,nW]);omega)) | fail
     all_goals first
      | exact Tr.all_ok ⟨rfl,rfl⟩
      | fail
   | false =>
     rw[e] at x1
     rw[if_neg (by decide)]
     have x2:=l22b (n+1) l k t d H (by omega) (fun j hj=>(bad_t e j hj).2.1)
     refine fn_all (n:=n+1) Try.func22 rfl rfl rfl (u22 (n+1) l k t d H false (cycB l t)) (il_no0 _) (blkE_ok (blkE_ok (noBT_ok _ _) b22b (fun x hy=>blk_ite hy x2)) b22a (fun x hy=>blk_ite hy x1)) (noRT_ok _ _) ?_
     cases cycB l t
     all_goals
      repeat' first | (refine Tr.all_ite (fun hc=>?_) (fun hc=>?_)<;>(try simp (disch:=omega) only[nV,nW] at hc)<;>try omega) | (refine Tr.all_req ?_ ?_;· (try simp (disch:=omega) only[nV,nW]);try omega) | (refine Tr.all_reqP ?_ ?_;· first | exact trivial | rfl | exact ⟨rfl,rfl⟩ | exact ⟨rfl,rfl,rfl⟩ | (simp (disch:=omega) only[nV,nW];done) | ((try simp (disch:=omega) only[nV,nW]);omega)) | fail
      all_goals first
       | exact Tr.all_ok ⟨rfl,rfl⟩
       | fail
 · rw[if_pos hB]
   refine fn_all (n:=n+1) Try.func22 rfl rfl rfl (u22x (n+1) l k t d H) (il_no0 _) (stopB_ok (noBT_ok _ _) 0) (noRT_ok _ _) ?_
   repeat' first | (refine Tr.all_ite (fun hc=>?_) (fun hc=>?_)<;>(try simp (disch:=omega) only[nV,nW] at hc)<;>try omega) | (refine Tr.all_req ?_ ?_;· (try simp (disch:=omega) only[nV,nW]);try omega) | (refine Tr.all_reqP ?_ ?_;· first | exact trivial | rfl | exact ⟨rfl,rfl⟩ | exact ⟨rfl,rfl,rfl⟩ | (simp (disch:=omega) only[nV,nW];done) | ((try simp (disch:=omega) only[nV,nW]);omega)) | fail
   all_goals first
    | exact Tr.all_ok ⟨rfl,rfl⟩
    | fail
end
end Go.Eng
end
section
namespace Go.Eng
open Go.Proofs
set_option linter.unusedVariables false
set_option linter.unusedSimpArgs false
set_option maxRecDepth 100000
noncomputable def fr81 (h s:Nat) (l:Nat) (t:Nat→Int) (k:Nat) (d g:Nat→Int) (x:Int):Frm:=[(0,.yld 1 h),(2,.ptrT (some 1) (.G [tbA s l t k d g]) 0),(4,.int .i64 x)]
noncomputable def cxR (n f nt d i:Nat):Cx:=⟨Try.prog,cd n,100000,f,nt,KtL.kt f,some (d,i)⟩
theorem b81:∀ b,(0,b) ∈ blocksOf (bodyOf Try.f81)→b=.loop (part Try.f81 [1,0,0]):=by
 have:((blocksOf (bodyOf Try.f81)).filter fun x=>Nat.beq x.1 0)=[(0,.loop (part Try.f81 [1,0,0]))]:=by kernel_rfl
 intro b hb
 have hm:(0,b) ∈ ((blocksOf (bodyOf Try.f81)).filter fun x=>Nat.beq x.1 0):=List.mem_filter.2 ⟨hb,rfl⟩
 rw[this] at hm;simpa using hm
theorem t81_2 (n l k:Nat) (t d g:Nat→Int) (G G':Heap) (x:Int):execT (cxD n 81 21) (rdE (il noCt n 0) 1 2 [.int .i64 x] (lvE::G) (.ok (.bool true,lvE::G'))) noBT noRT (part Try.f81 [1,0,0]) (hints (fr81 2 0 l t k d g x)) (lvE::G) =
 (fun (Z0:Nat×AV×Option Nat)=>Tr.ite (leI (Int.ofNat 0) x) (Tr.reqP ([AV.int .i64 x]=[AV.int .i64 x]∧lvE::G=lvE::G) (Tr.ite true (Tr.req (inI x l) (Tr.req (ltN (idO 0 x 1) l) (Tr.ok (Ex.normal,[(0,AV.yld 1 2,none),Z0,(4,AV.int .i64 (t (idO 0 x 1)),none)],lvE::G')))) (Tr.ok (Ex.exit 0,[(0,AV.yld 1 2,none),Z0,(4,AV.int .i64 x,none),(12,AV.bool false,some 1)],lvE::G')))) (Tr.ok (Ex.exit 0,[(0,AV.yld 1 2,none),Z0,(4,AV.int .i64 x,none),(12,AV.bool false,some 1)],lvE::G))) (2,AV.ptrT (some 1) (Row.G [AV.ptrT (some 0) (Row.M [Seg.one (AV.slcT none (Row.M [Seg.arr .i64 t l]) 1 l false),Seg.one (AV.slcT none (Row.M [Seg.arr .i64 d k]) 1 k false),Seg.arr .i64 g 30]) 0]) 0,none):=by kernel_rfl
theorem t81x_2 (n l k:Nat) (t d g:Nat→Int) (G:Heap) (x:Int):execT (cxD n 81 21) (il noCt n 0) noBT noRT (part Try.f81 [1,0,0]) (hints (fr81 2 0 l t k d g x)) (lvE::G) =
 Tr.ite (leI (Int.ofNat 0) x) Tr.bad (Tr.ok (Ex.exit 0,[(0,AV.yld 1 2,none),(2,AV.ptrT (some 1) (Row.G [AV.ptrT (some 0) (Row.M [Seg.one (AV.slcT none (Row.M [Seg.arr .i64 t l]) 1 l false),Seg.one (AV.slcT none (Row.M [Seg.arr .i64 d k]) 1 k false),Seg.arr .i64 g 30]) 0]) 0,none),(4,AV.int .i64 x,none),(12,AV.bool false,some 1)],lvE::G)):=by kernel_rfl
theorem u81_2 (n l k:Nat) (t d g:Nat→Int) (G G':Heap) (i x:Int):bodyT Try.prog (cd n) 100000 81 Try.f81 (KtL.kt 81) (il noCt n 0) (blkE noBT 0 (fr81 2 0 l t k d g i) (lvE::G) (.ok (.normal,hints (fr81 2 0 l t k d g x++[(12,.bool false)]),lvE::G'))) noRT [(.yld 0 2,none),(.ptrT none (.I .i64 [i]) 0,none),(.ptrT (some 0) (.G [tbA 0 l t k d g]) 0,none)] G =
 (fun (Z0:Frm)=>Tr.reqP (Z0=Z0∧lvE::G=lvE::G) (Tr.ok ((AV.tup [],none),G'))) [(0,AV.yld 1 2),(2,AV.ptrT (some 1) (Row.G [AV.ptrT (some 0) (Row.M [Seg.one (AV.slcT none (Row.M [Seg.arr .i64 t l]) 1 l false),Seg.one (AV.slcT none (Row.M [Seg.arr .i64 d k]) 1 k false),Seg.arr .i64 g 30]) 0]) 0),(4,AV.int .i64 i)]:=by kernel_rfl
theorem t81_3 (n l k:Nat) (t d g:Nat→Int) (G G':Heap) (x:Int):execT (cxD n 81 21) (rdE (il noCt n 0) 1 3 [.int .i64 x] (lvE::G) (.ok (.bool true,lvE::G'))) noBT noRT (part Try.f81 [1,0,0]) (hints (fr81 3 0 l t k d g x)) (lvE::G) =
 (fun (Z0:Nat×AV×Option Nat)=>Tr.ite (leI (Int.ofNat 0) x) (Tr.reqP ([AV.int .i64 x]=[AV.int .i64 x]∧lvE::G=lvE::G) (Tr.ite true (Tr.req (inI x l) (Tr.req (ltN (idO 0 x 1) l) (Tr.ok (Ex.normal,[(0,AV.yld 1 3,none),Z0,(4,AV.int .i64 (t (idO 0 x 1)),none)],lvE::G')))) (Tr.ok (Ex.exit 0,[(0,AV.yld 1 3,none),Z0,(4,AV.int .i64 x,none),(12,AV.bool false,some 1)],lvE::G')))) (Tr.ok (Ex.exit 0,[(0,AV.yld 1 3,none),Z0,(4,AV.int .i64 x,none),(12,AV.bool false,some 1)],lvE::G))) (2,AV.ptrT (some 1) (Row.G [AV.ptrT (some 0) (Row.M [Seg.one (AV.slcT none (Row.M [Seg.arr .i64 t l]) 1 l false),Seg.one (AV.slcT none (Row.M [Seg.arr .i64 d k]) 1 k false),Seg.arr .i64 g 30]) 0]) 0,none):=by kernel_rfl
theorem t81x_3 (n l k:Nat) (t d g:Nat→Int) (G:Heap) (x:Int):execT (cxD n 81 21) (il noCt n 0) noBT noRT (part Try.f81 [1,0,0]) (hints (fr81 3 0 l t k d g x)) (lvE::G) =
 Tr.ite (leI (Int.ofNat 0) x) Tr.bad (Tr.ok (Ex.exit 0,[(0,AV.yld 1 3,none),(2,AV.ptrT (some 1) (Row.G [AV.ptrT (some 0) (Row.M [Seg.one (AV.slcT none (Row.M [Seg.arr .i64 t l]) 1 l false),Seg.one (AV.slcT none (Row.M [Seg.arr .i64 d k]) 1 k false),Seg.arr .i64 g 30]) 0]) 0,none),(4,AV.int .i64 x,none),(12,AV.bool false,some 1)],lvE::G)):=by kernel_rfl
theorem u81_3 (n l k:Nat) (t d g:Nat→Int) (G G':Heap) (i x:Int):bodyT Try.prog (cd n) 100000 81 Try.f81 (KtL.kt 81) (il noCt n 0) (blkE noBT 0 (fr81 3 0 l t k d g i) (lvE::G) (.ok (.normal,hints (fr81 3 0 l t k d g x++[(12,.bool false)]),lvE::G'))) noRT [(.yld 0 3,none),(.ptrT none (.I .i64 [i]) 0,none),(.ptrT (some 0) (.G [tbA 0 l t k d g]) 0,none)] G =
 (fun (Z0:Frm)=>Tr.reqP (Z0=Z0∧lvE::G=lvE::G) (Tr.ok ((AV.tup [],none),G'))) [(0,AV.yld 1 3),(2,AV.ptrT (some 1) (Row.G [AV.ptrT (some 0) (Row.M [Seg.one (AV.slcT none (Row.M [Seg.arr .i64 t l]) 1 l false),Seg.one (AV.slcT none (Row.M [Seg.arr .i64 d k]) 1 k false),Seg.arr .i64 g 30]) 0]) 0),(4,AV.int .i64 i)]:=by kernel_rfl
theorem t81_5 (s:Nat) (n l k:Nat) (t d g:Nat→Int) (G G':Heap) (x:Int):execT (cxD n 81 21) (rdE (il noCt n 0) 1 5 [.int .i64 x] (lvE::G) (.ok (.bool true,lvE::G'))) noBT noRT (part Try.f81 [1,0,0]) (hints (fr81 5 s l t k d g x)) (lvE::G) =
 (fun (Z0:Nat×AV×Option Nat)=>Tr.ite (leI (Int.ofNat 0) x) (Tr.reqP ([AV.int .i64 x]=[AV.int .i64 x]∧lvE::G=lvE::G) (Tr.ite true (Tr.req (inI x l) (Tr.req (ltN (idO 0 x 1) l) (Tr.ok (Ex.normal,[(0,AV.yld 1 5,none),Z0,(4,AV.int .i64 (t (idO 0 x 1)),none)],lvE::G')))) (Tr.ok (Ex.exit 0,[(0,AV.yld 1 5,none),Z0,(4,AV.int .i64 x,none),(12,AV.bool false,some 1)],lvE::G')))) (Tr.ok (Ex.exit 0,[(0,AV.yld 1 5,none),Z0,(4,AV.int .i64 x,none),(12,AV.bool false,some 1)],lvE::G))) (2,AV.ptrT (some 1) (Row.G [AV.ptrT (some s) (Row.M [Seg.one (AV.slcT none (Row.M [Seg.arr .i64 t l]) 1 l false),Seg.one (AV.slcT none (Row.M [Seg.arr .i64 d k]) 1 k false),Seg.arr .i64 g 30]) 0]) 0,none):=by kernel_rfl
theorem t81x_5 (s:Nat) (n l k:Nat) (t d g:Nat→Int) (G:Heap) (x:Int):execT (cxD n 81 21) (il noCt n 0) noBT noRT (part Try.f81 [1,0,0]) (hints (fr81 5 s l t k d g x)) (lvE::G) =
 Tr.ite (leI (Int.ofNat 0) x) Tr.bad (Tr.ok (Ex.exit 0,[(0,AV.yld 1 5,none),(2,AV.ptrT (some 1) (Row.G [AV.ptrT (some s) (Row.M [Seg.one (AV.slcT none (Row.M [Seg.arr .i64 t l]) 1 l false),Seg.one (AV.slcT none (Row.M [Seg.arr .i64 d k]) 1 k false),Seg.arr .i64 g 30]) 0]) 0,none),(4,AV.int .i64 x,none),(12,AV.bool false,some 1)],lvE::G)):=by kernel_rfl
theorem u81_5 (s:Nat) (n l k:Nat) (t d g:Nat→Int) (G G':Heap) (i x:Int):bodyT Try.prog (cd n) 100000 81 Try.f81 (KtL.kt 81) (il noCt n 0) (blkE noBT 0 (fr81 5 s l t k d g i) (lvE::G) (.ok (.normal,hints (fr81 5 s l t k d g x++[(12,.bool false)]),lvE::G'))) noRT [(.yld 0 5,none),(.ptrT none (.I .i64 [i]) 0,none),(.ptrT (some 0) (.G [tbA s l t k d g]) 0,none)] G =
 (fun (Z0:Frm)=>Tr.reqP (Z0=Z0∧lvE::G=lvE::G) (Tr.ok ((AV.tup [],none),G'))) [(0,AV.yld 1 5),(2,AV.ptrT (some 1) (Row.G [AV.ptrT (some s) (Row.M [Seg.one (AV.slcT none (Row.M [Seg.arr .i64 t l]) 1 l false),Seg.one (AV.slcT none (Row.M [Seg.arr .i64 d k]) 1 k false),Seg.arr .i64 g 30]) 0]) 0),(4,AV.int .i64 i)]:=by kernel_rfl
def lvN (l:Nat) (t:Nat→Int) (i:Nat):Nat:=cn (fun m=>decide (0≤stp t m (i:Int))) l
theorem stp_mono {t:Nat→Int} {x:Int} {m q:Nat} (h:m≤q) (h2:0≤stp t q x):0≤stp t m x:=by
 apply Int.not_lt.1
 intro hc
 have:=stp_stay hc (q-m)
 rw[show m+(q-m)=q by omega] at this
 omega
theorem lv_of {l:Nat} {t:Nat→Int} {x:Int} (h:stp t l x<0):∃ N,N≤l∧(∀ m,m<N→0≤stp t m x)∧stp t N x<0∧cn (fun m=>decide (0≤stp t m x)) l=N:=by
 induction l with
 | zero=>exact ⟨0,Nat.le_refl _,fun m hm=>by omega,h,rfl⟩
 | succ l ih =>
   by_cases c:stp t l x<0
   · obtain ⟨N,h1,h2,h3,h4⟩:=ih c
     refine ⟨N,by omega,h2,h3,?_⟩
     show cn (fun m=>decide (0≤stp t m x)) l+(decide (0≤stp t l x)).toNat=N
     rw[decide_eq_false (by omega)];simpa using h4
   · refine ⟨l+1,Nat.le_refl _,fun m hm=>stp_mono (by omega) (by omega:0≤stp t l x),h,?_⟩
     have:∀ m,m≤l+1→cn (fun m=>decide (0≤stp t m x)) m=m:=by
      intro m
      induction m with
      | zero=>intro _;rfl
      | succ m ih2 =>
        intro hm
        show cn (fun m=>decide (0≤stp t m x)) m+(decide (0≤stp t m x)).toNat=_
        rw[ih2 (by omega),decide_eq_true (stp_mono (by omega) (by omega:0≤stp t l x))];rfl
     exact this (l+1) (Nat.le_refl _)
theorem cyc_lv {l:Nat} {t:Nat→Int} (h:cycB l t=false) (i:Nat) (hi:i<l):lvN l t i≤l∧(∀ m,m<lvN l t i→0≤stp t m (i:Int))∧stp t (lvN l t i) (i:Int)<0:=by
 have h1:=exN_not h i hi
 rw[decide_eq_false_iff_not] at h1
 obtain ⟨N,a,b,c,e⟩:=lv_of (l:=l) (t:=t) (x:=(i:Int)) (by omega)
 unfold lvN
 rw[e];exact ⟨a,b,c⟩
theorem stp_suc {t:Nat→Int} {m:Nat} {x:Int} (h:0≤stp t m x):stp t (m+1) x=t (stp t m x).toNat:=by
 show (if 0≤stp t m x then _ else _)=_
 rw[if_pos h]
section
variable (n l k:Nat) (t d g:Nat→Int) (i N:Nat) (St:Nat→Heap)
theorem c81_2 (hN:N≤1000) (hp:∀ m,m<N→0≤stp t m (i:Int)) (hn:stp t N (i:Int)<0) (ht:∀ j,j<l→t j<l) (hl:l≤1000) (hi:i<l)
 (hr:∀ m,m<N→cd n (.round 1 2) [.int .i64 (stp t m (i:Int))] (lvE::St m)=some (.bool true,lvE::St (m+1))) :
 cd (n+1) (.fn 81) [.yld 0 2,.ptrT none (.I .i64 [(i:Int)]) 0,.ptrT (some 0) (.G [tbA 0 l t k d g]) 0] (St 0)=some (.tup [],St N):=by
 have hx:=forX (n:=n) (f:=81) (nt:=21) (c:=part Try.f81 [1,0,0]) 0 (fun m=>fr81 2 0 l t k d g (stp t m (i:Int))) (fun m=>lvE::St m) N (fr81 2 0 l t k d g (stp t N (i:Int))++[(12,.bool false)],lvE::St N) (by omega) (fun m hm=>?_) ?_
 · refine fn_all (n:=n) Try.func81 rfl rfl rfl (u81_2 n l k t d g (St 0) (St N) (i:Int) (stp t N (i:Int))) (il_no0 _) (blkE_ok (noBT_ok _ _) b81 (fun x hy=>blk_ok hy hx)) (noRT_ok _ _) ?_
   exact Tr.all_reqP ⟨rfl,rfl⟩ (Tr.all_ok ⟨rfl,rfl⟩)
 · have h1:=hp m hm
   have h2:=stp_lt ht (show (i:Int)<l by omega) m
   have h3:=stp_suc h1
   refine ex_all (t81_2 n l k t d g (St m) (St (m+1)) (stp t m (i:Int))) (rdE_ok (il_no0 n) (fun x hy=>by rw[← Tr.ok_some hy];exact hr m hm)) (noBT_ok _ _) (noRT_ok _ _) ?_
   rw[idI h1]
   show Tr.all _ (fun x=>_∧tidy _ _ _=(fr81 2 0 l t k d g (stp t (m+1) (i:Int)),_))
   rw[h3]
   generalize stp t m (i:Int)=x at *
   generalize St (m+1)=G' at *
   generalize St m=G at *
   repeat' first | (refine Tr.all_ite (fun hc=>?_) (fun hc=>?_)<;>(try simp (disch:=omega) only[nV,nW] at hc)<;>try omega) | (refine Tr.all_req ?_ ?_;· (try simp (disch:=omega) only[nV,nW]);try omega) | (refine Tr.all_reqP ?_ ?_;· first | exact trivial | rfl | exact ⟨rfl,rfl⟩ | exact ⟨rfl,rfl,rfl⟩ | (simp (disch:=omega) only[nV,nW];done) | ((try simp (disch:=omega) only[nV,nW]);omega)) | fail
   all_goals first
    | exact Tr.all_ok ⟨rfl,rfl⟩
    | fail
 · obtain ⟨x,h1,rfl⟩:=ex_all (Q:=fun x=>x=(.exit 0,fr81 2 0 l t k d g (stp t N (i:Int))++[(12,.bool false)],lvE::St N)) (t81x_2 n l k t d g (St N) (stp t N (i:Int))) (il_no0 n) (noBT_ok _ _) (noRT_ok _ _) (by
    refine Tr.all_ite (fun hc=>?_) (fun hc=>Tr.all_ok rfl)
    simp (disch:=omega) only[nV,nW] at hc;omega)
   exact h1
theorem c81_3 (hN:N≤1000) (hp:∀ m,m<N→0≤stp t m (i:Int)) (hn:stp t N (i:Int)<0) (ht:∀ j,j<l→t j<l) (hl:l≤1000) (hi:i<l)
 (hr:∀ m,m<N→cd n (.round 1 3) [.int .i64 (stp t m (i:Int))] (lvE::St m)=some (.bool true,lvE::St (m+1))) :
 cd (n+1) (.fn 81) [.yld 0 3,.ptrT none (.I .i64 [(i:Int)]) 0,.ptrT (some 0) (.G [tbA 0 l t k d g]) 0] (St 0)=some (.tup [],St N):=by
 have hx:=forX (n:=n) (f:=81) (nt:=21) (c:=part Try.f81 [1,0,0]) 0 (fun m=>fr81 3 0 l t k d g (stp t m (i:Int))) (fun m=>lvE::St m) N (fr81 3 0 l t k d g (stp t N (i:Int))++[(12,.bool false)],lvE::St N) (by omega) (fun m hm=>?_) ?_
 · refine fn_all (n:=n) Try.func81 rfl rfl rfl (u81_3 n l k t d g (St 0) (St N) (i:Int) (stp t N (i:Int))) (il_no0 _) (blkE_ok (noBT_ok _ _) b81 (fun x hy=>blk_ok hy hx)) (noRT_ok _ _) ?_
   exact Tr.all_reqP ⟨rfl,rfl⟩ (Tr.all_ok ⟨rfl,rfl⟩)
 · have h1:=hp m hm
   have h2:=stp_lt ht (show (i:Int)<l by omega) m
   have h3:=stp_suc h1
   refine ex_all (t81_3 n l k t d g (St m) (St (m+1)) (stp t m (i:Int))) (rdE_ok (il_no0 n) (fun x hy=>by rw[← Tr.ok_some hy];exact hr m hm)) (noBT_ok _ _) (noRT_ok _ _) ?_
   rw[idI h1]
   show Tr.all _ (fun x=>_∧tidy _ _ _=(fr81 3 0 l t k d g (stp t (m+1) (i:Int)),_))
   rw[h3]
   generalize stp t m (i:Int)=x at *
   generalize St (m+1)=G' at *
   generalize St m=G at *
   repeat' first | (refine Tr.all_ite (fun hc=>?_) (fun hc=>?_)<;>(try simp (disch:=omega) only[nV,nW] at hc)<;>try omega) | (refine Tr.all_req ?_ ?_;· (try simp (disch:=omega) only[nV,nW]);try omega) | (refine Tr.all_reqP ?_ ?_;· first | exact trivial | rfl | exact ⟨rfl,rfl⟩ | exact ⟨rfl,rfl,rfl⟩ | (simp (disch:=omega) only[nV,nW];done) | ((try simp (disch:=omega) only[nV,nW]);omega)) | fail
   all_goals first
    | exact Tr.all_ok ⟨rfl,rfl⟩
    | fail
 · obtain ⟨x,h1,rfl⟩:=ex_all (Q:=fun x=>x=(.exit 0,fr81 3 0 l t k d g (stp t N (i:Int))++[(12,.bool false)],lvE::St N)) (t81x_3 n l k t d g (St N) (stp t N (i:Int))) (il_no0 n) (noBT_ok _ _) (noRT_ok _ _) (by
    refine Tr.all_ite (fun hc=>?_) (fun hc=>Tr.all_ok rfl)
    simp (disch:=omega) only[nV,nW] at hc;omega)
   exact h1
theorem c81_5 (s:Nat) (hN:N≤1000) (hp:∀ m,m<N→0≤stp t m (i:Int)) (hn:stp t N (i:Int)<0) (ht:∀ j,j<l→t j<l) (hl:l≤1000) (hi:i<l)
 (hr:∀ m,m<N→cd n (.round 1 5) [.int .i64 (stp t m (i:Int))] (lvE::St m)=some (.bool true,lvE::St (m+1))) :
 cd (n+1) (.fn 81) [.yld 0 5,.ptrT none (.I .i64 [(i:Int)]) 0,.ptrT (some 0) (.G [tbA s l t k d g]) 0] (St 0)=some (.tup [],St N):=by
 have hx:=forX (n:=n) (f:=81) (nt:=21) (c:=part Try.f81 [1,0,0]) 0 (fun m=>fr81 5 s l t k d g (stp t m (i:Int))) (fun m=>lvE::St m) N (fr81 5 s l t k d g (stp t N (i:Int))++[(12,.bool false)],lvE::St N) (by omega) (fun m hm=>?_) ?_
 · refine fn_all (n:=n) Try.func81 rfl rfl rfl (u81_5 s n l k t d g (St 0) (St N) (i:Int) (stp t N (i:Int))) (il_no0 _) (blkE_ok (noBT_ok _ _) b81 (fun x hy=>blk_ok hy hx)) (noRT_ok _ _) ?_
   exact Tr.all_reqP ⟨rfl,rfl⟩ (Tr.all_ok ⟨rfl,rfl⟩)
 · have h1:=hp m hm
   have h2:=stp_lt ht (show (i:Int)<l by omega) m
   have h3:=stp_suc h1
   refine ex_all (t81_5 s n l k t d g (St m) (St (m+1)) (stp t m (i:Int))) (rdE_ok (il_no0 n) (fun x hy=>by rw[← Tr.ok_some hy];exact hr m hm)) (noBT_ok _ _) (noRT_ok _ _) ?_
   rw[idI h1]
   show Tr.all _ (fun x=>_∧tidy _ _ _=(fr81 5 s l t k d g (stp t (m+1) (i:Int)),_))
   rw[h3]
   generalize stp t m (i:Int)=x at *
   generalize St (m+1)=G' at *
   generalize St m=G at *
   repeat' first | (refine Tr.all_ite (fun hc=>?_) (fun hc=>?_)<;>(try simp (disch:=omega) only[nV,nW] at hc)<;>try omega) | (refine Tr.all_req ?_ ?_;· (try simp (disch:=omega) only[nV,nW]);try omega) | (refine Tr.all_reqP ?_ ?_;· first | exact trivial | rfl | exact ⟨rfl,rfl⟩ | exact ⟨rfl,rfl,rfl⟩ | (simp (disch:=omega) only[nV,nW];done) | ((try simp (disch:=omega) only[nV,nW]);omega)) | fail
   all_goals first
    | exact Tr.all_ok ⟨rfl,rfl⟩
    | fail
 · obtain ⟨x,h1,rfl⟩:=ex_all (Q:=fun x=>x=(.exit 0,fr81 5 s l t k d g (stp t N (i:Int))++[(12,.bool false)],lvE::St N)) (t81x_5 s n l k t d g (St N) (stp t N (i:Int))) (il_no0 n) (noBT_ok _ _) (noRT_ok _ _) (by
    refine Tr.all_ite (fun hc=>?_) (fun hc=>Tr.all_ok rfl)
    simp (disch:=omega) only[nV,nW] at hc;omega)
   exact h1
end
end Go.Eng
end
