/- Drop: many and group of the laws. -/
import Derived.Test.YtjmjkhpfipglcaaV8Wex9
import Derived.Test.YtjmjkhpfipglcaaV8Kox10
section
namespace Go.Eng
open Go.Proofs
set_option linter.unusedVariables false
set_option linter.unusedSimpArgs false
set_option maxRecDepth 100000
noncomputable def fr53o (m:Nat) (f1:Nat→Nat→Int) (f2:Nat→Nat) (v n i:Int):Frm:=[(0,slF m f1 f2),(1,.int .i64 v),(5,.int .i64 n),(6,.int .i64 i)]
noncomputable def fr53i (m:Nat) (f1:Nat→Nat→Int) (f2:Nat→Nat) (v n i k:Int):Frm:=[(0,slF m f1 f2),(1,.int .i64 v),(5,.int .i64 n),(6,.int .i64 i),(7,.int .i64 k)]
noncomputable def fr54 (m:Nat) (f1:Nat→Nat→Int) (f2:Nat→Nat) (v i:Int):Frm:=[(0,slF m f1 f2),(1,.int .i64 v),(5,.int .i64 i)]
theorem t53i (n:Nat) (H:Heap) (m:Nat) (f1:Nat→Nat→Int) (f2:Nat→Nat) (v c i k:Int):execT (cxD n 53 35) (il noCt n 0) noBT noRT (part Try.f53 [1,1,0,1,0,0,1,0,0,1,0,0]) (hints (fr53i m f1 f2 v c i k)) (lv0::H) =
 Tr.req (inI i m) (Tr.req (ltN (idO 0 i 1) m) (Tr.ite (ltI k (Int.ofNat (f2 (idO 0 i 1)))) (Tr.req (inI i m) (Tr.req (ltN (idO 0 i 1) m) (Tr.req (inI k (f2 (idO 0 i 1))) (Tr.req (ltN (idO 0 k 1) (f2 (idO 0 i 1))) (Tr.ite (eqI (f1 (idO 0 i 1) (idO 0 k 1)) v) (Tr.ok (Ex.normal,[(0,slF m f1 f2,none),(1,AV.int .i64 v,none),(5,AV.int .i64 (addI .i64 c (Int.ofNat 1)),none),(6,AV.int .i64 i,none),(7,AV.int .i64 (addI .i64 k (Int.ofNat 1)),none)],lv0::H)) (Tr.ok (Ex.normal,[(0,slF m f1 f2,none),(1,AV.int .i64 v,none),(5,AV.int .i64 c,none),(6,AV.int .i64 i,none),(7,AV.int .i64 (addI .i64 k (Int.ofNat 1)),none)],lv0::H))))))) (Tr.ok (Ex.exit 2,[(0,slF m f1 f2,none),(1,AV.int .i64 v,none),(5,AV.int .i64 c,none),(6,AV.int .i64 i,none),(7,AV.int .i64 k,none),(20,AV.bool false,some 1)],lv0::H)))):=by kernel_rfl
theorem t53o (n:Nat) (H:Heap) (m:Nat) (f1:Nat→Nat→Int) (f2:Nat→Nat) (v c c2 i k2:Int):execT (cxD n 53 35) (il noCt n 0) (blkE noBT 2 (fr53i m f1 f2 v c i 0) (lv0::H) (.ok (.normal,hints (fr53i m f1 f2 v c2 i k2++[(20,.bool false)]),lv0::H))) noRT (part Try.f53 [1,1,0,1,0,0]) (hints (fr53o m f1 f2 v c i)) (lv0::H) =
 (fun (Z0:Frm)=>Tr.ite (ltI i (Int.ofNat m)) (Tr.reqP (Z0=Z0∧lv0::H=lv0::H) (Tr.ok (Ex.normal,[(0,slF m f1 f2,none),(1,AV.int .i64 v,none),(5,AV.int .i64 c2,none),(6,AV.int .i64 (addI .i64 i (Int.ofNat 1)),none)],lv0::H))) (Tr.ok (Ex.exit 0,[(0,slF m f1 f2,none),(1,AV.int .i64 v,none),(5,AV.int .i64 c,none),(6,AV.int .i64 i,none),(11,AV.bool false,some 1)],lv0::H))) [(0,slF m f1 f2),(1,AV.int .i64 v),(5,AV.int .i64 c),(6,AV.int .i64 i),(7,AV.int .i64 (Int.ofNat 0))]:=by kernel_rfl
theorem t53e (n:Nat) (H:Heap) (m:Nat) (f1:Nat→Nat→Int) (f2:Nat→Nat) (v c i:Int):execT (cxD n 53 35) (il noCt n 0) (stopB noBT 2) noRT (part Try.f53 [1,1,0,1,0,0]) (hints (fr53o m f1 f2 v c i)) (lv0::H) =
 Tr.ite (ltI i (Int.ofNat m)) Tr.bad (Tr.ok (Ex.exit 0,[(0,slF m f1 f2,none),(1,AV.int .i64 v,none),(5,AV.int .i64 c,none),(6,AV.int .i64 i,none),(11,AV.bool false,some 1)],lv0::H)):=by kernel_rfl
theorem u53 (n:Nat) (H:Heap) (m:Nat) (f1:Nat→Nat→Int) (f2:Nat→Nat) (v c:Int):bodyT Try.prog (cd n) 100000 53 Try.f53 (Kt.kt 53) (il noCt n 0) (blkE noBT 0 (fr53o m f1 f2 v 0 0) (lv0::H) (.ok (.normal,hints (fr53o m f1 f2 v c (Int.ofNat m)++[(11,.bool false)]),lv0::H))) noRT [(slF m f1 f2,none),(.int .i64 v,none)] H =
 (fun (Z0:Frm)=>Tr.reqP (Z0=Z0∧lv0::H=lv0::H) (Tr.ok ((AV.int .i64 c,none),H))) [(0,slF m f1 f2),(1,AV.int .i64 v),(5,AV.int .i64 (Int.ofNat 0)),(6,AV.int .i64 (Int.ofNat 0))]:=by kernel_rfl
theorem t54 (n:Nat) (H:Heap) (m:Nat) (f1:Nat→Nat→Int) (f2:Nat→Nat) (v i:Int) (f:(Nat→Int)→Nat→Int→Bool):execT (cxD (n+1) 54 19) (il (ctG noCt 90 (gIn f)) (n+1) 0) noBT noRT (part Try.f54 [1,0,1,0,0]) (hints (fr54 m f1 f2 v i)) (lv0::H) =
 Tr.ite (ltI i (Int.ofNat m)) (Tr.req (inI i m) (Tr.req (ltN (idO 0 i 1) m) (Tr.reqP (f2 (idO 0 i 1)=f2 (idO 0 i 1)∧leN (f2 (idO 0 i 1)) 1000=true) (Tr.ite (f (f1 (idO 0 i 1)) (f2 (idO 0 i 1)) v) (Tr.ok (Ex.ret,[(4,AV.int .i64 i,none)],lv0::H)) (Tr.ok (Ex.normal,[(0,slF m f1 f2,none),(1,AV.int .i64 v,none),(5,AV.int .i64 (addI .i64 i (Int.ofNat 1)),none)],lv0::H)))))) (Tr.ok (Ex.exit 0,[(0,slF m f1 f2,none),(1,AV.int .i64 v,none),(5,AV.int .i64 i,none),(9,AV.bool false,some 1)],lv0::H)):=by kernel_rfl
theorem u54 (n:Nat) (H:Heap) (m:Nat) (f1:Nat→Nat→Int) (f2:Nat→Nat) (v i:Int) (e:Bool):bodyT Try.prog (cd (n+1)) 100000 54 Try.f54 (Kt.kt 54) (il noCt (n+1) 0) (blkE noBT 0 (fr54 m f1 f2 v 0) (lv0::H) (.ite e (.ok (.ret,[(4,.int .i64 i,none)],lv0::H)) (.ok (.normal,hints (fr54 m f1 f2 v (Int.ofNat m)++[(9,.bool false)]),lv0::H)))) noRT [(slF m f1 f2,none),(.int .i64 v,none)] H =
 Tr.reqP ([(0,slF m f1 f2),(1,AV.int .i64 v),(5,AV.int .i64 (Int.ofNat 0))]=[(0,slF m f1 f2),(1,AV.int .i64 v),(5,AV.int .i64 (Int.ofNat 0))]∧lv0::H=lv0::H) (Tr.ite e (Tr.ok ((AV.int .i64 i,none),H)) (Tr.ok ((AV.int .i64 (Int.negSucc 0),some 1),H))):=by kernel_rfl
theorem b53:∀ b,(0,b) ∈ blocksOf (bodyOf Try.f53)→b=.loop (part Try.f53 [1,1,0,1,0,0]):=by
 have:((blocksOf (bodyOf Try.f53)).filter fun x=>Nat.beq x.1 0)=[(0,.loop (part Try.f53 [1,1,0,1,0,0]))]:=by kernel_rfl
 intro b hb
 have hm:(0,b) ∈ ((blocksOf (bodyOf Try.f53)).filter fun x=>Nat.beq x.1 0):=List.mem_filter.2 ⟨hb,rfl⟩
 rw[this] at hm;simpa using hm
theorem b53i:∀ b,(2,b) ∈ blocksOf (part Try.f53 [1,1,0,1,0,0])→b=.loop (part Try.f53 [1,1,0,1,0,0,1,0,0,1,0,0]):=by
 have:((blocksOf (part Try.f53 [1,1,0,1,0,0])).filter fun x=>Nat.beq x.1 2)=[(2,.loop (part Try.f53 [1,1,0,1,0,0,1,0,0,1,0,0]))]:=by kernel_rfl
 intro b hb
 have hm:(2,b) ∈ ((blocksOf (part Try.f53 [1,1,0,1,0,0])).filter fun x=>Nat.beq x.1 2):=List.mem_filter.2 ⟨hb,rfl⟩
 rw[this] at hm;simpa using hm
theorem b54:∀ b,(0,b) ∈ blocksOf (bodyOf Try.f54)→b=.loop (part Try.f54 [1,0,1,0,0]):=by
 have:((blocksOf (bodyOf Try.f54)).filter fun x=>Nat.beq x.1 0)=[(0,.loop (part Try.f54 [1,0,1,0,0]))]:=by kernel_rfl
 intro b hb
 have hm:(0,b) ∈ ((blocksOf (bodyOf Try.f54)).filter fun x=>Nat.beq x.1 0):=List.mem_filter.2 ⟨hb,rfl⟩
 rw[this] at hm;simpa using hm
theorem cN_le (z:Nat→Int) (v:Int):∀ m,cN z v m≤m
 | 0=>Nat.le_refl _
 | m+1=>by have:=cN_le z v m;unfold cN;split<;>omega
theorem mN_le {f1:Nat→Nat→Int} {f2:Nat→Nat} {v:Int} {N:Nat} (h2:∀ i,i<N→f2 i≤1000):∀ m,m≤N→mN f1 f2 v m≤1000*m
 | 0,_=>Nat.le_refl _
 | m+1,h=>by have:=mN_le (f1:=f1) (v:=v) h2 m (by omega);have:=cN_le (f1 m) v (f2 m);have:=h2 m (by omega);unfold mN;omega
section
variable (n:Nat) (H:Heap) (m:Nat) (f1:Nat→Nat→Int) (f2:Nat→Nat) (v:Int)
theorem l53i (i:Nat) (hi:i<m) (hm:m≤1000) (h2:f2 i≤1000) (B:Nat) (hB:B≤1000000):exec (cxD n 53 35) (.block 2 (.loop (part Try.f53 [1,1,0,1,0,0,1,0,0,1,0,0]))) (fr53i m f1 f2 v (B:Int) (i:Int) 0) (lv0::H)=some (.normal,fr53i m f1 f2 v ((B+cN (f1 i) v (f2 i):Nat):Int) (i:Int) (f2 i:Int)++[(20,.bool false)],lv0::H):=by
 have:=forX (n:=n) (f:=53) (nt:=35) (c:=part Try.f53 [1,1,0,1,0,0,1,0,0,1,0,0]) 2 (fun k=>fr53i m f1 f2 v ((B+cN (f1 i) v k:Nat):Int) (i:Int) (k:Int)) (fun _=>lv0::H) (f2 i) (fr53i m f1 f2 v ((B+cN (f1 i) v (f2 i):Nat):Int) (i:Int) (f2 i:Int)++[(20,.bool false)],lv0::H) (by omega) (fun k hk=>?_) ?_
 · exact this
 · have ei:idO 0 (i:Int) 1=i:=by rw[idO_eq];omega
   have ek:idO 0 (k:Int) 1=k:=by rw[idO_eq];omega
   have hl:=cN_le (f1 i) v k
   have e1:addI .i64 (k:Int) (Int.ofNat 1)=((k+1:Nat):Int):=by rw[addI_eq,show Int.ofNat 1=1 from rfl];exact wr_64 (by omega) (by omega)
   have e2:addI .i64 ((B+cN (f1 i) v k:Nat):Int) (Int.ofNat 1)=((B+cN (f1 i) v k+1:Nat):Int):=by rw[addI_eq,show Int.ofNat 1=1 from rfl];exact wr_64 (by omega) (by omega)
   refine ex_all (t53i n H m f1 f2 v ((B+cN (f1 i) v k:Nat):Int) (i:Int) (k:Int)) (il_no0 n) (noBT_ok _ _) (noRT_ok _ _) ?_
   rw[ei,ek,e1,e2]
   have hs:cN (f1 i) v (k+1)=cN (f1 i) v k+(if f1 i k=v then 1 else 0):=rfl
   refine Tr.all_req (by rw[inI_t];omega) (Tr.all_req (by rw[ltN_t];omega) (Tr.all_ite (fun hc=>?_) (fun hc=>?_)))
   · refine Tr.all_req (by rw[inI_t];omega) (Tr.all_req (by rw[ltN_t];omega) (Tr.all_req (by rw[inI_t];omega) (Tr.all_req (by rw[ltN_t];omega) (Tr.all_ite (fun hc=>?_) (fun hc=>?_)))))
     · rw[eqI_t] at hc
       rw[if_pos hc] at hs
       refine Tr.all_ok ⟨rfl,?_⟩
       show _=(fr53i m f1 f2 v ((B+cN (f1 i) v (k+1):Nat):Int) (i:Int) ((k+1:Nat):Int),lv0::H)
       rw[hs,show B+(cN (f1 i) v k+1)=B+cN (f1 i) v k+1 by omega]
       rfl
     · rw[eqI_f] at hc
       rw[if_neg hc] at hs
       refine Tr.all_ok ⟨rfl,?_⟩
       show _=(fr53i m f1 f2 v ((B+cN (f1 i) v (k+1):Nat):Int) (i:Int) ((k+1:Nat):Int),lv0::H)
       rw[hs,Nat.add_zero]
       rfl
   · exfalso;rw[ltI_f,ofNat_cast] at hc;omega
 · have ei:idO 0 (i:Int) 1=i:=by rw[idO_eq];omega
   obtain ⟨x,h1,rfl⟩:=ex_all (Q:=fun x=>x=(.exit 2,fr53i m f1 f2 v ((B+cN (f1 i) v (f2 i):Nat):Int) (i:Int) (f2 i:Int)++[(20,.bool false)],lv0::H)) (t53i n H m f1 f2 v ((B+cN (f1 i) v (f2 i):Nat):Int) (i:Int) (f2 i:Int)) (il_no0 n) (noBT_ok _ _) (noRT_ok _ _) (by
    rw[ei]
    refine Tr.all_req (by rw[inI_t];omega) (Tr.all_req (by rw[ltN_t];omega) (Tr.all_ite (fun hc=>?_) (fun hc=>?_)))
    · exfalso;rw[ltI_t,ofNat_cast] at hc;omega
    · exact Tr.all_ok rfl)
   exact h1
theorem l53 (hm:m≤1000) (h2:∀ i,i<m→f2 i≤1000):exec (cxD n 53 35) (.block 0 (.loop (part Try.f53 [1,1,0,1,0,0]))) (fr53o m f1 f2 v 0 0) (lv0::H)=some (.normal,fr53o m f1 f2 v (mN f1 f2 v m:Int) (Int.ofNat m)++[(11,.bool false)],lv0::H):=by
 have:=forX (n:=n) (f:=53) (nt:=35) (c:=part Try.f53 [1,1,0,1,0,0]) 0 (fun i=>fr53o m f1 f2 v (mN f1 f2 v i:Int) (i:Int)) (fun _=>lv0::H) m (fr53o m f1 f2 v (mN f1 f2 v m:Int) (Int.ofNat m)++[(11,.bool false)],lv0::H) (by omega) (fun i hi=>?_) ?_
 · exact this
 · have hl:=mN_le (f1:=f1) (v:=v) h2 i (by omega)
   have e1:addI .i64 (i:Int) (Int.ofNat 1)=((i+1:Nat):Int):=by rw[addI_eq,show Int.ofNat 1=1 from rfl];exact wr_64 (by omega) (by omega)
   have hi2:=l53i n H m f1 f2 v i hi hm (h2 i hi) (mN f1 f2 v i) (by omega)
   refine ex_all (t53o n H m f1 f2 v (mN f1 f2 v i:Int) ((mN f1 f2 v i+cN (f1 i) v (f2 i):Nat):Int) (i:Int) (f2 i:Int)) (il_no0 n) (blkE_ok (noBT_ok _ _) b53i (fun x hx=>by rw[← Tr.ok_some hx];simp only[Res.st,hints_eq];exact hi2)) (noRT_ok _ _) ?_
   rw[e1]
   refine Tr.all_ite (fun hc=>?_) (fun hc=>?_)
   · exact Tr.all_reqP ⟨rfl,rfl⟩ (Tr.all_ok ⟨rfl,rfl⟩)
   · exfalso;rw[ltI_f,ofNat_cast] at hc;omega
 · obtain ⟨x,h1,rfl⟩:=ex_all (Q:=fun x=>x=(.exit 0,fr53o m f1 f2 v (mN f1 f2 v m:Int) (Int.ofNat m)++[(11,.bool false)],lv0::H)) (t53e n H m f1 f2 v (mN f1 f2 v m:Int) (Int.ofNat m)) (il_no0 n) (stopB_ok (noBT_ok _ _) 2) (noRT_ok _ _) (by
    refine Tr.all_ite (fun hc=>?_) (fun hc=>?_)
    · exfalso;rw[ltI_t] at hc;omega
    · exact Tr.all_ok rfl)
   exact h1
theorem c53 (hm:m≤1000) (h2:∀ i,i<m→f2 i≤1000):cd (n+1) (.fn 53) [slF m f1 f2,.int .i64 v] H=some (.int .i64 (mN f1 f2 v m:Int),H):=by
 have l:=l53 n H m f1 f2 v hm h2
 refine fn_all (n:=n) Try.func53 rfl rfl rfl (u53 n H m f1 f2 v (mN f1 f2 v m:Int)) (il_no0 n) (blkE_ok (noBT_ok _ _) b53 (fun x hx=>by rw[← Tr.ok_some hx];simp only[Res.st,hints_eq];exact l)) (noRT_ok _ _) ?_
 exact Tr.all_reqP ⟨rfl,rfl⟩ (Tr.all_ok ⟨rfl,rfl⟩)
theorem c54 (hm:m≤1000) (h2:∀ i,i<m→f2 i≤1000):cd (n+2) (.fn 54) [slF m f1 f2,.int .i64 v] H=some (.int .i64 (cond (exN (fun i=>inN (f1 i) (f2 i) v) m) ((fN (fun i=>inN (f1 i) (f2 i) v) m 0:Nat):Int) (-1)),H):=by
 have hil:(il (ctG noCt 90 (gIn inN)) (n+1) 0).Ok (cd (n+1)):=by
  refine il_ok _ (n+1) 0 (fun k=>ctG_ok (noCt_ok _) (fun args p v hg hp H=>?_))
  unfold gIn at hg
  split at hg
  · simp only[nP] at hg
    obtain ⟨rfl,rfl⟩:=hg
    obtain ⟨rfl,hp⟩:=hp
    rw[leN_eq,decide_eq_true_eq] at hp
    rw[show n+1+k=n+k+1 by omega]
    exact c90 _ H _ _ _ _ hp
  · cases hg
 have l:=findX (n:=n+1) (f:=54) (nt:=19) (c:=part Try.f54 [1,0,1,0,0]) 0 (fun j=>fr54 m f1 f2 v (j:Int)) (fun _=>lv0::H) m (fun i=>inN (f1 i) (f2 i) v) (fun j=>([(4,.int .i64 (j:Int))],lv0::H)) (fr54 m f1 f2 v (Int.ofNat m)++[(9,.bool false)],lv0::H) (by omega) (fun j hj=>?_) ?_
 · refine fn_all (n:=n+1) Try.func54 rfl rfl rfl (u54 n H m f1 f2 v ((fN (fun i=>inN (f1 i) (f2 i) v) m 0:Nat):Int) (exN (fun i=>inN (f1 i) (f2 i) v) m)) (il_no (n+1) 0) (blkE_ok (noBT_ok _ _) b54 (fun x hx=>?_)) (noRT_ok _ _) ?_
   · refine Eq.trans l ?_
     rcases Tr.ite_some hx with ⟨hc,hx⟩ | ⟨hc,hx⟩
     · rw[← Tr.ok_some hx,hc];rfl
     · rw[← Tr.ok_some hx,hc];simp only[Res.st,hints_eq];rfl
   · refine Tr.all_reqP ⟨rfl,rfl⟩ (Tr.all_ite (fun hc=>?_) (fun hc=>?_))
     all_goals refine Tr.all_ok ⟨?_,rfl⟩
     all_goals rw[hc];rfl
 · have e1:addI .i64 (j:Int) (Int.ofNat 1)=((j+1:Nat):Int):=by rw[addI_eq,show Int.ofNat 1=1 from rfl];exact wr_64 (by omega) (by omega)
   have ei:idO 0 (j:Int) 1=j:=by rw[idO_eq];omega
   have hf:=h2 j hj
   refine ex_all (t54 n H m f1 f2 v (j:Int) inN) hil (noBT_ok _ _) (noRT_ok _ _) ?_
   rw[e1,ei]
   refine Tr.all_ite (fun hc=>?_) (fun hc=>?_)
   · refine Tr.all_req (by rw[inI_t];omega) (Tr.all_req (by rw[ltN_t];omega) (Tr.all_reqP ⟨rfl,by rw[leN_t];omega⟩ (Tr.all_ite (fun hc=>?_) (fun hc=>?_))))
     · refine Tr.all_ok ?_
       rw[if_pos hc];rfl
     · refine Tr.all_ok ?_
       rw[if_neg (by rw[hc];simp)];exact ⟨rfl,rfl⟩
   · exfalso;rw[ltI_f,ofNat_cast] at hc;omega
 · obtain ⟨x,h1,rfl⟩:=ex_all (Q:=fun x=>x=(.exit 0,fr54 m f1 f2 v (Int.ofNat m)++[(9,.bool false)],lv0::H)) (t54 n H m f1 f2 v (Int.ofNat m) inN) hil (noBT_ok _ _) (noRT_ok _ _) (by
    refine Tr.all_ite (fun hc=>?_) (fun hc=>?_)
    · exfalso;rw[ltI_t] at hc;omega
    · exact Tr.all_ok rfl)
   exact h1
end
end Go.Eng
end
section
namespace Go.Eng
open Go.Proofs
set_option linter.unusedVariables false
set_option linter.unusedSimpArgs false
theorem wLs_get (A:Nat→Int):∀ k:Nat,(wLs A k).length=k+1∧∀ j,j≤k→(wLs A k).getD j 0=A j
 | 0=>⟨rfl,fun j hj=>by rw[show j=0 by omega];rfl⟩
 | k+1=>by
   obtain ⟨i1,i2⟩:=wLs_get A k
   have e:wLs A (k+1)=wLs A k++[A (k+1)]:=rfl
   rw[e]
   refine ⟨by simp[i1],fun j hj=>?_⟩
   by_cases h:j≤k
   · rw[← i2 j h,List.getD_eq_getElem?_getD,List.getD_eq_getElem?_getD,List.getElem?_append_left (by omega)]
   · rw[show j=k+1 by omega,List.getD_eq_getElem?_getD,List.getElem?_append_right (by omega),i1];simp
section
variable (w:Int) (ls ld:Nat) (zs zd:Nat→Int) (p q:Int) (sure:Bool)
theorem way_full (he:plE w ls ld zs zd p q=0) :
 (stZ w ls ld zs zd sure q (p+2).toNat=0∧∀ k H,cd (k+16) (.fn 29) [bathA w ls zs ld zd,.int .i64 p,.int .i64 q,.bool sure] H=some (.tup [.nils,.int .i64 5],H)) ∨
 ∃ M y,stZ w ls ld zs zd sure q (p+2).toNat=((M+2:Nat):Int)∧(∀ j,j<M+2→y j=rAt (stZ w ls ld zs zd sure q) (hlF w ld zs zd sure) ls p j)∧∀ k H,cd (k+16) (.fn 29) [bathA w ls zs ld zd,.int .i64 p,.int .i64 q,.bool sure] H=some (.tup [sl1 (M+2) y true,.int .i64 0],H):=by
 obtain ⟨h,h1,h2,h3⟩:=plE_zero he
 simp only[isPl,Bool.and_eq_true,decide_eq_true_eq] at h1 h2
 have hc:=chk_drops h
 have hZ:=zi_of (sure:=sure) h h2
 obtain ⟨N,n1,n2,n3,n4⟩:=ws_end hc.1 h2 hZ
 have hb:=ws_bi h2 hZ (N+1)
 have hs:(wsL (kdT w ls ld zs zd) sure ls q (N+1)).hS p=true↔0<stZ w ls ld zs zd sure q (p+2).toNat:=by
  rw[hb.pS]
  have:=n4 (p+2).toNat
  constructor
  · rintro ⟨_,b | ⟨_,i,i1,_⟩⟩<;>omega
  · intro e;exact ⟨h1,.inl (by omega)⟩
 by_cases h0:stZ w ls ld zs zd sure q (p+2).toNat=0
 · have hp:(wsL (kdT w ls ld zs zd) sure ls q (N+1)).hS p=false:=by
    cases hx:(wsL (kdT w ls ld zs zd) sure ls q (N+1)).hS p with
    | false=>rfl
    | true=>have:=hs.1 hx;omega
   refine .inl ⟨h0,fun k H=>c29n k w ls ld zs zd H p q sure he (fun k' H=>?_)⟩
   have:=c80n (k+k') w ls ld zs zd (szs zd ld) (kdT w ls ld zs zd) H p q sure hc.1 N n1 n2 n3 hp
   rw[show k+k'+15=k+15+k' by omega] at this
   exact this
 · have hr:=hZ.rng (p+2).toNat
   have hpos:0<stZ w ls ld zs zd sure q (p+2).toNat:=by omega
   have hne1:stZ w ls ld zs zd sure q (p+2).toNat≠1:=fun e=>by have:=(hZ.one _).1 e;omega
   have hW:=walk_eq (sure:=sure) h h1 h2 n4 hpos
   have hgp:=hb.vS p (hs.2 hpos)
   obtain ⟨M,hM⟩:∃ M:Nat,stZ w ls ld zs zd sure q (p+2).toNat=(M:Int)+2:=⟨(stZ w ls ld zs zd sure q (p+2).toNat-2).toNat,by omega⟩
   have hA:∀ k,k<M+1→-2≤rAt (stZ w ls ld zs zd sure q) (hlF w ld zs zd sure) ls p k∧rAt (stZ w ls ld zs zd sure q) (hlF w ld zs zd sure) ls p k<ls∧rAt (stZ w ls ld zs zd sure q) (hlF w ld zs zd sure) ls p k≠q:=fun k hk=>by
    obtain ⟨_,i2,i3⟩:=hW k (by omega)
    refine ⟨i2.1,i2.2,fun e=>?_⟩
    rw[e,(hZ.one _).2 rfl] at i3;omega
   have hE:rAt (stZ w ls ld zs zd sure q) (hlF w ld zs zd sure) ls p (M+1)=q:=by
    obtain ⟨_,i2,i3⟩:=hW (M+1) (by omega)
    have:=(hZ.one (rAt (stZ w ls ld zs zd sure q) (hlF w ld zs zd sure) ls p (M+1)+2).toNat).1 (by omega)
    omega
   have hL:wLs (wAt (kdT w ls ld zs zd) sure ls (wsL (kdT w ls ld zs zd) sure ls q (N+1)) p) (M+1)=wLs (rAt (stZ w ls ld zs zd sure q) (hlF w ld zs zd sure) ls p) (M+1):=wLs_congr (M+1) (fun i hi=>(hW i (by omega)).1)
   have h80:∀ k H,cd (k+15) (.fn 80) [tabV w ls ld zs zd (szs zd ld) (kdT w ls ld zs zd),.int .i64 p,.int .i64 q,.bool sure] H=some (sl1 (M+2) (lstO (wLs (rAt (stZ w ls ld zs zd sure q) (hlF w ld zs zd sure) ls p) (M+1))) false,H):=fun k H=>by
    have:=c80y k w ls ld zs zd (szs zd ld) (kdT w ls ld zs zd) H p q sure hc.1 N n1 n2 n3 (hs.2 hpos) M (by omega) ⟨by omega,by omega⟩ (fun k hk=>by rw[(hW k (by omega)).1];exact hA k hk) (by rw[(hW (M+1) (by omega)).1];exact hE)
    rw[hL] at this
    exact this
   obtain ⟨y,y1,y2⟩:=c29z w ls ld zs zd p q sure he (M+2) ⟨by omega,by omega⟩ (lstO (wLs (rAt (stZ w ls ld zs zd sure q) (hlF w ld zs zd sure) ls p) (M+1))) h80
   exact .inr ⟨M,y,by omega,fun j hj=>by rw[y1 j hj,lst_val];exact (wLs_get _ (M+1)).2 j (by omega),y2⟩
end
end Go.Eng
end
section
namespace Go.Eng
open Go.Proofs
set_option linter.unusedVariables false
set_option linter.unusedSimpArgs false
set_option maxRecDepth 100000
section
variable (n:Nat) (w:Int) (ls ld lb:Nat) (zs zd zb:Nat→Int) (H:Heap) (a b c d:Int)
end
end Go.Eng
end
section
namespace Go.Eng
open Go.Proofs
set_option linter.unusedVariables false
set_option linter.unusedSimpArgs false
set_option maxRecDepth 100000
noncomputable def lv9 (w:Int) (ls ld:Nat) (zs zd:Nat→Int) (a b:Int):Lvl:=⟨false,[(0,.row (.G [.int .i64 w,slA 2 ls zs,slA 3 ld zd])),(0,.row (.I .u8 [a,b]))]⟩
end Go.Eng
end
section
namespace Go.Eng
open Go.Proofs
set_option linter.unusedVariables false
set_option linter.unusedSimpArgs false
set_option maxRecDepth 100000
section
variable (n:Nat) (w:Int) (ls ld:Nat) (zs zd sz kd:Nat→Int) (H:Heap) (p q:Int) (sure:Bool)
end
end Go.Eng
end
section
namespace Go.Eng
open Go.Proofs
set_option linter.unusedVariables false
set_option linter.unusedSimpArgs false
set_option maxRecDepth 100000
section
variable (n:Nat) (w:Int) (ls ld lb lm lk:Nat) (zs zd zb zm zk:Nat→Int) (H:Heap) (a b p q:Int) (sure:Bool)
theorem ct43 {k:Nat} {t:Ctr} (ht:t.Ok (cd (k+3))) (hl:ls≤15) (ha:0≤a∧a≤255) (hb:0≤b∧b≤255) (hp:p=plN ls a) (hq:q=twoP ls a b):(ctG t 43 (g43t (bathA w ls zs ld zd) a b p q)).Ok (cd (k+3)):=by
 subst hp hq
 refine ctG_ok ht (fun args x v hg hp H=>?_)
 unfold g43t at hg
 split at hg
 · simp only[nP] at hg
   obtain ⟨rfl,rfl⟩:=hg
   obtain ⟨rfl,rfl,rfl⟩:=hp
   exact c43 _ w ls ld zs zd H _ _ hl ha hb
 · cases hg
end
end Go.Eng
end
section
namespace Go.Eng
open Go.Proofs
set_option linter.unusedVariables false
set_option linter.unusedSimpArgs false
set_option maxRecDepth 100000
def g36s (B T F:AV):List AV→Option (Prop×AV)
 | [b,.bool s]=>some (b=B,.tup [cond s T F,.int .i64 0])
 | _=>none
def g29s (B A1 A2:AV) (P Q e1 e2:Int):List AV→Option (Prop×AV)
 | [b,.int .i64 p,.int .i64 q,.bool s]=>some (b=B∧p=P∧q=Q,.tup [cond s A1 A2,.int .i64 (cond s e1 e2)])
 | _=>none
def gLv (P:AV→Prop) (f:AV→Int→Int):List AV→Option (Prop×AV)
 | [l,.int .i64 v]=>some (P l,.int .i64 (f l v))
 | _=>none
noncomputable def fr13b (k l:Nat) (f1 g1:Nat→Nat→Int) (f2 g2:Nat→Nat) (p q e1 e2:Int):Frm:=[(5,.int .i64 p),(6,.int .i64 q),(7,slF k f1 f2),(9,slF l g1 g2),(12,.int .i64 e1),(14,.int .i64 e2)]
noncomputable def fr13 (k l:Nat) (f1 g1:Nat→Nat→Int) (f2 g2:Nat→Nat) (p q e1 e2:Int):Frm:=[(2,.ptr 0 0 0 0),(5,.int .i64 p),(6,.int .i64 q),(7,slF k f1 f2),(9,slF l g1 g2),(12,.int .i64 e1),(14,.int .i64 e2)]
theorem t13d (n:Nat) (w:Int) (ls ld k l:Nat) (zs zd:Nat→Int) (H:Heap) (a b p q e1 e2:Int) (f1 g1:Nat→Nat→Int) (f2 g2:Nat→Nat) (v d:Int) (t:Bool):execT (cxD (n+20) 13 237) (il noCt (n+20) 0) noBT noRT (part Try.f13 [1,1,1,1,1,1,1,1,0,1,0,0,1,0,0,1,0,1,0,0]) (hints (fr13 k l f1 g1 f2 g2 p q e1 e2++[(15,.int .i64 v),(16,.bool t),(17,.int .i64 d)])) (lv9 w ls ld zs zd a b::H) =
 (fun (Z0:Lvl)=>Tr.ite (ltI d (Int.ofNat ld)) (Tr.ite t (Tr.ok (Ex.normal,[(2,AV.ptr 0 0 0 0,none),(5,AV.int .i64 p,none),(6,AV.int .i64 q,none),(7,slF k f1 f2,none),(9,slF l g1 g2,none),(12,AV.int .i64 e1,none),(14,AV.int .i64 e2,none),(15,AV.int .i64 v,none),(16,AV.bool true,some 1),(17,AV.int .i64 (addI .i64 d (Int.ofNat 1)),none)],Z0::H)) (Tr.req (inI d ld) (Tr.req (ltN (idO 0 d 3) (mulO ld 3)) (Tr.ok (Ex.normal,[(2,AV.ptr 0 0 0 0,none),(5,AV.int .i64 p,none),(6,AV.int .i64 q,none),(7,slF k f1 f2,none),(9,slF l g1 g2,none),(12,AV.int .i64 e1,none),(14,AV.int .i64 e2,none),(15,AV.int .i64 v,none),(16,AV.bool (eqI (zd (idO 0 d 3)) v),none),(17,AV.int .i64 (addI .i64 d (Int.ofNat 1)),none)],Z0::H))))) (Tr.ok (Ex.exit 2,[(2,AV.ptr 0 0 0 0,none),(5,AV.int .i64 p,none),(6,AV.int .i64 q,none),(7,slF k f1 f2,none),(9,slF l g1 g2,none),(12,AV.int .i64 e1,none),(14,AV.int .i64 e2,none),(15,AV.int .i64 v,none),(16,AV.bool t,none),(17,AV.int .i64 d,none),(81,AV.bool false,some 1)],Z0::H))) { lock:=false,bs:=[(0,Blk.row (Row.G [AV.int .i64 w,slA 2 ls zs,slA 3 ld zd])),(0,Blk.row (Row.I IntKind.u8 [a,b]))] }:=by kernel_rfl
theorem t13v (n:Nat) (w:Int) (ls ld k l:Nat) (zs zd:Nat→Int) (H:Heap) (a b p q e1 e2:Int) (f1 g1:Nat→Nat→Int) (f2 g2:Nat→Nat) (v:Int) (t:Bool) (P:AV→Prop) (fm:AV→Int→Int):execT (cxD (n+20) 13 237) (il (ctG noCt 53 (gLv P fm)) (n+20) 0) (blkE noBT 2 (fr13 k l f1 g1 f2 g2 p q e1 e2++[(15,.int .i64 v),(16,.bool (ltI v (Int.ofNat 0))),(17,.int .i64 0)]) (lv9 w ls ld zs zd a b::H) (.ok (.normal,hints (fr13 k l f1 g1 f2 g2 p q e1 e2++[(15,.int .i64 v),(16,.bool t),(17,.int .i64 (Int.ofNat ld)),(81,.bool false)]),lv9 w ls ld zs zd a b::H))) noRT (part Try.f13 [1,1,1,1,1,1,1,1,0,1,0,0]) (hints (fr13 k l f1 g1 f2 g2 p q e1 e2++[(15,.int .i64 v)])) (lv9 w ls ld zs zd a b::H) =
 (fun (Z0:Lvl)=>((fun (Z1:Frm)=>Tr.ite (ltI v (Int.ofNat ls)) (Tr.reqP (Z1=Z1∧Z0::H=Z0::H) (Tr.reqP (P (slF k f1 f2)) (Tr.reqP (P (slF l g1 g2)) (Tr.ite (notB (eqI (fm (slF k f1 f2) v) (fm (slF l g1 g2) v))) (Tr.ok (Ex.ret,[(4,AV.bool false,some 1)],Z0::H)) (Tr.reqP (P (slF l g1 g2)) (Tr.ite (notB (eqB (eqI (fm (slF l g1 g2) v) (Int.ofNat 1)) t)) (Tr.ok (Ex.ret,[(4,AV.bool false,some 1)],Z0::H)) (Tr.reqP (P (slF l g1 g2)) (Tr.ite (ltI (Int.ofNat 1) (fm (slF l g1 g2) v)) (Tr.ok (Ex.ret,[(4,AV.bool false,some 1)],Z0::H)) (Tr.ok (Ex.normal,[(2,AV.ptr 0 0 0 0,none),(5,AV.int .i64 p,none),(6,AV.int .i64 q,none),(7,slF k f1 f2,none),(9,slF l g1 g2,none),(12,AV.int .i64 e1,none),(14,AV.int .i64 e2,none),(15,AV.int .i64 (addI .i64 v (Int.ofNat 1)),none)],Z0::H)))))))))) (Tr.ok (Ex.exit 0,[(2,AV.ptr 0 0 0 0,none),(5,AV.int .i64 p,none),(6,AV.int .i64 q,none),(7,slF k f1 f2,none),(9,slF l g1 g2,none),(12,AV.int .i64 e1,none),(14,AV.int .i64 e2,none),(15,AV.int .i64 v,none),(72,AV.bool false,some 1)],Z0::H))) [(2,AV.ptr 0 0 0 0),(5,AV.int .i64 p),(6,AV.int .i64 q),(7,slF k f1 f2),(9,slF l g1 g2),(12,AV.int .i64 e1),(14,AV.int .i64 e2),(15,AV.int .i64 v),(16,AV.bool (ltI v (Int.ofNat 0))),(17,AV.int .i64 (Int.ofNat 0))])) { lock:=false,bs:=[(0,Blk.row (Row.G [AV.int .i64 w,slA 2 ls zs,slA 3 ld zd])),(0,Blk.row (Row.I IntKind.u8 [a,b]))] }:=by kernel_rfl
theorem t13ve (n:Nat) (w:Int) (ls ld k l:Nat) (zs zd:Nat→Int) (H:Heap) (a b p q e1 e2:Int) (f1 g1:Nat→Nat→Int) (f2 g2:Nat→Nat) (v:Int):execT (cxD (n+20) 13 237) (il noCt (n+20) 0) (stopB noBT 2) noRT (part Try.f13 [1,1,1,1,1,1,1,1,0,1,0,0]) (hints (fr13 k l f1 g1 f2 g2 p q e1 e2++[(15,.int .i64 v)])) (lv9 w ls ld zs zd a b::H) =
 Tr.ite (ltI v (Int.ofNat ls)) Tr.bad (Tr.ok (Ex.exit 0,[(2,AV.ptr 0 0 0 0,none),(5,AV.int .i64 p,none),(6,AV.int .i64 q,none),(7,slF k f1 f2,none),(9,slF l g1 g2,none),(12,AV.int .i64 e1,none),(14,AV.int .i64 e2,none),(15,AV.int .i64 v,none),(72,AV.bool false,some 1)],{ lock:=false,bs:=[(0,Blk.row (Row.G [AV.int .i64 w,slA 2 ls zs,slA 3 ld zd])),(0,Blk.row (Row.I IntKind.u8 [a,b]))] } :: H)):=by kernel_rfl
theorem t13k (n:Nat) (w:Int) (ls ld k l:Nat) (zs zd:Nat→Int) (H:Heap) (a b p q e1 e2:Int) (f1 g1:Nat→Nat→Int) (f2 g2:Nat→Nat) (i j:Int) (P:AV→Prop) (fg:AV→Int→Int):execT (cxD (n+20) 13 237) (il (ctG noCt 54 (gLv P fg)) (n+20) 0) noBT noRT (part Try.f13 [1,1,1,1,1,1,1,1,1,0,1,0,0,1,0,0,1,1,0,0]) (hints (fr13b k l f1 g1 f2 g2 p q e1 e2++[(18,.int .i64 i),(19,.int .i64 j)])) (lv9 w ls ld zs zd a b::H) =
 (fun (Z0:Lvl)=>Tr.req (inI i k) (Tr.req (ltN (idO 0 i 1) k) (Tr.ite (ltI j (Int.ofNat (f2 (idO 0 i 1)))) (Tr.req (inI i k) (Tr.req (ltN (idO 0 i 1) k) (Tr.req (inI j (f2 (idO 0 i 1))) (Tr.req (ltN (idO 0 j 1) (f2 (idO 0 i 1))) (Tr.req (inI i k) (Tr.req (ltN (idO 0 i 1) k) (Tr.req (inI (subI .i64 j (Int.ofNat 1)) (f2 (idO 0 i 1))) (Tr.req (ltN (idO 0 (subI .i64 j (Int.ofNat 1)) 1) (f2 (idO 0 i 1))) (Tr.ite (leI (f1 (idO 0 i 1) (idO 0 j 1)) (f1 (idO 0 i 1) (idO 0 (subI .i64 j (Int.ofNat 1)) 1))) (Tr.ok (Ex.ret,[(4,AV.bool false,some 1)],Z0::H)) (Tr.req (inI i k) (Tr.req (ltN (idO 0 i 1) k) (Tr.req (inI j (f2 (idO 0 i 1))) (Tr.req (ltN (idO 0 j 1) (f2 (idO 0 i 1))) (Tr.reqP (P (slF l g1 g2)) (Tr.req (inI i k) (Tr.req (ltN (idO 0 i 1) k) (Tr.req (inI (Int.ofNat 0) (f2 (idO 0 i 1))) (Tr.req (ltN 0 (f2 (idO 0 i 1))) (Tr.reqP (P (slF l g1 g2)) (Tr.ite (notB (eqI (fg (slF l g1 g2) (f1 (idO 0 i 1) (idO 0 j 1))) (fg (slF l g1 g2) (f1 (idO 0 i 1) 0)))) (Tr.ok (Ex.ret,[(4,AV.bool false,some 1)],Z0::H)) (Tr.ok (Ex.normal,[(5,AV.int .i64 p,none),(6,AV.int .i64 q,none),(7,slF k f1 f2,none),(9,slF l g1 g2,none),(12,AV.int .i64 e1,none),(14,AV.int .i64 e2,none),(18,AV.int .i64 i,none),(19,AV.int .i64 (addI .i64 j (Int.ofNat 1)),none)],Z0::H)))))))))))))))))))))) (Tr.ok (Ex.exit 6,[(5,AV.int .i64 p,none),(6,AV.int .i64 q,none),(7,slF k f1 f2,none),(9,slF l g1 g2,none),(12,AV.int .i64 e1,none),(14,AV.int .i64 e2,none),(18,AV.int .i64 i,none),(19,AV.int .i64 j,none),(154,AV.bool false,some 1)],Z0::H))))) { lock:=false,bs:=[(0,Blk.row (Row.G [AV.int .i64 w,slA 2 ls zs,slA 3 ld zd])),(0,Blk.row (Row.I IntKind.u8 [a,b]))] }:=by kernel_rfl
theorem t13i (n:Nat) (w:Int) (ls ld k l:Nat) (zs zd:Nat→Int) (H:Heap) (a b p q e1 e2:Int) (f1 g1:Nat→Nat→Int) (f2 g2:Nat→Nat) (i j2:Int):execT (cxD (n+20) 13 237) (il noCt (n+20) 0) (blkE noBT 6 (fr13b k l f1 g1 f2 g2 p q e1 e2++[(18,.int .i64 i),(19,.int .i64 1)]) (lv9 w ls ld zs zd a b::H) (.ok (.normal,hints (fr13b k l f1 g1 f2 g2 p q e1 e2++[(18,.int .i64 i),(19,.int .i64 j2),(154,.bool false)]),lv9 w ls ld zs zd a b::H))) noRT (part Try.f13 [1,1,1,1,1,1,1,1,1,0,1,0,0]) (hints (fr13b k l f1 g1 f2 g2 p q e1 e2++[(18,.int .i64 i)])) (lv9 w ls ld zs zd a b::H) =
 (fun (Z0:Lvl)=>((fun (Z1:Frm)=>((fun (Z2:HFrm)=>Tr.ite (ltI i (Int.ofNat k)) (Tr.req (inI i k) (Tr.req (ltN (idO 0 i 1) k) (Tr.ite (eqI (Int.ofNat (f2 (idO 0 i 1))) (Int.ofNat 0)) (Tr.ok (Ex.ret,[(4,AV.bool false,some 1)],Z0::H)) (Tr.ite (ltI (Int.ofNat 0) i) (Tr.req (inI i k) (Tr.req (ltN (idO 0 i 1) k) (Tr.req (inI (Int.ofNat 0) (f2 (idO 0 i 1))) (Tr.req (ltN 0 (f2 (idO 0 i 1))) (Tr.req (inI (subI .i64 i (Int.ofNat 1)) k) (Tr.req (ltN (idO 0 (subI .i64 i (Int.ofNat 1)) 1) k) (Tr.req (inI (Int.ofNat 0) (f2 (idO 0 (subI .i64 i (Int.ofNat 1)) 1))) (Tr.req (ltN 0 (f2 (idO 0 (subI .i64 i (Int.ofNat 1)) 1))) (Tr.ite (leI (f1 (idO 0 i 1) 0) (f1 (idO 0 (subI .i64 i (Int.ofNat 1)) 1) 0)) (Tr.ok (Ex.ret,[(4,AV.bool false,some 1)],Z0::H)) (Tr.reqP (Z1=Z1∧Z0::H=Z0::H) (Tr.ok (Ex.normal,Z2,Z0::H)))))))))))) (Tr.reqP (Z1=Z1∧Z0::H=Z0::H) (Tr.ok (Ex.normal,Z2,Z0::H))))))) (Tr.ok (Ex.exit 4,[(5,AV.int .i64 p,none),(6,AV.int .i64 q,none),(7,slF k f1 f2,none),(9,slF l g1 g2,none),(12,AV.int .i64 e1,none),(14,AV.int .i64 e2,none),(18,AV.int .i64 i,none),(119,AV.bool false,some 1)],Z0::H))) [(5,AV.int .i64 p,none),(6,AV.int .i64 q,none),(7,slF k f1 f2,none),(9,slF l g1 g2,none),(12,AV.int .i64 e1,none),(14,AV.int .i64 e2,none),(18,AV.int .i64 (addI .i64 i (Int.ofNat 1)),none)])) [(5,AV.int .i64 p),(6,AV.int .i64 q),(7,slF k f1 f2),(9,slF l g1 g2),(12,AV.int .i64 e1),(14,AV.int .i64 e2),(18,AV.int .i64 i),(19,AV.int .i64 (Int.ofNat 1))])) { lock:=false,bs:=[(0,Blk.row (Row.G [AV.int .i64 w,slA 2 ls zs,slA 3 ld zd])),(0,Blk.row (Row.I IntKind.u8 [a,b]))] }:=by kernel_rfl
theorem t13ie (n:Nat) (w:Int) (ls ld k l:Nat) (zs zd:Nat→Int) (H:Heap) (a b p q e1 e2:Int) (f1 g1:Nat→Nat→Int) (f2 g2:Nat→Nat) (i:Int):execT (cxD (n+20) 13 237) (il noCt (n+20) 0) (stopB noBT 6) noRT (part Try.f13 [1,1,1,1,1,1,1,1,1,0,1,0,0]) (hints (fr13b k l f1 g1 f2 g2 p q e1 e2++[(18,.int .i64 i)])) (lv9 w ls ld zs zd a b::H) =
 (fun (Z0:Lvl)=>Tr.ite (ltI i (Int.ofNat k)) (Tr.req (inI i k) (Tr.req (ltN (idO 0 i 1) k) (Tr.ite (eqI (Int.ofNat (f2 (idO 0 i 1))) (Int.ofNat 0)) (Tr.ok (Ex.ret,[(4,AV.bool false,some 1)],Z0::H)) (Tr.ite (ltI (Int.ofNat 0) i) (Tr.req (inI i k) (Tr.req (ltN (idO 0 i 1) k) (Tr.req (inI (Int.ofNat 0) (f2 (idO 0 i 1))) (Tr.req (ltN 0 (f2 (idO 0 i 1))) (Tr.req (inI (subI .i64 i (Int.ofNat 1)) k) (Tr.req (ltN (idO 0 (subI .i64 i (Int.ofNat 1)) 1) k) (Tr.req (inI (Int.ofNat 0) (f2 (idO 0 (subI .i64 i (Int.ofNat 1)) 1))) (Tr.req (ltN 0 (f2 (idO 0 (subI .i64 i (Int.ofNat 1)) 1))) (Tr.ite (leI (f1 (idO 0 i 1) 0) (f1 (idO 0 (subI .i64 i (Int.ofNat 1)) 1) 0)) (Tr.ok (Ex.ret,[(4,AV.bool false,some 1)],Z0::H)) Tr.bad))))))))) Tr.bad)))) (Tr.ok (Ex.exit 4,[(5,AV.int .i64 p,none),(6,AV.int .i64 q,none),(7,slF k f1 f2,none),(9,slF l g1 g2,none),(12,AV.int .i64 e1,none),(14,AV.int .i64 e2,none),(18,AV.int .i64 i,none),(119,AV.bool false,some 1)],Z0::H))) { lock:=false,bs:=[(0,Blk.row (Row.G [AV.int .i64 w,slA 2 ls zs,slA 3 ld zd])),(0,Blk.row (Row.I IntKind.u8 [a,b]))] }:=by kernel_rfl
theorem u13x (n:Nat) (w:Int) (ls ld:Nat) (zs zd:Nat→Int) (H:Heap) (a b e0:Int):bodyT Try.prog (cd (n+20)) 100000 13 Try.f13 (Kt.kt 13) (il (ctG (ctG (ctG noCt 16 g16) 20 (g20 (bathA w ls zs ld zd) e0)) 43 (fun _=>none)) (n+18) 2) noBT noRT [(bathA w ls zs ld zd,none),(.agg (.I .u8 [a,b]),none)] H =
 Tr.ite (ltI (Int.ofNat 15) (Int.ofNat ls)) (Tr.reqP True (Tr.ok ((AV.bool true,none),H))) (Tr.ite (notB (ltI (Int.ofNat 50) (Int.ofNat ld))) (Tr.reqP (bathA w ls zs ld zd=bathA w ls zs ld zd) (Tr.ite (notB (eqI e0 (Int.ofNat 0))) (Tr.reqP True (Tr.ok ((AV.bool true,none),H))) Tr.bad)) (Tr.reqP True (Tr.ok ((AV.bool true,none),H)))):=by kernel_rfl
theorem u13 (n:Nat) (w:Int) (ls ld k l:Nat) (zs zd:Nat→Int) (H:Heap) (a b e0 p q e1 e2:Int) (f1 g1:Nat→Nat→Int) (f2 g2:Nat→Nat) (A1 A2:AV) (P:AV→Prop) (fm fg:AV→Int→Int):bodyT Try.prog (cd (n+20)) 100000 13 Try.f13 (Kt.kt 13) (il (ctG (ctG (ctG (ctG (ctG (ctG (ctG noCt 16 g16) 20 (g20 (bathA w ls zs ld zd) e0)) 43 (g43t (bathA w ls zs ld zd) a b p q)) 36 (g36s (bathA w ls zs ld zd) (slF k f1 f2) (slF l g1 g2))) 29 (g29s (bathA w ls zs ld zd) A1 A2 p q e1 e2)) 53 (gLv P fm)) 54 (gLv P fg)) (n+18) 2) (blkE (blkE noBT 4 (fr13b k l f1 g1 f2 g2 p q e1 e2++[(18,.int .i64 0)]) (lv9 w ls ld zs zd a b::H) (.ok (.normal,hints (fr13b k l f1 g1 f2 g2 p q e1 e2++[(18,.int .i64 (Int.ofNat k)),(119,.bool false)]),lv9 w ls ld zs zd a b::H))) 0 (fr13 k l f1 g1 f2 g2 p q e1 e2++[(15,.int .i64 (-2))]) (lv9 w ls ld zs zd a b::H) (.ok (.normal,hints (fr13 k l f1 g1 f2 g2 p q e1 e2++[(15,.int .i64 (Int.ofNat ls)),(72,.bool false)]),lv9 w ls ld zs zd a b::H))) noRT [(bathA w ls zs ld zd,none),(.agg (.I .u8 [a,b]),none)] H =
 (fun (Z0:Lvl)=>((fun (Z1:Frm)=>((fun (Z2:Frm)=>Tr.ite (ltI (Int.ofNat 15) (Int.ofNat ls)) (Tr.reqP True (Tr.ok ((AV.bool true,none),H))) (Tr.ite (notB (ltI (Int.ofNat 50) (Int.ofNat ld))) (Tr.reqP (bathA w ls zs ld zd=bathA w ls zs ld zd) (Tr.ite (notB (eqI e0 (Int.ofNat 0))) (Tr.reqP True (Tr.ok ((AV.bool true,none),H))) (Tr.reqP (bathA w ls zs ld zd=bathA w ls zs ld zd∧a=a∧b=b) (Tr.reqP (bathA w ls zs ld zd=bathA w ls zs ld zd) (Tr.reqP (bathA w ls zs ld zd=bathA w ls zs ld zd) (Tr.reqP (bathA w ls zs ld zd=bathA w ls zs ld zd∧p=p∧q=q) (Tr.reqP (bathA w ls zs ld zd=bathA w ls zs ld zd∧p=p∧q=q) (Tr.ite (notB (eqI (Int.ofNat 0) (Int.ofNat 0))) (Tr.ok ((AV.bool false,some 1),H)) (Tr.ite (notB (eqI (Int.ofNat 0) (Int.ofNat 0))) (Tr.ok ((AV.bool false,some 1),H)) (Tr.ite (eqI e1 (Int.ofNat 0)) (Tr.ite (notB (eqI e2 (Int.ofNat 0))) (Tr.ok ((AV.bool false,some 1),H)) (Tr.reqP (Z1=Z1∧Z0::H=Z0::H) (Tr.reqP (Z2=Z2∧Z0::H=Z0::H) (Tr.reqP (P (slF l g1 g2)) (Tr.ite (eqI (fm (slF l g1 g2) p) (Int.ofNat 0)) (Tr.ite (eqI e1 (Int.ofNat 5)) (Tr.ite (eqI e2 (Int.ofNat 5)) (Tr.reqP True (Tr.ok ((AV.bool true,none),H))) (Tr.ok ((AV.bool false,some 1),H))) (Tr.ok ((AV.bool false,some 1),H))) (Tr.reqP (P (slF l g1 g2)) (Tr.ite (eqI (fm (slF l g1 g2) q) (Int.ofNat 0)) (Tr.ite (eqI e1 (Int.ofNat 5)) (Tr.ite (eqI e2 (Int.ofNat 5)) (Tr.reqP True (Tr.ok ((AV.bool true,none),H))) (Tr.ok ((AV.bool false,some 1),H))) (Tr.ok ((AV.bool false,some 1),H))) (Tr.reqP (P (slF k f1 f2)) (Tr.reqP (P (slF k f1 f2)) (Tr.ite (eqB (eqI e1 (Int.ofNat 0)) (eqI (fg (slF k f1 f2) p) (fg (slF k f1 f2) q))) (Tr.reqP (P (slF l g1 g2)) (Tr.reqP (P (slF l g1 g2)) (Tr.ite (eqB (eqI e2 (Int.ofNat 0)) (eqI (fg (slF l g1 g2) p) (fg (slF l g1 g2) q))) (Tr.reqP True (Tr.ok ((AV.bool true,none),H))) (Tr.ok ((AV.bool false,some 1),H))))) (Tr.ok ((AV.bool false,some 1),H)))))))))))) (Tr.reqP (Z1=Z1∧Z0::H=Z0::H) (Tr.reqP (Z2=Z2∧Z0::H=Z0::H) (Tr.reqP (P (slF l g1 g2)) (Tr.ite (eqI (fm (slF l g1 g2) p) (Int.ofNat 0)) (Tr.ite (eqI e1 (Int.ofNat 5)) (Tr.ite (eqI e2 (Int.ofNat 5)) (Tr.reqP True (Tr.ok ((AV.bool true,none),H))) (Tr.ok ((AV.bool false,some 1),H))) (Tr.ok ((AV.bool false,some 1),H))) (Tr.reqP (P (slF l g1 g2)) (Tr.ite (eqI (fm (slF l g1 g2) q) (Int.ofNat 0)) (Tr.ite (eqI e1 (Int.ofNat 5)) (Tr.ite (eqI e2 (Int.ofNat 5)) (Tr.reqP True (Tr.ok ((AV.bool true,none),H))) (Tr.ok ((AV.bool false,some 1),H))) (Tr.ok ((AV.bool false,some 1),H))) (Tr.reqP (P (slF k f1 f2)) (Tr.reqP (P (slF k f1 f2)) (Tr.ite (eqB (eqI e1 (Int.ofNat 0)) (eqI (fg (slF k f1 f2) p) (fg (slF k f1 f2) q))) (Tr.reqP (P (slF l g1 g2)) (Tr.reqP (P (slF l g1 g2)) (Tr.ite (eqB (eqI e2 (Int.ofNat 0)) (eqI (fg (slF l g1 g2) p) (fg (slF l g1 g2) q))) (Tr.reqP True (Tr.ok ((AV.bool true,none),H))) (Tr.ok ((AV.bool false,some 1),H))))) (Tr.ok ((AV.bool false,some 1),H))))))))))))))))))))) (Tr.reqP True (Tr.ok ((AV.bool true,none),H))))) [(5,AV.int .i64 p),(6,AV.int .i64 q),(7,slF k f1 f2),(9,slF l g1 g2),(12,AV.int .i64 e1),(14,AV.int .i64 e2),(18,AV.int .i64 (Int.ofNat 0))])) [(2,AV.ptr 0 0 0 0),(5,AV.int .i64 p),(6,AV.int .i64 q),(7,slF k f1 f2),(9,slF l g1 g2),(12,AV.int .i64 e1),(14,AV.int .i64 e2),(15,AV.int .i64 (Int.negSucc 1))])) { lock:=false,bs:=[(0,Blk.row (Row.G [AV.int .i64 w,slA 2 ls zs,slA 3 ld zd])),(0,Blk.row (Row.I IntKind.u8 [a,b]))] }:=by kernel_rfl
end Go.Eng
end
