/- Bath: whether a list of baths does an order, as it is defined. -/
import Derived.Test.YtigmfpmabgekoaaGreatV5Bb4x3
section
namespace Go.Eng
open Go.Proofs
set_option linter.unusedVariables false
set_option linter.unusedSimpArgs false
set_option maxRecDepth 100000
noncomputable def fr73 (l:Nat) (z:Nat→Int) (B:AV) (i j:Int):Frm:=[(0,slA 5 l z),(1,B),(2,.int .i64 i),(7,.int .i64 j)]
noncomputable def lvO (v k:Nat) (y:Nat→Int):Lvl:=⟨false,[(v,.row (.M [.arr .i64 y k]))]⟩
theorem t73o (n l k v:Nat) (z y:Nat→Int) (H:Heap) (i j:Int):execT (cxD (n+3) 73 21) (il noCt (n+1) 2) noBT noRT (part Tryz.f73 [1,0,1,0,0]) (hints (fr73 l z (.slc 1 0 v 0 1 k none) i j)) (lvE::lvO v k y::H) =
 (fun (Z0:Lvl)=>((fun (Z1:HFrm)=>Tr.ite (ltI j (Int.ofNat k)) (Tr.req (inI j k) (Tr.req (eqN v v) (Tr.req (ltN (idO 0 j 1) k) (Tr.req (inI i l) (Tr.req (ltN (idO 0 i 5) (mulO l 5)) (Tr.req (ltN (addO (idO 0 i 5) 1) (mulO l 5)) (Tr.req (ltN (addO (idO 0 i 5) 2) (mulO l 5)) (Tr.req (ltN (addO (idO 0 i 5) 3) (mulO l 5)) (Tr.req (ltN (addO (idO 0 i 5) 4) (mulO l 5)) (Tr.ite (leI (subI .i64 (z (addO (idO 0 i 5) 1)) (z (addO (idO 0 i 5) 3))) (y (idO 0 j 1))) (Tr.ite (leI (y (idO 0 j 1)) (subI .i64 (z (idO 0 i 5)) (z (addO (idO 0 i 5) 2)))) (Tr.ok (Ex.ret,[(6,AV.bool true,some 1)],lvE::Z0::H)) (Tr.ok (Ex.normal,Z1,lvE::Z0::H))) (Tr.ok (Ex.normal,Z1,lvE::Z0::H)))))))))))) (Tr.ok (Ex.exit 0,[(0,slA 5 l z,none),(1,AV.slc 1 0 v 0 1 k none,none),(2,AV.int .i64 i,none),(7,AV.int .i64 j,none),(11,AV.bool false,some 1)],lvE::Z0::H))) [(0,slA 5 l z,none),(1,AV.slc 1 0 v 0 1 k none,none),(2,AV.int .i64 i,none),(7,AV.int .i64 (addI .i64 j (Int.ofNat 1)),none)])) { lock:=false,bs:=[(v,Blk.row (Row.M [Seg.arr .i64 y k]))] }:=by kernel_rfl
theorem u73o (n l k v:Nat) (z y:Nat→Int) (H:Heap) (i:Int) (x:Bool):bodyT Tryz.prog (cd n) 100000 73 Tryz.f73 (KtB.kt 73) (il noCt n 0) (blkE noBT 0 (fr73 l z (.slc 1 0 v 0 1 k none) i 0) (lvE::lvO v k y::H) (.ite x (.ok (.ret,[(6,.bool true,none)],lvE::lvO v k y::H)) (.ok (.normal,hints (fr73 l z (.slc 1 0 v 0 1 k none) i (Int.ofNat k)++[(11,.bool false)]),lvE::lvO v k y::H)))) noRT [(slA 5 l z,none),(.slc 0 0 v 0 1 k none,none),(.int .i64 i,none)] (lvO v k y::H) =
 (fun (Z0:Lvl)=>((fun (Z1:Frm)=>Tr.reqP (Z1=Z1∧lvE::Z0::H=lvE::Z0::H) (Tr.ite x (Tr.ok ((AV.bool true,none),Z0::H)) (Tr.ok ((AV.bool false,some 1),Z0::H)))) [(0,slA 5 l z),(1,AV.slc 1 0 v 0 1 k none),(2,AV.int .i64 i),(7,AV.int .i64 (Int.ofNat 0))])) { lock:=false,bs:=[(v,Blk.row (Row.M [Seg.arr .i64 y k]))] }:=by kernel_rfl
theorem u73n (n l:Nat) (z:Nat→Int) (H:Heap) (i:Int):bodyT Tryz.prog (cd n) 100000 73 Tryz.f73 (KtB.kt 73) (il noCt n 0) noBT noRT [(slA 5 l z,none),(.nils,none),(.int .i64 i,none)] H =
 Tr.ok ((AV.bool false,some 1),H):=by kernel_rfl
theorem b73:∀ b,(0,b) ∈ blocksOf (bodyOf Tryz.f73)→b=.loop (part Tryz.f73 [1,0,1,0,0]):=by
 have:((blocksOf (bodyOf Tryz.f73)).filter fun x=>Nat.beq x.1 0)=[(0,.loop (part Tryz.f73 [1,0,1,0,0]))]:=by kernel_rfl
 intro b hb
 have hm:(0,b) ∈ ((blocksOf (bodyOf Tryz.f73)).filter fun x=>Nat.beq x.1 0):=List.mem_filter.2 ⟨hb,rfl⟩
 rw[this] at hm;simpa using hm
def dnN (z y:Nat→Int) (k i:Nat):Bool:=exN (fun j=>dnB z (y j) i) k
section
variable (n l k:Nat) (z y:Nat→Int) (H:Heap) (i:Nat)
theorem l73o (v:Nat) (h:chkO l z=0) (hi:i<l) (hk:k≤1000):exec (cxD (n+3) 73 21) (.block 0 (.loop (part Tryz.f73 [1,0,1,0,0]))) (fr73 l z (.slc 1 0 v 0 1 k none) i 0) (lvE::lvO v k y::H)=some (cond (dnN z y k i) (.ret,[(6,.bool true)],lvE::lvO v k y::H) (.normal,fr73 l z (.slc 1 0 v 0 1 k none) i (Int.ofNat k)++[(11,.bool false)],lvE::lvO v k y::H)):=by
 obtain ⟨hl,hb⟩:=chk_odd h
 refine findX 0 (fun j=>fr73 l z (.slc 1 0 v 0 1 k none) i (j:Int)) (fun _=>lvE::lvO v k y::H) k (fun j=>dnB z (y j) i) (fun j=>([(6,.bool true)],lvE::lvO v k y::H)) (fr73 l z (.slc 1 0 v 0 1 k none) i (Int.ofNat k)++[(11,.bool false)],lvE::lvO v k y::H) (by omega) (fun j hj=>?_) ?_
 · have b:=hb i hi
   have ej:addI .i64 (j:Int) (Int.ofNat 1)=((j+1:Nat):Int):=by rw[addI_eq,show Int.ofNat 1=1 from rfl];exact wr_64 (by omega) (by omega)
   have ei:idO 0 (j:Int) 1=j:=by rw[idO_eq];omega
   have e5:idO 0 (i:Int) 5=i*5:=by rw[idO_eq];omega
   have s1:subI .i64 (z (i*5+1)) (z (i*5+3))=bLo z i:=by rw[subI_eq];exact wr_64 (by omega) (by omega)
   have s2:subI .i64 (z (i*5)) (z (i*5+2))=bHi z i:=by rw[subI_eq];exact wr_64 (by omega) (by omega)
   have hd:dnB z (y j) i=(decide (bLo z i≤y j) && decide (y j≤bHi z i)):=rfl
   refine ex_all (t73o n l k v z y H i (j:Int)) (il_no (n+1) 2) (noBT_ok _ _) (noRT_ok _ _) ?_
   show Tr.all _ (fun x=>if dnB z (y j) i=true then _ else _)
   simp only[addO_eq]
   rw[e5,ei,ej,s1,s2,hd]
   clear hd s1 s2
   generalize bLo z i=lo at *
   generalize bHi z i=hi at *
   by_cases h1:lo≤y j
   · by_cases h2:y j≤hi
     · rw[decide_eq_true h1,decide_eq_true h2]
       simp only[Bool.and_self,if_true]
       repeat' first | (refine Tr.all_ite (fun hc=>?_) (fun hc=>?_)<;>(try simp (disch:=omega) only[nV,nW] at hc)<;>try omega) | (refine Tr.all_req ?_ ?_;· (try simp (disch:=omega) only[nV,nW]);try omega) | (refine Tr.all_reqP ?_ ?_;· first | exact trivial | rfl | exact ⟨rfl,rfl⟩ | exact ⟨rfl,rfl,rfl⟩ | (simp (disch:=omega) only[nV,nW];done) | ((try simp (disch:=omega) only[nV,nW]);omega)) | fail
       all_goals first
        | exact Tr.all_ok rfl
        | fail
     · rw[decide_eq_true h1,decide_eq_false h2]
       simp only[Bool.and_false,Bool.false_eq_true,if_false]
       repeat' first | (refine Tr.all_ite (fun hc=>?_) (fun hc=>?_)<;>(try simp (disch:=omega) only[nV,nW] at hc)<;>try omega) | (refine Tr.all_req ?_ ?_;· (try simp (disch:=omega) only[nV,nW]);try omega) | (refine Tr.all_reqP ?_ ?_;· first | exact trivial | rfl | exact ⟨rfl,rfl⟩ | exact ⟨rfl,rfl,rfl⟩ | (simp (disch:=omega) only[nV,nW];done) | ((try simp (disch:=omega) only[nV,nW]);omega)) | fail
       all_goals first
        | exact Tr.all_ok ⟨rfl,rfl⟩
        | fail
   · rw[decide_eq_false h1]
     simp only[Bool.false_and,Bool.false_eq_true,if_false]
     repeat' first | (refine Tr.all_ite (fun hc=>?_) (fun hc=>?_)<;>(try simp (disch:=omega) only[nV,nW] at hc)<;>try omega) | (refine Tr.all_req ?_ ?_;· (try simp (disch:=omega) only[nV,nW]);try omega) | (refine Tr.all_reqP ?_ ?_;· first | exact trivial | rfl | exact ⟨rfl,rfl⟩ | exact ⟨rfl,rfl,rfl⟩ | (simp (disch:=omega) only[nV,nW];done) | ((try simp (disch:=omega) only[nV,nW]);omega)) | fail
     all_goals first
      | exact Tr.all_ok ⟨rfl,rfl⟩
      | fail
 · obtain ⟨x,h1,rfl⟩:=ex_all (Q:=fun x=>x=(.exit 0,fr73 l z (.slc 1 0 v 0 1 k none) i (Int.ofNat k)++[(11,.bool false)],lvE::lvO v k y::H)) (t73o n l k v z y H i (Int.ofNat k)) (il_no (n+1) 2) (noBT_ok _ _) (noRT_ok _ _) (by
    refine Tr.all_ite (fun hc=>?_) (fun hc=>Tr.all_ok rfl)
    simp (disch:=omega) only[nV,nW] at hc;omega)
   exact h1
theorem c73o (v:Nat) (h:chkO l z=0) (hi:i<l) (hk:k≤1000):cd (n+4) (.fn 73) [slA 5 l z,.slc 0 0 v 0 1 k none,.int .i64 (i:Int)] (lvO v k y::H)=some (.bool (dnN z y k i),lvO v k y::H):=by
 have hx:=l73o n l k z y H i v h hi hk
 refine fn_all (n:=n+3) Tryz.func73 rfl rfl rfl (u73o (n+3) l k v z y H i (dnN z y k i)) (il_no0 _) (blkE_ok (noBT_ok _ _) b73 (fun x h1=>by
  refine Eq.trans hx ?_
  rcases Tr.ite_some h1 with ⟨hc,h1⟩ | ⟨hc,h1⟩
  · rw[hc,← Tr.ok_some h1];rfl
  · rw[hc,← Tr.ok_some h1];simp only[cond_false,Res.st,hints_eq])) (noRT_ok _ _) ?_
 refine Tr.all_reqP ⟨rfl,rfl⟩ (Tr.all_ite (fun hc=>Tr.all_ok ⟨?_,rfl⟩) (fun hc=>Tr.all_ok ⟨?_,rfl⟩))
 · rw[hc]
 · rw[hc]
theorem c73n (a:Int):cd (n+1) (.fn 73) [slA 5 l z,.nils,.int .i64 a] H=some (.bool false,H) :=
 fn_all (n:=n) Tryz.func73 rfl rfl rfl (u73n n l z H a) (il_no0 n) (noBT_ok _ _) (noRT_ok _ _) (Tr.all_ok ⟨rfl,rfl⟩)
end
end Go.Eng
end
section
namespace Go.Eng
open Go.Proofs
set_option linter.unusedVariables false
set_option linter.unusedSimpArgs false
set_option maxRecDepth 100000
noncomputable def fr66 (l:Nat) (z:Nat→Int) (B:AV):Frm:=[(0,slA 5 l z),(3,B)]
noncomputable def fr66i (l:Nat) (z:Nat→Int) (B:AV) (x:Int) (fd:Bool) (j:Int):Frm:=[(0,slA 5 l z),(3,B),(4,.int .i64 x),(5,.bool fd),(6,.int .i64 j)]
noncomputable def ct66 (l:Nat) (z:Nat→Int) (B:AV) (j:Int) (D:Bool) (G:Heap):Ctr:=ctE noCt 73 [slA 5 l z,B,.int .i64 j] G (.ok (.bool D,G))
theorem t66in (n l:Nat) (z:Nat→Int) (H:Heap) (D fd:Bool) (x j:Int):execT (cxD (n+1) 66 41) (il (ct66 l z .nils j D (lvE::H)) n 1) noBT noRT (part Tryz.f66 [1,1,0,0,0,1,0,1,0,0]) (hints (fr66i l z .nils x fd j)) (lvE::H) =
 (fun (Z0:HFrm)=>((fun (Z1:HFrm)=>Tr.ite (ltI j (Int.ofNat l)) (Tr.reqP ([slA 5 l z,AV.nils,AV.int .i64 j]=[slA 5 l z,AV.nils,AV.int .i64 j]∧lvE::H=lvE::H) (Tr.ite (notB D) (Tr.ite (notB fd) (Tr.req (inI j l) (Tr.req (ltN (idO 0 j 5) (mulO l 5)) (Tr.req (ltN (addO (idO 0 j 5) 1) (mulO l 5)) (Tr.req (ltN (addO (idO 0 j 5) 2) (mulO l 5)) (Tr.req (ltN (addO (idO 0 j 5) 3) (mulO l 5)) (Tr.req (ltN (addO (idO 0 j 5) 4) (mulO l 5)) (Tr.ok (Ex.normal,Z0,lvE::H)))))))) (Tr.req (inI j l) (Tr.req (ltN (idO 0 j 5) (mulO l 5)) (Tr.req (ltN (addO (idO 0 j 5) 1) (mulO l 5)) (Tr.req (ltN (addO (idO 0 j 5) 2) (mulO l 5)) (Tr.req (ltN (addO (idO 0 j 5) 3) (mulO l 5)) (Tr.req (ltN (addO (idO 0 j 5) 4) (mulO l 5)) (Tr.ite (ltI (subI .i64 (z (idO 0 j 5)) (z (addO (idO 0 j 5) 2))) x) (Tr.req (inI j l) (Tr.req (ltN (idO 0 j 5) (mulO l 5)) (Tr.req (ltN (addO (idO 0 j 5) 1) (mulO l 5)) (Tr.req (ltN (addO (idO 0 j 5) 2) (mulO l 5)) (Tr.req (ltN (addO (idO 0 j 5) 3) (mulO l 5)) (Tr.req (ltN (addO (idO 0 j 5) 4) (mulO l 5)) (Tr.ok (Ex.normal,Z0,lvE::H)))))))) (Tr.ok (Ex.normal,Z1,lvE::H)))))))))) (Tr.ok (Ex.normal,Z1,lvE::H)))) (Tr.ok (Ex.exit 2,[(0,slA 5 l z,none),(3,AV.nils,none),(4,AV.int .i64 x,none),(5,AV.bool fd,none),(6,AV.int .i64 j,none),(10,AV.bool false,some 1)],lvE::H))) [(0,slA 5 l z,none),(3,AV.nils,none),(4,AV.int .i64 x,none),(5,AV.bool fd,none),(6,AV.int .i64 (addI .i64 j (Int.ofNat 1)),none)])) [(0,slA 5 l z,none),(3,AV.nils,none),(4,AV.int .i64 (subI .i64 (z (idO 0 j 5)) (z (addO (idO 0 j 5) 2))),none),(5,AV.bool true,some 1),(6,AV.int .i64 (addI .i64 j (Int.ofNat 1)),none)]:=by kernel_rfl
theorem t66io (n l k v:Nat) (z y:Nat→Int) (H:Heap) (D fd:Bool) (x j:Int):execT (cxD (n+1) 66 41) (il (ct66 l z (.slc 0 0 v 0 1 k none) j D (lvO v k y::H)) n 1) noBT noRT (part Tryz.f66 [1,1,0,0,0,1,0,1,0,0]) (hints (fr66i l z (.slc 0 0 v 0 1 k none) x fd j)) (lvO v k y::H) =
 (fun (Z0:Lvl)=>((fun (Z1:HFrm)=>((fun (Z2:HFrm)=>Tr.ite (ltI j (Int.ofNat l)) (Tr.reqP ([slA 5 l z,AV.slc 0 0 v 0 1 k none,AV.int .i64 j]=[slA 5 l z,AV.slc 0 0 v 0 1 k none,AV.int .i64 j]∧Z0::H=Z0::H) (Tr.ite (notB D) (Tr.ite (notB fd) (Tr.req (inI j l) (Tr.req (ltN (idO 0 j 5) (mulO l 5)) (Tr.req (ltN (addO (idO 0 j 5) 1) (mulO l 5)) (Tr.req (ltN (addO (idO 0 j 5) 2) (mulO l 5)) (Tr.req (ltN (addO (idO 0 j 5) 3) (mulO l 5)) (Tr.req (ltN (addO (idO 0 j 5) 4) (mulO l 5)) (Tr.ok (Ex.normal,Z1,Z0::H)))))))) (Tr.req (inI j l) (Tr.req (ltN (idO 0 j 5) (mulO l 5)) (Tr.req (ltN (addO (idO 0 j 5) 1) (mulO l 5)) (Tr.req (ltN (addO (idO 0 j 5) 2) (mulO l 5)) (Tr.req (ltN (addO (idO 0 j 5) 3) (mulO l 5)) (Tr.req (ltN (addO (idO 0 j 5) 4) (mulO l 5)) (Tr.ite (ltI (subI .i64 (z (idO 0 j 5)) (z (addO (idO 0 j 5) 2))) x) (Tr.req (inI j l) (Tr.req (ltN (idO 0 j 5) (mulO l 5)) (Tr.req (ltN (addO (idO 0 j 5) 1) (mulO l 5)) (Tr.req (ltN (addO (idO 0 j 5) 2) (mulO l 5)) (Tr.req (ltN (addO (idO 0 j 5) 3) (mulO l 5)) (Tr.req (ltN (addO (idO 0 j 5) 4) (mulO l 5)) (Tr.ok (Ex.normal,Z1,Z0::H)))))))) (Tr.ok (Ex.normal,Z2,Z0::H)))))))))) (Tr.ok (Ex.normal,Z2,Z0::H)))) (Tr.ok (Ex.exit 2,[(0,slA 5 l z,none),(3,AV.slc 0 0 v 0 1 k none,none),(4,AV.int .i64 x,none),(5,AV.bool fd,none),(6,AV.int .i64 j,none),(10,AV.bool false,some 1)],Z0::H))) [(0,slA 5 l z,none),(3,AV.slc 0 0 v 0 1 k none,none),(4,AV.int .i64 x,none),(5,AV.bool fd,none),(6,AV.int .i64 (addI .i64 j (Int.ofNat 1)),none)])) [(0,slA 5 l z,none),(3,AV.slc 0 0 v 0 1 k none,none),(4,AV.int .i64 (subI .i64 (z (idO 0 j 5)) (z (addO (idO 0 j 5) 2))),none),(5,AV.bool true,some 1),(6,AV.int .i64 (addI .i64 j (Int.ofNat 1)),none)])) { lock:=false,bs:=[(v,Blk.row (Row.M [Seg.arr .i64 y k]))] }:=by kernel_rfl
theorem t66xn (n l:Nat) (z:Nat→Int) (H:Heap) (fd:Bool) (x j:Int):execT (cxD n 66 41) (il noCt n 0) noBT noRT (part Tryz.f66 [1,1,0,0,0,1,0,1,0,0]) (hints (fr66i l z .nils x fd j)) (lvE::H) =
 Tr.ite (ltI j (Int.ofNat l)) Tr.bad (Tr.ok (Ex.exit 2,[(0,slA 5 l z,none),(3,AV.nils,none),(4,AV.int .i64 x,none),(5,AV.bool fd,none),(6,AV.int .i64 j,none),(10,AV.bool false,some 1)],lvE::H)):=by kernel_rfl
theorem t66xo (n l k v:Nat) (z y:Nat→Int) (H:Heap) (fd:Bool) (x j:Int):execT (cxD n 66 41) (il noCt n 0) noBT noRT (part Tryz.f66 [1,1,0,0,0,1,0,1,0,0]) (hints (fr66i l z (.slc 0 0 v 0 1 k none) x fd j)) (lvO v k y::H) =
 Tr.ite (ltI j (Int.ofNat l)) Tr.bad (Tr.ok (Ex.exit 2,[(0,slA 5 l z,none),(3,AV.slc 0 0 v 0 1 k none,none),(4,AV.int .i64 x,none),(5,AV.bool fd,none),(6,AV.int .i64 j,none),(10,AV.bool false,some 1)],{ lock:=false,bs:=[(v,Blk.row (Row.M [Seg.arr .i64 y k]))] } :: H)):=by kernel_rfl
theorem t66n (n l:Nat) (z:Nat→Int) (H:Heap) (fd:Bool) (x:Int):execT (cxD n 66 41) (il noCt n 0) (blkE noBT 2 (fr66i l z .nils 0 false 0) (lvE::H) (.ok (.normal,hints (fr66i l z .nils x fd (Int.ofNat l)++[(10,.bool false)]),lvE::H))) noRT (part Tryz.f66 [1,1,0,0]) (hints (fr66 l z .nils)) (lvE::H) =
 (fun (Z0:Frm)=>Tr.reqP (Z0=Z0∧lvE::H=lvE::H) (Tr.ite (notB fd) (Tr.ok (Ex.ret,[(2,AV.nils,none)],lvE::H)) (Tr.req (roomO 0 1 8) (Tr.req (eqN 0 0) (Tr.req (leN 1 1) (Tr.ok (Ex.normal,[(0,slA 5 l z,none),(3,AV.slc 0 1 0 0 1 1 none,none)],{ lock:=false,bs:=[(0,Blk.row (Row.I .i64 [x])),(0,Blk.row (Row.M [Seg.arr .i64 (lstO [x]) 1]))] } :: H))))))) [(0,slA 5 l z),(3,AV.nils),(4,AV.int .i64 (Int.ofNat 0)),(5,AV.bool false),(6,AV.int .i64 (Int.ofNat 0))]:=by kernel_rfl
theorem t66o (n l k v:Nat) (z y:Nat→Int) (H:Heap) (fd:Bool) (x:Int):execT (cxD n 66 41) (il noCt n 0) (blkE noBT 2 (fr66i l z (.slc 0 0 v 0 1 k none) 0 false 0) (lvO v k y::H) (.ok (.normal,hints (fr66i l z (.slc 0 0 v 0 1 k none) x fd (Int.ofNat l)++[(10,.bool false)]),lvO v k y::H))) noRT (part Tryz.f66 [1,1,0,0]) (hints (fr66 l z (.slc 0 0 v 0 1 k none))) (lvO v k y::H) =
 (fun (Z0:Frm)=>((fun (Z1:Lvl)=>Tr.reqP (Z0=Z0∧Z1::H=Z1::H) (Tr.ite (notB fd) (Tr.ok (Ex.ret,[(2,AV.slc 0 0 v 0 1 k none,none)],Z1::H)) (Tr.req (roomO k 1 8) (Tr.req (eqN 0 0) (Tr.req (leN 1 1) (Tr.req (eqN v v) (Tr.req (eqN (addO 0 k) k) (Tr.ok (Ex.normal,[(0,slA 5 l z,none),(3,AV.slc 0 0 (Nat.succ v) 0 1 (addO k 1) none,none)],{ lock:=false,bs:=[(Nat.succ v,Blk.row (Row.M [Seg.arr .i64 (appO (shO y 0) k (lstO [x])) (addO k 1)])),(0,Blk.row (Row.I .i64 [x]))] } :: H))))))))) { lock:=false,bs:=[(v,Blk.row (Row.M [Seg.arr .i64 y k]))] })) [(0,slA 5 l z),(3,AV.slc 0 0 v 0 1 k none),(4,AV.int .i64 (Int.ofNat 0)),(5,AV.bool false),(6,AV.int .i64 (Int.ofNat 0))]:=by kernel_rfl
theorem u66n (n l:Nat) (z:Nat→Int) (H:Heap):bodyT Tryz.prog (cd n) 100000 66 Tryz.f66 (KtB.kt 66) (il noCt n 0) (blkE noBT 0 (fr66 l z .nils) (lvE::H) (.ok (.ret,hints [(2,.nils)],lvE::H))) noRT [(slA 5 l z,none)] H =
 Tr.reqP ([(0,slA 5 l z),(3,AV.nils)]=[(0,slA 5 l z),(3,AV.nils)]∧lvE::H=lvE::H) (Tr.ok ((AV.nils,none),H)):=by kernel_rfl
theorem u66o (n l k v:Nat) (z y:Nat→Int) (H:Heap):bodyT Tryz.prog (cd n) 100000 66 Tryz.f66 (KtB.kt 66) (il noCt n 0) (blkE noBT 0 (fr66 l z .nils) (lvE::H) (.ok (.ret,hints [(2,.slc 0 0 v 0 1 k none)],lvO v k y::H))) noRT [(slA 5 l z,none)] H =
 Tr.reqP ([(0,slA 5 l z),(3,AV.nils)]=[(0,slA 5 l z),(3,AV.nils)]∧lvE::H=lvE::H) (Tr.req (eqN v v) (Tr.req (inO 0 k 0 k) (Tr.ok ((AV.slcT none (Row.M [Seg.arr .i64 (shO y 0) k]) 1 k false,none),H)))):=by kernel_rfl
theorem b66:∀ b,(0,b) ∈ blocksOf (bodyOf Tryz.f66)→b=.loop (part Tryz.f66 [1,1,0,0]):=by
 have:((blocksOf (bodyOf Tryz.f66)).filter fun x=>Nat.beq x.1 0)=[(0,.loop (part Tryz.f66 [1,1,0,0]))]:=by kernel_rfl
 intro b hb
 have hm:(0,b) ∈ ((blocksOf (bodyOf Tryz.f66)).filter fun x=>Nat.beq x.1 0):=List.mem_filter.2 ⟨hb,rfl⟩
 rw[this] at hm;simpa using hm
theorem b66i:∀ b,(2,b) ∈ blocksOf (part Tryz.f66 [1,1,0,0])→b=.loop (part Tryz.f66 [1,1,0,0,0,1,0,1,0,0]):=by
 have:((blocksOf (part Tryz.f66 [1,1,0,0])).filter fun x=>Nat.beq x.1 2)=[(2,.loop (part Tryz.f66 [1,1,0,0,0,1,0,1,0,0]))]:=by kernel_rfl
 intro b hb
 have hm:(2,b) ∈ ((blocksOf (part Tryz.f66 [1,1,0,0])).filter fun x=>Nat.beq x.1 2):=List.mem_filter.2 ⟨hb,rfl⟩
 rw[this] at hm;simpa using hm
theorem loopR {n f nt:Nat} {c:Code} (id:Nat) (I:Nat→Frm→Heap→Prop) (Q:Frm×Heap→Prop) (N:Nat) (hN:N<99999) {fr0:Frm} {H0:Heap} (h0:I 0 fr0 H0)
 (hr:∀ j fr H,I j fr H→∃ x,exec (cxD n f nt) c fr H=some x∧((x.1=.normal∧j<N∧I (j+1) (tidy (hNext H0) x.2.1 x.2.2).1 (tidy (hNext H0) x.2.1 x.2.2).2)∨(x.1=.ret∧Q x.2))) :
 ∃ y,exec (cxD n f nt) (.block id (.loop c)) fr0 H0=some (.ret,y)∧Q y:=by
 obtain ⟨x,h1,h2⟩:=iter_inv (body:=exec (cxD n f nt) c) (n:=hNext H0) I (fun x=>x.1=.ret∧Q x.2) N (fun j fr H h=>by
  obtain ⟨x,h1,h2⟩:=hr j fr H h
  obtain ⟨e,f1,g1⟩:=x
  refine ⟨e,f1,g1,h1,?_⟩
  rcases h2 with h2 | ⟨h2,h3⟩
  · exact .inl h2
  · exact .inr ⟨by dsimp only at h2;rw[h2];simp,h2,h3⟩) 100000 0 fr0 H0 h0 (by omega)
 obtain ⟨e,f1,g1⟩:=x
 obtain ⟨h2,h3⟩:=h2
 dsimp only at h2 h3
 subst h2
 exact ⟨(f1,g1),exec_block_loop_other (fun id' h=>by cases h) h1,h3⟩
noncomputable def doB (z:Nat→Int) (B:List Int) (i:Nat):Bool:=dnN z (lstO B) B.length i
theorem lst_at (L:List Int) (j:Nat):lstO L j=L.getD j 0:=congrFun (lstO_eq L) j
theorem doB_iff (z:Nat→Int) (B:List Int) (i:Nat):doB z B i=true↔∃ b,b ∈ B∧dnB z b i=true:=by
 unfold doB dnN
 rw[exN_iff]
 constructor
 · rintro ⟨j,h1,h2⟩;exact ⟨_,lst_get B j h1,h2⟩
 · rintro ⟨b,h1,h2⟩
   obtain ⟨j,hj,rfl⟩:=List.getElem_of_mem h1
   refine ⟨j,hj,?_⟩
   rw[lst_at,List.getD_eq_getElem?_getD,List.getElem?_eq_getElem hj]
   exact h2
theorem doB_app (z:Nat→Int) (B:List Int) (b:Int) (i:Nat):doB z (B++[b]) i=(doB z B i || dnB z b i):=by
 rw[Bool.eq_iff_iff,Bool.or_eq_true,doB_iff,doB_iff]
 constructor
 · rintro ⟨c,h1,h2⟩
   rcases List.mem_append.1 h1 with h | h
   · exact .inl ⟨c,h,h2⟩
   · rw[List.mem_singleton] at h;subst h;exact .inr h2
 · rintro (⟨c,h1,h2⟩ | h)
   · exact ⟨c,List.mem_append_left _ h1,h2⟩
   · exact ⟨b,by simp,h⟩
noncomputable def ndM (z:Nat→Int) (B:List Int) (i:Nat):Int:=if doB z B i=true then 0 else 1
theorem dl_congr {m p:Nat→Int} {j:Nat} (h:∀ i,i<j→(m i=1↔p i=1)):dl m j=dl p j:=by
 induction j with
 | zero=>rfl
 | succ j ih =>
   show (if m j=1 then dl m j++[(j:Int)] else dl m j)=(if p j=1 then dl p j++[(j:Int)] else dl p j)
   rw[ih (fun i hi=>h i (by omega))]
   have:=h j (by omega)
   by_cases e:m j=1
   · rw[if_pos e,if_pos (this.1 e)]
   · rw[if_neg e,if_neg (fun x=>e (this.2 x))]
theorem dl_mem (m:Nat→Int) (j:Nat) (x:Int):x ∈ dl m j↔∃ i:Nat,x=i∧i<j∧m i=1:=by
 induction j with
 | zero=>simp[dl]
 | succ j ih =>
   show x ∈ (if m j=1 then dl m j++[(j:Int)] else dl m j)↔_
   constructor
   · intro h
     split at h
     · rename_i e
       rcases List.mem_append.1 h with h | h
       · obtain ⟨i,h1,h2,h3⟩:=ih.1 h
         exact ⟨i,h1,by omega,h3⟩
       · rw[List.mem_singleton] at h;exact ⟨j,h,by omega,e⟩
     · obtain ⟨i,h1,h2,h3⟩:=ih.1 h
       exact ⟨i,h1,by omega,h3⟩
   · rintro ⟨i,h1,h2,h3⟩
     by_cases e:i<j
     · have:=ih.2 ⟨i,h1,e,h3⟩
       split
       · exact List.mem_append_left _ this
       · exact this
     · have:i=j:=by omega
       subst this
       rw[if_pos h3,h1];simp
theorem lst_pre (L:List Int) (x:Int) (j:Nat) (h:j<L.length):lstO (L++[x]) j=lstO L j:=by
 rw[lst_at,lst_at,List.getD_eq_getElem?_getD,List.getD_eq_getElem?_getD,List.getElem?_append_left h]
theorem lst_end (L:List Int) (x:Int):lstO (L++[x]) L.length=x:=by
 rw[lst_at,List.getD_eq_getElem?_getD,List.getElem?_append_right (Nat.le_refl _)];simp
theorem kp_app (P:Int→Bool) (L:List Int) (x:Int):kpt P (lstO (L++[x])) (L.length+1)=if P x=true then kpt P (lstO L) L.length else kpt P (lstO L) L.length++[x]:=by
 show (if P (lstO (L++[x]) L.length)=true then kpt P (lstO (L++[x])) L.length else kpt P (lstO (L++[x])) L.length++[lstO (L++[x]) L.length])=_
 rw[lst_end,kp_congr P (lstO (L++[x])) (lstO L) L.length (fun j hj=>lst_pre L x j hj)]
theorem kp_dl (P:Int→Bool) (m:Nat→Int) (j:Nat):kpt P (lstO (dl m j)) (dl m j).length=dl (fun i=>if m i=1∧P i=false then 1 else 0) j:=by
 induction j with
 | zero=>rfl
 | succ j ih =>
   show kpt P (lstO (if m j=1 then dl m j++[(j:Int)] else dl m j)) (if m j=1 then dl m j++[(j:Int)] else dl m j).length=(if (if m j=1∧P (j:Int)=false then (1:Int) else 0)=1 then dl (fun i=>if m i=1∧P i=false then 1 else 0) j++[(j:Int)] else dl (fun i=>if m i=1∧P i=false then 1 else 0) j)
   by_cases e:m j=1
   · rw[if_pos e,List.length_append]
     simp only[List.length_cons,List.length_nil,Nat.zero_add]
     rw[kp_app,ih]
     cases hp:P (j:Int)<;>simp[e]
   · rw[if_neg e,ih];simp[e]
noncomputable def nxS (z:Nat→Int) (D:Nat→Bool):Nat→Int×Bool
 | 0=>(0,false)
 | j+1=>if D j=false∧((nxS z D j).2=false∨bHi z j<(nxS z D j).1) then (bHi z j,true) else nxS z D j
theorem nx_dl (z:Nat→Int) (B     : List Int) (j:Nat):nxS z (doB z B) j=match dl (ndM z B) j with
 | []=>(0,false)
 | a::r=>(bHi z (lsZ z (lstO (a::r)) r.length).toNat,true):=by
 induction j with
 | zero=>rfl
 | succ j ih =>
   show (if doB z B j=false∧((nxS z (doB z B) j).2=false∨bHi z j<(nxS z (doB z B) j).1) then (bHi z j,true) else nxS z (doB z B) j)=match (if ndM z B j=1 then dl (ndM z B) j++[(j:Int)] else dl (ndM z B) j) with
   | []=>(0,false)
   | a::r=>(bHi z (lsZ z (lstO (a::r)) r.length).toNat,true)
   cases hd:doB z B j with
   | true =>
     have:ndM z B j=0:=by unfold ndM;rw[if_pos hd]
     rw[if_neg (fun h=>by cases h.1),ih,if_neg (by rw[this];decide)]
   | false =>
     have:ndM z B j=1:=by unfold ndM;rw[if_neg (by rw[hd];decide)]
     rw[if_pos this]
     cases hL:dl (ndM z B) j with
     | nil =>
       rw[hL] at ih
       rw[if_pos ⟨rfl,.inl (by rw[ih])⟩]
       show _=(bHi z (lsZ z (lstO [(j:Int)]) 0).toNat,true)
       have e:lsZ z (lstO [(j:Int)]) 0=j:=by show lstO [(j:Int)] 0=_;rw[lst_at];rfl
       rw[e,Int.toNat_natCast]
     | cons a r =>
       rw[hL] at ih
       rw[ih]
       show _=(bHi z (lsZ z (lstO (a::r++[(j:Int)])) (r++[(j:Int)]).length).toNat,true)
       rw[List.length_append]
       have e1:lsZ z (lstO (a::r++[(j:Int)])) (r.length+[(j:Int)].length)=if bHi z j<bHi z (lsZ z (lstO (a::r)) r.length).toNat then (j:Int) else lsZ z (lstO (a::r)) r.length:=by
        show (if bHi z (lstO (a::r++[(j:Int)]) (r.length+1)).toNat<bHi z (lsZ z (lstO (a::r++[(j:Int)])) r.length).toNat then lstO (a::r++[(j:Int)]) (r.length+1) else lsZ z (lstO (a::r++[(j:Int)])) r.length)=_
        rw[ls_congr z (lstO (a::r++[(j:Int)])) (lstO (a::r)) r.length (fun i hi=>lst_pre (a::r) _ i (by simpa using hi)),show lstO (a::r++[(j:Int)]) (r.length+1)=j from lst_end (a::r) _,Int.toNat_natCast]
       rw[e1]
       by_cases h:bHi z j<bHi z (lsZ z (lstO (a::r)) r.length).toNat
       · rw[if_pos ⟨rfl,.inr h⟩,if_pos h,Int.toNat_natCast]
       · rw[if_neg (fun x=>by    rcases x.2 with h2 | h2
                                 · cases h2
                                 · exact h h2),if_neg h]
end Go.Eng
end
section
namespace Go.Eng
open Go.Proofs
set_option linter.unusedVariables false
set_option linter.unusedSimpArgs false
set_option maxRecDepth 100000
section
variable (n l k:Nat) (z y:Nat→Int) (H:Heap)
theorem l66in (D:Nat→Bool)     (hD:∀ j,D j=false) (h:chkO l z=0) (hk:k≤1000):exec (cxD (n+5) 66 41) (.block 2 (.loop (part Tryz.f66 [1,1,0,0,0,1,0,1,0,0]))) (fr66i l z .nils 0 false 0) (lvE::H)=some (.normal,fr66i l z .nils (nxS z D l).1 (nxS z D l).2 (Int.ofNat l)++[(10,.bool false)],lvE::H):=by
 obtain ⟨hl,hb⟩:=chk_odd h
 refine forX 2 (fun j=>fr66i l z .nils (nxS z D j).1 (nxS z D j).2 (j:Int)) (fun _=>lvE::H) l (fr66i l z .nils (nxS z D l).1 (nxS z D l).2 (Int.ofNat l)++[(10,.bool false)],lvE::H) (by omega) (fun j hj=>?_) ?_
 · have b:=hb j hj
   have ej:addI .i64 (j:Int) (Int.ofNat 1)=((j+1:Nat):Int):=by rw[addI_eq,show Int.ofNat 1=1 from rfl];exact wr_64 (by omega) (by omega)
   have e5:idO 0 (j:Int) 5=j*5:=by rw[idO_eq];omega
   have s2:subI .i64 (z (j*5)) (z (j*5+2))=bHi z j:=by rw[subI_eq];exact wr_64 (by omega) (by omega)
   have hs:nxS z D (j+1)=if D j=false∧((nxS z D j).2=false∨bHi z j<(nxS z D j).1) then (bHi z j,true) else nxS z D j:=rfl
   refine ex_all (t66in (n+4) l z H (D j) (nxS z D j).2 (nxS z D j).1 (j:Int)) (il_ok _ (n+4) 1 (fun k2=>ctE_ok (noCt_ok _) (fun x hx=>by
    rw[← Tr.ok_some hx]
    rw[hD]
    have:=c73n (n+3+k2) l z (lvE::H) ((j:Nat):Int)
    rwa [show n+3+k2+1=n+4+k2 by omega] at this))) (noBT_ok _ _) (noRT_ok _ _) ?_
   simp only[addO_eq]
   rw[ej,e5,s2,hs]
   clear hs s2
   generalize D j=Dj at *
   generalize bHi z j=hi at *
   generalize nxS z D j=st at *
   obtain ⟨x,fd⟩:=st
   cases Dj<;>cases fd
   · rw[if_pos ⟨rfl,.inl rfl⟩]
     repeat' first | (refine Tr.all_ite (fun hc=>?_) (fun hc=>?_)<;>(try simp (disch:=omega) only[nV,nW] at hc)<;>try omega) | (refine Tr.all_req ?_ ?_;· (try simp (disch:=omega) only[nV,nW]);try omega) | (refine Tr.all_reqP ?_ ?_;· first | exact trivial | rfl | exact ⟨rfl,rfl⟩ | exact ⟨rfl,rfl,rfl⟩ | (simp (disch:=omega) only[nV,nW];done) | ((try simp (disch:=omega) only[nV,nW]);omega)) | fail
     all_goals first
      | exact Tr.all_ok ⟨rfl,rfl⟩
      | fail
   · by_cases hx:hi<x
     · rw[if_pos ⟨rfl,.inr hx⟩]
       repeat' first | (refine Tr.all_ite (fun hc=>?_) (fun hc=>?_)<;>(try simp (disch:=omega) only[nV,nW] at hc)<;>try omega) | (refine Tr.all_req ?_ ?_;· (try simp (disch:=omega) only[nV,nW]);try omega) | (refine Tr.all_reqP ?_ ?_;· first | exact trivial | rfl | exact ⟨rfl,rfl⟩ | exact ⟨rfl,rfl,rfl⟩ | (simp (disch:=omega) only[nV,nW];done) | ((try simp (disch:=omega) only[nV,nW]);omega)) | fail
       all_goals first
        | exact Tr.all_ok ⟨rfl,rfl⟩
        | fail
     · rw[if_neg (fun y=>by    rcases y.2 with h2 | h2
                               · cases h2
                               · exact hx h2)]
       repeat' first | (refine Tr.all_ite (fun hc=>?_) (fun hc=>?_)<;>(try simp (disch:=omega) only[nV,nW] at hc)<;>try omega) | (refine Tr.all_req ?_ ?_;· (try simp (disch:=omega) only[nV,nW]);try omega) | (refine Tr.all_reqP ?_ ?_;· first | exact trivial | rfl | exact ⟨rfl,rfl⟩ | exact ⟨rfl,rfl,rfl⟩ | (simp (disch:=omega) only[nV,nW];done) | ((try simp (disch:=omega) only[nV,nW]);omega)) | fail
       all_goals first
        | exact Tr.all_ok ⟨rfl,rfl⟩
        | fail
   · rw[if_neg (fun h=>by cases h.1)]
     repeat' first | (refine Tr.all_ite (fun hc=>?_) (fun hc=>?_)<;>(try simp (disch:=omega) only[nV,nW] at hc)<;>try omega) | (refine Tr.all_req ?_ ?_;· (try simp (disch:=omega) only[nV,nW]);try omega) | (refine Tr.all_reqP ?_ ?_;· first | exact trivial | rfl | exact ⟨rfl,rfl⟩ | exact ⟨rfl,rfl,rfl⟩ | (simp (disch:=omega) only[nV,nW];done) | ((try simp (disch:=omega) only[nV,nW]);omega)) | fail
     all_goals first
      | exact Tr.all_ok ⟨rfl,rfl⟩
      | fail
   · rw[if_neg (fun h=>by cases h.1)]
     repeat' first | (refine Tr.all_ite (fun hc=>?_) (fun hc=>?_)<;>(try simp (disch:=omega) only[nV,nW] at hc)<;>try omega) | (refine Tr.all_req ?_ ?_;· (try simp (disch:=omega) only[nV,nW]);try omega) | (refine Tr.all_reqP ?_ ?_;· first | exact trivial | rfl | exact ⟨rfl,rfl⟩ | exact ⟨rfl,rfl,rfl⟩ | (simp (disch:=omega) only[nV,nW];done) | ((try simp (disch:=omega) only[nV,nW]);omega)) | fail
     all_goals first
      | exact Tr.all_ok ⟨rfl,rfl⟩
      | fail
 · obtain ⟨x,h1,rfl⟩:=ex_all (Q:=fun x=>x=(.exit 2,fr66i l z .nils (nxS z D l).1 (nxS z D l).2 (Int.ofNat l)++[(10,.bool false)],lvE::H)) (t66xn (n+5) l z H (nxS z D l).2 (nxS z D l).1 (Int.ofNat l)) (il_no0 _) (noBT_ok _ _) (noRT_ok _ _) (by
    refine Tr.all_ite (fun hc=>?_) (fun hc=>Tr.all_ok rfl)
    simp (disch:=omega) only[nV,nW] at hc;omega)
   exact h1
theorem l66io (v:Nat) (h:chkO l z=0) (hk:k≤1000):exec (cxD (n+5) 66 41) (.block 2 (.loop (part Tryz.f66 [1,1,0,0,0,1,0,1,0,0]))) (fr66i l z (.slc 0 0 v 0 1 k none) 0 false 0) (lvO v k y::H)=some (.normal,fr66i l z (.slc 0 0 v 0 1 k none) (nxS z (dnN z y k) l).1 (nxS z (dnN z y k) l).2 (Int.ofNat l)++[(10,.bool false)],lvO v k y::H):=by
 obtain ⟨hl,hb⟩:=chk_odd h
 refine forX 2 (fun j=>fr66i l z (.slc 0 0 v 0 1 k none) (nxS z (dnN z y k) j).1 (nxS z (dnN z y k) j).2 (j:Int)) (fun _=>lvO v k y::H) l (fr66i l z (.slc 0 0 v 0 1 k none) (nxS z (dnN z y k) l).1 (nxS z (dnN z y k) l).2 (Int.ofNat l)++[(10,.bool false)],lvO v k y::H) (by omega) (fun j hj=>?_) ?_
 · have b:=hb j hj
   have ej:addI .i64 (j:Int) (Int.ofNat 1)=((j+1:Nat):Int):=by rw[addI_eq,show Int.ofNat 1=1 from rfl];exact wr_64 (by omega) (by omega)
   have e5:idO 0 (j:Int) 5=j*5:=by rw[idO_eq];omega
   have s2:subI .i64 (z (j*5)) (z (j*5+2))=bHi z j:=by rw[subI_eq];exact wr_64 (by omega) (by omega)
   have hs:nxS z (dnN z y k) (j+1)=if (dnN z y k) j=false∧((nxS z (dnN z y k) j).2=false∨bHi z j<(nxS z (dnN z y k) j).1) then (bHi z j,true) else nxS z (dnN z y k) j:=rfl
   refine ex_all (t66io (n+4) l k v z y H ((dnN z y k) j) (nxS z (dnN z y k) j).2 (nxS z (dnN z y k) j).1 (j:Int)) (il_ok _ (n+4) 1 (fun k2=>ctE_ok (noCt_ok _) (fun x hx=>by
    rw[← Tr.ok_some hx]
    have:=c73o (n+k2) l k z y H j v h hj hk
    rwa [show n+k2+4=n+4+k2 by omega] at this))) (noBT_ok _ _) (noRT_ok _ _) ?_
   simp only[addO_eq]
   rw[ej,e5,s2,hs]
   clear hs s2
   generalize (dnN z y k) j=Dj at *
   generalize bHi z j=hi at *
   generalize nxS z (dnN z y k) j=st at *
   obtain ⟨x,fd⟩:=st
   cases Dj<;>cases fd
   · rw[if_pos ⟨rfl,.inl rfl⟩]
     repeat' first | (refine Tr.all_ite (fun hc=>?_) (fun hc=>?_)<;>(try simp (disch:=omega) only[nV,nW] at hc)<;>try omega) | (refine Tr.all_req ?_ ?_;· (try simp (disch:=omega) only[nV,nW]);try omega) | (refine Tr.all_reqP ?_ ?_;· first | exact trivial | rfl | exact ⟨rfl,rfl⟩ | exact ⟨rfl,rfl,rfl⟩ | (simp (disch:=omega) only[nV,nW];done) | ((try simp (disch:=omega) only[nV,nW]);omega)) | fail
     all_goals first
      | exact Tr.all_ok ⟨rfl,rfl⟩
      | fail
   · by_cases hx:hi<x
     · rw[if_pos ⟨rfl,.inr hx⟩]
       repeat' first | (refine Tr.all_ite (fun hc=>?_) (fun hc=>?_)<;>(try simp (disch:=omega) only[nV,nW] at hc)<;>try omega) | (refine Tr.all_req ?_ ?_;· (try simp (disch:=omega) only[nV,nW]);try omega) | (refine Tr.all_reqP ?_ ?_;· first | exact trivial | rfl | exact ⟨rfl,rfl⟩ | exact ⟨rfl,rfl,rfl⟩ | (simp (disch:=omega) only[nV,nW];done) | ((try simp (disch:=omega) only[nV,nW]);omega)) | fail
       all_goals first
        | exact Tr.all_ok ⟨rfl,rfl⟩
        | fail
     · rw[if_neg (fun y=>by    rcases y.2 with h2 | h2
                               · cases h2
                               · exact hx h2)]
       repeat' first | (refine Tr.all_ite (fun hc=>?_) (fun hc=>?_)<;>(try simp (disch:=omega) only[nV,nW] at hc)<;>try omega) | (refine Tr.all_req ?_ ?_;· (try simp (disch:=omega) only[nV,nW]);try omega) | (refine Tr.all_reqP ?_ ?_;· first | exact trivial | rfl | exact ⟨rfl,rfl⟩ | exact ⟨rfl,rfl,rfl⟩ | (simp (disch:=omega) only[nV,nW];done) | ((try simp (disch:=omega) only[nV,nW]);omega)) | fail
       all_goals first
        | exact Tr.all_ok ⟨rfl,rfl⟩
        | fail
   · rw[if_neg (fun h=>by cases h.1)]
     repeat' first | (refine Tr.all_ite (fun hc=>?_) (fun hc=>?_)<;>(try simp (disch:=omega) only[nV,nW] at hc)<;>try omega) | (refine Tr.all_req ?_ ?_;· (try simp (disch:=omega) only[nV,nW]);try omega) | (refine Tr.all_reqP ?_ ?_;· first | exact trivial | rfl | exact ⟨rfl,rfl⟩ | exact ⟨rfl,rfl,rfl⟩ | (simp (disch:=omega) only[nV,nW];done) | ((try simp (disch:=omega) only[nV,nW]);omega)) | fail
     all_goals first
      | exact Tr.all_ok ⟨rfl,rfl⟩
      | fail
   · rw[if_neg (fun h=>by cases h.1)]
     repeat' first | (refine Tr.all_ite (fun hc=>?_) (fun hc=>?_)<;>(try simp (disch:=omega) only[nV,nW] at hc)<;>try omega) | (refine Tr.all_req ?_ ?_;· (try simp (disch:=omega) only[nV,nW]);try omega) | (refine Tr.all_reqP ?_ ?_;· first | exact trivial | rfl | exact ⟨rfl,rfl⟩ | exact ⟨rfl,rfl,rfl⟩ | (simp (disch:=omega) only[nV,nW];done) | ((try simp (disch:=omega) only[nV,nW]);omega)) | fail
     all_goals first
      | exact Tr.all_ok ⟨rfl,rfl⟩
      | fail
 · obtain ⟨x,h1,rfl⟩:=ex_all (Q:=fun x=>x=(.exit 2,fr66i l z (.slc 0 0 v 0 1 k none) (nxS z (dnN z y k) l).1 (nxS z (dnN z y k) l).2 (Int.ofNat l)++[(10,.bool false)],lvO v k y::H)) (t66xo (n+5) l k v z y H (nxS z (dnN z y k) l).2 (nxS z (dnN z y k) l).1 (Int.ofNat l)) (il_no0 _) (noBT_ok _ _) (noRT_ok _ _) (by
    refine Tr.all_ite (fun hc=>?_) (fun hc=>Tr.all_ok rfl)
    simp (disch:=omega) only[nV,nW] at hc;omega)
   exact h1
end
theorem dl_all {m:Nat→Int} {j:Nat} (h:∀ i,i<j→m i=1):(dl m j).length=j:=by
 induction j with
 | zero=>rfl
 | succ j ih =>
   show (if m j=1 then dl m j++[(j:Int)] else dl m j).length=_
   rw[if_pos (h j (by omega)),List.length_append,ih (fun i hi=>h i (by omega))];rfl
theorem nd_nil (z:Nat→Int) (i:Nat):doB z [] i=false:=by
 cases h:doB z [] i with
 | false=>rfl
 | true=>obtain ⟨b,h1,_⟩:=(doB_iff z [] i).1 h;cases h1
theorem nd_app (z:Nat→Int) (B:List Int) (b:Int) (l:Nat):kpt (pB z b) (lstO (dl (ndM z B) l)) (dl (ndM z B) l).length=dl (ndM z (B++[b])) l:=by
 rw[kp_dl]
 refine dl_congr (fun i hi=>?_)
 unfold ndM pB
 rw[doB_app,Int.toNat_natCast]
 cases doB z B i<;>cases dnB z b i<;>simp
noncomputable def fwP (z:Nat→Int) (L:List Int):List (Int×Int):=bsS z L.length L
section
variable (n l:Nat) (z:Nat→Int) (H:Heap)
theorem e66n (h:chkO l z=0) (hnx:nxS z (doB z []) l=(0,false)):exec (cxD (n+5) 66 41) (part Tryz.f66 [1,1,0,0]) (fr66 l z .nils) (lvE::H)=some (.ret,[(2,.nils)],lvE::H):=by
 have hx:=l66in n l 0 z H (doB z []) (nd_nil z) h (by omega)
 rw[hnx] at hx
 obtain ⟨x,y1,rfl⟩:=ex_all (Q:=fun x=>x=(.ret,[(2,.nils)],lvE::H)) (t66n (n+5) l z H false 0) (il_no0 _) (blkE_ok (noBT_ok _ _) b66i (fun x h1=>by rw[← Tr.ok_some h1];simp only[Res.st,hints_eq];exact hx)) (noRT_ok _ _) (by
  repeat' first | (refine Tr.all_ite (fun hc=>?_) (fun hc=>?_)<;>(try simp (disch:=omega) only[nV,nW] at hc)<;>try omega) | (refine Tr.all_req ?_ ?_;· (try simp (disch:=omega) only[nV,nW]);try omega) | (refine Tr.all_reqP ?_ ?_;· first | exact trivial | rfl | exact ⟨rfl,rfl⟩ | exact ⟨rfl,rfl,rfl⟩ | (simp (disch:=omega) only[nV,nW];done) | ((try simp (disch:=omega) only[nV,nW]);omega)) | fail
  all_goals first
   | exact Tr.all_ok rfl
   | fail)
 exact y1
theorem e66o (B:List Int) (k:Nat) (hB:B.length=k+1) (hk:k<1000) (h:chkO l z=0) (hnx:nxS z (doB z B) l=(0,false)):exec (cxD (n+5) 66 41) (part Tryz.f66 [1,1,0,0]) (fr66 l z (.slc 0 0 k 0 1 (k+1) none)) (lvO k (k+1) (lstO B)::H)=some (.ret,[(2,.slc 0 0 k 0 1 (k+1) none)],lvO k (k+1) (lstO B)::H):=by
 have hx:=l66io n l (k+1) z (lstO B) H k h (by omega)
 rw[← hB,show nxS z (dnN z (lstO B) B.length) l=(0,false) from hnx,hB] at hx
 obtain ⟨x,y1,rfl⟩:=ex_all (Q:=fun x=>x=(.ret,[(2,.slc 0 0 k 0 1 (k+1) none)],lvO k (k+1) (lstO B)::H)) (t66o (n+5) l (k+1) k z (lstO B) H false 0) (il_no0 _) (blkE_ok (noBT_ok _ _) b66i (fun x h1=>by rw[← Tr.ok_some h1];simp only[Res.st,hints_eq];exact hx)) (noRT_ok _ _) (by
  repeat' first | (refine Tr.all_ite (fun hc=>?_) (fun hc=>?_)<;>(try simp (disch:=omega) only[nV,nW] at hc)<;>try omega) | (refine Tr.all_req ?_ ?_;· (try simp (disch:=omega) only[nV,nW]);try omega) | (refine Tr.all_reqP ?_ ?_;· first | exact trivial | rfl | exact ⟨rfl,rfl⟩ | exact ⟨rfl,rfl,rfl⟩ | (simp (disch:=omega) only[nV,nW];done) | ((try simp (disch:=omega) only[nV,nW]);omega)) | fail
  all_goals first
   | exact Tr.all_ok rfl
   | fail)
 exact y1
theorem r66n (q:Int) (h:chkO l z=0) (hnx:nxS z (doB z []) l=(q,true)):∃ x,exec (cxD (n+5) 66 41) (part Tryz.f66 [1,1,0,0]) (fr66 l z .nils) (lvE::H)=some x∧x.1=.normal∧tidy 0 x.2.1 x.2.2=(fr66 l z (.slc 0 0 0 0 1 1 none),lvO 0 1 (lstO [q])::H):=by
 have hx:=l66in n l 0 z H (doB z []) (nd_nil z) h (by omega)
 rw[hnx] at hx
 refine ex_all (t66n (n+5) l z H true q) (il_no0 _) (blkE_ok (noBT_ok _ _) b66i (fun x h1=>by rw[← Tr.ok_some h1];simp only[Res.st,hints_eq];exact hx)) (noRT_ok _ _) ?_
 repeat' first | (refine Tr.all_ite (fun hc=>?_) (fun hc=>?_)<;>(try simp (disch:=omega) only[nV,nW] at hc)<;>try omega) | (refine Tr.all_req ?_ ?_;· (try simp (disch:=omega) only[nV,nW]);try omega) | (refine Tr.all_reqP ?_ ?_;· first | exact trivial | rfl | exact ⟨rfl,rfl⟩ | exact ⟨rfl,rfl,rfl⟩ | (simp (disch:=omega) only[nV,nW];done) | ((try simp (disch:=omega) only[nV,nW]);omega)) | fail
 all_goals first
  | exact Tr.all_ok ⟨rfl,by kernel_rfl⟩
  | fail
theorem r66o (q:Int) (B:List Int) (k:Nat) (hB:B.length=k+1) (hk:k<1000) (h:chkO l z=0) (hnx:nxS z (doB z B) l=(q,true)):∃ x,exec (cxD (n+5) 66 41) (part Tryz.f66 [1,1,0,0]) (fr66 l z (.slc 0 0 k 0 1 (k+1) none)) (lvO k (k+1) (lstO B)::H)=some x∧x.1=.normal∧tidy 0 x.2.1 x.2.2=(fr66 l z (.slc 0 0 (k+1) 0 1 (k+2) none),lvO (k+1) (k+2) (lstO (B++[q]))::H):=by
 have hx:=l66io n l (k+1) z (lstO B) H k h (by omega)
 rw[← hB,show nxS z (dnN z (lstO B) B.length) l=(q,true) from hnx,hB] at hx
 have a1:=lst_app B q
 rw[hB] at a1
 have a2:addO (k+1) 1=k+2:=by rw[addO_eq]
 refine ex_all (t66o (n+5) l (k+1) k z (lstO B) H true q) (il_no0 _) (blkE_ok (noBT_ok _ _) b66i (fun x h1=>by rw[← Tr.ok_some h1];simp only[Res.st,hints_eq];exact hx)) (noRT_ok _ _) ?_
 rw[a1,a2]
 repeat' first | (refine Tr.all_ite (fun hc=>?_) (fun hc=>?_)<;>(try simp (disch:=omega) only[nV,nW] at hc)<;>try omega) | (refine Tr.all_req ?_ ?_;· (try simp (disch:=omega) only[nV,nW]);try omega) | (refine Tr.all_reqP ?_ ?_;· first | exact trivial | rfl | exact ⟨rfl,rfl⟩ | exact ⟨rfl,rfl,rfl⟩ | (simp (disch:=omega) only[nV,nW];done) | ((try simp (disch:=omega) only[nV,nW]);omega)) | fail
 all_goals first
  | exact Tr.all_ok ⟨rfl,by kernel_rfl⟩
  | fail
theorem l66 (h:chkO l z=0) (hb:∀ i,i<l→bLo z i≤bHi z i):∃ y,exec (cxD (n+5) 66 41) (.block 0 (.loop (part Tryz.f66 [1,1,0,0]))) (fr66 l z .nils) (lvE::H)=some (.ret,y)∧y=([(2,dW ((fwP z (dl (ndM z []) l)).map (·.1)))],dLw ((fwP z (dl (ndM z []) l)).map (·.1))::H):=by
 obtain ⟨hl,_⟩:=chk_odd h
 have hN:(dl (ndM z []) l).length=l:=dl_all (fun i _=>by unfold ndM;rw[nd_nil];rfl)
 have hL0:fwP z (dl (ndM z []) l)=bsS z l (dl (ndM z []) l):=by unfold fwP;rw[hN]
 rw[hL0]
 refine loopR 0 (fun j fr Hx=>∃ S:List (Int×Int),S.length=j∧j≤l∧S++bsS z (l-j) (dl (ndM z (S.map (·.1))) l)=bsS z l (dl (ndM z []) l)∧(dl (ndM z (S.map (·.1))) l).length≤l-j∧fr=fr66 l z (dW (S.map (·.1)))∧Hx=dLw (S.map (·.1))::H) _ l (by omega) ⟨[],rfl,by omega,rfl,by show (dl (ndM z []) l).length≤_;omega,rfl,rfl⟩ ?_
 rintro j fr Hx ⟨S,h1,h2,h3,h4,rfl,rfl⟩
 have hnx:=nx_dl z (S.map (·.1)) l
 generalize hL:dl (ndM z (S.map (·.1))) l=L' at *
 cases L' with
 | nil =>
   have e3:bsS z l (dl (ndM z []) l)=S:=by
    rw[← h3]
    cases l-j<;>simp[bsS]
   rw[e3]
   cases S with
   | nil =>
     exact ⟨_,e66n n l z H h hnx,.inr ⟨rfl,rfl⟩⟩
   | cons a r =>
     have er:(r.map (·.1)).length=r.length:=by simp
     have hx:=e66o n l z H ((a::r).map (·.1)) (r.map (·.1)).length (by simp) (by simp at h1 ⊢;omega) h hnx
     exact ⟨(.ret,[(2,dW ((a::r).map (fun x:Int×Int=>x.1)))],dLw ((a::r).map (fun x:Int×Int=>x.1))::H),hx,.inr ⟨rfl,rfl⟩⟩
 | cons a0 r0 =>
   have hm:∀ x ∈ a0::r0,okE l z x:=fun x hx=>by
    rw[← hL] at hx
    obtain ⟨i,rfl,h5,_⟩:=(dl_mem _ _ _).1 hx
    exact ⟨by omega,by omega,by rw[Int.toNat_natCast];exact hb i h5⟩
   simp only[List.length_cons] at h4
   obtain ⟨i0,hi1,hi2⟩:=lsZ_in z (lstO (a0::r0)) r0.length
   have hP:pB z (bHi z (lsZ z (lstO (a0::r0)) r0.length).toNat) (lstO (a0::r0) i0)=true:=by
    have:=hm _ (lst_get (a0::r0) i0 (by simp;omega))
    unfold pB dnB
    rw[hi2]
    simp only[Bool.and_eq_true,decide_eq_true_eq]
    exact ⟨this.2.2,Int.le_refl _⟩
   have hlt:=kp_lt _ (lstO (a0::r0)) (r0.length+1) i0 (by omega) hP
   have eS:S++[(bHi z (lsZ z (lstO (a0::r0)) r0.length).toNat,lsZ z (lstO (a0::r0)) r0.length)]++bsS z (l-(j+1)) (kpt (pB z (bHi z (lsZ z (lstO (a0::r0)) r0.length).toNat)) (lstO (a0::r0)) (r0.length+1))=bsS z l (dl (ndM z []) l):=by
    rw[← h3,List.append_assoc]
    congr 1
    rw[show l-j=(l-(j+1))+1 by omega]
    rfl
   have ek:=nd_app z (S.map (·.1)) (bHi z (lsZ z (lstO (a0::r0)) r0.length).toNat) l
   rw[hL] at ek
   simp only[List.length_cons] at ek
   have em:(S++[(bHi z (lsZ z (lstO (a0::r0)) r0.length).toNat,lsZ z (lstO (a0::r0)) r0.length)]).map (·.1)=S.map (·.1)++[bHi z (lsZ z (lstO (a0::r0)) r0.length).toNat]:=by simp
   rw[ek] at hlt eS
   have R:∃ x,exec (cxD (n+5) 66 41) (part Tryz.f66 [1,1,0,0]) (fr66 l z (dW (S.map (·.1)))) (dLw (S.map (·.1))::H)=some x∧x.1=.normal∧tidy 0 x.2.1 x.2.2=(fr66 l z (dW (S.map (·.1)++[bHi z (lsZ z (lstO (a0::r0)) r0.length).toNat])),dLw (S.map (·.1)++[bHi z (lsZ z (lstO (a0::r0)) r0.length).toNat])::H):=by
    have hnx:nxS z (doB z (S.map (·.1))) l=(bHi z (lsZ z (lstO (a0::r0)) r0.length).toNat,true):=hnx
    generalize bHi z (lsZ z (lstO (a0::r0)) r0.length).toNat=q at *
    cases S with
    | nil=>exact r66n n l z H q h hnx
    | cons a r =>
      have hx:=r66o n l z H q ((a::r).map (·.1)) (r.map (·.1)).length (by simp) (by simp at h1 ⊢;omega) h hnx
      have ea:(r.map (·.1)++[q]).length=(r.map (·.1)).length+1:=by simp
      show ∃ x,exec _ _ (fr66 l z (.slc 0 0 (r.map (·.1)).length 0 1 ((r.map (·.1)).length+1) none)) ((⟨false,[((r.map (·.1)).length,.row (.M [.arr .i64 (lstO ((a::r).map (·.1))) ((r.map (·.1)).length+1)]))]⟩:Lvl)::H)=some x∧x.1=.normal∧tidy 0 x.2.1 x.2.2=(fr66 l z (.slc 0 0 (r.map (·.1)++[q]).length 0 1 ((r.map (·.1)++[q]).length+1) none),(⟨false,[((r.map (·.1)++[q]).length,.row (.M [.arr .i64 (lstO ((a::r).map (·.1)++[q])) ((r.map (·.1)++[q]).length+1)]))]⟩:Lvl)::H)
      rw[ea]
      exact hx
   obtain ⟨x,y1,y2,y3⟩:=R
   refine ⟨x,y1,.inl ⟨y2,by omega,_,?_,by omega,by rw[em];exact eS,by rw[em];omega,?_,?_⟩⟩
   · rw[List.length_append,h1];rfl
   · have:hNext (lvE::H)=0:=rfl
     rw[this,y3,em]
   · have:hNext (lvE::H)=0:=rfl
     rw[this,y3,em]
theorem c66 (h:chkO l z=0) (hb:∀ i,i<l→bLo z i≤bHi z i):cd (n+6) (.fn 66) [slA 5 l z] H=some (dA ((fwP z (dl (ndM z []) l)).map (·.1)),H):=by
 obtain ⟨y,h1,rfl⟩:=l66 n l z H h hb
 generalize (fwP z (dl (ndM z []) l)).map (·.1)=B at *
 cases B with
 | nil =>
   refine fn_all (n:=n+5) Tryz.func66 rfl rfl rfl (u66n (n+5) l z H) (il_no0 _) (blkE_ok (noBT_ok _ _) b66 (fun x h=>by rw[← Tr.ok_some h];simp only[Res.st,hints_eq];exact h1)) (noRT_ok _ _) ?_
   repeat' first | (refine Tr.all_ite (fun hc=>?_) (fun hc=>?_)<;>(try simp (disch:=omega) only[nV,nW] at hc)<;>try omega) | (refine Tr.all_req ?_ ?_;· (try simp (disch:=omega) only[nV,nW]);try omega) | (refine Tr.all_reqP ?_ ?_;· first | exact trivial | rfl | exact ⟨rfl,rfl⟩ | exact ⟨rfl,rfl,rfl⟩ | (simp (disch:=omega) only[nV,nW];done) | ((try simp (disch:=omega) only[nV,nW]);omega)) | fail
   all_goals first
    | exact Tr.all_ok ⟨rfl,rfl⟩
    | fail
 | cons a r =>
   refine fn_all (n:=n+5) Tryz.func66 rfl rfl rfl (u66o (n+5) l (r.length+1) r.length z (lstO (a::r)) H) (il_no0 _) (blkE_ok (noBT_ok _ _) b66 (fun x h=>by rw[← Tr.ok_some h];simp only[Res.st,hints_eq];exact h1)) (noRT_ok _ _) ?_
   rw[shO_zero]
   repeat' first | (refine Tr.all_ite (fun hc=>?_) (fun hc=>?_)<;>(try simp (disch:=omega) only[nV,nW] at hc)<;>try omega) | (refine Tr.all_req ?_ ?_;· (try simp (disch:=omega) only[nV,nW]);try omega) | (refine Tr.all_reqP ?_ ?_;· first | exact trivial | rfl | exact ⟨rfl,rfl⟩ | exact ⟨rfl,rfl,rfl⟩ | (simp (disch:=omega) only[nV,nW];done) | ((try simp (disch:=omega) only[nV,nW]);omega)) | fail
   all_goals first
    | exact Tr.all_ok ⟨rfl,rfl⟩
    | fail
end
end Go.Eng
end
