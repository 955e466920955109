/- Bath: the element of a list with the least number (least, with the closure of best). -/
import Derived.Test.YtigmfpmabgekoaaGreatV7Ba3x9
namespace Go.Eng
open Go.Proofs
set_option linter.unusedVariables false
set_option linter.unusedSimpArgs false
set_option maxRecDepth 100000
noncomputable def bx63 (l:Nat) (y:Nat→Int):Nat×Blk:=(0,.row (.G [.ptrT (some 1) (.G [slA 7 l y]) 0]))
noncomputable def fr85 (m:Nat) (z:Nat→Int) (i j:Int):Frm:=[(1,.fn (.func 86) [] [.ptr 1 0 0 0]),(5,.int .i64 i),(12,.slcT none (.M [.arr .i64 (shO z 1) (subO m 1)]) 1 (subO m 1) false),(13,.int .i64 (Int.ofNat (subO m 1))),(14,.int .i64 j)]
theorem t85 (n l:Nat) (y z:Nat→Int) (m:Nat) (bs:List (Nat×Blk)) (H:Heap) (i j:Int):execT (cxD (n+1) 85 28) (il noCt n 1) noBT noRT (part Tryz.f85 [1,1,0,1,0,0]) (hints (fr85 m z i j)) (lvE::⟨false,bx63 l y::bs⟩::H) =
 (fun (Z0:Lvl)=>((fun (Z1:Nat×AV×Option Nat)=>Tr.ite (ltI j (Int.ofNat (subO m 1))) (Tr.req (inI j (subO m 1)) (Tr.req (ltN (idO 0 j 1) (subO m 1)) (Tr.req (inI (shO z 1 (idO 0 j 1)) l) (Tr.req (ltN (addO (addO (idO 0 (shO z 1 (idO 0 j 1)) 7) 5) 1) (mulO l 7)) (Tr.req (inI i l) (Tr.req (ltN (addO (addO (idO 0 i 7) 5) 1) (mulO l 7)) (Tr.ite (ltI (y (addO (addO (idO 0 (shO z 1 (idO 0 j 1)) 7) 5) 1)) (y (addO (addO (idO 0 i 7) 5) 1))) (Tr.ok (Ex.normal,[(1,AV.fn (Fn.func 86) [] [AV.ptr 1 0 0 0],none),(5,AV.int .i64 (shO z 1 (idO 0 j 1)),none),Z1,(13,AV.int .i64 (Int.ofNat (subO m 1)),none),(14,AV.int .i64 (addI .i64 j (Int.ofNat 1)),none)],lvE::Z0::H)) (Tr.ok (Ex.normal,[(1,AV.fn (Fn.func 86) [] [AV.ptr 1 0 0 0],none),(5,AV.int .i64 i,none),Z1,(13,AV.int .i64 (Int.ofNat (subO m 1)),none),(14,AV.int .i64 (addI .i64 j (Int.ofNat 1)),none)],lvE::Z0::H))))))))) (Tr.ok (Ex.exit 0,[(1,AV.fn (Fn.func 86) [] [AV.ptr 1 0 0 0],none),(5,AV.int .i64 i,none),Z1,(13,AV.int .i64 (Int.ofNat (subO m 1)),none),(14,AV.int .i64 j,none),(15,AV.bool false,some 1)],lvE::Z0::H))) (12,AV.slcT none (Row.M [Seg.arr .i64 (shO z 1) (subO m 1)]) 1 (subO m 1) false,none))) { lock:=false,bs:=(0,Blk.row (Row.G [AV.ptrT (some 1) (Row.G [slA 7 l y]) 0]))::bs }:=by kernel_rfl
theorem u85 (n l:Nat) (y z:Nat→Int) (m:Nat) (bs:List (Nat×Blk)) (H:Heap) (i:Int):bodyT Tryz.prog (cd (n+1)) 100000 85 Tryz.f85 (KtB.kt 85) (il noCt n 1) (blkE noBT 0 (fr85 m z (z 0) 0) (lvE::⟨false,bx63 l y::bs⟩::H) (.ok (.normal,hints (fr85 m z i (Int.ofNat (subO m 1))++[(15,.bool false)]),lvE::⟨false,bx63 l y::bs⟩::H))) noRT [(sl1 m z false,none),(.fn (.func 86) [] [.ptr 0 0 0 0],none)] (⟨false,bx63 l y::bs⟩::H) =
 (fun (Z0:Lvl)=>Tr.req (inI (Int.ofNat 0) m) (Tr.req (ltN 0 m) (Tr.req (bndI (Int.ofNat 1) m) (Tr.req (leN (addO (toN (Int.ofNat 1)) (subO m (toN (Int.ofNat 1)))) m) (Tr.reqP ([(1,AV.fn (Fn.func 86) [] [AV.ptr 1 0 0 0]),(5,AV.int .i64 (z 0)),(12,AV.slcT none (Row.M [Seg.arr .i64 (shO z (toN (Int.ofNat 1))) (subO m (toN (Int.ofNat 1)))]) 1 (subO m (toN (Int.ofNat 1))) false),(13,AV.int .i64 (Int.ofNat (subO m (toN (Int.ofNat 1))))),(14,AV.int .i64 (Int.ofNat 0))]=[(1,AV.fn (Fn.func 86) [] [AV.ptr 1 0 0 0]),(5,AV.int .i64 (z 0)),(12,AV.slcT none (Row.M [Seg.arr .i64 (shO z 1) (subO m 1)]) 1 (subO m 1) false),(13,AV.int .i64 (Int.ofNat (subO m 1))),(14,AV.int .i64 (Int.ofNat 0))]∧lvE::Z0::H=lvE::Z0::H) (Tr.ok ((AV.int .i64 i,none),Z0::H))))))) { lock:=false,bs:=(0,Blk.row (Row.G [AV.ptrT (some 1) (Row.G [slA 7 l y]) 0]))::bs }:=by kernel_rfl
def lsZ (z g:Nat→Int):Nat→Int
 | 0=>g 0
 | k+1=>if bHi z (g (k+1)).toNat<bHi z (lsZ z g k).toNat then g (k+1) else lsZ z g k
theorem lsZ_in (z g:Nat→Int) (k:Nat):∃ j,j≤k∧lsZ z g k=g j:=by
 induction k with
 | zero=>exact ⟨0,by omega,rfl⟩
 | succ k ih =>
   obtain ⟨j,h1,h2⟩:=ih
   unfold lsZ
   split
   · exact ⟨k+1,by omega,rfl⟩
   · exact ⟨j,by omega,h2⟩
theorem b85:∀ b,(0,b) ∈ blocksOf (bodyOf Tryz.f85)→b=.loop (part Tryz.f85 [1,1,0,1,0,0]):=by
 have:((blocksOf (bodyOf Tryz.f85)).filter fun x=>Nat.beq x.1 0)=[(0,.loop (part Tryz.f85 [1,1,0,1,0,0]))]:=by kernel_rfl
 intro b hb
 have hm:(0,b) ∈ ((blocksOf (bodyOf Tryz.f85)).filter fun x=>Nat.beq x.1 0):=List.mem_filter.2 ⟨hb,rfl⟩
 rw[this] at hm;simpa using hm
section
variable (n:Nat) (l:Nat) (z g:Nat→Int) (m:Nat) (bs:List (Nat×Blk)) (H:Heap)
theorem oY_hi (i:Int) (hl:l≤14) (h:0≤i∧i<l):oY z l (idO 0 i 7+5+1)=bHi z i.toNat:=by
 rw[idO_eq,show 0+i.toNat*7+5+1=i.toNat*7+6 by omega]
 exact oY_at z (by omega) (by omega)
theorem l85 (hl:l≤14) (h1:m<1000) (hg:∀ j,j<m+1→0≤g j∧g j<l):exec (cxD (n+1) 85 28) (.block 0 (.loop (part Tryz.f85 [1,1,0,1,0,0]))) (fr85 (m+1) g (g 0) 0) (lvE::⟨false,bx63 l (oY z l)::bs⟩::H)=some (.normal,fr85 (m+1) g (lsZ z g m) (Int.ofNat (subO (m+1) 1))++[(15,.bool false)],lvE::⟨false,bx63 l (oY z l)::bs⟩::H):=by
 have e1:subO (m+1) 1=m:=by rw[subO_eq];omega
 have:=forX (n:=n+1) (f:=85) (nt:=28) (c:=part Tryz.f85 [1,1,0,1,0,0]) 0 (fun j=>fr85 (m+1) g (lsZ z g j) (j:Int)) (fun _=>lvE::⟨false,bx63 l (oY z l)::bs⟩::H) m (fr85 (m+1) g (lsZ z g m) (Int.ofNat (subO (m+1) 1))++[(15,.bool false)],lvE::⟨false,bx63 l (oY z l)::bs⟩::H) (by omega) (fun j hj=>?_) ?_
 · exact this
 · have ej:addI .i64 (j:Int) (Int.ofNat 1)=((j+1:Nat):Int):=by rw[addI_eq,show Int.ofNat 1=1 from rfl];exact wr_64 (by omega) (by omega)
   have ei:shO g 1 (idO 0 (j:Int) 1)=g (j+1):=by rw[idO_eq,shO_eq];simp only[];congr 1;omega
   have eb:idO 0 (j:Int) 1=j:=by rw[idO_eq];omega
   obtain ⟨k,hk,hq⟩:=lsZ_in z g j
   have g1:=hg (j+1) (by omega)
   have g2:=hg k (by omega)
   rw[← hq] at g2
   have o1:=oY_hi l z (g (j+1)) hl g1
   have o2:=oY_hi l z (lsZ z g j) hl g2
   have hs:lsZ z g (j+1)=if bHi z (g (j+1)).toNat<bHi z (lsZ z g j).toNat then g (j+1) else lsZ z g j:=rfl
   have i1:idO 0 (g (j+1)) 7=(g (j+1)).toNat*7:=by rw[idO_eq];omega
   have i2:idO 0 (lsZ z g j) 7=(lsZ z g j).toNat*7:=by rw[idO_eq];omega
   refine ex_all (t85 n l (oY z l) g (m+1) bs H (lsZ z g j) (j:Int)) (il_no n 1) (noBT_ok _ _) (noRT_ok _ _) ?_
   simp only[ei]
   simp only[addO_eq]
   rw[o1,o2,ej,i1,i2,eb]
   rw[hs]
   clear hs o1 o2 i1 i2 ei hq
   generalize bHi z (g (j+1)).toNat=A at *
   generalize bHi z (lsZ z g j).toNat=B at *
   generalize g (j+1)=G at *
   generalize lsZ z g j=L at *
   by_cases hab:A<B
   · rw[if_pos hab]
     repeat' first | (refine Tr.all_ite (fun hc=>?_) (fun hc=>?_)<;>(try simp (disch:=omega) only[nV,nW,e1] at hc)<;>try omega) | (refine Tr.all_req ?_ ?_;· (try simp (disch:=omega) only[nV,nW,e1]);try omega) | (refine Tr.all_reqP ?_ ?_;· first | exact trivial | rfl | exact ⟨rfl,rfl⟩ | exact ⟨rfl,rfl,rfl⟩ | (simp (disch:=omega) only[nV,nW,e1];done) | ((try simp (disch:=omega) only[nV,nW,e1]);omega)) | fail
     all_goals first
      | exact Tr.all_ok ⟨rfl,rfl⟩
      | fail
   · rw[if_neg hab]
     repeat' first | (refine Tr.all_ite (fun hc=>?_) (fun hc=>?_)<;>(try simp (disch:=omega) only[nV,nW,e1] at hc)<;>try omega) | (refine Tr.all_req ?_ ?_;· (try simp (disch:=omega) only[nV,nW,e1]);try omega) | (refine Tr.all_reqP ?_ ?_;· first | exact trivial | rfl | exact ⟨rfl,rfl⟩ | exact ⟨rfl,rfl,rfl⟩ | (simp (disch:=omega) only[nV,nW,e1];done) | ((try simp (disch:=omega) only[nV,nW,e1]);omega)) | fail
     all_goals first
      | exact Tr.all_ok ⟨rfl,rfl⟩
      | fail
 · have em:((m:Nat):Int)=Int.ofNat (subO (m+1) 1):=by rw[e1];rfl
   show exec _ _ (fr85 (m+1) g (lsZ z g m) (m:Int)) _=_
   rw[em]
   obtain ⟨x,h1,rfl⟩:=ex_all (Q:=fun x=>x=(.exit 0,fr85 (m+1) g (lsZ z g m) (Int.ofNat (subO (m+1) 1))++[(15,.bool false)],lvE::⟨false,bx63 l (oY z l)::bs⟩::H)) (t85 n l (oY z l) g (m+1) bs H (lsZ z g m) (Int.ofNat (subO (m+1) 1))) (il_no n 1) (noBT_ok _ _) (noRT_ok _ _) (by
    repeat' first | (refine Tr.all_ite (fun hc=>?_) (fun hc=>?_)<;>(try simp (disch:=omega) only[nV,nW] at hc)<;>try omega) | (refine Tr.all_req ?_ ?_;· (try simp (disch:=omega) only[nV,nW]);try omega) | (refine Tr.all_reqP ?_ ?_;· first | exact trivial | rfl | exact ⟨rfl,rfl⟩ | exact ⟨rfl,rfl,rfl⟩ | (simp (disch:=omega) only[nV,nW];done) | ((try simp (disch:=omega) only[nV,nW]);omega)) | fail
    all_goals exact Tr.all_ok rfl)
   exact h1
theorem c85 (hl:l≤14) (h1:m<1000) (hg:∀ j,j<m+1→0≤g j∧g j<l):cd (n+2) (.fn 85) [sl1 (m+1) g false,.fn (.func 86) [] [.ptr 0 0 0 0]] (⟨false,bx63 l (oY z l)::bs⟩::H)=some (.int .i64 (lsZ z g m),⟨false,bx63 l (oY z l)::bs⟩::H):=by
 refine fn_all (n:=n+1) Tryz.func85 rfl rfl rfl (u85 n l (oY z l) g (m+1) bs H (lsZ z g m)) (il_no n 1) (blkE_ok (noBT_ok _ _) b85 (fun x hx=>by rw[← Tr.ok_some hx];simp only[Res.st,hints_eq];exact l85 n l z g m bs H hl h1 hg)) (noRT_ok _ _) ?_
 rw[show toN (Int.ofNat 1)=1 from toN_eq _]
 have e1:subO (m+1) 1=m:=by rw[subO_eq];omega
 repeat' first | (refine Tr.all_ite (fun hc=>?_) (fun hc=>?_)<;>(try simp (disch:=omega) only[nV,nW,e1] at hc)<;>try omega) | (refine Tr.all_req ?_ ?_;· (try simp (disch:=omega) only[nV,nW,e1]);try omega) | (refine Tr.all_reqP ?_ ?_;· first | exact trivial | rfl | exact ⟨rfl,rfl⟩ | exact ⟨rfl,rfl,rfl⟩ | (simp (disch:=omega) only[nV,nW,e1];done) | ((try simp (disch:=omega) only[nV,nW,e1]);omega)) | fail
 all_goals first
  | exact Tr.all_ok ⟨rfl,rfl⟩
  | fail
end
end Go.Eng
