/- Bath: the book of orders. -/
import Derived.Test.YtigmfpmabgekoaaGreatV7BaSox5
section
namespace Go.Eng
open Go.Proofs
set_option linter.unusedVariables false
set_option linter.unusedSimpArgs false
set_option maxRecDepth 100000
noncomputable def fr82 (l:Nat) (z:Nat→Int) (j:Int):Frm:=[(3,.ptr 0 0 0 0),(8,slA 5 l z),(9,.int .i64 (Int.ofNat l)),(10,.int .i64 j)]
theorem t82a (n:Nat) (l:Nat) (z:Nat→Int) (H:Heap):execT (cxD n 82 42) (il noCt n 0) noBT noRT (part Tryz.f82 [1,1,0,1,0,0]) (hints (fr82 l z 0)) (⟨false,[(0,.row (.G [.nils]))]⟩::H) =
 Tr.ite (ltI (Int.ofNat 0) (Int.ofNat l)) (Tr.req (inI (Int.ofNat 0) l) (Tr.req (ltN (idO 0 (Int.ofNat 0) 5) (mulO l 5)) (Tr.req (ltN (addO (idO 0 (Int.ofNat 0) 5) 1) (mulO l 5)) (Tr.req (ltN (addO (idO 0 (Int.ofNat 0) 5) 2) (mulO l 5)) (Tr.req (ltN (addO (idO 0 (Int.ofNat 0) 5) 3) (mulO l 5)) (Tr.req (ltN (addO (idO 0 (Int.ofNat 0) 5) 4) (mulO l 5)) (Tr.req (roomO 0 1 56) (Tr.req (eqN 0 0) (Tr.req (leN 1 1) (Tr.req (andB (leN 0 0) (leN 0 1)) (Tr.ok (Ex.normal,[(3,AV.ptr 0 0 0 0,none),(8,slA 5 l z,none),(9,AV.int .i64 (Int.ofNat l),none),(10,AV.int .i64 (addI .i64 (Int.ofNat 0) (Int.ofNat 1)),none)],{ lock:=false,bs:=[(0,Blk.row (Row.G [AV.slc 0 3 0 0 7 1 none])),(0,Blk.row (Row.I .i64 [z (idO 0 (Int.ofNat 0) 5),z (addO (idO 0 (Int.ofNat 0) 5) 1),z (addO (idO 0 (Int.ofNat 0) 5) 2),z (addO (idO 0 (Int.ofNat 0) 5) 3),z (addO (idO 0 (Int.ofNat 0) 5) 4)])),(0,Blk.row (Row.I .i64 [z (idO 0 (Int.ofNat 0) 5),z (addO (idO 0 (Int.ofNat 0) 5) 1),z (addO (idO 0 (Int.ofNat 0) 5) 2),z (addO (idO 0 (Int.ofNat 0) 5) 3),z (addO (idO 0 (Int.ofNat 0) 5) 4),subI .i64 (z (addO (idO 0 (Int.ofNat 0) 5) 1)) (z (addO (idO 0 (Int.ofNat 0) 5) 3)),subI .i64 (z (idO 0 (Int.ofNat 0) 5)) (z (addO (idO 0 (Int.ofNat 0) 5) 2))])),(0,Blk.row (Row.M [Seg.arr .i64 (lstO [z (idO 0 (Int.ofNat 0) 5),z (addO (idO 0 (Int.ofNat 0) 5) 1),z (addO (idO 0 (Int.ofNat 0) 5) 2),z (addO (idO 0 (Int.ofNat 0) 5) 3),z (addO (idO 0 (Int.ofNat 0) 5) 4),subI .i64 (z (addO (idO 0 (Int.ofNat 0) 5) 1)) (z (addO (idO 0 (Int.ofNat 0) 5) 3)),subI .i64 (z (idO 0 (Int.ofNat 0) 5)) (z (addO (idO 0 (Int.ofNat 0) 5) 2))]) 7]))] } :: H)))))))))))) (Tr.ok (Ex.exit 0,[(3,AV.ptr 0 0 0 0,none),(8,slA 5 l z,none),(9,AV.int .i64 (Int.ofNat l),none),(10,AV.int .i64 (Int.ofNat 0),none),(11,AV.bool false,some 1)],{ lock:=false,bs:=[(0,Blk.row (Row.G [AV.nils]))] } :: H)):=by kernel_rfl
theorem t82b (n:Nat) (l:Nat) (z y:Nat→Int) (H:Heap) (j:Int) (v m:Nat):execT (cxD n 82 42) (il noCt n 0) noBT noRT (part Tryz.f82 [1,1,0,1,0,0]) (hints (fr82 l z j)) (⟨false,[(0,.row (.G [.slc 0 1 v 0 7 m none])),(v,.row (.M [.arr .i64 y (mulO m 7)]))]⟩::H) =
 Tr.ite (ltI j (Int.ofNat l)) (Tr.req (inI j l) (Tr.req (ltN (idO 0 j 5) (mulO l 5)) (Tr.req (ltN (addO (idO 0 j 5) 1) (mulO l 5)) (Tr.req (ltN (addO (idO 0 j 5) 2) (mulO l 5)) (Tr.req (ltN (addO (idO 0 j 5) 3) (mulO l 5)) (Tr.req (ltN (addO (idO 0 j 5) 4) (mulO l 5)) (Tr.req (roomO m 1 56) (Tr.req (eqN 0 0) (Tr.req (leN 1 1) (Tr.req (eqN v v) (Tr.req (eqN (addO 0 (mulO m 7)) (mulO m 7)) (Tr.req (andB (leN v (Nat.succ v)) (leN (Nat.succ v) (Nat.succ v))) (Tr.req (andB (leN 0 0) (leN 0 1)) (Tr.ok (Ex.normal,[(3,AV.ptr 0 0 0 0,none),(8,slA 5 l z,none),(9,AV.int .i64 (Int.ofNat l),none),(10,AV.int .i64 (addI .i64 j (Int.ofNat 1)),none)],{ lock:=false,bs:=[(0,Blk.row (Row.G [AV.slc 0 1 (Nat.succ v) 0 7 (addO m 1) none])),(Nat.succ v,Blk.row (Row.M [Seg.arr .i64 (appO (shO y 0) (mulO m 7) (lstO [z (idO 0 j 5),z (addO (idO 0 j 5) 1),z (addO (idO 0 j 5) 2),z (addO (idO 0 j 5) 3),z (addO (idO 0 j 5) 4),subI .i64 (z (addO (idO 0 j 5) 1)) (z (addO (idO 0 j 5) 3)),subI .i64 (z (idO 0 j 5)) (z (addO (idO 0 j 5) 2))])) (addO (mulO m 7) 7)])),(0,Blk.row (Row.I .i64 [z (idO 0 j 5),z (addO (idO 0 j 5) 1),z (addO (idO 0 j 5) 2),z (addO (idO 0 j 5) 3),z (addO (idO 0 j 5) 4)])),(0,Blk.row (Row.I .i64 [z (idO 0 j 5),z (addO (idO 0 j 5) 1),z (addO (idO 0 j 5) 2),z (addO (idO 0 j 5) 3),z (addO (idO 0 j 5) 4),subI .i64 (z (addO (idO 0 j 5) 1)) (z (addO (idO 0 j 5) 3)),subI .i64 (z (idO 0 j 5)) (z (addO (idO 0 j 5) 2))])),(0,Blk.dead)] } :: H))))))))))))))) (Tr.ok (Ex.exit 0,[(3,AV.ptr 0 0 0 0,none),(8,slA 5 l z,none),(9,AV.int .i64 (Int.ofNat l),none),(10,AV.int .i64 j,none),(11,AV.bool false,some 1)],{ lock:=false,bs:=[(0,Blk.row (Row.G [AV.slc 0 1 v 0 7 m none])),(v,Blk.row (Row.M [Seg.arr .i64 y (mulO m 7)]))] } :: H)):=by kernel_rfl
theorem u82 (n:Nat) (l:Nat) (z y:Nat→Int) (H:Heap) (v m:Nat):bodyT Tryz.prog (cd n) 100000 82 Tryz.f82 (KtB.kt 82) (il noCt n 0) (blkE noBT 0 (fr82 l z 0) (⟨false,[(0,.row (.G [.nils]))]⟩::H) (.ok (.normal,hints (fr82 l z (Int.ofNat l)++[(11,.bool false)]),⟨false,[(0,.row (.G [.slc 0 1 v 0 7 m none])),(v,.row (.M [.arr .i64 y (mulO m 7)]))]⟩::H))) noRT [(slA 5 l z,none)] H =
 (fun (Z0:Frm)=>Tr.reqP (Z0=Z0∧{ lock:=false,bs:=[(0,Blk.row (Row.G [AV.nils]))] } :: H={ lock:=false,bs:=[(0,Blk.row (Row.G [AV.nils]))] } :: H) (Tr.req (eqN v v) (Tr.req (inO 0 (mulO m 7) 0 (mulO m 7)) (Tr.ok ((AV.ptrT (some 0) (Row.G [AV.slcT none (Row.M [Seg.arr .i64 (shO y 0) (mulO m 7)]) 7 m false]) 0,none),H))))) [(3,AV.ptr 0 0 0 0),(8,slA 5 l z),(9,AV.int .i64 (Int.ofNat l)),(10,AV.int .i64 (Int.ofNat 0))]:=by kernel_rfl
def oZ (z:Nat→Int) (i:Nat):Int:=if i % 7<5 then z (i / 7*5+i % 7) else if i % 7=5 then bLo z (i / 7) else bHi z (i / 7)
def oY (z:Nat→Int) (j:Nat) (i:Nat):Int:=if i<j*7 then oZ z i else 0
noncomputable def lv82 (z:Nat→Int):Nat→Lvl
 | 0=>⟨false,[(0,.row (.G [.nils]))]⟩
 | j+1=>⟨false,[(0,.row (.G [.slc 0 1 j 0 7 (j+1) none])),(j,.row (.M [.arr .i64 (oY z (j+1)) (mulO (j+1) 7)]))]⟩
theorem b82:∀ b,(0,b) ∈ blocksOf (bodyOf Tryz.f82)→b=.loop (part Tryz.f82 [1,1,0,1,0,0]):=by
 have:((blocksOf (bodyOf Tryz.f82)).filter fun x=>Nat.beq x.1 0)=[(0,.loop (part Tryz.f82 [1,1,0,1,0,0]))]:=by kernel_rfl
 intro b hb
 have hm:(0,b) ∈ ((blocksOf (bodyOf Tryz.f82)).filter fun x=>Nat.beq x.1 0):=List.mem_filter.2 ⟨hb,rfl⟩
 rw[this] at hm;simpa using hm
theorem oY_app (z:Nat→Int) (j:Nat):appO (shO (oY z j) 0) (mulO j 7) (lstO [z (j*5),z (j*5+1),z (j*5+2),z (j*5+3),z (j*5+4),bLo z j,bHi z j])=oY z (j+1):=by
 funext i
 rw[appO_fn,shO_fn,lstO_fn,mulO_eq]
 unfold oY
 by_cases h:i<j*7
 · simp[h,show i<(j+1)*7 by omega]
 · by_cases h2:i<(j+1)*7
   · obtain ⟨r,hr,rfl⟩:∃ r,r<7∧i=j*7+r:=⟨i-j*7,by omega,by omega⟩
     have e1:(j*7+r) / 7=j:=by omega
     have e2:(j*7+r) % 7=r:=by omega
     unfold oZ
     rw[e1,e2]
     have:r=0∨r=1∨r=2∨r=3∨r=4∨r=5∨r=6:=by omega
     rcases this with rfl | rfl | rfl | rfl | rfl | rfl | rfl<;>simp[h2,Nat.add_sub_cancel_left]<;>omega
   · simp[h,h2,List.getD_eq_getElem?_getD,List.getElem?_eq_none (show [z (j*5),z (j*5+1),z (j*5+2),z (j*5+3),z (j*5+4),bLo z j,bHi z j].length≤i-j*7 by simp;omega)]
section
variable (n:Nat) (l:Nat) (z:Nat→Int) (H:Heap)
theorem l82 (h:chkO l z=0):exec (cxD n 82 42) (.block 0 (.loop (part Tryz.f82 [1,1,0,1,0,0]))) (fr82 l z 0) (lv82 z 0::H)=some (.normal,fr82 l z (Int.ofNat l)++[(11,.bool false)],lv82 z l::H):=by
 obtain ⟨hl,hb⟩:=chk_odd h
 have:=forX (n:=n) (f:=82) (nt:=42) (c:=part Tryz.f82 [1,1,0,1,0,0]) 0 (fun j=>fr82 l z (j:Int)) (fun j=>lv82 z j::H) l (fr82 l z (Int.ofNat l)++[(11,.bool false)],lv82 z l::H) (by omega) (fun j hj=>?_) ?_
 · exact this
 · have b:=hb j hj
   have ej:addI .i64 (j:Int) (Int.ofNat 1)=((j+1:Nat):Int):=by rw[addI_eq,show Int.ofNat 1=1 from rfl];exact wr_64 (by omega) (by omega)
   have ei:idO 0 (j:Int) 5=j*5:=by rw[idO_eq];omega
   have s1:subI .i64 (z (j*5+1)) (z (j*5+3))=bLo z j:=by rw[subI_eq];exact wr_64 (by omega) (by omega)
   have s2:subI .i64 (z (j*5)) (z (j*5+2))=bHi z j:=by rw[subI_eq];exact wr_64 (by omega) (by omega)
   cases j with
   | zero =>
     have e0:=oY_app z 0
     have ei':idO 0 (Int.ofNat 0) 5=0:=by rw[idO_eq];rfl
     have ej':addI .i64 (Int.ofNat 0) (Int.ofNat 1)=((0+1:Nat):Int):=ej
     have s1':subI .i64 (z (0+1)) (z (0+3))=bLo z 0:=s1
     have s2':subI .i64 (z 0) (z (0+2))=bHi z 0:=s2
     have e9:lstO [z 0,z (0+1),z (0+2),z (0+3),z (0+4),bLo z 0,bHi z 0]=oY z (0+1):=by
      rw[← e0,appO_fn,shO_fn,mulO_eq]
      funext i;simp
     have e7:mulO (0+1) 7=7:=by rw[mulO_eq]
     refine ex_all (t82a n l z H) (il_no0 n) (noBT_ok _ _) (noRT_ok _ _) ?_
     rw[ei',ej']
     simp only[addO_eq]
     rw[s1',s2',e9]
     repeat' first | (refine Tr.all_ite (fun hc=>?_) (fun hc=>?_)<;>(try simp (disch:=omega) only[nV,nW] at hc)<;>try omega) | (refine Tr.all_req ?_ ?_;· (try simp (disch:=omega) only[nV,nW]);try omega) | (refine Tr.all_reqP ?_ ?_;· first | exact trivial | rfl | exact ⟨rfl,rfl⟩ | exact ⟨rfl,rfl,rfl⟩ | (simp (disch:=omega) only[nV,nW];done) | ((try simp (disch:=omega) only[nV,nW]);omega)) | fail
     all_goals first
      | (refine Tr.all_ok ⟨rfl,?_⟩
         show _=(fr82 l z ((0+1:Nat):Int),(⟨false,[(0,.row (.G [.slc 0 1 0 0 7 (0+1) none])),(0,.row (.M [.arr .i64 (oY z (0+1)) (mulO (0+1) 7)]))]⟩:Lvl)::H)
         rw[e7];rfl)
      | fail
   | succ j =>
     have e0:=oY_app z (j+1)
     have e7:addO (mulO (j+1) 7) 7=mulO (j+1+1) 7:=by rw[addO_eq,mulO_eq,mulO_eq];omega
     have e8:addO (j+1) 1=j+1+1:=by rw[addO_eq]
     refine ex_all (t82b n l z (oY z (j+1)) H ((j+1:Nat):Int) j (j+1)) (il_no0 n) (noBT_ok _ _) (noRT_ok _ _) ?_
     rw[ei,ej,e7,e8]
     have ea:∀ k,addO ((j+1)*5) k=(j+1)*5+k:=fun k=>by rw[addO_eq]
     simp only[ea]
     rw[s1,s2,e0]
     repeat' first | (refine Tr.all_ite (fun hc=>?_) (fun hc=>?_)<;>(try simp (disch:=omega) only[nV,nW] at hc)<;>try omega) | (refine Tr.all_req ?_ ?_;· (try simp (disch:=omega) only[nV,nW]);try omega) | (refine Tr.all_reqP ?_ ?_;· first | exact trivial | rfl | exact ⟨rfl,rfl⟩ | exact ⟨rfl,rfl,rfl⟩ | (simp (disch:=omega) only[nV,nW];done) | ((try simp (disch:=omega) only[nV,nW]);omega)) | fail
     all_goals first
      | exact Tr.all_ok ⟨rfl,rfl⟩
      | fail
 · cases l with
   | zero=>omega
   | succ k =>
     obtain ⟨x,h1,rfl⟩:=ex_all (Q:=fun x=>x=(.exit 0,fr82 (k+1) z (Int.ofNat (k+1))++[(11,.bool false)],lv82 z (k+1)::H)) (t82b n (k+1) z (oY z (k+1)) H (Int.ofNat (k+1)) k (k+1)) (il_no0 n) (noBT_ok _ _) (noRT_ok _ _) (by
      repeat' first | (refine Tr.all_ite (fun hc=>?_) (fun hc=>?_)<;>(try simp (disch:=omega) only[nV,nW] at hc)<;>try omega) | (refine Tr.all_req ?_ ?_;· (try simp (disch:=omega) only[nV,nW]);try omega) | (refine Tr.all_reqP ?_ ?_;· first | exact trivial | rfl | exact ⟨rfl,rfl⟩ | exact ⟨rfl,rfl,rfl⟩ | (simp (disch:=omega) only[nV,nW];done) | ((try simp (disch:=omega) only[nV,nW]);omega)) | fail
      all_goals exact Tr.all_ok rfl)
     exact h1
noncomputable def bookV (l:Nat) (z:Nat→Int):AV:=.ptrT (some 0) (.G [slA 7 l (oY z l)]) 0
theorem c82 (h:chkO l z=0):cd (n+1) (.fn 82) [slA 5 l z] H=some (bookV l z,H):=by
 obtain ⟨hl,_⟩:=chk_odd h
 have lp:=l82 n l z H h
 cases l with
 | zero=>omega
 | succ k =>
   refine fn_all (n:=n) Tryz.func82 rfl rfl rfl (u82 n (k+1) z (oY z (k+1)) H k (k+1)) (il_no0 n) (blkE_ok (noBT_ok _ _) b82 (fun x hx=>by rw[← Tr.ok_some hx];simp only[Res.st,hints_eq];exact lp)) (noRT_ok _ _) ?_
   repeat' first | (refine Tr.all_ite (fun hc=>?_) (fun hc=>?_)<;>(try simp (disch:=omega) only[nV,nW] at hc)<;>try omega) | (refine Tr.all_req ?_ ?_;· (try simp (disch:=omega) only[nV,nW]);try omega) | (refine Tr.all_reqP ?_ ?_;· first | exact trivial | rfl | exact ⟨rfl,rfl⟩ | exact ⟨rfl,rfl,rfl⟩ | (simp (disch:=omega) only[nV,nW];done) | ((try simp (disch:=omega) only[nV,nW]);omega)) | fail
   all_goals first
    | (refine Tr.all_ok ⟨?_,rfl⟩
       rw[shO_zero];rfl)
    | fail
end
end Go.Eng
end
section
namespace Go.Eng
open Go.Proofs
set_option linter.unusedVariables false
set_option linter.unusedSimpArgs false
set_option maxRecDepth 100000
noncomputable def gO (L V:AV):List AV→Option (Prop×AV)
 | [a]=>some (a=L,V)
 | _=>none
theorem u52 (n:Nat) (l:Nat) (z:Nat→Int) (H:Heap) (e:Int) (y:Nat→Int):bodyT Tryz.prog (cd (n+9)) 100000 52 Tryz.f52 (KtB.kt 52) (il (ctG (ctG noCt 20 (g20 (slA 5 l z) e)) 82 (gO (slA 5 l z) (.ptrT (some 0) (.G [slA 7 l y]) 0))) (n+9) 0) noBT noRT [(slA 5 l z,none)] H =
 Tr.reqP (slA 5 l z=slA 5 l z) (Tr.ite (notB (eqI e (Int.ofNat 0))) (Tr.ok ((AV.tup [AV.nilp,AV.int .i64 e],none),H)) (Tr.reqP (slA 5 l z=slA 5 l z) (Tr.ok ((AV.tup [AV.ptrT (some 0) (Row.G [slA 7 l y]) 0,AV.int .i64 (Int.ofNat 0)],none),H)))):=by kernel_rfl
theorem u52x (n:Nat) (l:Nat) (z:Nat→Int) (H:Heap) (e:Int):bodyT Tryz.prog (cd (n+9)) 100000 52 Tryz.f52 (KtB.kt 52) (il (ctG (ctG noCt 20 (g20 (slA 5 l z) e)) 82 (fun _=>none)) (n+9) 0) noBT noRT [(slA 5 l z,none)] H =
 Tr.reqP (slA 5 l z=slA 5 l z) (Tr.ite (notB (eqI e (Int.ofNat 0))) (Tr.ok ((AV.tup [AV.nilp,AV.int .i64 e],none),H)) Tr.bad):=by kernel_rfl
section
variable (n:Nat) (l:Nat) (z:Nat→Int) (H:Heap) (q:Int)
theorem ctV {f k:Nat} {t:Ctr} {V:AV} (ht:t.Ok (cd k)) (h:∀ H,cd k (.fn f) [slA 5 l z] H=some (V,H)):(ctG t f (gO (slA 5 l z) V)).Ok (cd k):=by
 refine ctG_ok ht (fun args p v hg hp H=>?_)
 unfold gO at hg
 split at hg
 · simp only[nP] at hg
   obtain ⟨rfl,rfl⟩:=hg
   subst hp
   exact h H
 · cases hg
noncomputable def opnV (l:Nat) (z:Nat→Int):AV:=if chkO l z=0 then .tup [bookV l z,.int .i64 0] else .tup [.nilp,.int .i64 (chkO l z)]
theorem c52:cd (n+10) (.fn 52) [slA 5 l z] H=some (opnV l z,H):=by
 unfold opnV
 by_cases h:chkO l z=0
 · rw[if_pos h]
   refine fn_all (n:=n+9) Tryz.func52 rfl rfl rfl (u52 n l z H (chkO l z) (oY z l)) (il_ok _ (n+9) 0 (fun k=>ctV l z (ctO l z (noCt_ok _) (fun H=>by rw[show n+9+k=n+k+9 by omega];exact c20 _ l z H)) (fun H=>by rw[show n+9+k=n+8+k+1 by omega];exact c82 _ l z H h))) (noBT_ok _ _) (noRT_ok _ _) ?_
   repeat' first | (refine Tr.all_ite (fun hc=>?_) (fun hc=>?_)<;>(try simp (disch:=omega) only[nV,nW,h] at hc)<;>try omega) | (refine Tr.all_req ?_ ?_;· (try simp (disch:=omega) only[nV,nW,h]);try omega) | (refine Tr.all_reqP ?_ ?_;· first | exact trivial | rfl | exact ⟨rfl,rfl⟩ | exact ⟨rfl,rfl,rfl⟩ | (simp (disch:=omega) only[nV,nW,h];done) | ((try simp (disch:=omega) only[nV,nW,h]);omega)) | fail
   all_goals first
    | exact Tr.all_ok ⟨rfl,rfl⟩
    | fail
 · rw[if_neg h]
   refine fn_all (n:=n+9) Tryz.func52 rfl rfl rfl (u52x n l z H (chkO l z)) (il_ok _ (n+9) 0 (fun k=>ctG_ok (ctO l z (noCt_ok _) (fun H=>by rw[show n+9+k=n+k+9 by omega];exact c20 _ l z H)) (fun args p v hg hp H=>by cases hg))) (noBT_ok _ _) (noRT_ok _ _) ?_
   repeat' first | (refine Tr.all_ite (fun hc=>?_) (fun hc=>?_)<;>(try simp (disch:=omega) only[nV,nW] at hc)<;>try omega) | (refine Tr.all_req ?_ ?_;· (try simp (disch:=omega) only[nV,nW]);try omega) | (refine Tr.all_reqP ?_ ?_;· first | exact trivial | rfl | exact ⟨rfl,rfl⟩ | exact ⟨rfl,rfl,rfl⟩ | (simp (disch:=omega) only[nV,nW];done) | ((try simp (disch:=omega) only[nV,nW]);omega)) | fail
   all_goals first
    | exact Tr.all_ok ⟨rfl,rfl⟩
    | fail
theorem oY_at {l j r:Nat} (hj:j<l) (hr:r<7):oY z l (j*7+r)=if r<5 then z (j*5+r) else if r=5 then bLo z j else bHi z j:=by
 unfold oY oZ
 rw[if_pos (by omega),show (j*7+r) / 7=j by omega,show (j*7+r) % 7=r by omega]
end
end Go.Eng
end
section
namespace Go.Eng
open Go.Proofs
set_option linter.unusedVariables false
set_option linter.unusedSimpArgs false
set_option maxRecDepth 100000
def dnB (z:Nat→Int) (q:Int) (j:Nat):Bool:=decide (bLo z j≤q) && decide (q≤bHi z j)
section
variable (n:Nat) (l:Nat) (z:Nat→Int) (H:Heap) (q:Int)
end
end Go.Eng
end
section
namespace Go.Eng
open Go.Proofs
set_option linter.unusedVariables false
set_option linter.unusedSimpArgs false
set_option maxRecDepth 100000
theorem lst_app (L:List Int) (v:Int):appO (shO (lstO L) 0) L.length (lstO [v])=lstO (L++[v]):=by
 rw[shO_zero,appO_fn,lstO_fn];funext i
 by_cases h:i<L.length
 · simp[h,List.getElem?_append]
 · by_cases h2:i=L.length
   · subst h2;simp
   · have e1:[v][i-L.length]?=none:=List.getElem?_eq_none (by simp;omega)
     have e2:(L++[v])[i]?=none:=List.getElem?_eq_none (by simp;omega)
     simp only[h,if_false,List.getD_eq_getElem?_getD,e1,e2]
def dl (m:Nat→Int):Nat→List Int
 | 0=>[]
 | j+1=>if m j=1 then dl m j++[(j:Int)] else dl m j
theorem dl_len (m:Nat→Int) (j:Nat):(dl m j).length≤j:=by
 induction j with
 | zero=>simp[dl]
 | succ j ih =>
   unfold dl
   split
   · rw[List.length_append];simp only[List.length_cons,List.length_nil];omega
   · omega
noncomputable def dV:List Int→AV
 | []=>.nils
 | a::r=>.slc 0 0 0 0 1 (r.length+1) none
section
variable (n:Nat) (m:Nat→Int) (H:Heap)
end
noncomputable def dA:List Int→AV
 | []=>.nils
 | a::r=>.slcT none (.M [.arr .i64 (lstO (a::r)) (r.length+1)]) 1 (r.length+1) false
section
variable (n:Nat) (l:Nat) (z:Nat→Int) (H:Heap) (q:Int)
end
end Go.Eng
end
section
namespace Go.Eng
open Go.Proofs
set_option linter.unusedVariables false
set_option linter.unusedSimpArgs false
set_option maxRecDepth 100000
noncomputable abbrev sl1 (n:Nat) (z:Nat→Int) (full:Bool):AV:=.slcT none (.M [.arr .i64 z n]) 1 n full
noncomputable def fr22 (m p:Nat) (z y:Nat→Int) (a b:Bool) (j:Int):Frm:=[(0,sl1 m z a),(1,sl1 p y b),(5,.int .i64 j)]
theorem t22 (n:Nat) (H:Heap) (m p:Nat) (z y:Nat→Int) (a b:Bool) (j:Int):execT (cxD n 22 26) (il noCt n 0) noBT noRT (part Tryz.f22 [1,1,0,1,0,0]) (hints (fr22 m p z y a b j)) (lvE::H) =
 Tr.ite (ltI j (Int.ofNat m)) (Tr.req (inI j m) (Tr.req (ltN (idO 0 j 1) m) (Tr.req (inI j p) (Tr.req (ltN (idO 0 j 1) p) (Tr.ite (notB (eqI (z (idO 0 j 1)) (y (idO 0 j 1)))) (Tr.ok (Ex.ret,[(4,AV.bool false,some 1)],lvE::H)) (Tr.ok (Ex.normal,[(0,AV.slcT none (Row.M [Seg.arr .i64 z m]) 1 m a,none),(1,AV.slcT none (Row.M [Seg.arr .i64 y p]) 1 p b,none),(5,AV.int .i64 (addI .i64 j (Int.ofNat 1)),none)],lvE::H))))))) (Tr.ok (Ex.exit 0,[(0,AV.slcT none (Row.M [Seg.arr .i64 z m]) 1 m a,none),(1,AV.slcT none (Row.M [Seg.arr .i64 y p]) 1 p b,none),(5,AV.int .i64 j,none),(14,AV.bool false,some 1)],lvE::H)):=by kernel_rfl
noncomputable def dW:List Int→AV
 | []=>.nils
 | a::r=>.slc 0 0 r.length 0 1 (r.length+1) none
noncomputable def dLw:List Int→Lvl
 | []=>⟨false,[]⟩
 | a::r=>⟨false,[(r.length,.row (.M [.arr .i64 (lstO (a::r)) (r.length+1)]))]⟩
section
variable (n:Nat) (l:Nat) (z:Nat→Int) (H:Heap) (q:Int)
end
end Go.Eng
end
section
namespace Go.Eng
open Go.Proofs
set_option linter.unusedVariables false
set_option linter.unusedSimpArgs false
set_option maxRecDepth 100000
noncomputable def g22 (A:AV):List AV→Option (Prop×AV)
 | [a,b]=>some (a=A∧b=A,.bool true)
 | _=>none
def g15:List AV→Option (Prop×AV)
 | []=>some (True,.bool true)
 | _=>none
theorem c15 (n:Nat) (H:Heap):cd (n+1) (.fn 15) [] H=some (.bool true,H):=by unfold cd callN;rfl
theorem ctWk {n:Nat} {t:Ctr} (ht:t.Ok (cd (n+1))):(ctG t 15 g15).Ok (cd (n+1)):=by
 refine ctG_ok ht (fun args p v hg hp H=>?_)
 unfold g15 at hg
 split at hg
 · simp only[nP] at hg
   obtain ⟨_,rfl⟩:=hg
   exact c15 _ H
 · cases hg
section
variable (n:Nat) (l:Nat) (z:Nat→Int) (H:Heap) (q s:Int)
end
end Go.Eng
end
section
namespace Go.Eng
open Go.Proofs
set_option linter.unusedVariables false
set_option linter.unusedSimpArgs false
set_option maxRecDepth 100000
section
variable (n:Nat) (H:Heap)
end
section
variable (n:Nat) (l:Nat) (z:Nat→Int) (H:Heap)
end
end Go.Eng
end
section
namespace Go.Eng
open Go.Proofs
set_option linter.unusedVariables false
set_option linter.unusedSimpArgs false
set_option maxRecDepth 100000
theorem t68 (n:Nat) (H:Heap) (m:Nat) (z:Nat→Int) (full:Bool) (bs:List (Nat×Blk)):execT (cxD n 68 8) (il noCt n 0) noBT noRT (bodyOf Tryz.f68) (hints [(0,sl1 m z full)]) (lvE::⟨false,bs⟩::H) =
 Tr.req (ltN 0 m) (Tr.ite false (Tr.ok (Ex.ret,[(2,AV.nils,none)],lvE::{ lock:=false,bs:=bs } :: H)) (Tr.ite (eqN m 0) (Tr.ok (Ex.ret,[(2,AV.slc 0 0 0 0 1 0 (some 0),none)],{ lock:=false,bs:=[(0,Blk.row (Row.I .i64 []))] } :: { lock:=false,bs:=bs } :: H)) (Tr.req (roomO 0 m 8) (Tr.req (leN m m) (Tr.req (leN (addO 0 m) m) (Tr.ite (ltN 0 (addO 0 m)) (Tr.req (eqN 0 0) (Tr.req (leN 0 0) (Tr.ok (Ex.ret,[(2,AV.slc 0 1 0 0 1 (addO 0 m) none,none)],{ lock:=false,bs:=[(0,Blk.row (Row.I .i64 [])),(0,Blk.row (Row.M [Seg.arr .i64 (appO (lstO []) 0 z) (addO 0 m)]))] } :: { lock:=false,bs:=bs } :: H)))) (Tr.req (eqN 0 0) Tr.bad))))))):=by kernel_rfl
theorem app_nil (z:Nat→Int):appO (lstO []) 0 z=z:=by rw[appO_fn];funext i;simp
theorem fn_own {n:Nat} {args:List AV} {l1:Lvl} {H:Heap} {fn:Func} {c:Code} (hf:Tryz.prog.funcs[68]?=some fn) (hb:fn.body=some c) (hle:Nat.ble args.length fn.ntmps=true) {e:Ex} {fr:Frm} {l:Lvl} {j ver off sz len:Nat} {cap:Option Nat} {q:Row}
 (h:exec (cxD n 68 fn.ntmps) c (argFrm 0 args) (⟨false,[]⟩::l1::H)=some (e,fr,l::l1::H)) (he:e=.normal∨e=.ret) (hv:resV Tryz.prog fr (l::l1::H) fn.results.toList=some [.slc 0 j ver off sz len cap]) (hq:hRow (l::l1::H) 0 j ver=some q) (h0:l.lock=false) (h1:l1.lock=false) :
 cd (n+1) (.fn 68) args (l1::H)=some (.slc 0 l1.bs.length 0 off sz len cap,hPushAt (l1::H) 0 (.row (dnR 1 q))):=by
 have:oraD (cd n) 68 args (l1::H)=some (.slc 0 l1.bs.length 0 off sz len cap,hPushAt (l1::H) 0 (.row (dnR 1 q))):=by
  show oCall Tryz.prog KtB.kt 100000 68 (cd n) args (l1::H)=_
  unfold oCall
  rw[hf];dsimp only
  rw[hb];dsimp only
  rw[if_pos hle,execX_eq]
  rw[show exec (⟨Tryz.prog,cd n,100000,68,fn.ntmps,KtB.kt 68,none⟩:Cx) c (argFrm 0 args) (⟨false,[]⟩::l1::H)=_ from h]
  dsimp only
  rcases he with rfl | rfl<;>(simp only[hv,hq,h0,h1,Bool.or_self,Bool.false_eq_true,if_false])
 unfold cd
 rw[show callN Tryz.prog oraD KtB.kt 100000 (n+1) (.fn 68) args (l1::H)=(match oraD (cd n) 68 args (l1::H) with
  | some r=>some r
  | none=>_) from rfl,this]
theorem c68 (n:Nat) (H:Heap) (m:Nat) (z:Nat→Int) (full:Bool) (bs:List (Nat×Blk)) (h1:1≤m) (h2:m≤1000):cd (n+1) (.fn 68) [sl1 m z full] (⟨false,bs⟩::H)=some (.slc 0 bs.length 0 0 1 m none,⟨false,bs++[(0,.row (.M [.arr .i64 z m]))]⟩::H):=by
 obtain ⟨x,hx,hy⟩:=ex_all (Q:=fun x=>x=(.ret,[(2,.slc 0 1 0 0 1 m none)],(⟨false,[(0,.row (.I .i64 [])),(0,.row (.M [.arr .i64 z m]))]⟩:Lvl)::⟨false,bs⟩::H)) (fr:=[(0,sl1 m z full)]) (t68 n H m z full bs) (il_no0 n) (noBT_ok _ _) (noRT_ok _ _) (by
  rw[app_nil,show addO 0 m=m by rw[addO_eq,Nat.zero_add]]
  repeat' first | (refine Tr.all_ite (fun hc=>?_) (fun hc=>?_)<;>(try simp (disch:=omega) only[nV,nW] at hc)<;>try omega) | (refine Tr.all_req ?_ ?_;· (try simp (disch:=omega) only[nV,nW]);try omega) | (refine Tr.all_reqP ?_ ?_;· first | exact trivial | rfl | exact ⟨rfl,rfl⟩ | exact ⟨rfl,rfl,rfl⟩ | (simp (disch:=omega) only[nV,nW];done) | ((try simp (disch:=omega) only[nV,nW]);omega)) | fail
  all_goals first
   | exact Tr.all_ok rfl
   | fail)
 subst hy
 have e8:Tryz.f68.ntmps=8:=by kernel_rfl
 have eb:Tryz.f68.body=some (bodyOf Tryz.f68):=by kernel_rfl
 have er:Tryz.f68.results.toList=[.tmp 2]:=by kernel_rfl
 refine fn_own (fn:=Tryz.f68) (c:=bodyOf Tryz.f68) (l1:=⟨false,bs⟩) Tryz.func68 eb (by rw[e8];rfl) (e:=.ret) (fr:=[(2,.slc 0 1 0 0 1 m none)]) (l:=⟨false,[(0,.row (.I .i64 [])),(0,.row (.M [.arr .i64 z m]))]⟩) (j:=1) (ver:=0) (q:=.M [.arr .i64 z m]) (by rw[e8];exact hx) (.inr rfl) (by rw[er];rfl) rfl rfl rfl
end Go.Eng
end
section
namespace Go.Eng
open Go.Proofs
set_option linter.unusedVariables false
set_option linter.unusedSimpArgs false
set_option maxRecDepth 100000
noncomputable def fr64 (L:AV) (l:Nat) (y:Nat→Int) (j:Int):Frm:=[(3,L),(9,slA 7 l y),(10,.int .i64 (Int.ofNat l)),(11,.int .i64 j)]
theorem t64a (n:Nat) (l:Nat) (y:Nat→Int) (H:Heap) (j:Int):execT (cxD (n+3) 64 24) (il noCt (n+1) 2) noBT noRT (part Tryz.f64 [1,1,0,1,0,0]) (hints (fr64 .nils l y j)) (lvE::H) =
 (fun (Z0:Nat×Blk)=>Tr.ite (ltI j (Int.ofNat l)) (Tr.req (inI j l) (Tr.req (ltN (idO 0 j 7) (mulO l 7)) (Tr.req (ltN (addO (idO 0 j 7) 1) (mulO l 7)) (Tr.req (ltN (addO (idO 0 j 7) 2) (mulO l 7)) (Tr.req (ltN (addO (idO 0 j 7) 3) (mulO l 7)) (Tr.req (ltN (addO (idO 0 j 7) 4) (mulO l 7)) (Tr.req (ltN (addO (idO 0 j 7) 5) (mulO l 7)) (Tr.req (ltN (addO (idO 0 j 7) 6) (mulO l 7)) (Tr.ite (leI (y (addO (idO 0 j 7) 5)) (y (addO (idO 0 j 7) 6))) (Tr.req (roomO 0 1 8) (Tr.req (eqN 0 0) (Tr.req (leN 1 1) (Tr.ok (Ex.normal,[(3,AV.slc 0 2 0 0 1 1 none,none),(9,slA 7 l y,none),(10,AV.int .i64 (Int.ofNat l),none),(11,AV.int .i64 (addI .i64 j (Int.ofNat 1)),none)],{ lock:=false,bs:=[Z0,(0,Blk.row (Row.I .i64 [j])),(0,Blk.row (Row.M [Seg.arr .i64 (lstO [j]) 1]))] } :: H))))) (Tr.ok (Ex.normal,[(3,AV.nils,none),(9,slA 7 l y,none),(10,AV.int .i64 (Int.ofNat l),none),(11,AV.int .i64 (addI .i64 j (Int.ofNat 1)),none)],{ lock:=false,bs:=[Z0] } :: H))))))))))) (Tr.ok (Ex.exit 0,[(3,AV.nils,none),(9,slA 7 l y,none),(10,AV.int .i64 (Int.ofNat l),none),(11,AV.int .i64 j,none),(12,AV.bool false,some 1)],lvE::H))) (0,Blk.row (Row.I .i64 [y (idO 0 j 7),y (addO (idO 0 j 7) 1),y (addO (idO 0 j 7) 2),y (addO (idO 0 j 7) 3),y (addO (idO 0 j 7) 4),y (addO (idO 0 j 7) 5),y (addO (idO 0 j 7) 6)])):=by kernel_rfl
theorem t64b (n:Nat) (l:Nat) (y g:Nat→Int) (H:Heap) (j:Int) (v k:Nat):execT (cxD (n+3) 64 24) (il noCt (n+1) 2) noBT noRT (part Tryz.f64 [1,1,0,1,0,0]) (hints (fr64 (.slc 0 0 v 0 1 k none) l y j)) (⟨false,[(v,.row (.M [.arr .i64 g k]))]⟩::H) =
 (fun (Z0:Nat×Blk)=>Tr.ite (ltI j (Int.ofNat l)) (Tr.req (inI j l) (Tr.req (ltN (idO 0 j 7) (mulO l 7)) (Tr.req (ltN (addO (idO 0 j 7) 1) (mulO l 7)) (Tr.req (ltN (addO (idO 0 j 7) 2) (mulO l 7)) (Tr.req (ltN (addO (idO 0 j 7) 3) (mulO l 7)) (Tr.req (ltN (addO (idO 0 j 7) 4) (mulO l 7)) (Tr.req (ltN (addO (idO 0 j 7) 5) (mulO l 7)) (Tr.req (ltN (addO (idO 0 j 7) 6) (mulO l 7)) (Tr.ite (leI (y (addO (idO 0 j 7) 5)) (y (addO (idO 0 j 7) 6))) (Tr.req (roomO k 1 8) (Tr.req (eqN 0 0) (Tr.req (leN 1 1) (Tr.req (eqN v v) (Tr.req (eqN (addO 0 k) k) (Tr.ok (Ex.normal,[(3,AV.slc 0 0 (Nat.succ v) 0 1 (addO k 1) none,none),(9,slA 7 l y,none),(10,AV.int .i64 (Int.ofNat l),none),(11,AV.int .i64 (addI .i64 j (Int.ofNat 1)),none)],{ lock:=false,bs:=[(Nat.succ v,Blk.row (Row.M [Seg.arr .i64 (appO (shO g 0) k (lstO [j])) (addO k 1)])),Z0,(0,Blk.row (Row.I .i64 [j]))] } :: H))))))) (Tr.ok (Ex.normal,[(3,AV.slc 0 0 v 0 1 k none,none),(9,slA 7 l y,none),(10,AV.int .i64 (Int.ofNat l),none),(11,AV.int .i64 (addI .i64 j (Int.ofNat 1)),none)],{ lock:=false,bs:=[(v,Blk.row (Row.M [Seg.arr .i64 g k])),Z0] } :: H))))))))))) (Tr.ok (Ex.exit 0,[(3,AV.slc 0 0 v 0 1 k none,none),(9,slA 7 l y,none),(10,AV.int .i64 (Int.ofNat l),none),(11,AV.int .i64 j,none),(12,AV.bool false,some 1)],{ lock:=false,bs:=[(v,Blk.row (Row.M [Seg.arr .i64 g k]))] } :: H))) (0,Blk.row (Row.I .i64 [y (idO 0 j 7),y (addO (idO 0 j 7) 1),y (addO (idO 0 j 7) 2),y (addO (idO 0 j 7) 3),y (addO (idO 0 j 7) 4),y (addO (idO 0 j 7) 5),y (addO (idO 0 j 7) 6)])):=by kernel_rfl
theorem u64p (n:Nat) (l:Nat) (y:Nat→Int) (H:Heap):bodyT Tryz.prog (cd (n+3)) 100000 64 Tryz.f64 (KtB.kt 64) (il noCt (n+1) 2) (blkE noBT 0 (fr64 .nils l y 0) (lvE::H) (.ok (.normal,hints (fr64 .nils l y (Int.ofNat l)++[(12,.bool false)]),lvE::H))) noRT [(.ptrT (some 0) (.G [slA 7 l y]) 0,none)] H =
 (fun (Z0:Frm)=>Tr.reqP (Z0=Z0∧lvE::H=lvE::H) (Tr.ok ((AV.nils,none),H))) [(3,AV.nils),(9,slA 7 l y),(10,AV.int .i64 (Int.ofNat l)),(11,AV.int .i64 (Int.ofNat 0))]:=by kernel_rfl
theorem u64q (n:Nat) (l:Nat) (y g:Nat→Int) (H:Heap) (v k:Nat):bodyT Tryz.prog (cd (n+3)) 100000 64 Tryz.f64 (KtB.kt 64) (il noCt (n+1) 2) (blkE noBT 0 (fr64 .nils l y 0) (lvE::H) (.ok (.normal,hints (fr64 (.slc 0 0 v 0 1 k none) l y (Int.ofNat l)++[(12,.bool false)]),⟨false,[(v,.row (.M [.arr .i64 g k]))]⟩::H))) noRT [(.ptrT (some 0) (.G [slA 7 l y]) 0,none)] H =
 (fun (Z0:Frm)=>Tr.reqP (Z0=Z0∧lvE::H=lvE::H) (Tr.req (eqN v v) (Tr.req (inO 0 k 0 k) (Tr.ok ((AV.slcT none (Row.M [Seg.arr .i64 (shO g 0) k]) 1 k false,none),H))))) [(3,AV.nils),(9,slA 7 l y),(10,AV.int .i64 (Int.ofNat l)),(11,AV.int .i64 (Int.ofNat 0))]:=by kernel_rfl
theorem u62n (n:Nat) (l:Nat) (z y:Nat→Int) (H:Heap):bodyT Tryz.prog (cd (n+11)) 100000 62 Tryz.f62 (KtB.kt 62) (il (ctG (ctG noCt 52 (gO (slA 5 l z) (.tup [.ptrT (some 0) (.G [slA 7 l y]) 0,.int .i64 0]))) 64 (gO (.ptrT (some 0) (.G [slA 7 l y]) 0) .nils)) (n+10) 1) noBT noRT [(slA 5 l z,none)] H =
 Tr.reqP (slA 5 l z=slA 5 l z) (Tr.ite (notB (eqI (Int.ofNat 0) (Int.ofNat 0))) (Tr.ok ((AV.tup [AV.nilp,AV.int .i64 (Int.ofNat 0)],none),H)) (Tr.reqP (AV.ptrT (some 0) (Row.G [slA 7 l y]) 0=AV.ptrT (some 0) (Row.G [slA 7 l y]) 0) (Tr.ite (ltI (Int.ofNat 0) (Int.ofNat l)) (Tr.ok ((AV.tup [AV.nilp,AV.int .i64 (Int.ofNat 22)],none),H)) (Tr.ok ((AV.tup [AV.ptrT (some 0) (Row.G [slA 7 l y]) 0,AV.int .i64 (Int.ofNat 0)],none),H))))):=by kernel_rfl
theorem u62c (n:Nat) (l:Nat) (z y g:Nat→Int) (H:Heap) (k:Nat):bodyT Tryz.prog (cd (n+11)) 100000 62 Tryz.f62 (KtB.kt 62) (il (ctG (ctG noCt 52 (gO (slA 5 l z) (.tup [.ptrT (some 0) (.G [slA 7 l y]) 0,.int .i64 0]))) 64 (gO (.ptrT (some 0) (.G [slA 7 l y]) 0) (sl1 k g false))) (n+10) 1) noBT noRT [(slA 5 l z,none)] H =
 Tr.reqP (slA 5 l z=slA 5 l z) (Tr.ite (notB (eqI (Int.ofNat 0) (Int.ofNat 0))) (Tr.ok ((AV.tup [AV.nilp,AV.int .i64 (Int.ofNat 0)],none),H)) (Tr.reqP (AV.ptrT (some 0) (Row.G [slA 7 l y]) 0=AV.ptrT (some 0) (Row.G [slA 7 l y]) 0) (Tr.ite (ltI (Int.ofNat k) (Int.ofNat l)) (Tr.ok ((AV.tup [AV.nilp,AV.int .i64 (Int.ofNat 22)],none),H)) (Tr.ok ((AV.tup [AV.ptrT (some 0) (Row.G [slA 7 l y]) 0,AV.int .i64 (Int.ofNat 0)],none),H))))):=by kernel_rfl
theorem u62x (n:Nat) (l:Nat) (z y g:Nat→Int) (H:Heap) (e:Int):bodyT Tryz.prog (cd (n+11)) 100000 62 Tryz.f62 (KtB.kt 62) (il (ctG (ctG noCt 52 (gO (slA 5 l z) (.tup [.nilp,.int .i64 e]))) 64 (fun _=>none)) (n+10) 1) noBT noRT [(slA 5 l z,none)] H =
 Tr.reqP (slA 5 l z=slA 5 l z) (Tr.ite (notB (eqI e (Int.ofNat 0))) (Tr.ok ((AV.tup [AV.nilp,AV.int .i64 e],none),H)) Tr.bad):=by kernel_rfl
def smM (z:Nat→Int) (i:Nat):Int:=if bLo z i≤bHi z i then 1 else 0
theorem b64:∀ b,(0,b) ∈ blocksOf (bodyOf Tryz.f64)→b=.loop (part Tryz.f64 [1,1,0,1,0,0]):=by
 have:((blocksOf (bodyOf Tryz.f64)).filter fun x=>Nat.beq x.1 0)=[(0,.loop (part Tryz.f64 [1,1,0,1,0,0]))]:=by kernel_rfl
 intro b hb
 have hm:(0,b) ∈ ((blocksOf (bodyOf Tryz.f64)).filter fun x=>Nat.beq x.1 0):=List.mem_filter.2 ⟨hb,rfl⟩
 rw[this] at hm;simpa using hm
section
variable (n:Nat) (l:Nat) (z:Nat→Int) (H:Heap)
theorem l64 (h:chkO l z=0):exec (cxD (n+3) 64 24) (.block 0 (.loop (part Tryz.f64 [1,1,0,1,0,0]))) (fr64 .nils l (oY z l) 0) (lvE::H)=some (.normal,fr64 (dW (dl (smM z) l)) l (oY z l) (Int.ofNat l)++[(12,.bool false)],dLw (dl (smM z) l)::H):=by
 obtain ⟨hl,hb⟩:=chk_odd h
 have:=forX (n:=n+3) (f:=64) (nt:=24) (c:=part Tryz.f64 [1,1,0,1,0,0]) 0 (fun j=>fr64 (dW (dl (smM z) j)) l (oY z l) (j:Int)) (fun j=>dLw (dl (smM z) j)::H) l (fr64 (dW (dl (smM z) l)) l (oY z l) (Int.ofNat l)++[(12,.bool false)],dLw (dl (smM z) l)::H) (by omega) (fun j hj=>?_) ?_
 · exact this
 · have ej:addI .i64 (j:Int) (Int.ofNat 1)=((j+1:Nat):Int):=by rw[addI_eq,show Int.ofNat 1=1 from rfl];exact wr_64 (by omega) (by omega)
   have ei:idO 0 (j:Int) 7=j*7:=by rw[idO_eq];omega
   have hm:=dl_len (smM z) j
   have hd:dl (smM z) (j+1)=if smM z j=1 then dl (smM z) j++[(j:Int)] else dl (smM z) j:=rfl
   have ht:smM z j=1↔bLo z j≤bHi z j:=by unfold smM;simp
   have h5:oY z l (j*7+5)=bLo z j:=oY_at z (by omega) (by omega)
   have h6:oY z l (j*7+6)=bHi z j:=oY_at z (by omega) (by omega)
   cases e:dl (smM z) j with
   | nil =>
     rw[e] at hd
     refine ex_all (t64a n l (oY z l) H (j:Int)) (il_no (n+1) 2) (noBT_ok _ _) (noRT_ok _ _) ?_
     simp only[ei,addO_eq]
     rw[ej,h5,h6]
     generalize bLo z j=lo at *
     generalize bHi z j=hi at *
     generalize dl (smM z) (j+1)=D at *
     generalize smM z j=mj at *
     repeat' first | (refine Tr.all_ite (fun hc=>?_) (fun hc=>?_)<;>(try simp (disch:=omega) only[nV,nW] at hc)<;>try omega) | (refine Tr.all_req ?_ ?_;· (try simp (disch:=omega) only[nV,nW]);try omega) | (refine Tr.all_reqP ?_ ?_;· first | exact trivial | rfl | exact ⟨rfl,rfl⟩ | exact ⟨rfl,rfl,rfl⟩ | (simp (disch:=omega) only[nV,nW];done) | ((try simp (disch:=omega) only[nV,nW]);omega)) | fail
     all_goals first
      | (rw[if_pos (by omega)] at hd;subst hd;exact Tr.all_ok ⟨rfl,rfl⟩)
      | (rw[if_neg (by omega)] at hd;subst hd;exact Tr.all_ok ⟨rfl,rfl⟩)
      | fail
   | cons a r =>
     rw[e] at hd hm
     have e1:=lst_app (a::r) (j:Int)
     simp only[List.length_cons] at hm e1
     have e3:addO (r.length+1) 1=r.length+1+1:=by rw[addO_eq]
     refine ex_all (t64b n l (oY z l) (lstO (a::r)) H (j:Int) r.length (r.length+1)) (il_no (n+1) 2) (noBT_ok _ _) (noRT_ok _ _) ?_
     rw[e1,e3]
     simp only[ei,addO_eq]
     rw[ej,h5,h6]
     generalize bLo z j=lo at *
     generalize bHi z j=hi at *
     generalize hD:dl (smM z) (j+1)=D at *
     generalize smM z j=mj at *
     have e4:(r++[(j:Int)]).length=r.length+1:=by simp
     repeat' first | (refine Tr.all_ite (fun hc=>?_) (fun hc=>?_)<;>(try simp (disch:=omega) only[nV,nW] at hc)<;>try omega) | (refine Tr.all_req ?_ ?_;· (try simp (disch:=omega) only[nV,nW]);try omega) | (refine Tr.all_reqP ?_ ?_;· first | exact trivial | rfl | exact ⟨rfl,rfl⟩ | exact ⟨rfl,rfl,rfl⟩ | (simp (disch:=omega) only[nV,nW];done) | ((try simp (disch:=omega) only[nV,nW]);omega)) | fail
     all_goals first
      | (rw[if_pos (by omega)] at hd;subst hd
         refine Tr.all_ok ⟨rfl,?_⟩
         show _=(fr64 (.slc 0 0 (r++[(j:Int)]).length 0 1 ((r++[(j:Int)]).length+1) none) l (oY z l) ((j+1:Nat):Int),(⟨false,[((r++[(j:Int)]).length,.row (.M [.arr .i64 (lstO (a::r++[(j:Int)])) ((r++[(j:Int)]).length+1)]))]⟩:Lvl)::H)
         rw[e4];rfl)
      | (rw[if_neg (by omega)] at hd;subst hd;exact Tr.all_ok ⟨rfl,rfl⟩)
      | fail
 · cases e:dl (smM z) l with
   | nil =>
     obtain ⟨x,h1,rfl⟩:=ex_all (Q:=fun x=>x=(.exit 0,fr64 .nils l (oY z l) (Int.ofNat l)++[(12,.bool false)],lvE::H)) (t64a n l (oY z l) H (Int.ofNat l)) (il_no (n+1) 2) (noBT_ok _ _) (noRT_ok _ _) (by
      repeat' first | (refine Tr.all_ite (fun hc=>?_) (fun hc=>?_)<;>(try simp (disch:=omega) only[nV,nW] at hc)<;>try omega) | (refine Tr.all_req ?_ ?_;· (try simp (disch:=omega) only[nV,nW]);try omega) | (refine Tr.all_reqP ?_ ?_;· first | exact trivial | rfl | exact ⟨rfl,rfl⟩ | exact ⟨rfl,rfl,rfl⟩ | (simp (disch:=omega) only[nV,nW];done) | ((try simp (disch:=omega) only[nV,nW]);omega)) | fail
      all_goals exact Tr.all_ok rfl)
     exact h1
   | cons a r =>
     obtain ⟨x,h1,rfl⟩:=ex_all (Q:=fun x=>x=(.exit 0,fr64 (.slc 0 0 r.length 0 1 (r.length+1) none) l (oY z l) (Int.ofNat l)++[(12,.bool false)],(⟨false,[(r.length,.row (.M [.arr .i64 (lstO (a::r)) (r.length+1)]))]⟩:Lvl)::H)) (t64b n l (oY z l) (lstO (a::r)) H (Int.ofNat l) r.length (r.length+1)) (il_no (n+1) 2) (noBT_ok _ _) (noRT_ok _ _) (by
      repeat' first | (refine Tr.all_ite (fun hc=>?_) (fun hc=>?_)<;>(try simp (disch:=omega) only[nV,nW] at hc)<;>try omega) | (refine Tr.all_req ?_ ?_;· (try simp (disch:=omega) only[nV,nW]);try omega) | (refine Tr.all_reqP ?_ ?_;· first | exact trivial | rfl | exact ⟨rfl,rfl⟩ | exact ⟨rfl,rfl,rfl⟩ | (simp (disch:=omega) only[nV,nW];done) | ((try simp (disch:=omega) only[nV,nW]);omega)) | fail
      all_goals exact Tr.all_ok rfl)
     exact h1
theorem c64 (h:chkO l z=0):cd (n+4) (.fn 64) [bookV l z] H=some (dA (dl (smM z) l),H):=by
 have hx:=l64 n l z H h
 cases e:dl (smM z) l with
 | nil =>
   rw[e] at hx
   refine fn_all (n:=n+3) Tryz.func64 rfl rfl rfl (u64p n l (oY z l) H) (il_no (n+1) 2) (blkE_ok (noBT_ok _ _) b64 (fun x h=>by rw[← Tr.ok_some h];simp only[Res.st,hints_eq];exact hx)) (noRT_ok _ _) ?_
   repeat' first | (refine Tr.all_ite (fun hc=>?_) (fun hc=>?_)<;>(try simp (disch:=omega) only[nV,nW] at hc)<;>try omega) | (refine Tr.all_req ?_ ?_;· (try simp (disch:=omega) only[nV,nW]);try omega) | (refine Tr.all_reqP ?_ ?_;· first | exact trivial | rfl | exact ⟨rfl,rfl⟩ | exact ⟨rfl,rfl,rfl⟩ | (simp (disch:=omega) only[nV,nW];done) | ((try simp (disch:=omega) only[nV,nW]);omega)) | fail
   all_goals first
    | exact Tr.all_ok ⟨rfl,rfl⟩
    | fail
 | cons a r =>
   rw[e] at hx
   refine fn_all (n:=n+3) Tryz.func64 rfl rfl rfl (u64q n l (oY z l) (lstO (a::r)) H r.length (r.length+1)) (il_no (n+1) 2) (blkE_ok (noBT_ok _ _) b64 (fun x h=>by rw[← Tr.ok_some h];simp only[Res.st,hints_eq];exact hx)) (noRT_ok _ _) ?_
   rw[shO_zero]
   repeat' first | (refine Tr.all_ite (fun hc=>?_) (fun hc=>?_)<;>(try simp (disch:=omega) only[nV,nW] at hc)<;>try omega) | (refine Tr.all_req ?_ ?_;· (try simp (disch:=omega) only[nV,nW]);try omega) | (refine Tr.all_reqP ?_ ?_;· first | exact trivial | rfl | exact ⟨rfl,rfl⟩ | exact ⟨rfl,rfl,rfl⟩ | (simp (disch:=omega) only[nV,nW];done) | ((try simp (disch:=omega) only[nV,nW]);omega)) | fail
   all_goals first
    | exact Tr.all_ok ⟨rfl,rfl⟩
    | fail
def whoE (l:Nat) (z:Nat→Int):Int:=if chkO l z≠0 then chkO l z else if (dl (smM z) l).length<l then 22 else 0
noncomputable def whoV (l:Nat) (z:Nat→Int):AV:=if whoE l z=0 then .tup [bookV l z,.int .i64 0] else .tup [.nilp,.int .i64 (whoE l z)]
theorem ctV1 {f k:Nat} {t:Ctr} {A V:AV} (ht:t.Ok (cd k)) (h:∀ H,cd k (.fn f) [A] H=some (V,H)):(ctG t f (gO A V)).Ok (cd k):=by
 refine ctG_ok ht (fun args p v hg hp H=>?_)
 unfold gO at hg
 split at hg
 · simp only[nP] at hg
   obtain ⟨rfl,rfl⟩:=hg
   subst hp
   exact h H
 · cases hg
theorem c62:cd (n+12) (.fn 62) [slA 5 l z] H=some (whoV l z,H):=by
 have hc:∀ k H,cd (n+10+k) (.fn 52) [slA 5 l z] H=some (opnV l z,H):=fun k H=>by rw[show n+10+k=n+k+10 by omega];exact c52 _ l z H
 by_cases h:chkO l z=0
 · have ho:opnV l z=.tup [.ptrT (some 0) (.G [slA 7 l (oY z l)]) 0,.int .i64 0]:=by unfold opnV;rw[if_pos h];rfl
   rw[ho] at hc
   have hd:∀ k H,cd (n+10+k) (.fn 64) [.ptrT (some 0) (.G [slA 7 l (oY z l)]) 0] H=some (dA (dl (smM z) l),H):=fun k H=>by rw[show n+10+k=n+6+k+4 by omega];exact c64 _ l z H h
   obtain ⟨hl,_⟩:=chk_odd h
   have hw:whoE l z=if (dl (smM z) l).length<l then 22 else 0:=by unfold whoE;rw[if_neg (fun x=>x h)]
   unfold whoV
   cases e:dl (smM z) l with
   | nil =>
     rw[e] at hd hw
     rw[if_pos (show ([]:List Int).length<l by simp;omega)] at hw
     rw[hw,if_neg (by decide)]
     refine fn_all (n:=n+11) Tryz.func62 rfl rfl rfl (u62n n l z (oY z l) H) (il_ok _ (n+10) 1 (fun k=>ctV1 (ctV1 (noCt_ok _) (hc k)) (hd k))) (noBT_ok _ _) (noRT_ok _ _) ?_
     repeat' first | (refine Tr.all_ite (fun hc=>?_) (fun hc=>?_)<;>(try simp (disch:=omega) only[nV,nW] at hc)<;>try omega) | (refine Tr.all_req ?_ ?_;· (try simp (disch:=omega) only[nV,nW]);try omega) | (refine Tr.all_reqP ?_ ?_;· first | exact trivial | rfl | exact ⟨rfl,rfl⟩ | exact ⟨rfl,rfl,rfl⟩ | (simp (disch:=omega) only[nV,nW];done) | ((try simp (disch:=omega) only[nV,nW]);omega)) | fail
     all_goals first
      | exact Tr.all_ok ⟨rfl,rfl⟩
      | fail
   | cons a r =>
     rw[e,List.length_cons] at hw
     rw[e] at hd
     refine fn_all (n:=n+11) Tryz.func62 rfl rfl rfl (u62c n l z (oY z l) (lstO (a::r)) H (r.length+1)) (il_ok _ (n+10) 1 (fun k=>ctV1 (ctV1 (noCt_ok _) (hc k)) (hd k))) (noBT_ok _ _) (noRT_ok _ _) ?_
     by_cases hx:r.length+1<l
     · rw[if_pos hx] at hw
       rw[hw,if_neg (by decide)]
       repeat' first | (refine Tr.all_ite (fun hc=>?_) (fun hc=>?_)<;>(try simp (disch:=omega) only[nV,nW] at hc)<;>try omega) | (refine Tr.all_req ?_ ?_;· (try simp (disch:=omega) only[nV,nW]);try omega) | (refine Tr.all_reqP ?_ ?_;· first | exact trivial | rfl | exact ⟨rfl,rfl⟩ | exact ⟨rfl,rfl,rfl⟩ | (simp (disch:=omega) only[nV,nW];done) | ((try simp (disch:=omega) only[nV,nW]);omega)) | fail
       all_goals first
        | exact Tr.all_ok ⟨rfl,rfl⟩
        | fail
     · rw[if_neg hx] at hw
       rw[hw,if_pos rfl]
       repeat' first | (refine Tr.all_ite (fun hc=>?_) (fun hc=>?_)<;>(try simp (disch:=omega) only[nV,nW] at hc)<;>try omega) | (refine Tr.all_req ?_ ?_;· (try simp (disch:=omega) only[nV,nW]);try omega) | (refine Tr.all_reqP ?_ ?_;· first | exact trivial | rfl | exact ⟨rfl,rfl⟩ | exact ⟨rfl,rfl,rfl⟩ | (simp (disch:=omega) only[nV,nW];done) | ((try simp (disch:=omega) only[nV,nW]);omega)) | fail
       all_goals first
        | exact Tr.all_ok ⟨rfl,rfl⟩
        | fail
 · have ho:opnV l z=.tup [.nilp,.int .i64 (chkO l z)]:=by unfold opnV;rw[if_neg h]
   rw[ho] at hc
   have hw:whoE l z=chkO l z:=by unfold whoE;rw[if_pos h]
   unfold whoV
   rw[hw,if_neg h]
   refine fn_all (n:=n+11) Tryz.func62 rfl rfl rfl (u62x n l z z z H (chkO l z)) (il_ok _ (n+10) 1 (fun k=>ctG_ok (ctV1 (noCt_ok _) (hc k)) (fun args p v hg hp H=>by cases hg))) (noBT_ok _ _) (noRT_ok _ _) ?_
   repeat' first | (refine Tr.all_ite (fun hc=>?_) (fun hc=>?_)<;>(try simp (disch:=omega) only[nV,nW] at hc)<;>try omega) | (refine Tr.all_req ?_ ?_;· (try simp (disch:=omega) only[nV,nW]);try omega) | (refine Tr.all_reqP ?_ ?_;· first | exact trivial | rfl | exact ⟨rfl,rfl⟩ | exact ⟨rfl,rfl,rfl⟩ | (simp (disch:=omega) only[nV,nW];done) | ((try simp (disch:=omega) only[nV,nW]);omega)) | fail
   all_goals first
    | exact Tr.all_ok ⟨rfl,rfl⟩
    | fail
end
end Go.Eng
end
