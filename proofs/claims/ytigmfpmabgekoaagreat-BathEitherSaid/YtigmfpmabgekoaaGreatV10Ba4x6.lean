/- Bath: open, and Births of the program. -/
import Derived.Test.YtigmfpmabgekoaaGreatV10BaAx5
section
namespace Go.Eng
open Go.Proofs
set_option linter.unusedVariables false
set_option linter.unusedSimpArgs false
set_option maxRecDepth 100000
noncomputable def gO (L V:AV):List AV→Option (Prop×AV)
 | [a]=>some (a=L,V)
 | _=>none
theorem u52 (n:Nat) (l:Nat) (z:Nat→Int) (H:Heap) (e:Int) (y:Nat→Int):bodyT Tryz.prog (cd (n+9)) 100000 52 Tryz.f52 (KtB.kt 52) (il (ctG (ctG noCt 20 (g20 (slA 5 l z) e)) 82 (gO (slA 5 l z) (.ptrT (some 0) (.G [slA 7 l y]) 0))) (n+9) 0) noBT noRT [(slA 5 l z,none)] H =
 Tr.reqP (slA 5 l z=slA 5 l z) (Tr.ite (notB (eqI e (Int.ofNat 0))) (Tr.ok ((AV.tup [AV.nilp,AV.int .i64 e],none),H)) (Tr.reqP (slA 5 l z=slA 5 l z) (Tr.ok ((AV.tup [AV.ptrT (some 0) (Row.G [slA 7 l y]) 0,AV.int .i64 (Int.ofNat 0)],none),H)))):=by kernel_rfl
theorem u52x (n:Nat) (l:Nat) (z:Nat→Int) (H:Heap) (e:Int):bodyT Tryz.prog (cd (n+9)) 100000 52 Tryz.f52 (KtB.kt 52) (il (ctG (ctG noCt 20 (g20 (slA 5 l z) e)) 82 (fun _=>none)) (n+9) 0) noBT noRT [(slA 5 l z,none)] H =
 Tr.reqP (slA 5 l z=slA 5 l z) (Tr.ite (notB (eqI e (Int.ofNat 0))) (Tr.ok ((AV.tup [AV.nilp,AV.int .i64 e],none),H)) Tr.bad):=by kernel_rfl
theorem u16 (n:Nat) (l:Nat) (z:Nat→Int) (H:Heap) (q:Int) (y:Nat→Int):bodyT Tryz.prog (cd (n+11)) 100000 16 Tryz.f16 (KtB.kt 16) (il (ctG noCt 52 (gO (slA 5 l z) (.tup [.ptrT (some 0) (.G [slA 7 l y]) 0,.int .i64 0]))) (n+10) 1) noBT noRT [(slA 5 l z,none),(.int .i64 q,none)] H =
 (fun (Z0:Row)=>Tr.reqP (slA 5 l z=slA 5 l z) (Tr.ite (notB (eqI (Int.ofNat 0) (Int.ofNat 0))) (Tr.ok ((AV.tup [AV.agg Z0,AV.int .i64 (Int.ofNat 0)],none),H)) (Tr.ite (ltI q (Int.ofNat 0)) (Tr.ok ((AV.tup [AV.agg Z0,AV.int .i64 (Int.ofNat 2)],none),H)) (Tr.ite (leI (Int.ofNat l) q) (Tr.ok ((AV.tup [AV.agg Z0,AV.int .i64 (Int.ofNat 2)],none),H)) (Tr.req (inI q l) (Tr.req (ltN (idO 0 q 7) (mulO l 7)) (Tr.req (ltN (addO (idO 0 q 7) 1) (mulO l 7)) (Tr.req (ltN (addO (idO 0 q 7) 2) (mulO l 7)) (Tr.req (ltN (addO (idO 0 q 7) 3) (mulO l 7)) (Tr.req (ltN (addO (idO 0 q 7) 4) (mulO l 7)) (Tr.req (ltN (addO (idO 0 q 7) 5) (mulO l 7)) (Tr.req (ltN (addO (idO 0 q 7) 6) (mulO l 7)) (Tr.ite (notB (leI (y (addO (idO 0 q 7) 5)) (y (addO (idO 0 q 7) 6)))) (Tr.ok ((AV.tup [AV.agg Z0,AV.int .i64 (Int.ofNat 22)],none),H)) (Tr.req (inI q l) (Tr.req (ltN (addO (idO 0 q 7) 5) (mulO l 7)) (Tr.req (ltN (addO (addO (idO 0 q 7) 5) 1) (mulO l 7)) (Tr.ok ((AV.tup [AV.agg (Row.I .i64 [y (addO (idO 0 q 7) 5),y (addO (addO (idO 0 q 7) 5) 1)]),AV.int .i64 (Int.ofNat 0)],none),H)))))))))))))))))) (Row.I .i64 [Int.ofNat 0,Int.ofNat 0]):=by kernel_rfl
theorem u16x (n:Nat) (l:Nat) (z:Nat→Int) (H:Heap) (q e:Int):bodyT Tryz.prog (cd (n+11)) 100000 16 Tryz.f16 (KtB.kt 16) (il (ctG noCt 52 (gO (slA 5 l z) (.tup [.nilp,.int .i64 e]))) (n+10) 1) noBT noRT [(slA 5 l z,none),(.int .i64 q,none)] H =
 Tr.reqP (slA 5 l z=slA 5 l z) (Tr.ite (notB (eqI e (Int.ofNat 0))) (Tr.ok ((AV.tup [AV.agg (Row.I .i64 [Int.ofNat 0,Int.ofNat 0]),AV.int .i64 e],none),H)) (Tr.ite (ltI q (Int.ofNat 0)) (Tr.ok ((AV.tup [AV.agg (Row.I .i64 [Int.ofNat 0,Int.ofNat 0]),AV.int .i64 (Int.ofNat 2)],none),H)) (Tr.ite (leI (Int.ofNat l) q) (Tr.ok ((AV.tup [AV.agg (Row.I .i64 [Int.ofNat 0,Int.ofNat 0]),AV.int .i64 (Int.ofNat 2)],none),H)) Tr.bad))):=by kernel_rfl
section
variable (n:Nat) (l:Nat) (z:Nat→Int) (H:Heap) (q:Int)
theorem ctV {f k:Nat} {t:Ctr} {V:AV} (ht:t.Ok (cd k)) (h:∀ H,cd k (.fn f) [slA 5 l z] H=some (V,H)):(ctG t f (gO (slA 5 l z) V)).Ok (cd k):=by
 refine ctG_ok ht (fun args p v hg hp H=>?_)
 unfold gO at hg
 split at hg
 · simp only[nP] at hg
   obtain ⟨rfl,rfl⟩:=hg
   subst hp
   exact h H
 · cases hg
noncomputable def opnV (l:Nat) (z:Nat→Int):AV:=if chkO l z=0 then .tup [bookV l z,.int .i64 0] else .tup [.nilp,.int .i64 (chkO l z)]
theorem c52:cd (n+10) (.fn 52) [slA 5 l z] H=some (opnV l z,H):=by
 unfold opnV
 by_cases h:chkO l z=0
 · rw[if_pos h]
   refine fn_all (n:=n+9) Tryz.func52 rfl rfl rfl (u52 n l z H (chkO l z) (oY z l)) (il_ok _ (n+9) 0 (fun k=>ctV l z (ctO l z (noCt_ok _) (fun H=>by rw[show n+9+k=n+k+9 by omega];exact c20 _ l z H)) (fun H=>by rw[show n+9+k=n+8+k+1 by omega];exact c82 _ l z H h))) (noBT_ok _ _) (noRT_ok _ _) ?_
   repeat' first | (refine Tr.all_ite (fun hc=>?_) (fun hc=>?_)<;>(try simp (disch:=omega) only[nV,nW,h] at hc)<;>try omega) | (refine Tr.all_req ?_ ?_;· (try simp (disch:=omega) only[nV,nW,h]);try omega) | (refine Tr.all_reqP ?_ ?_;· first | exact trivial | rfl | exact ⟨rfl,rfl⟩ | exact ⟨rfl,rfl,rfl⟩ | (simp (disch:=omega) only[nV,nW,h];done) | ((try simp (disch:=omega) only[nV,nW,h]);omega)) | fail
   all_goals first
    | exact Tr.all_ok ⟨rfl,rfl⟩
    | fail
 · rw[if_neg h]
   refine fn_all (n:=n+9) Tryz.func52 rfl rfl rfl (u52x n l z H (chkO l z)) (il_ok _ (n+9) 0 (fun k=>ctG_ok (ctO l z (noCt_ok _) (fun H=>by rw[show n+9+k=n+k+9 by omega];exact c20 _ l z H)) (fun args p v hg hp H=>by cases hg))) (noBT_ok _ _) (noRT_ok _ _) ?_
   repeat' first | (refine Tr.all_ite (fun hc=>?_) (fun hc=>?_)<;>(try simp (disch:=omega) only[nV,nW] at hc)<;>try omega) | (refine Tr.all_req ?_ ?_;· (try simp (disch:=omega) only[nV,nW]);try omega) | (refine Tr.all_reqP ?_ ?_;· first | exact trivial | rfl | exact ⟨rfl,rfl⟩ | exact ⟨rfl,rfl,rfl⟩ | (simp (disch:=omega) only[nV,nW];done) | ((try simp (disch:=omega) only[nV,nW]);omega)) | fail
   all_goals first
    | exact Tr.all_ok ⟨rfl,rfl⟩
    | fail
theorem oY_at {l j r:Nat} (hj:j<l) (hr:r<7):oY z l (j*7+r)=if r<5 then z (j*5+r) else if r=5 then bLo z j else bHi z j:=by
 unfold oY oZ
 rw[if_pos (by omega),show (j*7+r) / 7=j by omega,show (j*7+r) % 7=r by omega]
theorem c16:cd (n+12) (.fn 16) [slA 5 l z,.int .i64 q] H=some (birV l z q,H):=by
 have hc:∀ k H,cd (n+10+k) (.fn 52) [slA 5 l z] H=some (opnV l z,H):=fun k H=>by rw[show n+10+k=n+k+10 by omega];exact c52 _ l z H
 unfold birV
 by_cases h:chkO l z=0
 · obtain ⟨hl,hb⟩:=chk_odd h
   have ho:opnV l z=.tup [.ptrT (some 0) (.G [slA 7 l (oY z l)]) 0,.int .i64 0]:=by unfold opnV;rw[if_pos h];rfl
   rw[ho] at hc
   rw[if_neg (fun x=>x h)]
   refine fn_all (n:=n+11) Tryz.func16 rfl rfl rfl (u16 n l z H q (oY z l)) (il_ok _ (n+10) 1 (fun k=>ctV l z (noCt_ok _) (hc k))) (noBT_ok _ _) (noRT_ok _ _) ?_
   by_cases hq:0≤q∧q<l
   · rw[if_neg (fun x=>x hq)]
     have ei:idO 0 q 7=q.toNat*7:=by rw[idO_eq];omega
     have e6:q.toNat*7+5+1=q.toNat*7+6:=rfl
     have h5:oY z l (q.toNat*7+5)=bLo z q.toNat:=oY_at z (by omega) (by omega)
     have h6:oY z l (q.toNat*7+6)=bHi z q.toNat:=oY_at z (by omega) (by omega)
     simp only[ei,addO_eq,e6]
     rw[h5,h6]
     generalize bLo z q.toNat=lo at *
     generalize bHi z q.toNat=hi at *
     repeat' first | (refine Tr.all_ite (fun hc=>?_) (fun hc=>?_)<;>(try simp (disch:=omega) only[nV,nW] at hc)<;>try omega) | (refine Tr.all_req ?_ ?_;· (try simp (disch:=omega) only[nV,nW]);try omega) | (refine Tr.all_reqP ?_ ?_;· first | exact trivial | rfl | exact ⟨rfl,rfl⟩ | exact ⟨rfl,rfl,rfl⟩ | (simp (disch:=omega) only[nV,nW];done) | ((try simp (disch:=omega) only[nV,nW]);omega)) | fail
     all_goals first
      | (rw[if_neg (by omega)];exact Tr.all_ok ⟨rfl,rfl⟩)
      | (rw[if_pos (by omega)];exact Tr.all_ok ⟨rfl,rfl⟩)
      | fail
   · rw[if_pos hq]
     repeat' first | (refine Tr.all_ite (fun hc=>?_) (fun hc=>?_)<;>(try simp (disch:=omega) only[nV,nW] at hc)<;>try omega) | (refine Tr.all_req ?_ ?_;· (try simp (disch:=omega) only[nV,nW]);try omega) | (refine Tr.all_reqP ?_ ?_;· first | exact trivial | rfl | exact ⟨rfl,rfl⟩ | exact ⟨rfl,rfl,rfl⟩ | (simp (disch:=omega) only[nV,nW];done) | ((try simp (disch:=omega) only[nV,nW]);omega)) | fail
     all_goals first
      | exact Tr.all_ok ⟨rfl,rfl⟩
      | fail
 · have ho:opnV l z=.tup [.nilp,.int .i64 (chkO l z)]:=by unfold opnV;rw[if_neg h]
   rw[ho] at hc
   rw[if_pos h]
   refine fn_all (n:=n+11) Tryz.func16 rfl rfl rfl (u16x n l z H q (chkO l z)) (il_ok _ (n+10) 1 (fun k=>ctV l z (noCt_ok _) (hc k))) (noBT_ok _ _) (noRT_ok _ _) ?_
   repeat' first | (refine Tr.all_ite (fun hc=>?_) (fun hc=>?_)<;>(try simp (disch:=omega) only[nV,nW] at hc)<;>try omega) | (refine Tr.all_req ?_ ?_;· (try simp (disch:=omega) only[nV,nW]);try omega) | (refine Tr.all_reqP ?_ ?_;· first | exact trivial | rfl | exact ⟨rfl,rfl⟩ | exact ⟨rfl,rfl,rfl⟩ | (simp (disch:=omega) only[nV,nW];done) | ((try simp (disch:=omega) only[nV,nW]);omega)) | fail
   all_goals first
    | exact Tr.all_ok ⟨rfl,rfl⟩
    | fail
end
end Go.Eng
end
section
namespace Go.Eng
open Go.Proofs
set_option linter.unusedVariables false
set_option linter.unusedSimpArgs false
set_option maxRecDepth 100000
noncomputable def fr56 (l:Nat) (y:Nat→Int) (q j:Int):Frm:=[(1,.int .i64 q),(4,.ptr 0 0 0 0),(5,.ptr 0 1 0 0),(12,slA 7 l y),(13,.int .i64 (Int.ofNat l)),(14,.int .i64 j)]
noncomputable def lv56 (m:Nat→Int):Lvl:=⟨false,[(0,.row (.M [.arr .i64 (fun x=>Int.ofNat 0) 14])),(0,.row (.M [.arr .i64 m 14]))]⟩
theorem t56 (n:Nat) (l:Nat) (y m:Nat→Int) (H:Heap) (q j:Int):execT (cxD (n+1) 56 26) (il noCt n 1) noBT noRT (part Tryz.f56 [1,1,1,0,1,0,0]) (hints (fr56 l y q j)) (lv56 m::H) =
 (fun (Z0:HFrm)=>((fun (Z1:Nat×Blk)=>((fun (Z2:Nat×Blk)=>Tr.ite (ltI j (Int.ofNat l)) (Tr.req (inI j l) (Tr.req (ltN (idO 0 j 7) (mulO l 7)) (Tr.req (ltN (addO (idO 0 j 7) 1) (mulO l 7)) (Tr.req (ltN (addO (idO 0 j 7) 2) (mulO l 7)) (Tr.req (ltN (addO (idO 0 j 7) 3) (mulO l 7)) (Tr.req (ltN (addO (idO 0 j 7) 4) (mulO l 7)) (Tr.req (ltN (addO (idO 0 j 7) 5) (mulO l 7)) (Tr.req (ltN (addO (idO 0 j 7) 6) (mulO l 7)) (Tr.ite (leI (y (addO (idO 0 j 7) 5)) q) (Tr.ite (leI q (y (addO (idO 0 j 7) 6))) (Tr.req (inI j 14) (Tr.req (eqN 0 0) (Tr.req (ltN (idO 0 j 1) 14) (Tr.ok (Ex.normal,Z0,{ lock:=false,bs:=[Z2,(0,Blk.row (Row.M [Seg.arr .i64 (updO m (idO 0 j 1) (Int.ofNat 1)) 14])),Z1] } :: H))))) (Tr.ok (Ex.normal,Z0,{ lock:=false,bs:=[Z2,(0,Blk.row (Row.M [Seg.arr .i64 m 14])),Z1] } :: H))) (Tr.ok (Ex.normal,Z0,{ lock:=false,bs:=[Z2,(0,Blk.row (Row.M [Seg.arr .i64 m 14])),Z1] } :: H))))))))))) (Tr.ok (Ex.exit 0,[(1,AV.int .i64 q,none),(4,AV.ptr 0 0 0 0,none),(5,AV.ptr 0 1 0 0,none),(12,slA 7 l y,none),(13,AV.int .i64 (Int.ofNat l),none),(14,AV.int .i64 j,none),(15,AV.bool false,some 1)],{ lock:=false,bs:=[Z2,(0,Blk.row (Row.M [Seg.arr .i64 m 14]))] } :: H))) (0,Blk.row (Row.M [Seg.arr .i64 (fun x=>Int.ofNat 0) 14])))) (0,Blk.row (Row.I .i64 [y (idO 0 j 7),y (addO (idO 0 j 7) 1),y (addO (idO 0 j 7) 2),y (addO (idO 0 j 7) 3),y (addO (idO 0 j 7) 4),y (addO (idO 0 j 7) 5),y (addO (idO 0 j 7) 6)])))) [(1,AV.int .i64 q,none),(4,AV.ptr 0 0 0 0,none),(5,AV.ptr 0 1 0 0,none),(12,slA 7 l y,none),(13,AV.int .i64 (Int.ofNat l),none),(14,AV.int .i64 (addI .i64 j (Int.ofNat 1)),none)]:=by kernel_rfl
theorem u56 (n:Nat) (l:Nat) (y m:Nat→Int) (H:Heap) (q:Int):bodyT Tryz.prog (cd (n+1)) 100000 56 Tryz.f56 (KtB.kt 56) (il noCt n 1) (blkE noBT 0 (fr56 l y q 0) (lv56 (copO (fun x=>Int.ofNat 0) 0 (fun x=>Int.ofNat 0) 14)::H) (.ok (.normal,hints (fr56 l y q (Int.ofNat l)++[(15,.bool false)]),lv56 m::H))) noRT [(.ptrT (some 0) (.G [slA 7 l y]) 0,none),(.int .i64 q,none)] H =
 (fun (Z0:Lvl)=>((fun (Z1:Frm)=>Tr.req (ltN 0 14) (Tr.req (eqN 0 0) (Tr.req (inO 0 14 0 14) (Tr.reqP (Z1=Z1∧Z0::H=Z0::H) (Tr.req (inO 0 14 0 14) (Tr.ok ((AV.agg (Row.M [Seg.arr .i64 (copO (fun x=>Int.ofNat 0) 0 m 14) 14]),none),H))))))) [(1,AV.int .i64 q),(4,AV.ptr 0 0 0 0),(5,AV.ptr 0 1 0 0),(12,slA 7 l y),(13,AV.int .i64 (Int.ofNat l)),(14,AV.int .i64 (Int.ofNat 0))])) { lock:=false,bs:=[(0,Blk.row (Row.M [Seg.arr .i64 (fun x=>Int.ofNat 0) 14])),(0,Blk.row (Row.M [Seg.arr .i64 (copO (fun x=>Int.ofNat 0) 0 (fun x=>Int.ofNat 0) 14) 14]))] }:=by kernel_rfl
def dnB (z:Nat→Int) (q:Int) (j:Nat):Bool:=decide (bLo z j≤q) && decide (q≤bHi z j)
def mkJ (z:Nat→Int) (q:Int) (k i:Nat):Int:=if i<k∧dnB z q i=true then 1 else 0
theorem b56:∀ b,(0,b) ∈ blocksOf (bodyOf Tryz.f56)→b=.loop (part Tryz.f56 [1,1,1,0,1,0,0]):=by
 have:((blocksOf (bodyOf Tryz.f56)).filter fun x=>Nat.beq x.1 0)=[(0,.loop (part Tryz.f56 [1,1,1,0,1,0,0]))]:=by kernel_rfl
 intro b hb
 have hm:(0,b) ∈ ((blocksOf (bodyOf Tryz.f56)).filter fun x=>Nat.beq x.1 0):=List.mem_filter.2 ⟨hb,rfl⟩
 rw[this] at hm;simpa using hm
section
variable (n:Nat) (l:Nat) (z:Nat→Int) (H:Heap) (q:Int)
theorem l56 (h:chkO l z=0):exec (cxD (n+1) 56 26) (.block 0 (.loop (part Tryz.f56 [1,1,1,0,1,0,0]))) (fr56 l (oY z l) q 0) (lv56 (copO (fun x=>Int.ofNat 0) 0 (fun x=>Int.ofNat 0) 14)::H)=some (.normal,fr56 l (oY z l) q (Int.ofNat l)++[(15,.bool false)],lv56 (mkJ z q l)::H):=by
 obtain ⟨hl,hb⟩:=chk_odd h
 have h0:copO (fun x=>Int.ofNat 0) 0 (fun x=>Int.ofNat 0) 14=mkJ z q 0:=by
  rw[copO_eq];funext i;unfold copZ mkJ;simp
 rw[h0]
 have:=forX (n:=n+1) (f:=56) (nt:=26) (c:=part Tryz.f56 [1,1,1,0,1,0,0]) 0 (fun j=>fr56 l (oY z l) q (j:Int)) (fun j=>lv56 (mkJ z q j)::H) l (fr56 l (oY z l) q (Int.ofNat l)++[(15,.bool false)],lv56 (mkJ z q l)::H) (by omega) (fun j hj=>?_) ?_
 · exact this
 · have ej:addI .i64 (j:Int) (Int.ofNat 1)=((j+1:Nat):Int):=by rw[addI_eq,show Int.ofNat 1=1 from rfl];exact wr_64 (by omega) (by omega)
   have ei:idO 0 (j:Int) 7=j*7:=by rw[idO_eq];omega
   have ei1:idO 0 (j:Int) 1=j:=by rw[idO_eq];omega
   have e6:j*7+5+1=j*7+6:=rfl
   have h5:oY z l (j*7+5)=bLo z j:=oY_at z (by omega) (by omega)
   have h6:oY z l (j*7+6)=bHi z j:=oY_at z (by omega) (by omega)
   have hu:dnB z q j=true→updO (mkJ z q j) j (Int.ofNat 1)=mkJ z q (j+1):=fun hd=>by
    rw[updO_fn];funext i
    unfold mkJ
    by_cases e:i=j
    · subst e;simp[hd]
    · simp[e,show i<j+1↔i<j by omega]
   have hn:dnB z q j=false→mkJ z q j=mkJ z q (j+1):=fun hd=>by
    funext i
    unfold mkJ
    by_cases e:i=j
    · subst e;simp[hd]
    · simp[show i<j+1↔i<j by omega]
   have hd:dnB z q j=(decide (bLo z j≤q) && decide (q≤bHi z j)):=rfl
   refine ex_all (t56 n l (oY z l) (mkJ z q j) H q (j:Int)) (il_no n 1) (noBT_ok _ _) (noRT_ok _ _) ?_
   simp only[ei,addO_eq,e6]
   rw[h5,h6,ej,ei1]
   cases hx:dnB z q j with
   | true =>
     have hx':=hx
     rw[hd,Bool.and_eq_true,decide_eq_true_eq,decide_eq_true_eq] at hx'
     rw[hu hx]
     generalize bLo z j=lo at *
     generalize bHi z j=hi at *
     repeat' first | (refine Tr.all_ite (fun hc=>?_) (fun hc=>?_)<;>(try simp (disch:=omega) only[nV,nW] at hc)<;>try omega) | (refine Tr.all_req ?_ ?_;· (try simp (disch:=omega) only[nV,nW]);try omega) | (refine Tr.all_reqP ?_ ?_;· first | exact trivial | rfl | exact ⟨rfl,rfl⟩ | exact ⟨rfl,rfl,rfl⟩ | (simp (disch:=omega) only[nV,nW];done) | ((try simp (disch:=omega) only[nV,nW]);omega)) | fail
     all_goals first
      | exact Tr.all_ok ⟨rfl,rfl⟩
      | fail
   | false =>
     have hx':=hx
     rw[hd,Bool.and_eq_false_iff,decide_eq_false_iff_not,decide_eq_false_iff_not] at hx'
     have hn:=hn hx
     generalize mkJ z q (j+1)=m' at *
     subst hn
     generalize bLo z j=lo at *
     generalize bHi z j=hi at *
     repeat' first | (refine Tr.all_ite (fun hc=>?_) (fun hc=>?_)<;>(try simp (disch:=omega) only[nV,nW] at hc)<;>try omega) | (refine Tr.all_req ?_ ?_;· (try simp (disch:=omega) only[nV,nW]);try omega) | (refine Tr.all_reqP ?_ ?_;· first | exact trivial | rfl | exact ⟨rfl,rfl⟩ | exact ⟨rfl,rfl,rfl⟩ | (simp (disch:=omega) only[nV,nW];done) | ((try simp (disch:=omega) only[nV,nW]);omega)) | fail
     all_goals first
      | exact Tr.all_ok ⟨rfl,rfl⟩
      | fail
 · obtain ⟨x,h1,rfl⟩:=ex_all (Q:=fun x=>x=(.exit 0,fr56 l (oY z l) q (Int.ofNat l)++[(15,.bool false)],lv56 (mkJ z q l)::H)) (t56 n l (oY z l) (mkJ z q l) H q (Int.ofNat l)) (il_no n 1) (noBT_ok _ _) (noRT_ok _ _) (by
    repeat' first | (refine Tr.all_ite (fun hc=>?_) (fun hc=>?_)<;>(try simp (disch:=omega) only[nV,nW] at hc)<;>try omega) | (refine Tr.all_req ?_ ?_;· (try simp (disch:=omega) only[nV,nW]);try omega) | (refine Tr.all_reqP ?_ ?_;· first | exact trivial | rfl | exact ⟨rfl,rfl⟩ | exact ⟨rfl,rfl,rfl⟩ | (simp (disch:=omega) only[nV,nW];done) | ((try simp (disch:=omega) only[nV,nW]);omega)) | fail
    all_goals exact Tr.all_ok rfl)
   exact h1
theorem c56 (h:chkO l z=0):cd (n+2) (.fn 56) [bookV l z,.int .i64 q] H=some (.agg (.M [.arr .i64 (mkJ z q l) 14]),H):=by
 refine fn_all (n:=n+1) Tryz.func56 rfl rfl rfl (u56 n l (oY z l) (mkJ z q l) H q) (il_no n 1) (blkE_ok (noBT_ok _ _) b56 (fun x hx=>by rw[← Tr.ok_some hx];simp only[Res.st,hints_eq];exact l56 n l z H q h)) (noRT_ok _ _) ?_
 have hm:copO (fun x=>Int.ofNat 0) 0 (mkJ z q l) 14=mkJ z q l:=by
  obtain ⟨hl,_⟩:=chk_odd h
  rw[copO_eq];funext i;unfold copZ mkJ
  by_cases hi:i<14
  · simp[hi]
  · simp[hi,show ¬ i<l by omega]
 rw[hm]
 repeat' first | (refine Tr.all_ite (fun hc=>?_) (fun hc=>?_)<;>(try simp (disch:=omega) only[nV,nW] at hc)<;>try omega) | (refine Tr.all_req ?_ ?_;· (try simp (disch:=omega) only[nV,nW]);try omega) | (refine Tr.all_reqP ?_ ?_;· first | exact trivial | rfl | exact ⟨rfl,rfl⟩ | exact ⟨rfl,rfl,rfl⟩ | (simp (disch:=omega) only[nV,nW];done) | ((try simp (disch:=omega) only[nV,nW]);omega)) | fail
 all_goals exact Tr.all_ok ⟨rfl,rfl⟩
end
end Go.Eng
end
section
namespace Go.Eng
open Go.Proofs
set_option linter.unusedVariables false
set_option linter.unusedSimpArgs false
set_option maxRecDepth 100000
noncomputable def fr18 (L:AV) (m:Nat→Int) (j:Int):Frm:=[(8,L),(21,.agg (.M [.arr .i64 m 14])),(22,.int .i64 j)]
noncomputable def g56 (B:AV) (q:Int) (V:AV):List AV→Option (Prop×AV)
 | [b,.int .i64 x]=>some (b=B∧x=q,V)
 | _=>none
theorem t18a (n:Nat) (m:Nat→Int) (H:Heap) (j:Int):execT (cxD n 18 39) (il noCt n 0) noBT noRT (part Tryz.f18 [1,1,1,1,0,1,0,0]) (hints (fr18 .nils m j)) (lvE::H) =
 Tr.ite (ltI j (Int.ofNat 14)) (Tr.req (inI j 14) (Tr.req (ltN (idO 0 j 1) 14) (Tr.ite (eqI (m (idO 0 j 1)) (Int.ofNat 1)) (Tr.req (bndI (Int.ofNat 0) 0) (Tr.req (bndI (Int.ofNat 0) (toN (Int.ofNat 0))) (Tr.req (roomO 0 1 8) (Tr.req (eqN 0 0) (Tr.req (leN 1 1) (Tr.ok (Ex.normal,[(8,AV.slc 0 1 0 0 1 1 none,none),(21,AV.agg (Row.M [Seg.arr .i64 m 14]),none),(22,AV.int .i64 (addI .i64 j (Int.ofNat 1)),none)],{ lock:=false,bs:=[(0,Blk.row (Row.I .i64 [j])),(0,Blk.row (Row.M [Seg.arr .i64 (lstO [j]) 1]))] } :: H))))))) (Tr.ok (Ex.normal,[(8,AV.nils,none),(21,AV.agg (Row.M [Seg.arr .i64 m 14]),none),(22,AV.int .i64 (addI .i64 j (Int.ofNat 1)),none)],lvE::H))))) (Tr.ok (Ex.exit 0,[(8,AV.nils,none),(21,AV.agg (Row.M [Seg.arr .i64 m 14]),none),(22,AV.int .i64 j,none),(23,AV.bool false,some 1)],lvE::H)):=by kernel_rfl
theorem t18b (n:Nat) (m y:Nat→Int) (H:Heap) (j:Int) (v k:Nat):execT (cxD n 18 39) (il noCt n 0) noBT noRT (part Tryz.f18 [1,1,1,1,0,1,0,0]) (hints (fr18 (.slc 0 0 v 0 1 k none) m j)) (⟨false,[(v,.row (.M [.arr .i64 y k]))]⟩::H) =
 (fun (Z0:Nat×AV×Option Nat)=>Tr.ite (ltI j (Int.ofNat 14)) (Tr.req (inI j 14) (Tr.req (ltN (idO 0 j 1) 14) (Tr.ite (eqI (m (idO 0 j 1)) (Int.ofNat 1)) (Tr.req (bndI (Int.ofNat k) k) (Tr.req (bndI (Int.ofNat k) (toN (Int.ofNat k))) (Tr.req (roomO (toN (Int.ofNat k)) 1 8) (Tr.req (eqN 0 0) (Tr.req (leN 1 1) (Tr.ite (ltN (toN (Int.ofNat k)) (addO (toN (Int.ofNat k)) 1)) (Tr.req (eqN v v) (Tr.req (leN (toN (Int.ofNat k)) (toN (Int.ofNat k))) (Tr.req (inO 0 (toN (Int.ofNat k)) 0 k) (Tr.ok (Ex.normal,[(8,AV.slc 0 2 0 0 1 (addO (toN (Int.ofNat k)) 1) none,none),Z0,(22,AV.int .i64 (addI .i64 j (Int.ofNat 1)),none)],{ lock:=false,bs:=[(v,Blk.row (Row.M [Seg.arr .i64 y k])),(0,Blk.row (Row.I .i64 [j])),(0,Blk.row (Row.M [Seg.arr .i64 (appO (shO y 0) (toN (Int.ofNat k)) (lstO [j])) (addO (toN (Int.ofNat k)) 1)]))] } :: H))))) (Tr.req (eqN v v) (Tr.req (ltN (addO 0 (toN (Int.ofNat k))) k) (Tr.ok (Ex.normal,[(8,AV.slc 0 0 v 0 1 (addO (toN (Int.ofNat k)) 1) (some (toN (Int.ofNat k))),none),Z0,(22,AV.int .i64 (addI .i64 j (Int.ofNat 1)),none)],{ lock:=false,bs:=[(v,Blk.row (Row.M [Seg.arr .i64 (updO y (addO 0 (toN (Int.ofNat k))) j) k])),(0,Blk.row (Row.I .i64 [j]))] } :: H)))))))))) (Tr.ok (Ex.normal,[(8,AV.slc 0 0 v 0 1 k none,none),Z0,(22,AV.int .i64 (addI .i64 j (Int.ofNat 1)),none)],{ lock:=false,bs:=[(v,Blk.row (Row.M [Seg.arr .i64 y k]))] } :: H))))) (Tr.ok (Ex.exit 0,[(8,AV.slc 0 0 v 0 1 k none,none),Z0,(22,AV.int .i64 j,none),(23,AV.bool false,some 1)],{ lock:=false,bs:=[(v,Blk.row (Row.M [Seg.arr .i64 y k]))] } :: H))) (21,AV.agg (Row.M [Seg.arr .i64 m 14]),none):=by kernel_rfl
theorem u18p (n:Nat) (l:Nat) (z y m:Nat→Int) (H:Heap) (q:Int):bodyT Tryz.prog (cd (n+11)) 100000 18 Tryz.f18 (KtB.kt 18) (il (ctG (ctG noCt 52 (gO (slA 5 l z) (.tup [.ptrT (some 0) (.G [slA 7 l y]) 0,.int .i64 0]))) 56 (g56 (.ptrT (some 0) (.G [slA 7 l y]) 0) q (.agg (.M [.arr .i64 m 14])))) (n+10) 1) (blkE noBT 0 (fr18 .nils m 0) (lvE::H) (.ok (.normal,hints (fr18 .nils m (Int.ofNat 14)++[(23,.bool false)]),lvE::H))) noRT [(slA 5 l z,none),(.int .i64 q,none)] H =
 (fun (Z0:Frm)=>Tr.reqP (slA 5 l z=slA 5 l z) (Tr.ite (notB (eqI (Int.ofNat 0) (Int.ofNat 0))) (Tr.ok ((AV.tup [AV.nils,AV.int .i64 (Int.ofNat 0)],none),H)) (Tr.reqP (AV.ptrT (some 0) (Row.G [slA 7 l y]) 0=AV.ptrT (some 0) (Row.G [slA 7 l y]) 0∧q=q) (Tr.reqP (Z0=Z0∧lvE::H=lvE::H) (Tr.ok ((AV.tup [AV.nils,AV.int .i64 (Int.ofNat 0)],none),H)))))) [(8,AV.nils),(21,AV.agg (Row.M [Seg.arr .i64 m 14])),(22,AV.int .i64 (Int.ofNat 0))]:=by kernel_rfl
theorem u18q (n:Nat) (l:Nat) (z y m g:Nat→Int) (H:Heap) (q:Int) (v k:Nat):bodyT Tryz.prog (cd (n+11)) 100000 18 Tryz.f18 (KtB.kt 18) (il (ctG (ctG noCt 52 (gO (slA 5 l z) (.tup [.ptrT (some 0) (.G [slA 7 l y]) 0,.int .i64 0]))) 56 (g56 (.ptrT (some 0) (.G [slA 7 l y]) 0) q (.agg (.M [.arr .i64 m 14])))) (n+10) 1) (blkE noBT 0 (fr18 .nils m 0) (lvE::H) (.ok (.normal,hints (fr18 (.slc 0 0 v 0 1 k none) m (Int.ofNat 14)++[(23,.bool false)]),⟨false,[(v,.row (.M [.arr .i64 g k]))]⟩::H))) noRT [(slA 5 l z,none),(.int .i64 q,none)] H =
 (fun (Z0:Frm)=>Tr.reqP (slA 5 l z=slA 5 l z) (Tr.ite (notB (eqI (Int.ofNat 0) (Int.ofNat 0))) (Tr.ok ((AV.tup [AV.nils,AV.int .i64 (Int.ofNat 0)],none),H)) (Tr.reqP (AV.ptrT (some 0) (Row.G [slA 7 l y]) 0=AV.ptrT (some 0) (Row.G [slA 7 l y]) 0∧q=q) (Tr.reqP (Z0=Z0∧lvE::H=lvE::H) (Tr.req (eqN v v) (Tr.req (inO 0 k 0 k) (Tr.ok ((AV.tup [AV.slcT none (Row.M [Seg.arr .i64 (shO g 0) k]) 1 k false,AV.int .i64 (Int.ofNat 0)],none),H)))))))) [(8,AV.nils),(21,AV.agg (Row.M [Seg.arr .i64 m 14])),(22,AV.int .i64 (Int.ofNat 0))]:=by kernel_rfl
theorem u18x (n:Nat) (l:Nat) (z:Nat→Int) (H:Heap) (q e:Int):bodyT Tryz.prog (cd (n+11)) 100000 18 Tryz.f18 (KtB.kt 18) (il (ctG (ctG noCt 52 (gO (slA 5 l z) (.tup [.nilp,.int .i64 e]))) 56 (fun _=>none)) (n+10) 1) (stopB noBT 0) noRT [(slA 5 l z,none),(.int .i64 q,none)] H =
 Tr.reqP (slA 5 l z=slA 5 l z) (Tr.ite (notB (eqI e (Int.ofNat 0))) (Tr.ok ((AV.tup [AV.nils,AV.int .i64 e],none),H)) Tr.bad):=by kernel_rfl
theorem lst_app (L:List Int) (v:Int):appO (shO (lstO L) 0) L.length (lstO [v])=lstO (L++[v]):=by
 rw[shO_zero,appO_fn,lstO_fn];funext i
 by_cases h:i<L.length
 · simp[h,List.getElem?_append]
 · by_cases h2:i=L.length
   · subst h2;simp
   · have e1:[v][i-L.length]?=none:=List.getElem?_eq_none (by simp;omega)
     have e2:(L++[v])[i]?=none:=List.getElem?_eq_none (by simp;omega)
     simp only[h,if_false,List.getD_eq_getElem?_getD,e1,e2]
def dl (m:Nat→Int):Nat→List Int
 | 0=>[]
 | j+1=>if m j=1 then dl m j++[(j:Int)] else dl m j
theorem dl_len (m:Nat→Int) (j:Nat):(dl m j).length≤j:=by
 induction j with
 | zero=>simp[dl]
 | succ j ih =>
   unfold dl
   split
   · rw[List.length_append];simp only[List.length_cons,List.length_nil];omega
   · omega
noncomputable def dV:List Int→AV
 | []=>.nils
 | a::r=>.slc 0 0 0 0 1 (r.length+1) none
noncomputable def dLv:List Int→Lvl
 | []=>⟨false,[]⟩
 | a::r=>⟨false,[(0,.row (.M [.arr .i64 (lstO (a::r)) (r.length+1)]))]⟩
theorem b18:∀ b,(0,b) ∈ blocksOf (bodyOf Tryz.f18)→b=.loop (part Tryz.f18 [1,1,1,1,0,1,0,0]):=by
 have:((blocksOf (bodyOf Tryz.f18)).filter fun x=>Nat.beq x.1 0)=[(0,.loop (part Tryz.f18 [1,1,1,1,0,1,0,0]))]:=by kernel_rfl
 intro b hb
 have hm:(0,b) ∈ ((blocksOf (bodyOf Tryz.f18)).filter fun x=>Nat.beq x.1 0):=List.mem_filter.2 ⟨hb,rfl⟩
 rw[this] at hm;simpa using hm
section
variable (n:Nat) (m:Nat→Int) (H:Heap)
theorem l18:exec (cxD n 18 39) (.block 0 (.loop (part Tryz.f18 [1,1,1,1,0,1,0,0]))) (fr18 .nils m 0) (lvE::H)=some (.normal,fr18 (dV (dl m 14)) m (Int.ofNat 14)++[(23,.bool false)],dLv (dl m 14)::H):=by
 have:=forX (n:=n) (f:=18) (nt:=39) (c:=part Tryz.f18 [1,1,1,1,0,1,0,0]) 0 (fun j=>fr18 (dV (dl m j)) m (j:Int)) (fun j=>dLv (dl m j)::H) 14 (fr18 (dV (dl m 14)) m (Int.ofNat 14)++[(23,.bool false)],dLv (dl m 14)::H) (by omega) (fun j hj=>?_) ?_
 · exact this
 · have ej:addI .i64 (j:Int) (Int.ofNat 1)=((j+1:Nat):Int):=by rw[addI_eq,show Int.ofNat 1=1 from rfl];exact wr_64 (by omega) (by omega)
   have ei:idO 0 (j:Int) 1=j:=by rw[idO_eq];omega
   have hl:=dl_len m j
   have hd:dl m (j+1)=if m j=1 then dl m j++[(j:Int)] else dl m j:=rfl
   cases e:dl m j with
   | nil =>
     rw[e] at hd
     refine ex_all (t18a n m H (j:Int)) (il_no0 n) (noBT_ok _ _) (noRT_ok _ _) ?_
     rw[ej,ei]
     generalize dl m (j+1)=D at *
     generalize m j=mj at *
     repeat' first | (refine Tr.all_ite (fun hc=>?_) (fun hc=>?_)<;>(try simp (disch:=omega) only[nV,nW] at hc)<;>try omega) | (refine Tr.all_req ?_ ?_;· (try simp (disch:=omega) only[nV,nW]);try omega) | (refine Tr.all_reqP ?_ ?_;· first | exact trivial | rfl | exact ⟨rfl,rfl⟩ | exact ⟨rfl,rfl,rfl⟩ | (simp (disch:=omega) only[nV,nW];done) | ((try simp (disch:=omega) only[nV,nW]);omega)) | fail
     all_goals first
      | (rw[if_pos (by omega)] at hd;subst hd;exact Tr.all_ok ⟨rfl,rfl⟩)
      | (rw[if_neg (by omega)] at hd;subst hd;exact Tr.all_ok ⟨rfl,rfl⟩)
      | fail
   | cons a r =>
     rw[e] at hd hl
     have e1:=lst_app (a::r) (j:Int)
     simp only[List.length_cons] at hl e1
     have e2:toN (Int.ofNat (r.length+1))=r.length+1:=toN_eq _
     have e3:addO (r.length+1) 1=r.length+1+1:=by rw[addO_eq]
     refine ex_all (t18b n m (lstO (a::r)) H (j:Int) 0 (r.length+1)) (il_no0 n) (noBT_ok _ _) (noRT_ok _ _) ?_
     rw[ej,ei,e2,e3,e1]
     generalize hD:dl m (j+1)=D at *
     generalize m j=mj at *
     have e4:(r++[(j:Int)]).length+1=r.length+1+1:=by simp
     repeat' first | (refine Tr.all_ite (fun hc=>?_) (fun hc=>?_)<;>(try simp (disch:=omega) only[nV,nW] at hc)<;>try omega) | (refine Tr.all_req ?_ ?_;· (try simp (disch:=omega) only[nV,nW]);try omega) | (refine Tr.all_reqP ?_ ?_;· first | exact trivial | rfl | exact ⟨rfl,rfl⟩ | exact ⟨rfl,rfl,rfl⟩ | (simp (disch:=omega) only[nV,nW];done) | ((try simp (disch:=omega) only[nV,nW]);omega)) | fail
     all_goals first
      | (rw[if_pos (by omega)] at hd;subst hd
         refine Tr.all_ok ⟨rfl,?_⟩
         show _=(fr18 (.slc 0 0 0 0 1 ((r++[(j:Int)]).length+1) none) m ((j+1:Nat):Int),(⟨false,[(0,.row (.M [.arr .i64 (lstO (a::r++[(j:Int)])) ((r++[(j:Int)]).length+1)]))]⟩:Lvl)::H)
         rw[e4];rfl)
      | (rw[if_neg (by omega)] at hd;subst hd;exact Tr.all_ok ⟨rfl,rfl⟩)
      | fail
 · cases e:dl m 14 with
   | nil =>
     obtain ⟨x,h1,rfl⟩:=ex_all (Q:=fun x=>x=(.exit 0,fr18 .nils m (Int.ofNat 14)++[(23,.bool false)],lvE::H)) (t18a n m H (Int.ofNat 14)) (il_no0 n) (noBT_ok _ _) (noRT_ok _ _) (by
      repeat' first | (refine Tr.all_ite (fun hc=>?_) (fun hc=>?_)<;>(try simp (disch:=omega) only[nV,nW] at hc)<;>try omega) | (refine Tr.all_req ?_ ?_;· (try simp (disch:=omega) only[nV,nW]);try omega) | (refine Tr.all_reqP ?_ ?_;· first | exact trivial | rfl | exact ⟨rfl,rfl⟩ | exact ⟨rfl,rfl,rfl⟩ | (simp (disch:=omega) only[nV,nW];done) | ((try simp (disch:=omega) only[nV,nW]);omega)) | fail
      all_goals exact Tr.all_ok rfl)
     exact h1
   | cons a r =>
     obtain ⟨x,h1,rfl⟩:=ex_all (Q:=fun x=>x=(.exit 0,fr18 (.slc 0 0 0 0 1 (r.length+1) none) m (Int.ofNat 14)++[(23,.bool false)],(⟨false,[(0,.row (.M [.arr .i64 (lstO (a::r)) (r.length+1)]))]⟩:Lvl)::H)) (t18b n m (lstO (a::r)) H (Int.ofNat 14) 0 (r.length+1)) (il_no0 n) (noBT_ok _ _) (noRT_ok _ _) (by
      repeat' first | (refine Tr.all_ite (fun hc=>?_) (fun hc=>?_)<;>(try simp (disch:=omega) only[nV,nW] at hc)<;>try omega) | (refine Tr.all_req ?_ ?_;· (try simp (disch:=omega) only[nV,nW]);try omega) | (refine Tr.all_reqP ?_ ?_;· first | exact trivial | rfl | exact ⟨rfl,rfl⟩ | exact ⟨rfl,rfl,rfl⟩ | (simp (disch:=omega) only[nV,nW];done) | ((try simp (disch:=omega) only[nV,nW]);omega)) | fail
      all_goals exact Tr.all_ok rfl)
     exact h1
end
noncomputable def dA:List Int→AV
 | []=>.nils
 | a::r=>.slcT none (.M [.arr .i64 (lstO (a::r)) (r.length+1)]) 1 (r.length+1) false
noncomputable def doeV (l:Nat) (z:Nat→Int) (q:Int):AV:=if chkO l z=0 then .tup [dA (dl (mkJ z q l) 14),.int .i64 0] else .tup [.nils,.int .i64 (chkO l z)]
theorem ct56 {k:Nat} {t:Ctr} {B V:AV} {q:Int} (ht:t.Ok (cd k)) (h:∀ H,cd k (.fn 56) [B,.int .i64 q] H=some (V,H)):(ctG t 56 (g56 B q V)).Ok (cd k):=by
 refine ctG_ok ht (fun args p v hg hp H=>?_)
 unfold g56 at hg
 split at hg
 · simp only[nP] at hg
   obtain ⟨rfl,rfl⟩:=hg
   obtain ⟨rfl,rfl⟩:=hp
   exact h H
 · cases hg
section
variable (n:Nat) (l:Nat) (z:Nat→Int) (H:Heap) (q:Int)
theorem c18:cd (n+12) (.fn 18) [slA 5 l z,.int .i64 q] H=some (doeV l z q,H):=by
 have hc:∀ k H,cd (n+10+k) (.fn 52) [slA 5 l z] H=some (opnV l z,H):=fun k H=>by rw[show n+10+k=n+k+10 by omega];exact c52 _ l z H
 unfold doeV
 by_cases h:chkO l z=0
 · have ho:opnV l z=.tup [.ptrT (some 0) (.G [slA 7 l (oY z l)]) 0,.int .i64 0]:=by unfold opnV;rw[if_pos h];rfl
   rw[ho] at hc
   rw[if_pos h]
   have hd:∀ k H,cd (n+10+k) (.fn 56) [.ptrT (some 0) (.G [slA 7 l (oY z l)]) 0,.int .i64 q] H=some (.agg (.M [.arr .i64 (mkJ z q l) 14]),H):=fun k H=>by rw[show n+10+k=n+8+k+2 by omega];exact c56 _ l z H q h
   have hl:=l18 (n+11) (mkJ z q l) H
   cases e:dl (mkJ z q l) 14 with
   | nil =>
     rw[e] at hl
     refine fn_all (n:=n+11) Tryz.func18 rfl rfl rfl (u18p n l z (oY z l) (mkJ z q l) H q) (il_ok _ (n+10) 1 (fun k=>ct56 (ctV l z (noCt_ok _) (hc k)) (hd k))) (blkE_ok (noBT_ok _ _) b18 (fun x hx=>by rw[← Tr.ok_some hx];simp only[Res.st,hints_eq];exact hl)) (noRT_ok _ _) ?_
     repeat' first | (refine Tr.all_ite (fun hc=>?_) (fun hc=>?_)<;>(try simp (disch:=omega) only[nV,nW] at hc)<;>try omega) | (refine Tr.all_req ?_ ?_;· (try simp (disch:=omega) only[nV,nW]);try omega) | (refine Tr.all_reqP ?_ ?_;· first | exact trivial | rfl | exact ⟨rfl,rfl⟩ | exact ⟨rfl,rfl,rfl⟩ | (simp (disch:=omega) only[nV,nW];done) | ((try simp (disch:=omega) only[nV,nW]);omega)) | fail
     all_goals first
      | exact Tr.all_ok ⟨rfl,rfl⟩
      | fail
   | cons a r =>
     rw[e] at hl
     refine fn_all (n:=n+11) Tryz.func18 rfl rfl rfl (u18q n l z (oY z l) (mkJ z q l) (lstO (a::r)) H q 0 (r.length+1)) (il_ok _ (n+10) 1 (fun k=>ct56 (ctV l z (noCt_ok _) (hc k)) (hd k))) (blkE_ok (noBT_ok _ _) b18 (fun x hx=>by rw[← Tr.ok_some hx];simp only[Res.st,hints_eq];exact hl)) (noRT_ok _ _) ?_
     rw[shO_zero]
     repeat' first | (refine Tr.all_ite (fun hc=>?_) (fun hc=>?_)<;>(try simp (disch:=omega) only[nV,nW] at hc)<;>try omega) | (refine Tr.all_req ?_ ?_;· (try simp (disch:=omega) only[nV,nW]);try omega) | (refine Tr.all_reqP ?_ ?_;· first | exact trivial | rfl | exact ⟨rfl,rfl⟩ | exact ⟨rfl,rfl,rfl⟩ | (simp (disch:=omega) only[nV,nW];done) | ((try simp (disch:=omega) only[nV,nW]);omega)) | fail
     all_goals first
      | exact Tr.all_ok ⟨rfl,rfl⟩
      | fail
 · have ho:opnV l z=.tup [.nilp,.int .i64 (chkO l z)]:=by unfold opnV;rw[if_neg h]
   rw[ho] at hc
   rw[if_neg h]
   refine fn_all (n:=n+11) Tryz.func18 rfl rfl rfl (u18x n l z H q (chkO l z)) (il_ok _ (n+10) 1 (fun k=>ctG_ok (ctV l z (noCt_ok _) (hc k)) (fun args p v hg hp H=>by cases hg))) (stopB_ok (noBT_ok _ _) 0) (noRT_ok _ _) ?_
   repeat' first | (refine Tr.all_ite (fun hc=>?_) (fun hc=>?_)<;>(try simp (disch:=omega) only[nV,nW] at hc)<;>try omega) | (refine Tr.all_req ?_ ?_;· (try simp (disch:=omega) only[nV,nW]);try omega) | (refine Tr.all_reqP ?_ ?_;· first | exact trivial | rfl | exact ⟨rfl,rfl⟩ | exact ⟨rfl,rfl,rfl⟩ | (simp (disch:=omega) only[nV,nW];done) | ((try simp (disch:=omega) only[nV,nW]);omega)) | fail
   all_goals first
    | exact Tr.all_ok ⟨rfl,rfl⟩
    | fail
end
end Go.Eng
end
section
namespace Go.Eng
open Go.Proofs
set_option linter.unusedVariables false
set_option linter.unusedSimpArgs false
set_option maxRecDepth 100000
noncomputable abbrev sl1 (n:Nat) (z:Nat→Int) (full:Bool):AV:=.slcT none (.M [.arr .i64 z n]) 1 n full
noncomputable def dW:List Int→AV
 | []=>.nils
 | a::r=>.slc 0 0 r.length 0 1 (r.length+1) none
noncomputable def dLw:List Int→Lvl
 | []=>⟨false,[]⟩
 | a::r=>⟨false,[(r.length,.row (.M [.arr .i64 (lstO (a::r)) (r.length+1)]))]⟩
section
variable (n:Nat) (l:Nat) (z:Nat→Int) (H:Heap) (q:Int)
end
end Go.Eng
end
section
namespace Go.Eng
open Go.Proofs
set_option linter.unusedVariables false
set_option linter.unusedSimpArgs false
set_option maxRecDepth 100000
noncomputable def g22 (A:AV):List AV→Option (Prop×AV)
 | [a,b]=>some (a=A∧b=A,.bool true)
 | _=>none
def g15:List AV→Option (Prop×AV)
 | []=>some (True,.bool true)
 | _=>none
theorem c15 (n:Nat) (H:Heap):cd (n+1) (.fn 15) [] H=some (.bool true,H):=by unfold cd callN;rfl
theorem ctWk {n:Nat} {t:Ctr} (ht:t.Ok (cd (n+1))):(ctG t 15 g15).Ok (cd (n+1)):=by
 refine ctG_ok ht (fun args p v hg hp H=>?_)
 unfold g15 at hg
 split at hg
 · simp only[nP] at hg
   obtain ⟨_,rfl⟩:=hg
   exact c15 _ H
 · cases hg
section
variable (n:Nat) (l:Nat) (z:Nat→Int) (H:Heap) (q s:Int)
end
end Go.Eng
end
section
namespace Go.Eng
open Go.Proofs
set_option linter.unusedVariables false
set_option linter.unusedSimpArgs false
set_option maxRecDepth 100000
noncomputable def fr42 (A:AV) (q j:Int):Frm:=[(0,A),(1,.int .i64 q),(5,.int .i64 j)]
theorem t42 (n:Nat) (H:Heap) (m:Nat) (z:Nat→Int) (q j:Int):execT (cxD n 42 18) (il noCt n 0) noBT noRT (part Tryz.f42 [1,0,1,0,0]) (hints (fr42 (sl1 m z false) q j)) (lvE::H) =
 Tr.ite (ltI j (Int.ofNat m)) (Tr.req (inI j m) (Tr.req (ltN (idO 0 j 1) m) (Tr.ite (eqI (z (idO 0 j 1)) q) (Tr.ok (Ex.ret,[(4,AV.bool true,some 1)],lvE::H)) (Tr.ok (Ex.normal,[(0,AV.slcT none (Row.M [Seg.arr .i64 z m]) 1 m false,none),(1,AV.int .i64 q,none),(5,AV.int .i64 (addI .i64 j (Int.ofNat 1)),none)],lvE::H))))) (Tr.ok (Ex.exit 0,[(0,AV.slcT none (Row.M [Seg.arr .i64 z m]) 1 m false,none),(1,AV.int .i64 q,none),(5,AV.int .i64 j,none),(9,AV.bool false,some 1)],lvE::H)):=by kernel_rfl
theorem u42 (n:Nat) (H:Heap) (m:Nat) (z:Nat→Int) (q:Int) (x:Bool):bodyT Tryz.prog (cd n) 100000 42 Tryz.f42 (KtB.kt 42) (il noCt n 0) (blkE noBT 0 (fr42 (sl1 m z false) q 0) (lvE::H) (.ite x (.ok (.ret,[(4,.bool true,none)],lvE::H)) (.ok (.normal,hints (fr42 (sl1 m z false) q (Int.ofNat m)++[(9,.bool false)]),lvE::H)))) noRT [(sl1 m z false,none),(.int .i64 q,none)] H =
 (fun (Z0:Frm)=>Tr.reqP (Z0=Z0∧lvE::H=lvE::H) (Tr.ite x (Tr.ok ((AV.bool true,none),H)) (Tr.ok ((AV.bool false,some 1),H)))) [(0,AV.slcT none (Row.M [Seg.arr .i64 z m]) 1 m false),(1,AV.int .i64 q),(5,AV.int .i64 (Int.ofNat 0))]:=by kernel_rfl
theorem u42n (n:Nat) (H:Heap) (q:Int):bodyT Tryz.prog (cd n) 100000 42 Tryz.f42 (KtB.kt 42) (il noCt n 0) noBT noRT [(.nils,none),(.int .i64 q,none)] H =
 Tr.ok ((AV.bool false,some 1),H):=by kernel_rfl
theorem b42:∀ b,(0,b) ∈ blocksOf (bodyOf Tryz.f42)→b=.loop (part Tryz.f42 [1,0,1,0,0]):=by
 have:((blocksOf (bodyOf Tryz.f42)).filter fun x=>Nat.beq x.1 0)=[(0,.loop (part Tryz.f42 [1,0,1,0,0]))]:=by kernel_rfl
 intro b hb
 have hm:(0,b) ∈ ((blocksOf (bodyOf Tryz.f42)).filter fun x=>Nat.beq x.1 0):=List.mem_filter.2 ⟨hb,rfl⟩
 rw[this] at hm;simpa using hm
theorem wr_64' {x:Int} (h0:-9223372036854775808≤x) (h1:x≤9223372036854775807):wrI .i64 x=x:=by rw[wrI_eq,wr_64 h0 h1]
theorem rem_mod {a b:Int} (ha:0≤a):remI .i64 a b=a % b:=by rw[remI_eq,Int.tmod_eq_emod_of_nonneg ha]
section
variable (n:Nat) (H:Heap)
theorem c42 (m:Nat) (z:Nat→Int) (q:Int) (hm:m≤1000):cd (n+1) (.fn 42) [sl1 m z false,.int .i64 q] H=some (.bool (exN (fun j=>decide (z j=q)) m),H):=by
 have lp:=findX (n:=n) (f:=42) (nt:=18) (c:=part Tryz.f42 [1,0,1,0,0]) 0 (fun j=>fr42 (sl1 m z false) q (j:Int)) (fun _=>lvE::H) m (fun j=>decide (z j=q)) (fun j=>([(4,.bool true)],lvE::H)) (fr42 (sl1 m z false) q (Int.ofNat m)++[(9,.bool false)],lvE::H) (by omega) (fun j hj=>?_) ?_
 · refine fn_all (n:=n) Tryz.func42 rfl rfl rfl (u42 n H m z q (exN (fun j=>decide (z j=q)) m)) (il_no n 0) (blkE_ok (noBT_ok _ _) b42 (fun x hx=>?_)) (noRT_ok _ _) ?_
   · refine Eq.trans lp ?_
     rcases Tr.ite_some hx with ⟨hc,hx⟩ | ⟨hc,hx⟩
     · rw[← Tr.ok_some hx,hc];rfl
     · rw[← Tr.ok_some hx,hc];simp only[Res.st,hints_eq];rfl
   · cases hx:exN (fun j=>decide (z j=q)) m
     · repeat' first | (refine Tr.all_ite (fun hc=>?_) (fun hc=>?_)<;>(try simp (disch:=omega) only[nV,nW,hx] at hc)<;>try omega) | (refine Tr.all_req ?_ ?_;· (try simp (disch:=omega) only[nV,nW,hx]);try omega) | (refine Tr.all_reqP ?_ ?_;· first | exact trivial | rfl | exact ⟨rfl,rfl⟩ | exact ⟨rfl,rfl,rfl⟩ | (simp (disch:=omega) only[nV,nW,hx];done) | ((try simp (disch:=omega) only[nV,nW,hx]);omega)) | fail
       all_goals first
        | exact Tr.all_ok ⟨rfl,rfl⟩
        | fail
     · repeat' first | (refine Tr.all_ite (fun hc=>?_) (fun hc=>?_)<;>(try simp (disch:=omega) only[nV,nW,hx] at hc)<;>try omega) | (refine Tr.all_req ?_ ?_;· (try simp (disch:=omega) only[nV,nW,hx]);try omega) | (refine Tr.all_reqP ?_ ?_;· first | exact trivial | rfl | exact ⟨rfl,rfl⟩ | exact ⟨rfl,rfl,rfl⟩ | (simp (disch:=omega) only[nV,nW,hx];done) | ((try simp (disch:=omega) only[nV,nW,hx]);omega)) | fail
       all_goals first
        | exact Tr.all_ok ⟨rfl,rfl⟩
        | fail
 · have ej:addI .i64 (j:Int) (Int.ofNat 1)=((j+1:Nat):Int):=by rw[addI_eq,show Int.ofNat 1=1 from rfl];exact wr_64 (by omega) (by omega)
   have ei:idO 0 (j:Int) 1=j:=by rw[idO_eq];omega
   refine ex_all (t42 n H m z q (j:Int)) (il_no0 n) (noBT_ok _ _) (noRT_ok _ _) ?_
   rw[ej,ei]
   generalize z j=zj at *
   by_cases hz:zj=q
   · repeat' first | (refine Tr.all_ite (fun hc=>?_) (fun hc=>?_)<;>(try simp (disch:=omega) only[nV,nW] at hc)<;>try omega) | (refine Tr.all_req ?_ ?_;· (try simp (disch:=omega) only[nV,nW]);try omega) | (refine Tr.all_reqP ?_ ?_;· first | exact trivial | rfl | exact ⟨rfl,rfl⟩ | exact ⟨rfl,rfl,rfl⟩ | (simp (disch:=omega) only[nV,nW];done) | ((try simp (disch:=omega) only[nV,nW]);omega)) | fail
     all_goals first
      | (refine Tr.all_ok ?_;rw[if_pos (by simpa using hz)];rfl)
      | fail
   · repeat' first | (refine Tr.all_ite (fun hc=>?_) (fun hc=>?_)<;>(try simp (disch:=omega) only[nV,nW] at hc)<;>try omega) | (refine Tr.all_req ?_ ?_;· (try simp (disch:=omega) only[nV,nW]);try omega) | (refine Tr.all_reqP ?_ ?_;· first | exact trivial | rfl | exact ⟨rfl,rfl⟩ | exact ⟨rfl,rfl,rfl⟩ | (simp (disch:=omega) only[nV,nW];done) | ((try simp (disch:=omega) only[nV,nW]);omega)) | fail
     all_goals first
      | (refine Tr.all_ok ?_;rw[if_neg (by simpa using hz)];exact ⟨rfl,rfl⟩)
      | fail
 · obtain ⟨x,h1,rfl⟩:=ex_all (Q:=fun x=>x=(.exit 0,fr42 (sl1 m z false) q (Int.ofNat m)++[(9,.bool false)],lvE::H)) (t42 n H m z q (Int.ofNat m)) (il_no0 n) (noBT_ok _ _) (noRT_ok _ _) (by
    repeat' first | (refine Tr.all_ite (fun hc=>?_) (fun hc=>?_)<;>(try simp (disch:=omega) only[nV,nW] at hc)<;>try omega) | (refine Tr.all_req ?_ ?_;· (try simp (disch:=omega) only[nV,nW]);try omega) | (refine Tr.all_reqP ?_ ?_;· first | exact trivial | rfl | exact ⟨rfl,rfl⟩ | exact ⟨rfl,rfl,rfl⟩ | (simp (disch:=omega) only[nV,nW];done) | ((try simp (disch:=omega) only[nV,nW]);omega)) | fail
    all_goals exact Tr.all_ok rfl)
   exact h1
theorem c42n (q:Int):cd (n+1) (.fn 42) [.nils,.int .i64 q] H=some (.bool false,H) :=
 fn_all (n:=n) Tryz.func42 rfl rfl rfl (u42n n H q) (il_no0 n) (noBT_ok _ _) (noRT_ok _ _) (Tr.all_ok ⟨rfl,rfl⟩)
theorem exN_mem (L:List Int) (q:Int):exN (fun j=>decide (lstO L j=q)) L.length=decide (q ∈ L):=by
 rw[Bool.eq_iff_iff,exN_iff,decide_eq_true_eq,List.mem_iff_getElem,lstO_fn]
 constructor
 · rintro ⟨i,hi,h⟩
   refine ⟨i,hi,?_⟩
   simpa[List.getD_eq_getElem?_getD,hi] using h
 · rintro ⟨i,hi,h⟩
   refine ⟨i,hi,?_⟩
   simpa[List.getD_eq_getElem?_getD,hi] using h
theorem c42d (L:List Int) (q:Int) (hL:L.length≤1000):cd (n+1) (.fn 42) [dA L,.int .i64 q] H=some (.bool (decide (q ∈ L)),H):=by
 cases L with
 | nil=>have:=c42n n H q;rwa [show (false:Bool)=decide (q ∈ ([]:List Int)) by simp] at this
 | cons a r=>have:=c42 n H (r.length+1) (lstO (a::r)) q hL;rwa [show r.length+1=(a::r).length from rfl,exN_mem] at this
end
theorem mem_dl (m:Nat→Int) (k j:Nat):(j:Int) ∈ dl m k↔j<k∧m j=1:=by
 induction k with
 | zero=>simp[dl]
 | succ k ih =>
   unfold dl
   split
   · rename_i h
     rw[List.mem_append,ih,List.mem_singleton]
     constructor
     · rintro (h1 | h1)
       · exact ⟨by omega,h1.2⟩
       · obtain rfl:j=k:=by omega
         exact ⟨by omega,h⟩
     · rintro ⟨h1,h2⟩
       by_cases e:j=k
       · exact .inr (by rw[e])
       · exact .inl ⟨by omega,h2⟩
   · rename_i h
     rw[ih]
     constructor
     · rintro ⟨h1,h2⟩;exact ⟨by omega,h2⟩
     · rintro ⟨h1,h2⟩
       by_cases e:j=k
       · subst e;exact absurd h2 h
       · exact ⟨by omega,h2⟩
section
variable (n:Nat) (l:Nat) (z:Nat→Int) (H:Heap)
end
end Go.Eng
end
