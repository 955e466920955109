/- Bath: the book of orders. -/
import Derived.Test.YtigmfpmabgekoaaGreatV11Bak0x6
set_option linter.unusedVariables false
set_option linter.unusedSimpArgs false
set_option maxRecDepth 100000
section
namespace Go.Eng
open Go.Proofs
noncomputable def uz (l:Nat) (z:Nat→Int) (j:Int):av:=[(3,.ptr 0 0 0 0),(8,aJ 5 l z),(9,.int .i64 (Int.ofNat l)),(10,.int .i64 j)]
theorem P7 (n:Nat) (l:Nat) (z:Nat→Int) (H:aa):aX (bz n 82 42) (il aU n 0) aZ a6 (part Tryz.f82 [1,1,0,1,0,0]) (hints (uz l z 0)) (⟨false,[(0,.row (.G [.nils]))]⟩::H) =
 Tr.ite (dq (Int.ofNat 0) (Int.ofNat l)) (Tr.req (dF (Int.ofNat 0) l) (Tr.req (bA (ar 0 (Int.ofNat 0) 5) (aD l 5)) (Tr.req (bA (af (ar 0 (Int.ofNat 0) 5) 1) (aD l 5)) (Tr.req (bA (af (ar 0 (Int.ofNat 0) 5) 2) (aD l 5)) (Tr.req (bA (af (ar 0 (Int.ofNat 0) 5) 3) (aD l 5)) (Tr.req (bA (af (ar 0 (Int.ofNat 0) 5) 4) (aD l 5)) (Tr.req (dU 0 1 56) (Tr.req (bX 0 0) (Tr.req (dG 1 1) (Tr.req (fa (dG 0 0) (dG 0 1)) (Tr.ok (Ex.normal,[(3,AV.ptr 0 0 0 0,none),(8,aJ 5 l z,none),(9,AV.int .i64 (Int.ofNat l),none),(10,AV.int .i64 (a8 .i64 (Int.ofNat 0) (Int.ofNat 1)),none)],{ lock:=false,bs:=[(0,ak.row (Row.G [AV.slc 0 3 0 0 7 1 none])),(0,ak.row (Row.I .i64 [z (ar 0 (Int.ofNat 0) 5),z (af (ar 0 (Int.ofNat 0) 5) 1),z (af (ar 0 (Int.ofNat 0) 5) 2),z (af (ar 0 (Int.ofNat 0) 5) 3),z (af (ar 0 (Int.ofNat 0) 5) 4)])),(0,ak.row (Row.I .i64 [z (ar 0 (Int.ofNat 0) 5),z (af (ar 0 (Int.ofNat 0) 5) 1),z (af (ar 0 (Int.ofNat 0) 5) 2),z (af (ar 0 (Int.ofNat 0) 5) 3),z (af (ar 0 (Int.ofNat 0) 5) 4),cu .i64 (z (af (ar 0 (Int.ofNat 0) 5) 1)) (z (af (ar 0 (Int.ofNat 0) 5) 3)),cu .i64 (z (ar 0 (Int.ofNat 0) 5)) (z (af (ar 0 (Int.ofNat 0) 5) 2))])),(0,ak.row (Row.M [aW.arr .i64 (an [z (ar 0 (Int.ofNat 0) 5),z (af (ar 0 (Int.ofNat 0) 5) 1),z (af (ar 0 (Int.ofNat 0) 5) 2),z (af (ar 0 (Int.ofNat 0) 5) 3),z (af (ar 0 (Int.ofNat 0) 5) 4),cu .i64 (z (af (ar 0 (Int.ofNat 0) 5) 1)) (z (af (ar 0 (Int.ofNat 0) 5) 3)),cu .i64 (z (ar 0 (Int.ofNat 0) 5)) (z (af (ar 0 (Int.ofNat 0) 5) 2))]) 7]))] } :: H)))))))))))) (Tr.ok (Ex.exit 0,[(3,AV.ptr 0 0 0 0,none),(8,aJ 5 l z,none),(9,AV.int .i64 (Int.ofNat l),none),(10,AV.int .i64 (Int.ofNat 0),none),(11,AV.bool false,some 1)],{ lock:=false,bs:=[(0,ak.row (Row.G [AV.nils]))] } :: H)):=by kernel_rfl
theorem MD (n:Nat) (l:Nat) (z y:Nat→Int) (H:aa) (j:Int) (v m:Nat):aX (bz n 82 42) (il aU n 0) aZ a6 (part Tryz.f82 [1,1,0,1,0,0]) (hints (uz l z j)) (⟨false,[(0,.row (.G [.slc 0 1 v 0 7 m none])),(v,.row (.M [.arr .i64 y (aD m 7)]))]⟩::H) =
 Tr.ite (dq j (Int.ofNat l)) (Tr.req (dF j l) (Tr.req (bA (ar 0 j 5) (aD l 5)) (Tr.req (bA (af (ar 0 j 5) 1) (aD l 5)) (Tr.req (bA (af (ar 0 j 5) 2) (aD l 5)) (Tr.req (bA (af (ar 0 j 5) 3) (aD l 5)) (Tr.req (bA (af (ar 0 j 5) 4) (aD l 5)) (Tr.req (dU m 1 56) (Tr.req (bX 0 0) (Tr.req (dG 1 1) (Tr.req (bX v v) (Tr.req (bX (af 0 (aD m 7)) (aD m 7)) (Tr.req (fa (dG v (Nat.succ v)) (dG (Nat.succ v) (Nat.succ v))) (Tr.req (fa (dG 0 0) (dG 0 1)) (Tr.ok (Ex.normal,[(3,AV.ptr 0 0 0 0,none),(8,aJ 5 l z,none),(9,AV.int .i64 (Int.ofNat l),none),(10,AV.int .i64 (a8 .i64 j (Int.ofNat 1)),none)],{ lock:=false,bs:=[(0,ak.row (Row.G [AV.slc 0 1 (Nat.succ v) 0 7 (af m 1) none])),(Nat.succ v,ak.row (Row.M [aW.arr .i64 (bF (g7 y 0) (aD m 7) (an [z (ar 0 j 5),z (af (ar 0 j 5) 1),z (af (ar 0 j 5) 2),z (af (ar 0 j 5) 3),z (af (ar 0 j 5) 4),cu .i64 (z (af (ar 0 j 5) 1)) (z (af (ar 0 j 5) 3)),cu .i64 (z (ar 0 j 5)) (z (af (ar 0 j 5) 2))])) (af (aD m 7) 7)])),(0,ak.row (Row.I .i64 [z (ar 0 j 5),z (af (ar 0 j 5) 1),z (af (ar 0 j 5) 2),z (af (ar 0 j 5) 3),z (af (ar 0 j 5) 4)])),(0,ak.row (Row.I .i64 [z (ar 0 j 5),z (af (ar 0 j 5) 1),z (af (ar 0 j 5) 2),z (af (ar 0 j 5) 3),z (af (ar 0 j 5) 4),cu .i64 (z (af (ar 0 j 5) 1)) (z (af (ar 0 j 5) 3)),cu .i64 (z (ar 0 j 5)) (z (af (ar 0 j 5) 2))])),(0,ak.dead)] } :: H))))))))))))))) (Tr.ok (Ex.exit 0,[(3,AV.ptr 0 0 0 0,none),(8,aJ 5 l z,none),(9,AV.int .i64 (Int.ofNat l),none),(10,AV.int .i64 j,none),(11,AV.bool false,some 1)],{ lock:=false,bs:=[(0,ak.row (Row.G [AV.slc 0 1 v 0 7 m none])),(v,ak.row (Row.M [aW.arr .i64 y (aD m 7)]))] } :: H)):=by kernel_rfl
theorem TF (n:Nat) (l:Nat) (z y:Nat→Int) (H:aa) (v m:Nat):bw Tryz.prog (cd n) 100000 82 Tryz.f82 (KtB.kt 82) (il aU n 0) (gf aZ 0 (uz l z 0) (⟨false,[(0,.row (.G [.nils]))]⟩::H) (.ok (.normal,hints (uz l z (Int.ofNat l)++[(11,.bool false)]),⟨false,[(0,.row (.G [.slc 0 1 v 0 7 m none])),(v,.row (.M [.arr .i64 y (aD m 7)]))]⟩::H))) a6 [(aJ 5 l z,none)] H =
 (fun (Z0:av)=>Tr.reqP (Z0=Z0∧{ lock:=false,bs:=[(0,ak.row (Row.G [AV.nils]))] } :: H={ lock:=false,bs:=[(0,ak.row (Row.G [AV.nils]))] } :: H) (Tr.req (bX v v) (Tr.req (lX 0 (aD m 7) 0 (aD m 7)) (Tr.ok ((AV.ptrT (some 0) (Row.G [AV.slcT none (Row.M [aW.arr .i64 (g7 y 0) (aD m 7)]) 7 m false]) 0,none),H))))) [(3,AV.ptr 0 0 0 0),(8,aJ 5 l z),(9,AV.int .i64 (Int.ofNat l)),(10,AV.int .i64 (Int.ofNat 0))]:=by kernel_rfl
def oZ (z:Nat→Int) (i:Nat):Int:=if i % 7<5 then z (i / 7*5+i % 7) else if i % 7=5 then cQ z (i / 7) else bU z (i / 7)
def oY (z:Nat→Int) (j:Nat) (i:Nat):Int:=if i<j*7 then oZ z i else 0
noncomputable def EZ (z:Nat→Int):Nat→bn
 | 0=>⟨false,[(0,.row (.G [.nils]))]⟩
 | j+1=>⟨false,[(0,.row (.G [.slc 0 1 j 0 7 (j+1) none])),(j,.row (.M [.arr .i64 (oY z (j+1)) (aD (j+1) 7)]))]⟩
theorem Q9:∀ b,(0,b) ∈ bo (ct Tryz.f82)→b=.loop (part Tryz.f82 [1,1,0,1,0,0]):=kX (by kernel_rfl)
theorem Fp (z:Nat→Int) (j:Nat):bF (g7 (oY z j) 0) (aD j 7) (an [z (j*5),z (j*5+1),z (j*5+2),z (j*5+3),z (j*5+4),cQ z j,bU z j])=oY z (j+1):=by
 funext i
 rw[jF,jx,lC,fF]
 unfold oY
 by_cases h:i<j*7
 · simp[h,show i<(j+1)*7 by omega]
 · by_cases h2:i<(j+1)*7
   · obtain ⟨r,hr,rfl⟩:∃ r,r<7∧i=j*7+r:=⟨i-j*7,by omega,by omega⟩
     have e1:(j*7+r) / 7=j:=by omega
     have e2:(j*7+r) % 7=r:=by omega
     unfold oZ
     rw[e1,e2]
     have:r=0∨r=1∨r=2∨r=3∨r=4∨r=5∨r=6:=by omega
     rcases this with rfl | rfl | rfl | rfl | rfl | rfl | rfl<;>simp[h2,Nat.add_sub_cancel_left]<;>omega
   · simp[h,h2,List.getD_eq_getElem?_getD,List.getElem?_eq_none (show [z (j*5),z (j*5+1),z (j*5+2),z (j*5+3),z (j*5+4),cQ z j,bU z j].length≤i-j*7 by simp;omega)]
section
variable (n:Nat) (l:Nat) (z:Nat→Int) (H:aa)
theorem Td (h:bp l z=0):exec (bz n 82 42) (.block 0 (.loop (part Tryz.f82 [1,1,0,1,0,0]))) (uz l z 0) (EZ z 0::H)=some (.normal,uz l z (Int.ofNat l)++[(11,.bool false)],EZ z l::H):=by
 obtain ⟨hl,hb⟩:=bM h
 have:=nD (n:=n) (f:=82) (nt:=42) (c:=part Tryz.f82 [1,1,0,1,0,0]) 0 (fun j=>uz l z (j:Int)) (fun j=>EZ z j::H) l (uz l z (Int.ofNat l)++[(11,.bool false)],EZ z l::H) (by omega) (fun j hj=>?_) ?_
 · exact this
 · have b:=hb j hj
   have ej:a8 .i64 (j:Int) (Int.ofNat 1)=((j+1:Nat):Int):=by rw[bV,show Int.ofNat 1=1 from rfl];exact cK (by omega) (by omega)
   have ei:ar 0 (j:Int) 5=j*5:=by rw[bC];omega
   have s1:cu .i64 (z (j*5+1)) (z (j*5+3))=cQ z j:=by rw[eh];exact cK (by omega) (by omega)
   have s2:cu .i64 (z (j*5)) (z (j*5+2))=bU z j:=by rw[eh];exact cK (by omega) (by omega)
   cases j with
   | zero =>
     have e0:=Fp z 0
     have ei':ar 0 (Int.ofNat 0) 5=0:=by rw[bC];rfl
     have ej':a8 .i64 (Int.ofNat 0) (Int.ofNat 1)=((0+1:Nat):Int):=ej
     have s1':cu .i64 (z (0+1)) (z (0+3))=cQ z 0:=s1
     have s2':cu .i64 (z 0) (z (0+2))=bU z 0:=s2
     have e9:an [z 0,z (0+1),z (0+2),z (0+3),z (0+4),cQ z 0,bU z 0]=oY z (0+1):=by
      rw[← e0,jF,jx,fF]
      funext i;simp
     have e7:aD (0+1) 7=7:=by rw[fF]
     refine aG (P7 n l z H) (aO n) (ag _ _) (ah _ _) ?_
     rw[ei',ej']
     simp only[aQ]
     rw[s1',s2',e9]
     repeat' first | (refine Tr.al (fun hc=>?_) (fun hc=>?_)<;>(try simp (disch:=omega) only[nV,nW] at hc)<;>try omega) | (refine Tr.bf ?_ ?_;· (try simp (disch:=omega) only[nV,nW]);try omega) | (refine Tr.ay ?_ ?_;· first | exact trivial | rfl | exact ⟨rfl,rfl⟩ | exact ⟨rfl,rfl,rfl⟩ | (simp (disch:=omega) only[nV,nW];done) | ((try simp (disch:=omega) only[nV,nW]);omega)) | fail
     all_goals first
      | (refine Tr.aw ⟨rfl,?_⟩
         show _=(uz l z ((0+1:Nat):Int),(⟨false,[(0,.row (.G [.slc 0 1 0 0 7 (0+1) none])),(0,.row (.M [.arr .i64 (oY z (0+1)) (aD (0+1) 7)]))]⟩:bn)::H)
         rw[e7];rfl)
      | fail
   | succ j =>
     have e0:=Fp z (j+1)
     have e7:af (aD (j+1) 7) 7=aD (j+1+1) 7:=by rw[aQ,fF,fF];omega
     have e8:af (j+1) 1=j+1+1:=by rw[aQ]
     refine aG (MD n l z (oY z (j+1)) H ((j+1:Nat):Int) j (j+1)) (aO n) (ag _ _) (ah _ _) ?_
     rw[ei,ej,e7,e8]
     have ea:∀ k,af ((j+1)*5) k=(j+1)*5+k:=fun k=>by rw[aQ]
     simp only[ea]
     rw[s1,s2,e0]
     exact wF
 · cases l with
   | zero=>omega
   | succ k =>
     obtain ⟨x,h1,rfl⟩:=aG (Q:=fun x=>x=(.exit 0,uz (k+1) z (Int.ofNat (k+1))++[(11,.bool false)],EZ z (k+1)::H)) (MD n (k+1) z (oY z (k+1)) H (Int.ofNat (k+1)) k (k+1)) (aO n) (ag _ _) (ah _ _) (by
      exact wF)
     exact h1
noncomputable def uW (l:Nat) (z:Nat→Int):AV:=.ptrT (some 0) (.G [aJ 7 l (oY z l)]) 0
theorem Rq (h:bp l z=0):cd (n+1) (.fn 82) [aJ 5 l z] H=some (uW l z,H):=by
 obtain ⟨hl,_⟩:=bM h
 have lp:=Td n l z H h
 cases l with
 | zero=>omega
 | succ k =>
   refine ba (n:=n) Tryz.func82 rfl rfl rfl (TF n (k+1) z (oY z (k+1)) H k (k+1)) (aO n) (bL (ag _ _) Q9 (fun x hx=>by rw[← Tr.ab hx];simp only[gY.st,aY];exact lp)) (ah _ _) ?_
   repeat' first | (refine Tr.al (fun hc=>?_) (fun hc=>?_)<;>(try simp (disch:=omega) only[nV,nW] at hc)<;>try omega) | (refine Tr.bf ?_ ?_;· (try simp (disch:=omega) only[nV,nW]);try omega) | (refine Tr.ay ?_ ?_;· first | exact trivial | rfl | exact ⟨rfl,rfl⟩ | exact ⟨rfl,rfl,rfl⟩ | (simp (disch:=omega) only[nV,nW];done) | ((try simp (disch:=omega) only[nV,nW]);omega)) | fail
   all_goals first
    | (refine Tr.aw ⟨?_,rfl⟩
       rw[df];rfl)
    | fail
end
end Go.Eng
end
section
namespace Go.Eng
open Go.Proofs
noncomputable def gO (L V:AV):List AV→Option (Prop×AV)
 | [a]=>some (a=L,V)
 | _=>none
theorem TC (n:Nat) (l:Nat) (z:Nat→Int) (H:aa) (e:Int) (y:Nat→Int):bw Tryz.prog (cd (n+9)) 100000 52 Tryz.f52 (KtB.kt 52) (il (lg (lg aU 20 (Nq (aJ 5 l z) e)) 82 (gO (aJ 5 l z) (.ptrT (some 0) (.G [aJ 7 l y]) 0))) (n+9) 0) aZ a6 [(aJ 5 l z,none)] H =
 Tr.reqP (aJ 5 l z=aJ 5 l z) (Tr.ite (b8 (dm e (Int.ofNat 0))) (Tr.ok ((AV.tup [AV.nilp,AV.int .i64 e],none),H)) (Tr.reqP (aJ 5 l z=aJ 5 l z) (Tr.ok ((AV.tup [AV.ptrT (some 0) (Row.G [aJ 7 l y]) 0,AV.int .i64 (Int.ofNat 0)],none),H)))):=by kernel_rfl
theorem Qj (n:Nat) (l:Nat) (z:Nat→Int) (H:aa) (e:Int):bw Tryz.prog (cd (n+9)) 100000 52 Tryz.f52 (KtB.kt 52) (il (lg (lg aU 20 (Nq (aJ 5 l z) e)) 82 (fun _=>none)) (n+9) 0) aZ a6 [(aJ 5 l z,none)] H =
 Tr.reqP (aJ 5 l z=aJ 5 l z) (Tr.ite (b8 (dm e (Int.ofNat 0))) (Tr.ok ((AV.tup [AV.nilp,AV.int .i64 e],none),H)) Tr.bad):=by kernel_rfl
theorem u16 (n:Nat) (l:Nat) (z:Nat→Int) (H:aa) (q:Int) (y:Nat→Int):bw Tryz.prog (cd (n+11)) 100000 16 Tryz.f16 (KtB.kt 16) (il (lg aU 52 (gO (aJ 5 l z) (.tup [.ptrT (some 0) (.G [aJ 7 l y]) 0,.int .i64 0]))) (n+10) 1) aZ a6 [(aJ 5 l z,none),(.int .i64 q,none)] H =
 (fun (Z0:Row)=>Tr.reqP (aJ 5 l z=aJ 5 l z) (Tr.ite (b8 (dm (Int.ofNat 0) (Int.ofNat 0))) (Tr.ok ((AV.tup [AV.agg Z0,AV.int .i64 (Int.ofNat 0)],none),H)) (Tr.ite (dq q (Int.ofNat 0)) (Tr.ok ((AV.tup [AV.agg Z0,AV.int .i64 (Int.ofNat 2)],none),H)) (Tr.ite (mP (Int.ofNat l) q) (Tr.ok ((AV.tup [AV.agg Z0,AV.int .i64 (Int.ofNat 2)],none),H)) (Tr.req (dF q l) (Tr.req (bA (ar 0 q 7) (aD l 7)) (Tr.req (bA (af (ar 0 q 7) 1) (aD l 7)) (Tr.req (bA (af (ar 0 q 7) 2) (aD l 7)) (Tr.req (bA (af (ar 0 q 7) 3) (aD l 7)) (Tr.req (bA (af (ar 0 q 7) 4) (aD l 7)) (Tr.req (bA (af (ar 0 q 7) 5) (aD l 7)) (Tr.req (bA (af (ar 0 q 7) 6) (aD l 7)) (Tr.ite (b8 (mP (y (af (ar 0 q 7) 5)) (y (af (ar 0 q 7) 6)))) (Tr.ok ((AV.tup [AV.agg Z0,AV.int .i64 (Int.ofNat 22)],none),H)) (Tr.req (dF q l) (Tr.req (bA (af (ar 0 q 7) 5) (aD l 7)) (Tr.req (bA (af (af (ar 0 q 7) 5) 1) (aD l 7)) (Tr.ok ((AV.tup [AV.agg (Row.I .i64 [y (af (ar 0 q 7) 5),y (af (af (ar 0 q 7) 5) 1)]),AV.int .i64 (Int.ofNat 0)],none),H)))))))))))))))))) (Row.I .i64 [Int.ofNat 0,Int.ofNat 0]):=by kernel_rfl
theorem Qb (n:Nat) (l:Nat) (z:Nat→Int) (H:aa) (q e:Int):bw Tryz.prog (cd (n+11)) 100000 16 Tryz.f16 (KtB.kt 16) (il (lg aU 52 (gO (aJ 5 l z) (.tup [.nilp,.int .i64 e]))) (n+10) 1) aZ a6 [(aJ 5 l z,none),(.int .i64 q,none)] H =
 Tr.reqP (aJ 5 l z=aJ 5 l z) (Tr.ite (b8 (dm e (Int.ofNat 0))) (Tr.ok ((AV.tup [AV.agg (Row.I .i64 [Int.ofNat 0,Int.ofNat 0]),AV.int .i64 e],none),H)) (Tr.ite (dq q (Int.ofNat 0)) (Tr.ok ((AV.tup [AV.agg (Row.I .i64 [Int.ofNat 0,Int.ofNat 0]),AV.int .i64 (Int.ofNat 2)],none),H)) (Tr.ite (mP (Int.ofNat l) q) (Tr.ok ((AV.tup [AV.agg (Row.I .i64 [Int.ofNat 0,Int.ofNat 0]),AV.int .i64 (Int.ofNat 2)],none),H)) Tr.bad))):=by kernel_rfl
section
variable (n:Nat) (l:Nat) (z:Nat→Int) (H:aa) (q:Int)
theorem NX {f k:Nat} {t:mb} {V:AV} (ht:t.Ok (cd k)) (h:∀ H,cd k (.fn f) [aJ 5 l z] H=some (V,H)):(lg t f (gO (aJ 5 l z) V)).Ok (cd k):=by
 refine fI ht (fun args p v hg hp H=>?_)
 unfold gO at hg
 split at hg
 · simp only[nP] at hg
   obtain ⟨rfl,rfl⟩:=hg
   subst hp
   exact h H
 · cases hg
noncomputable def mY (l:Nat) (z:Nat→Int):AV:=if bp l z=0 then .tup [uW l z,.int .i64 0] else .tup [.nilp,.int .i64 (bp l z)]
theorem NN:cd (n+10) (.fn 52) [aJ 5 l z] H=some (mY l z,H):=by
 unfold mY
 by_cases h:bp l z=0
 · rw[if_pos h]
   refine ba (n:=n+9) Tryz.func52 rfl rfl rfl (TC n l z H (bp l z) (oY z l)) (cS _ (n+9) 0 (fun k=>NX l z (QZ l z (aT _) (fun H=>by rw[show n+9+k=n+k+9 by omega];exact QT _ l z H)) (fun H=>by rw[show n+9+k=n+8+k+1 by omega];exact Rq _ l z H h))) (ag _ _) (ah _ _) ?_
   repeat' first | (refine Tr.al (fun hc=>?_) (fun hc=>?_)<;>(try simp (disch:=omega) only[nV,nW,h] at hc)<;>try omega) | (refine Tr.bf ?_ ?_;· (try simp (disch:=omega) only[nV,nW,h]);try omega) | (refine Tr.ay ?_ ?_;· first | exact trivial | rfl | exact ⟨rfl,rfl⟩ | exact ⟨rfl,rfl,rfl⟩ | (simp (disch:=omega) only[nV,nW,h];done) | ((try simp (disch:=omega) only[nV,nW,h]);omega)) | fail
   all_goals first
    | exact Tr.aw ⟨rfl,rfl⟩
    | fail
 · rw[if_neg h]
   refine ba (n:=n+9) Tryz.func52 rfl rfl rfl (Qj n l z H (bp l z)) (cS _ (n+9) 0 (fun k=>fI (QZ l z (aT _) (fun H=>by rw[show n+9+k=n+k+9 by omega];exact QT _ l z H)) (fun args p v hg hp H=>by cases hg))) (ag _ _) (ah _ _) ?_
   exact wF
theorem nL {l j r:Nat} (hj:j<l) (hr:r<7):oY z l (j*7+r)=if r<5 then z (j*5+r) else if r=5 then cQ z j else bU z j:=by
 unfold oY oZ
 rw[if_pos (by omega),show (j*7+r) / 7=j by omega,show (j*7+r) % 7=r by omega]
theorem Rg:cd (n+12) (.fn 16) [aJ 5 l z,.int .i64 q] H=some (Jj l z q,H):=by
 have hc:∀ k H,cd (n+10+k) (.fn 52) [aJ 5 l z] H=some (mY l z,H):=fun k H=>by rw[show n+10+k=n+k+10 by omega];exact NN _ l z H
 unfold Jj
 by_cases h:bp l z=0
 · obtain ⟨hl,hb⟩:=bM h
   have ho:mY l z=.tup [.ptrT (some 0) (.G [aJ 7 l (oY z l)]) 0,.int .i64 0]:=by unfold mY;rw[if_pos h];rfl
   rw[ho] at hc
   rw[if_neg (fun x=>x h)]
   refine ba (n:=n+11) Tryz.func16 rfl rfl rfl (u16 n l z H q (oY z l)) (cS _ (n+10) 1 (fun k=>NX l z (aT _) (hc k))) (ag _ _) (ah _ _) ?_
   by_cases hq:0≤q∧q<l
   · rw[if_neg (fun x=>x hq)]
     have ei:ar 0 q 7=q.toNat*7:=by rw[bC];omega
     have e6:q.toNat*7+5+1=q.toNat*7+6:=rfl
     have h5:oY z l (q.toNat*7+5)=cQ z q.toNat:=nL z (by omega) (by omega)
     have h6:oY z l (q.toNat*7+6)=bU z q.toNat:=nL z (by omega) (by omega)
     simp only[ei,aQ,e6]
     rw[h5,h6]
     generalize cQ z q.toNat=lo at *
     generalize bU z q.toNat=hi at *
     repeat' first | (refine Tr.al (fun hc=>?_) (fun hc=>?_)<;>(try simp (disch:=omega) only[nV,nW] at hc)<;>try omega) | (refine Tr.bf ?_ ?_;· (try simp (disch:=omega) only[nV,nW]);try omega) | (refine Tr.ay ?_ ?_;· first | exact trivial | rfl | exact ⟨rfl,rfl⟩ | exact ⟨rfl,rfl,rfl⟩ | (simp (disch:=omega) only[nV,nW];done) | ((try simp (disch:=omega) only[nV,nW]);omega)) | fail
     all_goals first
      | (rw[if_neg (by omega)];exact Tr.aw ⟨rfl,rfl⟩)
      | (rw[if_pos (by omega)];exact Tr.aw ⟨rfl,rfl⟩)
      | fail
   · rw[if_pos hq]
     exact wF
 · have ho:mY l z=.tup [.nilp,.int .i64 (bp l z)]:=by unfold mY;rw[if_neg h]
   rw[ho] at hc
   rw[if_pos h]
   refine ba (n:=n+11) Tryz.func16 rfl rfl rfl (Qb n l z H q (bp l z)) (cS _ (n+10) 1 (fun k=>NX l z (aT _) (hc k))) (ag _ _) (ah _ _) ?_
   exact wF
end
end Go.Eng
end
section
namespace Go.Eng
open Go.Proofs
noncomputable def yk (l:Nat) (y:Nat→Int) (q j:Int):av:=[(1,.int .i64 q),(4,.ptr 0 0 0 0),(5,.ptr 0 1 0 0),(12,aJ 7 l y),(13,.int .i64 (Int.ofNat l)),(14,.int .i64 j)]
noncomputable def yY (m:Nat→Int):bn:=⟨false,[(0,.row (.M [.arr .i64 (fun x=>Int.ofNat 0) 14])),(0,.row (.M [.arr .i64 m 14]))]⟩
theorem t56 (n:Nat) (l:Nat) (y m:Nat→Int) (H:aa) (q j:Int):aX (bz (n+1) 56 26) (il aU n 1) aZ a6 (part Tryz.f56 [1,1,1,0,1,0,0]) (hints (yk l y q j)) (yY m::H) =
 (fun (Z0:aM)=>((fun (Z1:Nat×ak)=>((fun (Z2:Nat×ak)=>Tr.ite (dq j (Int.ofNat l)) (Tr.req (dF j l) (Tr.req (bA (ar 0 j 7) (aD l 7)) (Tr.req (bA (af (ar 0 j 7) 1) (aD l 7)) (Tr.req (bA (af (ar 0 j 7) 2) (aD l 7)) (Tr.req (bA (af (ar 0 j 7) 3) (aD l 7)) (Tr.req (bA (af (ar 0 j 7) 4) (aD l 7)) (Tr.req (bA (af (ar 0 j 7) 5) (aD l 7)) (Tr.req (bA (af (ar 0 j 7) 6) (aD l 7)) (Tr.ite (mP (y (af (ar 0 j 7) 5)) q) (Tr.ite (mP q (y (af (ar 0 j 7) 6))) (Tr.req (dF j 14) (Tr.req (bX 0 0) (Tr.req (bA (ar 0 j 1) 14) (Tr.ok (Ex.normal,Z0,{ lock:=false,bs:=[Z2,(0,ak.row (Row.M [aW.arr .i64 (bG m (ar 0 j 1) (Int.ofNat 1)) 14])),Z1] } :: H))))) (Tr.ok (Ex.normal,Z0,{ lock:=false,bs:=[Z2,(0,ak.row (Row.M [aW.arr .i64 m 14])),Z1] } :: H))) (Tr.ok (Ex.normal,Z0,{ lock:=false,bs:=[Z2,(0,ak.row (Row.M [aW.arr .i64 m 14])),Z1] } :: H))))))))))) (Tr.ok (Ex.exit 0,[(1,AV.int .i64 q,none),(4,AV.ptr 0 0 0 0,none),(5,AV.ptr 0 1 0 0,none),(12,aJ 7 l y,none),(13,AV.int .i64 (Int.ofNat l),none),(14,AV.int .i64 j,none),(15,AV.bool false,some 1)],{ lock:=false,bs:=[Z2,(0,ak.row (Row.M [aW.arr .i64 m 14]))] } :: H))) (0,ak.row (Row.M [aW.arr .i64 (fun x=>Int.ofNat 0) 14])))) (0,ak.row (Row.I .i64 [y (ar 0 j 7),y (af (ar 0 j 7) 1),y (af (ar 0 j 7) 2),y (af (ar 0 j 7) 3),y (af (ar 0 j 7) 4),y (af (ar 0 j 7) 5),y (af (ar 0 j 7) 6)])))) [(1,AV.int .i64 q,none),(4,AV.ptr 0 0 0 0,none),(5,AV.ptr 0 1 0 0,none),(12,aJ 7 l y,none),(13,AV.int .i64 (Int.ofNat l),none),(14,AV.int .i64 (a8 .i64 j (Int.ofNat 1)),none)]:=by kernel_rfl
def wA (z:Nat→Int) (q:Int) (j:Nat):Bool:=decide (cQ z j≤q) && decide (q≤bU z j)
def jA (z:Nat→Int) (q:Int) (k i:Nat):Int:=if i<k∧wA z q i=true then 1 else 0
theorem Q7:∀ b,(0,b) ∈ bo (ct Tryz.f56)→b=.loop (part Tryz.f56 [1,1,1,0,1,0,0]):=kX (by kernel_rfl)
section
variable (n:Nat) (l:Nat) (z:Nat→Int) (H:aa) (q:Int)
theorem S9 (h:bp l z=0):exec (bz (n+1) 56 26) (.block 0 (.loop (part Tryz.f56 [1,1,1,0,1,0,0]))) (yk l (oY z l) q 0) (yY (fH (fun x=>Int.ofNat 0) 0 (fun x=>Int.ofNat 0) 14)::H)=some (.normal,yk l (oY z l) q (Int.ofNat l)++[(15,.bool false)],yY (jA z q l)::H):=by
 obtain ⟨hl,hb⟩:=bM h
 have h0:fH (fun x=>Int.ofNat 0) 0 (fun x=>Int.ofNat 0) 14=jA z q 0:=by
  rw[lf];funext i;unfold rJ jA;simp
 rw[h0]
 have:=nD (n:=n+1) (f:=56) (nt:=26) (c:=part Tryz.f56 [1,1,1,0,1,0,0]) 0 (fun j=>yk l (oY z l) q (j:Int)) (fun j=>yY (jA z q j)::H) l (yk l (oY z l) q (Int.ofNat l)++[(15,.bool false)],yY (jA z q l)::H) (by omega) (fun j hj=>?_) ?_
 · exact this
 · have ej:a8 .i64 (j:Int) (Int.ofNat 1)=((j+1:Nat):Int):=by rw[bV,show Int.ofNat 1=1 from rfl];exact cK (by omega) (by omega)
   have ei:ar 0 (j:Int) 7=j*7:=by rw[bC];omega
   have ei1:ar 0 (j:Int) 1=j:=by rw[bC];omega
   have e6:j*7+5+1=j*7+6:=rfl
   have h5:oY z l (j*7+5)=cQ z j:=nL z (by omega) (by omega)
   have h6:oY z l (j*7+6)=bU z j:=nL z (by omega) (by omega)
   have hu:wA z q j=true→bG (jA z q j) j (Int.ofNat 1)=jA z q (j+1):=fun hd=>by
    rw[jS];funext i
    unfold jA
    by_cases e:i=j
    · subst e;simp[hd]
    · simp[e,show i<j+1↔i<j by omega]
   have hn:wA z q j=false→jA z q j=jA z q (j+1):=fun hd=>by
    funext i
    unfold jA
    by_cases e:i=j
    · subst e;simp[hd]
    · simp[show i<j+1↔i<j by omega]
   have hd:wA z q j=(decide (cQ z j≤q) && decide (q≤bU z j)):=rfl
   refine aG (t56 n l (oY z l) (jA z q j) H q (j:Int)) (dS n 1) (ag _ _) (ah _ _) ?_
   simp only[ei,aQ,e6]
   rw[h5,h6,ej,ei1]
   cases hx:wA z q j with
   | true =>
     have hx':=hx
     rw[hd,Bool.and_eq_true,decide_eq_true_eq,decide_eq_true_eq] at hx'
     rw[hu hx]
     generalize cQ z j=lo at *
     generalize bU z j=hi at *
     exact wF
   | false =>
     have hx':=hx
     rw[hd,Bool.and_eq_false_iff,decide_eq_false_iff_not,decide_eq_false_iff_not] at hx'
     have hn:=hn hx
     generalize jA z q (j+1)=m' at *
     subst hn
     generalize cQ z j=lo at *
     generalize bU z j=hi at *
     exact wF
 · obtain ⟨x,h1,rfl⟩:=aG (Q:=fun x=>x=(.exit 0,yk l (oY z l) q (Int.ofNat l)++[(15,.bool false)],yY (jA z q l)::H)) (t56 n l (oY z l) (jA z q l) H q (Int.ofNat l)) (dS n 1) (ag _ _) (ah _ _) (by
    exact wF)
   exact h1
end
end Go.Eng
end
section
namespace Go.Eng
open Go.Proofs
theorem nm (L:List Int) (v:Int):bF (g7 (an L) 0) L.length (an [v])=an (L++[v]):=by
 rw[df,jF,lC];funext i
 by_cases h:i<L.length
 · simp[h,List.getElem?_append]
 · by_cases h2:i=L.length
   · subst h2;simp
   · have e1:[v][i-L.length]?=none:=List.getElem?_eq_none (by simp;omega)
     have e2:(L++[v])[i]?=none:=List.getElem?_eq_none (by simp;omega)
     simp only[h,if_false,List.getD_eq_getElem?_getD,e1,e2]
def dl (m:Nat→Int):Nat→List Int
 | 0=>[]
 | j+1=>if m j=1 then dl m j++[(j:Int)] else dl m j
theorem sK (m:Nat→Int) (j:Nat):(dl m j).length≤j:=by
 induction j with
 | zero=>simp[dl]
 | succ j ih =>
   unfold dl
   split
   · rw[List.length_append];simp only[List.length_cons,List.length_nil];omega
   · omega
noncomputable def dV:List Int→AV
 | []=>.nils
 | a::r=>.slc 0 0 0 0 1 (r.length+1) none
section
variable (n:Nat) (m:Nat→Int) (H:aa)
end
noncomputable def dA:List Int→AV
 | []=>.nils
 | a::r=>.slcT none (.M [.arr .i64 (an (a::r)) (r.length+1)]) 1 (r.length+1) false
section
variable (n:Nat) (l:Nat) (z:Nat→Int) (H:aa) (q:Int)
end
end Go.Eng
end
section
namespace Go.Eng
open Go.Proofs
noncomputable abbrev cI (n:Nat) (z:Nat→Int) (full:Bool):AV:=.slcT none (.M [.arr .i64 z n]) 1 n full
noncomputable def N4 (m p:Nat) (z y:Nat→Int) (a b:Bool) (j:Int):av:=[(0,cI m z a),(1,cI p y b),(5,.int .i64 j)]
theorem t22 (n:Nat) (H:aa) (m p:Nat) (z y:Nat→Int) (a b:Bool) (j:Int):aX (bz n 22 26) (il aU n 0) aZ a6 (part Tryz.f22 [1,1,0,1,0,0]) (hints (N4 m p z y a b j)) (aB::H) =
 Tr.ite (dq j (Int.ofNat m)) (Tr.req (dF j m) (Tr.req (bA (ar 0 j 1) m) (Tr.req (dF j p) (Tr.req (bA (ar 0 j 1) p) (Tr.ite (b8 (dm (z (ar 0 j 1)) (y (ar 0 j 1)))) (Tr.ok (Ex.ret,[(4,AV.bool false,some 1)],aB::H)) (Tr.ok (Ex.normal,[(0,AV.slcT none (Row.M [aW.arr .i64 z m]) 1 m a,none),(1,AV.slcT none (Row.M [aW.arr .i64 y p]) 1 p b,none),(5,AV.int .i64 (a8 .i64 j (Int.ofNat 1)),none)],aB::H))))))) (Tr.ok (Ex.exit 0,[(0,AV.slcT none (Row.M [aW.arr .i64 z m]) 1 m a,none),(1,AV.slcT none (Row.M [aW.arr .i64 y p]) 1 p b,none),(5,AV.int .i64 j,none),(14,AV.bool false,some 1)],aB::H)):=by kernel_rfl
noncomputable def dW:List Int→AV
 | []=>.nils
 | a::r=>.slc 0 0 r.length 0 1 (r.length+1) none
noncomputable def KE:List Int→bn
 | []=>⟨false,[]⟩
 | a::r=>⟨false,[(r.length,.row (.M [.arr .i64 (an (a::r)) (r.length+1)]))]⟩
section
variable (n:Nat) (l:Nat) (z:Nat→Int) (H:aa) (q:Int)
end
end Go.Eng
end
section
namespace Go.Eng
open Go.Proofs
noncomputable def TN (A:AV):List AV→Option (Prop×AV)
 | [a,b]=>some (a=A∧b=A,.bool true)
 | _=>none
def Lp:List AV→Option (Prop×AV)
 | []=>some (True,.bool true)
 | _=>none
theorem Rf (n:Nat) (H:aa):cd (n+1) (.fn 15) [] H=some (.bool true,H):=by unfold cd cJ;rfl
theorem NZ {n:Nat} {t:mb} (ht:t.Ok (cd (n+1))):(lg t 15 Lp).Ok (cd (n+1)):=by
 refine fI ht (fun args p v hg hp H=>?_)
 unfold Lp at hg
 split at hg
 · simp only[nP] at hg
   obtain ⟨_,rfl⟩:=hg
   exact Rf _ H
 · cases hg
section
variable (n:Nat) (l:Nat) (z:Nat→Int) (H:aa) (q s:Int)
end
end Go.Eng
end
section
namespace Go.Eng
open Go.Proofs
theorem ke {x:Int} (h0:-9223372036854775808≤x) (h1:x≤9223372036854775807):bx .i64 x=x:=by rw[Gc,cK h0 h1]
theorem Cm {a b:Int} (ha:0≤a):aN .i64 a b=a % b:=by rw[Cl,Int.tmod_eq_emod_of_nonneg ha]
section
variable (n:Nat) (H:aa)
end
section
variable (n:Nat) (l:Nat) (z:Nat→Int) (H:aa)
end
end Go.Eng
end
section
namespace Go.Eng
open Go.Proofs
theorem t68 (n:Nat) (H:aa) (m:Nat) (z:Nat→Int) (full:Bool) (bs:List (Nat×ak)):aX (bz n 68 8) (il aU n 0) aZ a6 (ct Tryz.f68) (hints [(0,cI m z full)]) (aB::⟨false,bs⟩::H) =
 Tr.req (bA 0 m) (Tr.ite false (Tr.ok (Ex.ret,[(2,AV.nils,none)],aB::{ lock:=false,bs:=bs } :: H)) (Tr.ite (bX m 0) (Tr.ok (Ex.ret,[(2,AV.slc 0 0 0 0 1 0 (some 0),none)],{ lock:=false,bs:=[(0,ak.row (Row.I .i64 []))] } :: { lock:=false,bs:=bs } :: H)) (Tr.req (dU 0 m 8) (Tr.req (dG m m) (Tr.req (dG (af 0 m) m) (Tr.ite (bA 0 (af 0 m)) (Tr.req (bX 0 0) (Tr.req (dG 0 0) (Tr.ok (Ex.ret,[(2,AV.slc 0 1 0 0 1 (af 0 m) none,none)],{ lock:=false,bs:=[(0,ak.row (Row.I .i64 [])),(0,ak.row (Row.M [aW.arr .i64 (bF (an []) 0 z) (af 0 m)]))] } :: { lock:=false,bs:=bs } :: H)))) (Tr.req (bX 0 0) Tr.bad))))))):=by kernel_rfl
theorem Gu (z:Nat→Int):bF (an []) 0 z=z:=by rw[jF];funext i;simp
theorem JF {n:Nat} {args:List AV} {l1:bn} {H:aa} {fn:Func} {c:Code} (hf:Tryz.prog.funcs[68]?=some fn) (hb:fn.body=some c) (hle:Nat.ble args.length fn.ntmps=true) {e:Ex} {fr:av} {l:bn} {j ver off sz len:Nat} {cap:Option Nat} {q:Row}
 (h:exec (bz n 68 fn.ntmps) c (dy 0 args) (⟨false,[]⟩::l1::H)=some (e,fr,l::l1::H)) (he:e=.normal∨e=.ret) (hv:eE Tryz.prog fr (l::l1::H) fn.results.toList=some [.slc 0 j ver off sz len cap]) (hq:di (l::l1::H) 0 j ver=some q) (h0:l.lock=false) (h1:l1.lock=false) :
 cd (n+1) (.fn 68) args (l1::H)=some (.slc 0 l1.bs.length 0 off sz len cap,bt (l1::H) 0 (.row (jz 1 q))):=by
 have:l7 (cd n) 68 args (l1::H)=some (.slc 0 l1.bs.length 0 off sz len cap,bt (l1::H) 0 (.row (jz 1 q))):=by
  show vI Tryz.prog KtB.kt 100000 68 (cd n) args (l1::H)=_
  unfold vI
  rw[hf];dsimp only
  rw[hb];dsimp only
  rw[if_pos hle,dr]
  rw[show exec (⟨Tryz.prog,cd n,100000,68,fn.ntmps,KtB.kt 68,none⟩:Cx) c (dy 0 args) (⟨false,[]⟩::l1::H)=_ from h]
  dsimp only
  rcases he with rfl | rfl<;>(simp only[hv,hq,h0,h1,Bool.or_self,Bool.false_eq_true,if_false])
 unfold cd
 rw[show cJ Tryz.prog l7 KtB.kt 100000 (n+1) (.fn 68) args (l1::H)=(match l7 (cd n) 68 args (l1::H) with
  | some r=>some r
  | none=>_) from rfl,this]
theorem Rn (n:Nat) (H:aa) (m:Nat) (z:Nat→Int) (full:Bool) (bs:List (Nat×ak)) (h1:1≤m) (h2:m≤1000):cd (n+1) (.fn 68) [cI m z full] (⟨false,bs⟩::H)=some (.slc 0 bs.length 0 0 1 m none,⟨false,bs++[(0,.row (.M [.arr .i64 z m]))]⟩::H):=by
 obtain ⟨x,hx,hy⟩:=aG (Q:=fun x=>x=(.ret,[(2,.slc 0 1 0 0 1 m none)],(⟨false,[(0,.row (.I .i64 [])),(0,.row (.M [.arr .i64 z m]))]⟩:bn)::⟨false,bs⟩::H)) (fr:=[(0,cI m z full)]) (t68 n H m z full bs) (aO n) (ag _ _) (ah _ _) (by
  rw[Gu,show af 0 m=m by rw[aQ,Nat.zero_add]]
  exact wF)
 subst hy
 have e8:Tryz.f68.ntmps=8:=by kernel_rfl
 have eb:Tryz.f68.body=some (ct Tryz.f68):=by kernel_rfl
 have er:Tryz.f68.results.toList=[.tmp 2]:=by kernel_rfl
 refine JF (fn:=Tryz.f68) (c:=ct Tryz.f68) (l1:=⟨false,bs⟩) Tryz.func68 eb (by rw[e8];rfl) (e:=.ret) (fr:=[(2,.slc 0 1 0 0 1 m none)]) (l:=⟨false,[(0,.row (.I .i64 [])),(0,.row (.M [.arr .i64 z m]))]⟩) (j:=1) (ver:=0) (q:=.M [.arr .i64 z m]) (by rw[e8];exact hx) (.inr rfl) (by rw[er];rfl) rfl rfl rfl
end Go.Eng
end
section
namespace Go.Eng
open Go.Proofs
noncomputable def mC (L:AV) (l:Nat) (y:Nat→Int) (j:Int):av:=[(3,L),(9,aJ 7 l y),(10,.int .i64 (Int.ofNat l)),(11,.int .i64 j)]
theorem Mr (n:Nat) (l:Nat) (y:Nat→Int) (H:aa) (j:Int):aX (bz (n+3) 64 24) (il aU (n+1) 2) aZ a6 (part Tryz.f64 [1,1,0,1,0,0]) (hints (mC .nils l y j)) (aB::H) =
 (fun (Z0:Nat×ak)=>Tr.ite (dq j (Int.ofNat l)) (Tr.req (dF j l) (Tr.req (bA (ar 0 j 7) (aD l 7)) (Tr.req (bA (af (ar 0 j 7) 1) (aD l 7)) (Tr.req (bA (af (ar 0 j 7) 2) (aD l 7)) (Tr.req (bA (af (ar 0 j 7) 3) (aD l 7)) (Tr.req (bA (af (ar 0 j 7) 4) (aD l 7)) (Tr.req (bA (af (ar 0 j 7) 5) (aD l 7)) (Tr.req (bA (af (ar 0 j 7) 6) (aD l 7)) (Tr.ite (mP (y (af (ar 0 j 7) 5)) (y (af (ar 0 j 7) 6))) (Tr.req (dU 0 1 8) (Tr.req (bX 0 0) (Tr.req (dG 1 1) (Tr.ok (Ex.normal,[(3,AV.slc 0 2 0 0 1 1 none,none),(9,aJ 7 l y,none),(10,AV.int .i64 (Int.ofNat l),none),(11,AV.int .i64 (a8 .i64 j (Int.ofNat 1)),none)],{ lock:=false,bs:=[Z0,(0,ak.row (Row.I .i64 [j])),(0,ak.row (Row.M [aW.arr .i64 (an [j]) 1]))] } :: H))))) (Tr.ok (Ex.normal,[(3,AV.nils,none),(9,aJ 7 l y,none),(10,AV.int .i64 (Int.ofNat l),none),(11,AV.int .i64 (a8 .i64 j (Int.ofNat 1)),none)],{ lock:=false,bs:=[Z0] } :: H))))))))))) (Tr.ok (Ex.exit 0,[(3,AV.nils,none),(9,aJ 7 l y,none),(10,AV.int .i64 (Int.ofNat l),none),(11,AV.int .i64 j,none),(12,AV.bool false,some 1)],aB::H))) (0,ak.row (Row.I .i64 [y (ar 0 j 7),y (af (ar 0 j 7) 1),y (af (ar 0 j 7) 2),y (af (ar 0 j 7) 3),y (af (ar 0 j 7) 4),y (af (ar 0 j 7) 5),y (af (ar 0 j 7) 6)])):=by kernel_rfl
theorem Ms (n:Nat) (l:Nat) (y g:Nat→Int) (H:aa) (j:Int) (v k:Nat):aX (bz (n+3) 64 24) (il aU (n+1) 2) aZ a6 (part Tryz.f64 [1,1,0,1,0,0]) (hints (mC (.slc 0 0 v 0 1 k none) l y j)) (⟨false,[(v,.row (.M [.arr .i64 g k]))]⟩::H) =
 (fun (Z0:Nat×ak)=>Tr.ite (dq j (Int.ofNat l)) (Tr.req (dF j l) (Tr.req (bA (ar 0 j 7) (aD l 7)) (Tr.req (bA (af (ar 0 j 7) 1) (aD l 7)) (Tr.req (bA (af (ar 0 j 7) 2) (aD l 7)) (Tr.req (bA (af (ar 0 j 7) 3) (aD l 7)) (Tr.req (bA (af (ar 0 j 7) 4) (aD l 7)) (Tr.req (bA (af (ar 0 j 7) 5) (aD l 7)) (Tr.req (bA (af (ar 0 j 7) 6) (aD l 7)) (Tr.ite (mP (y (af (ar 0 j 7) 5)) (y (af (ar 0 j 7) 6))) (Tr.req (dU k 1 8) (Tr.req (bX 0 0) (Tr.req (dG 1 1) (Tr.req (bX v v) (Tr.req (bX (af 0 k) k) (Tr.ok (Ex.normal,[(3,AV.slc 0 0 (Nat.succ v) 0 1 (af k 1) none,none),(9,aJ 7 l y,none),(10,AV.int .i64 (Int.ofNat l),none),(11,AV.int .i64 (a8 .i64 j (Int.ofNat 1)),none)],{ lock:=false,bs:=[(Nat.succ v,ak.row (Row.M [aW.arr .i64 (bF (g7 g 0) k (an [j])) (af k 1)])),Z0,(0,ak.row (Row.I .i64 [j]))] } :: H))))))) (Tr.ok (Ex.normal,[(3,AV.slc 0 0 v 0 1 k none,none),(9,aJ 7 l y,none),(10,AV.int .i64 (Int.ofNat l),none),(11,AV.int .i64 (a8 .i64 j (Int.ofNat 1)),none)],{ lock:=false,bs:=[(v,ak.row (Row.M [aW.arr .i64 g k])),Z0] } :: H))))))))))) (Tr.ok (Ex.exit 0,[(3,AV.slc 0 0 v 0 1 k none,none),(9,aJ 7 l y,none),(10,AV.int .i64 (Int.ofNat l),none),(11,AV.int .i64 j,none),(12,AV.bool false,some 1)],{ lock:=false,bs:=[(v,ak.row (Row.M [aW.arr .i64 g k]))] } :: H))) (0,ak.row (Row.I .i64 [y (ar 0 j 7),y (af (ar 0 j 7) 1),y (af (ar 0 j 7) 2),y (af (ar 0 j 7) 3),y (af (ar 0 j 7) 4),y (af (ar 0 j 7) 5),y (af (ar 0 j 7) 6)])):=by kernel_rfl
theorem Qq (n:Nat) (l:Nat) (y:Nat→Int) (H:aa):bw Tryz.prog (cd (n+3)) 100000 64 Tryz.f64 (KtB.kt 64) (il aU (n+1) 2) (gf aZ 0 (mC .nils l y 0) (aB::H) (.ok (.normal,hints (mC .nils l y (Int.ofNat l)++[(12,.bool false)]),aB::H))) a6 [(.ptrT (some 0) (.G [aJ 7 l y]) 0,none)] H =
 (fun (Z0:av)=>Tr.reqP (Z0=Z0∧aB::H=aB::H) (Tr.ok ((AV.nils,none),H))) [(3,AV.nils),(9,aJ 7 l y),(10,AV.int .i64 (Int.ofNat l)),(11,AV.int .i64 (Int.ofNat 0))]:=by kernel_rfl
theorem Qr (n:Nat) (l:Nat) (y g:Nat→Int) (H:aa) (v k:Nat):bw Tryz.prog (cd (n+3)) 100000 64 Tryz.f64 (KtB.kt 64) (il aU (n+1) 2) (gf aZ 0 (mC .nils l y 0) (aB::H) (.ok (.normal,hints (mC (.slc 0 0 v 0 1 k none) l y (Int.ofNat l)++[(12,.bool false)]),⟨false,[(v,.row (.M [.arr .i64 g k]))]⟩::H))) a6 [(.ptrT (some 0) (.G [aJ 7 l y]) 0,none)] H =
 (fun (Z0:av)=>Tr.reqP (Z0=Z0∧aB::H=aB::H) (Tr.req (bX v v) (Tr.req (lX 0 k 0 k) (Tr.ok ((AV.slcT none (Row.M [aW.arr .i64 (g7 g 0) k]) 1 k false,none),H))))) [(3,AV.nils),(9,aJ 7 l y),(10,AV.int .i64 (Int.ofNat l)),(11,AV.int .i64 (Int.ofNat 0))]:=by kernel_rfl
theorem Qm (n:Nat) (l:Nat) (z y:Nat→Int) (H:aa):bw Tryz.prog (cd (n+11)) 100000 62 Tryz.f62 (KtB.kt 62) (il (lg (lg aU 52 (gO (aJ 5 l z) (.tup [.ptrT (some 0) (.G [aJ 7 l y]) 0,.int .i64 0]))) 64 (gO (.ptrT (some 0) (.G [aJ 7 l y]) 0) .nils)) (n+10) 1) aZ a6 [(aJ 5 l z,none)] H =
 Tr.reqP (aJ 5 l z=aJ 5 l z) (Tr.ite (b8 (dm (Int.ofNat 0) (Int.ofNat 0))) (Tr.ok ((AV.tup [AV.nilp,AV.int .i64 (Int.ofNat 0)],none),H)) (Tr.reqP (AV.ptrT (some 0) (Row.G [aJ 7 l y]) 0=AV.ptrT (some 0) (Row.G [aJ 7 l y]) 0) (Tr.ite (dq (Int.ofNat 0) (Int.ofNat l)) (Tr.ok ((AV.tup [AV.nilp,AV.int .i64 (Int.ofNat 22)],none),H)) (Tr.ok ((AV.tup [AV.ptrT (some 0) (Row.G [aJ 7 l y]) 0,AV.int .i64 (Int.ofNat 0)],none),H))))):=by kernel_rfl
theorem Ql (n:Nat) (l:Nat) (z y g:Nat→Int) (H:aa) (k:Nat):bw Tryz.prog (cd (n+11)) 100000 62 Tryz.f62 (KtB.kt 62) (il (lg (lg aU 52 (gO (aJ 5 l z) (.tup [.ptrT (some 0) (.G [aJ 7 l y]) 0,.int .i64 0]))) 64 (gO (.ptrT (some 0) (.G [aJ 7 l y]) 0) (cI k g false))) (n+10) 1) aZ a6 [(aJ 5 l z,none)] H =
 Tr.reqP (aJ 5 l z=aJ 5 l z) (Tr.ite (b8 (dm (Int.ofNat 0) (Int.ofNat 0))) (Tr.ok ((AV.tup [AV.nilp,AV.int .i64 (Int.ofNat 0)],none),H)) (Tr.reqP (AV.ptrT (some 0) (Row.G [aJ 7 l y]) 0=AV.ptrT (some 0) (Row.G [aJ 7 l y]) 0) (Tr.ite (dq (Int.ofNat k) (Int.ofNat l)) (Tr.ok ((AV.tup [AV.nilp,AV.int .i64 (Int.ofNat 22)],none),H)) (Tr.ok ((AV.tup [AV.ptrT (some 0) (Row.G [aJ 7 l y]) 0,AV.int .i64 (Int.ofNat 0)],none),H))))):=by kernel_rfl
theorem Qn (n:Nat) (l:Nat) (z y g:Nat→Int) (H:aa) (e:Int):bw Tryz.prog (cd (n+11)) 100000 62 Tryz.f62 (KtB.kt 62) (il (lg (lg aU 52 (gO (aJ 5 l z) (.tup [.nilp,.int .i64 e]))) 64 (fun _=>none)) (n+10) 1) aZ a6 [(aJ 5 l z,none)] H =
 Tr.reqP (aJ 5 l z=aJ 5 l z) (Tr.ite (b8 (dm e (Int.ofNat 0))) (Tr.ok ((AV.tup [AV.nilp,AV.int .i64 e],none),H)) Tr.bad):=by kernel_rfl
def gE (z:Nat→Int) (i:Nat):Int:=if cQ z i≤bU z i then 1 else 0
theorem Nn:∀ b,(0,b) ∈ bo (ct Tryz.f64)→b=.loop (part Tryz.f64 [1,1,0,1,0,0]):=kX (by kernel_rfl)
section
variable (n:Nat) (l:Nat) (z:Nat→Int) (H:aa)
theorem Q3 (h:bp l z=0):exec (bz (n+3) 64 24) (.block 0 (.loop (part Tryz.f64 [1,1,0,1,0,0]))) (mC .nils l (oY z l) 0) (aB::H)=some (.normal,mC (dW (dl (gE z) l)) l (oY z l) (Int.ofNat l)++[(12,.bool false)],KE (dl (gE z) l)::H):=by
 obtain ⟨hl,hb⟩:=bM h
 have:=nD (n:=n+3) (f:=64) (nt:=24) (c:=part Tryz.f64 [1,1,0,1,0,0]) 0 (fun j=>mC (dW (dl (gE z) j)) l (oY z l) (j:Int)) (fun j=>KE (dl (gE z) j)::H) l (mC (dW (dl (gE z) l)) l (oY z l) (Int.ofNat l)++[(12,.bool false)],KE (dl (gE z) l)::H) (by omega) (fun j hj=>?_) ?_
 · exact this
 · have ej:a8 .i64 (j:Int) (Int.ofNat 1)=((j+1:Nat):Int):=by rw[bV,show Int.ofNat 1=1 from rfl];exact cK (by omega) (by omega)
   have ei:ar 0 (j:Int) 7=j*7:=by rw[bC];omega
   have hm:=sK (gE z) j
   have hd:dl (gE z) (j+1)=if gE z j=1 then dl (gE z) j++[(j:Int)] else dl (gE z) j:=rfl
   have ht:gE z j=1↔cQ z j≤bU z j:=by unfold gE;simp
   have h5:oY z l (j*7+5)=cQ z j:=nL z (by omega) (by omega)
   have h6:oY z l (j*7+6)=bU z j:=nL z (by omega) (by omega)
   cases e:dl (gE z) j with
   | nil =>
     rw[e] at hd
     refine aG (Mr n l (oY z l) H (j:Int)) (dS (n+1) 2) (ag _ _) (ah _ _) ?_
     simp only[ei,aQ]
     rw[ej,h5,h6]
     generalize cQ z j=lo at *
     generalize bU z j=hi at *
     generalize dl (gE z) (j+1)=D at *
     generalize gE z j=mj at *
     repeat' first | (refine Tr.al (fun hc=>?_) (fun hc=>?_)<;>(try simp (disch:=omega) only[nV,nW] at hc)<;>try omega) | (refine Tr.bf ?_ ?_;· (try simp (disch:=omega) only[nV,nW]);try omega) | (refine Tr.ay ?_ ?_;· first | exact trivial | rfl | exact ⟨rfl,rfl⟩ | exact ⟨rfl,rfl,rfl⟩ | (simp (disch:=omega) only[nV,nW];done) | ((try simp (disch:=omega) only[nV,nW]);omega)) | fail
     all_goals first
      | (rw[if_pos (by omega)] at hd;subst hd;exact Tr.aw ⟨rfl,rfl⟩)
      | (rw[if_neg (by omega)] at hd;subst hd;exact Tr.aw ⟨rfl,rfl⟩)
      | fail
   | cons a r =>
     rw[e] at hd hm
     have e1:=nm (a::r) (j:Int)
     simp only[List.length_cons] at hm e1
     have e3:af (r.length+1) 1=r.length+1+1:=by rw[aQ]
     refine aG (Ms n l (oY z l) (an (a::r)) H (j:Int) r.length (r.length+1)) (dS (n+1) 2) (ag _ _) (ah _ _) ?_
     rw[e1,e3]
     simp only[ei,aQ]
     rw[ej,h5,h6]
     generalize cQ z j=lo at *
     generalize bU z j=hi at *
     generalize hD:dl (gE z) (j+1)=D at *
     generalize gE z j=mj at *
     have e4:(r++[(j:Int)]).length=r.length+1:=by simp
     repeat' first | (refine Tr.al (fun hc=>?_) (fun hc=>?_)<;>(try simp (disch:=omega) only[nV,nW] at hc)<;>try omega) | (refine Tr.bf ?_ ?_;· (try simp (disch:=omega) only[nV,nW]);try omega) | (refine Tr.ay ?_ ?_;· first | exact trivial | rfl | exact ⟨rfl,rfl⟩ | exact ⟨rfl,rfl,rfl⟩ | (simp (disch:=omega) only[nV,nW];done) | ((try simp (disch:=omega) only[nV,nW]);omega)) | fail
     all_goals first
      | (rw[if_pos (by omega)] at hd;subst hd
         refine Tr.aw ⟨rfl,?_⟩
         show _=(mC (.slc 0 0 (r++[(j:Int)]).length 0 1 ((r++[(j:Int)]).length+1) none) l (oY z l) ((j+1:Nat):Int),(⟨false,[((r++[(j:Int)]).length,.row (.M [.arr .i64 (an (a::r++[(j:Int)])) ((r++[(j:Int)]).length+1)]))]⟩:bn)::H)
         rw[e4];rfl)
      | (rw[if_neg (by omega)] at hd;subst hd;exact Tr.aw ⟨rfl,rfl⟩)
      | fail
 · cases e:dl (gE z) l with
   | nil =>
     obtain ⟨x,h1,rfl⟩:=aG (Q:=fun x=>x=(.exit 0,mC .nils l (oY z l) (Int.ofNat l)++[(12,.bool false)],aB::H)) (Mr n l (oY z l) H (Int.ofNat l)) (dS (n+1) 2) (ag _ _) (ah _ _) (by
      exact wF)
     exact h1
   | cons a r =>
     obtain ⟨x,h1,rfl⟩:=aG (Q:=fun x=>x=(.exit 0,mC (.slc 0 0 r.length 0 1 (r.length+1) none) l (oY z l) (Int.ofNat l)++[(12,.bool false)],(⟨false,[(r.length,.row (.M [.arr .i64 (an (a::r)) (r.length+1)]))]⟩:bn)::H)) (Ms n l (oY z l) (an (a::r)) H (Int.ofNat l) r.length (r.length+1)) (dS (n+1) 2) (ag _ _) (ah _ _) (by
      exact wF)
     exact h1
theorem QW (h:bp l z=0):cd (n+4) (.fn 64) [uW l z] H=some (dA (dl (gE z) l),H):=by
 have hx:=Q3 n l z H h
 cases e:dl (gE z) l with
 | nil =>
   rw[e] at hx
   refine ba (n:=n+3) Tryz.func64 rfl rfl rfl (Qq n l (oY z l) H) (dS (n+1) 2) (bL (ag _ _) Nn (fun x h=>by rw[← Tr.ab h];simp only[gY.st,aY];exact hx)) (ah _ _) ?_
   exact wF
 | cons a r =>
   rw[e] at hx
   refine ba (n:=n+3) Tryz.func64 rfl rfl rfl (Qr n l (oY z l) (an (a::r)) H r.length (r.length+1)) (dS (n+1) 2) (bL (ag _ _) Nn (fun x h=>by rw[← Tr.ab h];simp only[gY.st,aY];exact hx)) (ah _ _) ?_
   rw[df]
   exact wF
def cY (l:Nat) (z:Nat→Int):Int:=if bp l z≠0 then bp l z else if (dl (gE z) l).length<l then 22 else 0
noncomputable def Ad (l:Nat) (z:Nat→Int):AV:=if cY l z=0 then .tup [uW l z,.int .i64 0] else .tup [.nilp,.int .i64 (cY l z)]
theorem sJ {f k:Nat} {t:mb} {A V:AV} (ht:t.Ok (cd k)) (h:∀ H,cd k (.fn f) [A] H=some (V,H)):(lg t f (gO A V)).Ok (cd k):=by
 refine fI ht (fun args p v hg hp H=>?_)
 unfold gO at hg
 split at hg
 · simp only[nP] at hg
   obtain ⟨rfl,rfl⟩:=hg
   subst hp
   exact h H
 · cases hg
theorem Rl:cd (n+12) (.fn 62) [aJ 5 l z] H=some (Ad l z,H):=by
 have hc:∀ k H,cd (n+10+k) (.fn 52) [aJ 5 l z] H=some (mY l z,H):=fun k H=>by rw[show n+10+k=n+k+10 by omega];exact NN _ l z H
 by_cases h:bp l z=0
 · have ho:mY l z=.tup [.ptrT (some 0) (.G [aJ 7 l (oY z l)]) 0,.int .i64 0]:=by unfold mY;rw[if_pos h];rfl
   rw[ho] at hc
   have hd:∀ k H,cd (n+10+k) (.fn 64) [.ptrT (some 0) (.G [aJ 7 l (oY z l)]) 0] H=some (dA (dl (gE z) l),H):=fun k H=>by rw[show n+10+k=n+6+k+4 by omega];exact QW _ l z H h
   obtain ⟨hl,_⟩:=bM h
   have hw:cY l z=if (dl (gE z) l).length<l then 22 else 0:=by unfold cY;rw[if_neg (fun x=>x h)]
   unfold Ad
   cases e:dl (gE z) l with
   | nil =>
     rw[e] at hd hw
     rw[if_pos (show ([]:List Int).length<l by simp;omega)] at hw
     rw[hw,if_neg (by decide)]
     refine ba (n:=n+11) Tryz.func62 rfl rfl rfl (Qm n l z (oY z l) H) (cS _ (n+10) 1 (fun k=>sJ (sJ (aT _) (hc k)) (hd k))) (ag _ _) (ah _ _) ?_
     exact wF
   | cons a r =>
     rw[e,List.length_cons] at hw
     rw[e] at hd
     refine ba (n:=n+11) Tryz.func62 rfl rfl rfl (Ql n l z (oY z l) (an (a::r)) H (r.length+1)) (cS _ (n+10) 1 (fun k=>sJ (sJ (aT _) (hc k)) (hd k))) (ag _ _) (ah _ _) ?_
     by_cases hx:r.length+1<l
     · rw[if_pos hx] at hw
       rw[hw,if_neg (by decide)]
       exact wF
     · rw[if_neg hx] at hw
       rw[hw,if_pos rfl]
       exact wF
 · have ho:mY l z=.tup [.nilp,.int .i64 (bp l z)]:=by unfold mY;rw[if_neg h]
   rw[ho] at hc
   have hw:cY l z=bp l z:=by unfold cY;rw[if_pos h]
   unfold Ad
   rw[hw,if_neg h]
   refine ba (n:=n+11) Tryz.func62 rfl rfl rfl (Qn n l z z z H (bp l z)) (cS _ (n+10) 1 (fun k=>fI (sJ (aT _) (hc k)) (fun args p v hg hp H=>by cases hg))) (ag _ _) (ah _ _) ?_
   exact wF
end
end Go.Eng
end
