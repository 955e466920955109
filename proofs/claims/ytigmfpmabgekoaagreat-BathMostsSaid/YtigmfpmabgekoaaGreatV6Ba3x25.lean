/- Bath: the book of orders. -/
import Derived.Test.YtigmfpmabgekoaaGreatV6Bak0x6
set_option linter.unusedVariables false
set_option linter.unusedSimpArgs false
set_option maxRecDepth 100000
section
namespace Go.Eng
open Go.Proofs
noncomputable def tF (l:Nat) (z:Nat→Int) (j:Int):au:=[(3,.ptr 0 0 0 0),(8,aO 5 l z),(9,.int .i64 (Int.ofNat l)),(10,.int .i64 j)]
theorem Nu (n:Nat) (l:Nat) (z:Nat→Int) (H:aa):aP (bt n 82 42) (il aT n 0) a6 a7 (part Tryz.f82 [1,1,0,1,0,0]) (hints (tF l z 0)) (⟨false,[(0,.row (.G [.nils]))]⟩::H) =
 Tr.ite (cP (Int.ofNat 0) (Int.ofNat l)) (Tr.req (dY (Int.ofNat 0) l) (Tr.req (bX (aD 0 (Int.ofNat 0) 5) (bg l 5)) (Tr.req (bX (aq (aD 0 (Int.ofNat 0) 5) 1) (bg l 5)) (Tr.req (bX (aq (aD 0 (Int.ofNat 0) 5) 2) (bg l 5)) (Tr.req (bX (aq (aD 0 (Int.ofNat 0) 5) 3) (bg l 5)) (Tr.req (bX (aq (aD 0 (Int.ofNat 0) 5) 4) (bg l 5)) (Tr.req (fO 0 1 56) (Tr.req (dJ 0 0) (Tr.req (gi 1 1) (Tr.req (fB (gi 0 0) (gi 0 1)) (Tr.ok (Ex.normal,[(3,AV.ptr 0 0 0 0,none),(8,aO 5 l z,none),(9,AV.int .i64 (Int.ofNat l),none),(10,AV.int .i64 (bk .i64 (Int.ofNat 0) (Int.ofNat 1)),none)],{ lock:=false,bs:=[(0,al.row (Row.G [AV.slc 0 3 0 0 7 1 none])),(0,al.row (Row.I .i64 [z (aD 0 (Int.ofNat 0) 5),z (aq (aD 0 (Int.ofNat 0) 5) 1),z (aq (aD 0 (Int.ofNat 0) 5) 2),z (aq (aD 0 (Int.ofNat 0) 5) 3),z (aq (aD 0 (Int.ofNat 0) 5) 4)])),(0,al.row (Row.I .i64 [z (aD 0 (Int.ofNat 0) 5),z (aq (aD 0 (Int.ofNat 0) 5) 1),z (aq (aD 0 (Int.ofNat 0) 5) 2),z (aq (aD 0 (Int.ofNat 0) 5) 3),z (aq (aD 0 (Int.ofNat 0) 5) 4),cD .i64 (z (aq (aD 0 (Int.ofNat 0) 5) 1)) (z (aq (aD 0 (Int.ofNat 0) 5) 3)),cD .i64 (z (aD 0 (Int.ofNat 0) 5)) (z (aq (aD 0 (Int.ofNat 0) 5) 2))])),(0,al.row (Row.M [aW.arr .i64 (aL [z (aD 0 (Int.ofNat 0) 5),z (aq (aD 0 (Int.ofNat 0) 5) 1),z (aq (aD 0 (Int.ofNat 0) 5) 2),z (aq (aD 0 (Int.ofNat 0) 5) 3),z (aq (aD 0 (Int.ofNat 0) 5) 4),cD .i64 (z (aq (aD 0 (Int.ofNat 0) 5) 1)) (z (aq (aD 0 (Int.ofNat 0) 5) 3)),cD .i64 (z (aD 0 (Int.ofNat 0) 5)) (z (aq (aD 0 (Int.ofNat 0) 5) 2))]) 7]))] } :: H)))))))))))) (Tr.ok (Ex.exit 0,[(3,AV.ptr 0 0 0 0,none),(8,aO 5 l z,none),(9,AV.int .i64 (Int.ofNat l),none),(10,AV.int .i64 (Int.ofNat 0),none),(11,AV.bool false,some 1)],{ lock:=false,bs:=[(0,al.row (Row.G [AV.nils]))] } :: H)):=by kernel_rfl
theorem KF (n:Nat) (l:Nat) (z y:Nat→Int) (H:aa) (j:Int) (v m:Nat):aP (bt n 82 42) (il aT n 0) a6 a7 (part Tryz.f82 [1,1,0,1,0,0]) (hints (tF l z j)) (⟨false,[(0,.row (.G [.slc 0 1 v 0 7 m none])),(v,.row (.M [.arr .i64 y (bg m 7)]))]⟩::H) =
 Tr.ite (cP j (Int.ofNat l)) (Tr.req (dY j l) (Tr.req (bX (aD 0 j 5) (bg l 5)) (Tr.req (bX (aq (aD 0 j 5) 1) (bg l 5)) (Tr.req (bX (aq (aD 0 j 5) 2) (bg l 5)) (Tr.req (bX (aq (aD 0 j 5) 3) (bg l 5)) (Tr.req (bX (aq (aD 0 j 5) 4) (bg l 5)) (Tr.req (fO m 1 56) (Tr.req (dJ 0 0) (Tr.req (gi 1 1) (Tr.req (dJ v v) (Tr.req (dJ (aq 0 (bg m 7)) (bg m 7)) (Tr.req (fB (gi v (Nat.succ v)) (gi (Nat.succ v) (Nat.succ v))) (Tr.req (fB (gi 0 0) (gi 0 1)) (Tr.ok (Ex.normal,[(3,AV.ptr 0 0 0 0,none),(8,aO 5 l z,none),(9,AV.int .i64 (Int.ofNat l),none),(10,AV.int .i64 (bk .i64 j (Int.ofNat 1)),none)],{ lock:=false,bs:=[(0,al.row (Row.G [AV.slc 0 1 (Nat.succ v) 0 7 (aq m 1) none])),(Nat.succ v,al.row (Row.M [aW.arr .i64 (qN (qL y 0) (bg m 7) (aL [z (aD 0 j 5),z (aq (aD 0 j 5) 1),z (aq (aD 0 j 5) 2),z (aq (aD 0 j 5) 3),z (aq (aD 0 j 5) 4),cD .i64 (z (aq (aD 0 j 5) 1)) (z (aq (aD 0 j 5) 3)),cD .i64 (z (aD 0 j 5)) (z (aq (aD 0 j 5) 2))])) (aq (bg m 7) 7)])),(0,al.row (Row.I .i64 [z (aD 0 j 5),z (aq (aD 0 j 5) 1),z (aq (aD 0 j 5) 2),z (aq (aD 0 j 5) 3),z (aq (aD 0 j 5) 4)])),(0,al.row (Row.I .i64 [z (aD 0 j 5),z (aq (aD 0 j 5) 1),z (aq (aD 0 j 5) 2),z (aq (aD 0 j 5) 3),z (aq (aD 0 j 5) 4),cD .i64 (z (aq (aD 0 j 5) 1)) (z (aq (aD 0 j 5) 3)),cD .i64 (z (aD 0 j 5)) (z (aq (aD 0 j 5) 2))])),(0,al.dead)] } :: H))))))))))))))) (Tr.ok (Ex.exit 0,[(3,AV.ptr 0 0 0 0,none),(8,aO 5 l z,none),(9,AV.int .i64 (Int.ofNat l),none),(10,AV.int .i64 j,none),(11,AV.bool false,some 1)],{ lock:=false,bs:=[(0,al.row (Row.G [AV.slc 0 1 v 0 7 m none])),(v,al.row (Row.M [aW.arr .i64 y (bg m 7)]))] } :: H)):=by kernel_rfl
theorem QS (n:Nat) (l:Nat) (z y:Nat→Int) (H:aa) (v m:Nat):bK Tryz.prog (cd n) 100000 82 Tryz.f82 (KtB.kt 82) (il aT n 0) (eT a6 0 (tF l z 0) (⟨false,[(0,.row (.G [.nils]))]⟩::H) (.ok (.normal,hints (tF l z (Int.ofNat l)++[(11,.bool false)]),⟨false,[(0,.row (.G [.slc 0 1 v 0 7 m none])),(v,.row (.M [.arr .i64 y (bg m 7)]))]⟩::H))) a7 [(aO 5 l z,none)] H =
 (fun (Z0:au)=>Tr.reqP (Z0=Z0∧{ lock:=false,bs:=[(0,al.row (Row.G [AV.nils]))] } :: H={ lock:=false,bs:=[(0,al.row (Row.G [AV.nils]))] } :: H) (Tr.req (dJ v v) (Tr.req (qu 0 (bg m 7) 0 (bg m 7)) (Tr.ok ((AV.ptrT (some 0) (Row.G [AV.slcT none (Row.M [aW.arr .i64 (qL y 0) (bg m 7)]) 7 m false]) 0,none),H))))) [(3,AV.ptr 0 0 0 0),(8,aO 5 l z),(9,AV.int .i64 (Int.ofNat l)),(10,AV.int .i64 (Int.ofNat 0))]:=by kernel_rfl
def oZ (z:Nat→Int) (i:Nat):Int:=if i % 7<5 then z (i / 7*5+i % 7) else if i % 7=5 then c5 z (i / 7) else cB z (i / 7)
def oY (z:Nat→Int) (j:Nat) (i:Nat):Int:=if i<j*7 then oZ z i else 0
noncomputable def DC (z:Nat→Int):Nat→bo
 | 0=>⟨false,[(0,.row (.G [.nils]))]⟩
 | j+1=>⟨false,[(0,.row (.G [.slc 0 1 j 0 7 (j+1) none])),(j,.row (.M [.arr .i64 (oY z (j+1)) (bg (j+1) 7)]))]⟩
theorem Oq:∀ b,(0,b) ∈ aV (bQ Tryz.f82)→b=.loop (part Tryz.f82 [1,1,0,1,0,0]):=gM (by kernel_rfl)
theorem DZ (z:Nat→Int) (j:Nat):qN (qL (oY z j) 0) (bg j 7) (aL [z (j*5),z (j*5+1),z (j*5+2),z (j*5+3),z (j*5+4),c5 z j,cB z j])=oY z (j+1):=by
 funext i
 rw[nN,jx,kD,g8]
 unfold oY
 by_cases h:i<j*7
 · simp[h,show i<(j+1)*7 by omega]
 · by_cases h2:i<(j+1)*7
   · obtain ⟨r,hr,rfl⟩:∃ r,r<7∧i=j*7+r:=⟨i-j*7,by omega,by omega⟩
     have e1:(j*7+r) / 7=j:=by omega
     have e2:(j*7+r) % 7=r:=by omega
     unfold oZ
     rw[e1,e2]
     have:r=0∨r=1∨r=2∨r=3∨r=4∨r=5∨r=6:=by omega
     rcases this with rfl | rfl | rfl | rfl | rfl | rfl | rfl<;>simp[h2,Nat.add_sub_cancel_left]<;>omega
   · simp[h,h2,List.getD_eq_getElem?_getD,List.getElem?_eq_none (show [z (j*5),z (j*5+1),z (j*5+2),z (j*5+3),z (j*5+4),c5 z j,cB z j].length≤i-j*7 by simp;omega)]
section
variable (n:Nat) (l:Nat) (z:Nat→Int) (H:aa)
theorem Qo (h:bY l z=0):exec (bt n 82 42) (.block 0 (.loop (part Tryz.f82 [1,1,0,1,0,0]))) (tF l z 0) (DC z 0::H)=some (.normal,tF l z (Int.ofNat l)++[(11,.bool false)],DC z l::H):=by
 obtain ⟨hl,hb⟩:=cM h
 have:=iR (n:=n) (f:=82) (nt:=42) (c:=part Tryz.f82 [1,1,0,1,0,0]) 0 (fun j=>tF l z (j:Int)) (fun j=>DC z j::H) l (tF l z (Int.ofNat l)++[(11,.bool false)],DC z l::H) (by omega) (fun j hj=>?_) ?_
 · exact this
 · have b:=hb j hj
   have ej:bk .i64 (j:Int) (Int.ofNat 1)=((j+1:Nat):Int):=by rw[dB,show Int.ofNat 1=1 from rfl];exact dv (by omega) (by omega)
   have ei:aD 0 (j:Int) 5=j*5:=by rw[bS];omega
   have s1:cD .i64 (z (j*5+1)) (z (j*5+3))=c5 z j:=by rw[db];exact dv (by omega) (by omega)
   have s2:cD .i64 (z (j*5)) (z (j*5+2))=cB z j:=by rw[db];exact dv (by omega) (by omega)
   cases j with
   | zero =>
     have e0:=DZ z 0
     have ei':aD 0 (Int.ofNat 0) 5=0:=by rw[bS];rfl
     have ej':bk .i64 (Int.ofNat 0) (Int.ofNat 1)=((0+1:Nat):Int):=ej
     have s1':cD .i64 (z (0+1)) (z (0+3))=c5 z 0:=s1
     have s2':cD .i64 (z 0) (z (0+2))=cB z 0:=s2
     have e9:aL [z 0,z (0+1),z (0+2),z (0+3),z (0+4),c5 z 0,cB z 0]=oY z (0+1):=by
      rw[← e0,nN,jx,g8]
      funext i;simp
     have e7:bg (0+1) 7=7:=by rw[g8]
     refine az (Nu n l z H) (aB n) (af _ _) (ag _ _) ?_
     rw[ei',ej']
     simp only[ba]
     rw[s1',s2',e9]
     repeat' first | (refine Tr.aj (fun hc=>?_) (fun hc=>?_)<;>(try simp (disch:=omega) only[nV,nW] at hc)<;>try omega) | (refine Tr.bm ?_ ?_;· (try simp (disch:=omega) only[nV,nW]);try omega) | (refine Tr.aF ?_ ?_;· first | exact trivial | rfl | exact ⟨rfl,rfl⟩ | exact ⟨rfl,rfl,rfl⟩ | (simp (disch:=omega) only[nV,nW];done) | ((try simp (disch:=omega) only[nV,nW]);omega)) | fail
     all_goals first
      | (refine Tr.ar ⟨rfl,?_⟩
         show _=(tF l z ((0+1:Nat):Int),(⟨false,[(0,.row (.G [.slc 0 1 0 0 7 (0+1) none])),(0,.row (.M [.arr .i64 (oY z (0+1)) (bg (0+1) 7)]))]⟩:bo)::H)
         rw[e7];rfl)
      | fail
   | succ j =>
     have e0:=DZ z (j+1)
     have e7:aq (bg (j+1) 7) 7=bg (j+1+1) 7:=by rw[ba,g8,g8];omega
     have e8:aq (j+1) 1=j+1+1:=by rw[ba]
     refine az (KF n l z (oY z (j+1)) H ((j+1:Nat):Int) j (j+1)) (aB n) (af _ _) (ag _ _) ?_
     rw[ei,ej,e7,e8]
     have ea:∀ k,aq ((j+1)*5) k=(j+1)*5+k:=fun k=>by rw[ba]
     simp only[ea]
     rw[s1,s2,e0]
     exact wF
 · cases l with
   | zero=>omega
   | succ k =>
     obtain ⟨x,h1,rfl⟩:=az (Q:=fun x=>x=(.exit 0,tF (k+1) z (Int.ofNat (k+1))++[(11,.bool false)],DC z (k+1)::H)) (KF n (k+1) z (oY z (k+1)) H (Int.ofNat (k+1)) k (k+1)) (aB n) (af _ _) (ag _ _) (by
      exact wF)
     exact h1
noncomputable def G1 (l:Nat) (z:Nat→Int):AV:=.ptrT (some 0) (.G [aO 7 l (oY z l)]) 0
theorem OE (h:bY l z=0):cd (n+1) (.fn 82) [aO 5 l z] H=some (G1 l z,H):=by
 obtain ⟨hl,_⟩:=cM h
 have lp:=Qo n l z H h
 cases l with
 | zero=>omega
 | succ k =>
   refine bw (n:=n) Tryz.func82 rfl rfl rfl (QS n (k+1) z (oY z (k+1)) H k (k+1)) (aB n) (bu (af _ _) Oq (fun x hx=>by rw[← Tr.ab hx];simp only[fz.st,aN];exact lp)) (ag _ _) ?_
   repeat' first | (refine Tr.aj (fun hc=>?_) (fun hc=>?_)<;>(try simp (disch:=omega) only[nV,nW] at hc)<;>try omega) | (refine Tr.bm ?_ ?_;· (try simp (disch:=omega) only[nV,nW]);try omega) | (refine Tr.aF ?_ ?_;· first | exact trivial | rfl | exact ⟨rfl,rfl⟩ | exact ⟨rfl,rfl,rfl⟩ | (simp (disch:=omega) only[nV,nW];done) | ((try simp (disch:=omega) only[nV,nW]);omega)) | fail
   all_goals first
    | (refine Tr.ar ⟨?_,rfl⟩
       rw[gH];rfl)
    | fail
end
end Go.Eng
end
section
namespace Go.Eng
open Go.Proofs
noncomputable def gO (L V:AV):List AV→Option (Prop×AV)
 | [a]=>some (a=L,V)
 | _=>none
theorem QP (n:Nat) (l:Nat) (z:Nat→Int) (H:aa) (e:Int) (y:Nat→Int):bK Tryz.prog (cd (n+9)) 100000 52 Tryz.f52 (KtB.kt 52) (il (ly (ly aT 20 (K6 (aO 5 l z) e)) 82 (gO (aO 5 l z) (.ptrT (some 0) (.G [aO 7 l y]) 0))) (n+9) 0) a6 a7 [(aO 5 l z,none)] H =
 Tr.reqP (aO 5 l z=aO 5 l z) (Tr.ite (dQ (eU e (Int.ofNat 0))) (Tr.ok ((AV.tup [AV.nilp,AV.int .i64 e],none),H)) (Tr.reqP (aO 5 l z=aO 5 l z) (Tr.ok ((AV.tup [AV.ptrT (some 0) (Row.G [aO 7 l y]) 0,AV.int .i64 (Int.ofNat 0)],none),H)))):=by kernel_rfl
theorem NG (n:Nat) (l:Nat) (z:Nat→Int) (H:aa) (e:Int):bK Tryz.prog (cd (n+9)) 100000 52 Tryz.f52 (KtB.kt 52) (il (ly (ly aT 20 (K6 (aO 5 l z) e)) 82 (fun _=>none)) (n+9) 0) a6 a7 [(aO 5 l z,none)] H =
 Tr.reqP (aO 5 l z=aO 5 l z) (Tr.ite (dQ (eU e (Int.ofNat 0))) (Tr.ok ((AV.tup [AV.nilp,AV.int .i64 e],none),H)) Tr.bad):=by kernel_rfl
section
variable (n:Nat) (l:Nat) (z:Nat→Int) (H:aa) (q:Int)
theorem OL {f k:Nat} {t:nI} {V:AV} (ht:t.Ok (cd k)) (h:∀ H,cd k (.fn f) [aO 5 l z] H=some (V,H)):(ly t f (gO (aO 5 l z) V)).Ok (cd k):=by
 refine fD ht (fun args p v hg hp H=>?_)
 unfold gO at hg
 split at hg
 · simp only[nP] at hg
   obtain ⟨rfl,rfl⟩:=hg
   subst hp
   exact h H
 · cases hg
noncomputable def zG (l:Nat) (z:Nat→Int):AV:=if bY l z=0 then .tup [G1 l z,.int .i64 0] else .tup [.nilp,.int .i64 (bY l z)]
theorem OA:cd (n+10) (.fn 52) [aO 5 l z] H=some (zG l z,H):=by
 unfold zG
 by_cases h:bY l z=0
 · rw[if_pos h]
   refine bw (n:=n+9) Tryz.func52 rfl rfl rfl (QP n l z H (bY l z) (oY z l)) (iA _ (n+9) 0 (fun k=>OL l z (Oa l z (bp _) (fun H=>by rw[show n+9+k=n+k+9 by omega];exact N6 _ l z H)) (fun H=>by rw[show n+9+k=n+8+k+1 by omega];exact OE _ l z H h))) (af _ _) (ag _ _) ?_
   repeat' first | (refine Tr.aj (fun hc=>?_) (fun hc=>?_)<;>(try simp (disch:=omega) only[nV,nW,h] at hc)<;>try omega) | (refine Tr.bm ?_ ?_;· (try simp (disch:=omega) only[nV,nW,h]);try omega) | (refine Tr.aF ?_ ?_;· first | exact trivial | rfl | exact ⟨rfl,rfl⟩ | exact ⟨rfl,rfl,rfl⟩ | (simp (disch:=omega) only[nV,nW,h];done) | ((try simp (disch:=omega) only[nV,nW,h]);omega)) | fail
   all_goals first
    | exact Tr.ar ⟨rfl,rfl⟩
    | fail
 · rw[if_neg h]
   refine bw (n:=n+9) Tryz.func52 rfl rfl rfl (NG n l z H (bY l z)) (iA _ (n+9) 0 (fun k=>fD (Oa l z (bp _) (fun H=>by rw[show n+9+k=n+k+9 by omega];exact N6 _ l z H)) (fun args p v hg hp H=>by cases hg))) (af _ _) (ag _ _) ?_
   exact wF
theorem uM {l j r:Nat} (hj:j<l) (hr:r<7):oY z l (j*7+r)=if r<5 then z (j*5+r) else if r=5 then c5 z j else cB z j:=by
 unfold oY oZ
 rw[if_pos (by omega),show (j*7+r) / 7=j by omega,show (j*7+r) % 7=r by omega]
end
end Go.Eng
end
section
namespace Go.Eng
open Go.Proofs
noncomputable def wX (l:Nat) (y:Nat→Int) (q j:Int):au:=[(1,.int .i64 q),(4,.ptr 0 0 0 0),(5,.ptr 0 1 0 0),(12,aO 7 l y),(13,.int .i64 (Int.ofNat l)),(14,.int .i64 j)]
noncomputable def xN (m:Nat→Int):bo:=⟨false,[(0,.row (.M [.arr .i64 (fun x=>Int.ofNat 0) 14])),(0,.row (.M [.arr .i64 m 14]))]⟩
theorem t56 (n:Nat) (l:Nat) (y m:Nat→Int) (H:aa) (q j:Int):aP (bt (n+1) 56 26) (il aT n 1) a6 a7 (part Tryz.f56 [1,1,1,0,1,0,0]) (hints (wX l y q j)) (xN m::H) =
 (fun (Z0:aK)=>((fun (Z1:Nat×al)=>((fun (Z2:Nat×al)=>Tr.ite (cP j (Int.ofNat l)) (Tr.req (dY j l) (Tr.req (bX (aD 0 j 7) (bg l 7)) (Tr.req (bX (aq (aD 0 j 7) 1) (bg l 7)) (Tr.req (bX (aq (aD 0 j 7) 2) (bg l 7)) (Tr.req (bX (aq (aD 0 j 7) 3) (bg l 7)) (Tr.req (bX (aq (aD 0 j 7) 4) (bg l 7)) (Tr.req (bX (aq (aD 0 j 7) 5) (bg l 7)) (Tr.req (bX (aq (aD 0 j 7) 6) (bg l 7)) (Tr.ite (mK (y (aq (aD 0 j 7) 5)) q) (Tr.ite (mK q (y (aq (aD 0 j 7) 6))) (Tr.req (dY j 14) (Tr.req (dJ 0 0) (Tr.req (bX (aD 0 j 1) 14) (Tr.ok (Ex.normal,Z0,{ lock:=false,bs:=[Z2,(0,al.row (Row.M [aW.arr .i64 (fS m (aD 0 j 1) (Int.ofNat 1)) 14])),Z1] } :: H))))) (Tr.ok (Ex.normal,Z0,{ lock:=false,bs:=[Z2,(0,al.row (Row.M [aW.arr .i64 m 14])),Z1] } :: H))) (Tr.ok (Ex.normal,Z0,{ lock:=false,bs:=[Z2,(0,al.row (Row.M [aW.arr .i64 m 14])),Z1] } :: H))))))))))) (Tr.ok (Ex.exit 0,[(1,AV.int .i64 q,none),(4,AV.ptr 0 0 0 0,none),(5,AV.ptr 0 1 0 0,none),(12,aO 7 l y,none),(13,AV.int .i64 (Int.ofNat l),none),(14,AV.int .i64 j,none),(15,AV.bool false,some 1)],{ lock:=false,bs:=[Z2,(0,al.row (Row.M [aW.arr .i64 m 14]))] } :: H))) (0,al.row (Row.M [aW.arr .i64 (fun x=>Int.ofNat 0) 14])))) (0,al.row (Row.I .i64 [y (aD 0 j 7),y (aq (aD 0 j 7) 1),y (aq (aD 0 j 7) 2),y (aq (aD 0 j 7) 3),y (aq (aD 0 j 7) 4),y (aq (aD 0 j 7) 5),y (aq (aD 0 j 7) 6)])))) [(1,AV.int .i64 q,none),(4,AV.ptr 0 0 0 0,none),(5,AV.ptr 0 1 0 0,none),(12,aO 7 l y,none),(13,AV.int .i64 (Int.ofNat l),none),(14,AV.int .i64 (bk .i64 j (Int.ofNat 1)),none)]:=by kernel_rfl
def uf (z:Nat→Int) (q:Int) (j:Nat):Bool:=decide (c5 z j≤q) && decide (q≤cB z j)
def iO (z:Nat→Int) (q:Int) (k i:Nat):Int:=if i<k∧uf z q i=true then 1 else 0
theorem Om:∀ b,(0,b) ∈ aV (bQ Tryz.f56)→b=.loop (part Tryz.f56 [1,1,1,0,1,0,0]):=gM (by kernel_rfl)
section
variable (n:Nat) (l:Nat) (z:Nat→Int) (H:aa) (q:Int)
theorem Ql (h:bY l z=0):exec (bt (n+1) 56 26) (.block 0 (.loop (part Tryz.f56 [1,1,1,0,1,0,0]))) (wX l (oY z l) q 0) (xN (gN (fun x=>Int.ofNat 0) 0 (fun x=>Int.ofNat 0) 14)::H)=some (.normal,wX l (oY z l) q (Int.ofNat l)++[(15,.bool false)],xN (iO z q l)::H):=by
 obtain ⟨hl,hb⟩:=cM h
 have h0:gN (fun x=>Int.ofNat 0) 0 (fun x=>Int.ofNat 0) 14=iO z q 0:=by
  rw[nZ];funext i;unfold tz iO;simp
 rw[h0]
 have:=iR (n:=n+1) (f:=56) (nt:=26) (c:=part Tryz.f56 [1,1,1,0,1,0,0]) 0 (fun j=>wX l (oY z l) q (j:Int)) (fun j=>xN (iO z q j)::H) l (wX l (oY z l) q (Int.ofNat l)++[(15,.bool false)],xN (iO z q l)::H) (by omega) (fun j hj=>?_) ?_
 · exact this
 · have ej:bk .i64 (j:Int) (Int.ofNat 1)=((j+1:Nat):Int):=by rw[dB,show Int.ofNat 1=1 from rfl];exact dv (by omega) (by omega)
   have ei:aD 0 (j:Int) 7=j*7:=by rw[bS];omega
   have ei1:aD 0 (j:Int) 1=j:=by rw[bS];omega
   have e6:j*7+5+1=j*7+6:=rfl
   have h5:oY z l (j*7+5)=c5 z j:=uM z (by omega) (by omega)
   have h6:oY z l (j*7+6)=cB z j:=uM z (by omega) (by omega)
   have hu:uf z q j=true→fS (iO z q j) j (Int.ofNat 1)=iO z q (j+1):=fun hd=>by
    rw[kS];funext i
    unfold iO
    by_cases e:i=j
    · subst e;simp[hd]
    · simp[e,show i<j+1↔i<j by omega]
   have hn:uf z q j=false→iO z q j=iO z q (j+1):=fun hd=>by
    funext i
    unfold iO
    by_cases e:i=j
    · subst e;simp[hd]
    · simp[show i<j+1↔i<j by omega]
   have hd:uf z q j=(decide (c5 z j≤q) && decide (q≤cB z j)):=rfl
   refine az (t56 n l (oY z l) (iO z q j) H q (j:Int)) (fJ n 1) (af _ _) (ag _ _) ?_
   simp only[ei,ba,e6]
   rw[h5,h6,ej,ei1]
   cases hx:uf z q j with
   | true =>
     have hx':=hx
     rw[hd,Bool.and_eq_true,decide_eq_true_eq,decide_eq_true_eq] at hx'
     rw[hu hx]
     generalize c5 z j=lo at *
     generalize cB z j=hi at *
     exact wF
   | false =>
     have hx':=hx
     rw[hd,Bool.and_eq_false_iff,decide_eq_false_iff_not,decide_eq_false_iff_not] at hx'
     have hn:=hn hx
     generalize iO z q (j+1)=m' at *
     subst hn
     generalize c5 z j=lo at *
     generalize cB z j=hi at *
     exact wF
 · obtain ⟨x,h1,rfl⟩:=az (Q:=fun x=>x=(.exit 0,wX l (oY z l) q (Int.ofNat l)++[(15,.bool false)],xN (iO z q l)::H)) (t56 n l (oY z l) (iO z q l) H q (Int.ofNat l)) (fJ n 1) (af _ _) (ag _ _) (by
    exact wF)
   exact h1
end
end Go.Eng
end
section
namespace Go.Eng
open Go.Proofs
theorem mi (L:List Int) (v:Int):qN (qL (aL L) 0) L.length (aL [v])=aL (L++[v]):=by
 rw[gH,nN,kD];funext i
 by_cases h:i<L.length
 · simp[h,List.getElem?_append]
 · by_cases h2:i=L.length
   · subst h2;simp
   · have e1:[v][i-L.length]?=none:=List.getElem?_eq_none (by simp;omega)
     have e2:(L++[v])[i]?=none:=List.getElem?_eq_none (by simp;omega)
     simp only[h,if_false,List.getD_eq_getElem?_getD,e1,e2]
def dl (m:Nat→Int):Nat→List Int
 | 0=>[]
 | j+1=>if m j=1 then dl m j++[(j:Int)] else dl m j
theorem ze (m:Nat→Int) (j:Nat):(dl m j).length≤j:=by
 induction j with
 | zero=>simp[dl]
 | succ j ih =>
   unfold dl
   split
   · rw[List.length_append];simp only[List.length_cons,List.length_nil];omega
   · omega
noncomputable def dV:List Int→AV
 | []=>.nils
 | a::r=>.slc 0 0 0 0 1 (r.length+1) none
section
variable (n:Nat) (m:Nat→Int) (H:aa)
end
noncomputable def dA:List Int→AV
 | []=>.nils
 | a::r=>.slcT none (.M [.arr .i64 (aL (a::r)) (r.length+1)]) 1 (r.length+1) false
section
variable (n:Nat) (l:Nat) (z:Nat→Int) (H:aa) (q:Int)
end
end Go.Eng
end
section
namespace Go.Eng
open Go.Proofs
noncomputable abbrev cQ (n:Nat) (z:Nat→Int) (full:Bool):AV:=.slcT none (.M [.arr .i64 z n]) 1 n full
noncomputable def LG (m p:Nat) (z y:Nat→Int) (a b:Bool) (j:Int):au:=[(0,cQ m z a),(1,cQ p y b),(5,.int .i64 j)]
theorem t22 (n:Nat) (H:aa) (m p:Nat) (z y:Nat→Int) (a b:Bool) (j:Int):aP (bt n 22 26) (il aT n 0) a6 a7 (part Tryz.f22 [1,1,0,1,0,0]) (hints (LG m p z y a b j)) (aH::H) =
 Tr.ite (cP j (Int.ofNat m)) (Tr.req (dY j m) (Tr.req (bX (aD 0 j 1) m) (Tr.req (dY j p) (Tr.req (bX (aD 0 j 1) p) (Tr.ite (dQ (eU (z (aD 0 j 1)) (y (aD 0 j 1)))) (Tr.ok (Ex.ret,[(4,AV.bool false,some 1)],aH::H)) (Tr.ok (Ex.normal,[(0,AV.slcT none (Row.M [aW.arr .i64 z m]) 1 m a,none),(1,AV.slcT none (Row.M [aW.arr .i64 y p]) 1 p b,none),(5,AV.int .i64 (bk .i64 j (Int.ofNat 1)),none)],aH::H))))))) (Tr.ok (Ex.exit 0,[(0,AV.slcT none (Row.M [aW.arr .i64 z m]) 1 m a,none),(1,AV.slcT none (Row.M [aW.arr .i64 y p]) 1 p b,none),(5,AV.int .i64 j,none),(14,AV.bool false,some 1)],aH::H)):=by kernel_rfl
noncomputable def dW:List Int→AV
 | []=>.nils
 | a::r=>.slc 0 0 r.length 0 1 (r.length+1) none
noncomputable def I7:List Int→bo
 | []=>⟨false,[]⟩
 | a::r=>⟨false,[(r.length,.row (.M [.arr .i64 (aL (a::r)) (r.length+1)]))]⟩
section
variable (n:Nat) (l:Nat) (z:Nat→Int) (H:aa) (q:Int)
end
end Go.Eng
end
section
namespace Go.Eng
open Go.Proofs
noncomputable def QZ (A:AV):List AV→Option (Prop×AV)
 | [a,b]=>some (a=A∧b=A,.bool true)
 | _=>none
def G4:List AV→Option (Prop×AV)
 | []=>some (True,.bool true)
 | _=>none
theorem Ov (n:Nat) (H:aa):cd (n+1) (.fn 15) [] H=some (.bool true,H):=by unfold cd cC;rfl
theorem LA {n:Nat} {t:nI} (ht:t.Ok (cd (n+1))):(ly t 15 G4).Ok (cd (n+1)):=by
 refine fD ht (fun args p v hg hp H=>?_)
 unfold G4 at hg
 split at hg
 · simp only[nP] at hg
   obtain ⟨_,rfl⟩:=hg
   exact Ov _ H
 · cases hg
section
variable (n:Nat) (l:Nat) (z:Nat→Int) (H:aa) (q s:Int)
end
end Go.Eng
end
section
namespace Go.Eng
open Go.Proofs
section
variable (n:Nat) (H:aa)
end
section
variable (n:Nat) (l:Nat) (z:Nat→Int) (H:aa)
end
end Go.Eng
end
section
namespace Go.Eng
open Go.Proofs
end Go.Eng
end
section
namespace Go.Eng
open Go.Proofs
noncomputable def pr (L:AV) (l:Nat) (y:Nat→Int) (j:Int):au:=[(3,L),(9,aO 7 l y),(10,.int .i64 (Int.ofNat l)),(11,.int .i64 j)]
theorem Kv (n:Nat) (l:Nat) (y:Nat→Int) (H:aa) (j:Int):aP (bt (n+3) 64 24) (il aT (n+1) 2) a6 a7 (part Tryz.f64 [1,1,0,1,0,0]) (hints (pr .nils l y j)) (aH::H) =
 (fun (Z0:Nat×al)=>Tr.ite (cP j (Int.ofNat l)) (Tr.req (dY j l) (Tr.req (bX (aD 0 j 7) (bg l 7)) (Tr.req (bX (aq (aD 0 j 7) 1) (bg l 7)) (Tr.req (bX (aq (aD 0 j 7) 2) (bg l 7)) (Tr.req (bX (aq (aD 0 j 7) 3) (bg l 7)) (Tr.req (bX (aq (aD 0 j 7) 4) (bg l 7)) (Tr.req (bX (aq (aD 0 j 7) 5) (bg l 7)) (Tr.req (bX (aq (aD 0 j 7) 6) (bg l 7)) (Tr.ite (mK (y (aq (aD 0 j 7) 5)) (y (aq (aD 0 j 7) 6))) (Tr.req (fO 0 1 8) (Tr.req (dJ 0 0) (Tr.req (gi 1 1) (Tr.ok (Ex.normal,[(3,AV.slc 0 2 0 0 1 1 none,none),(9,aO 7 l y,none),(10,AV.int .i64 (Int.ofNat l),none),(11,AV.int .i64 (bk .i64 j (Int.ofNat 1)),none)],{ lock:=false,bs:=[Z0,(0,al.row (Row.I .i64 [j])),(0,al.row (Row.M [aW.arr .i64 (aL [j]) 1]))] } :: H))))) (Tr.ok (Ex.normal,[(3,AV.nils,none),(9,aO 7 l y,none),(10,AV.int .i64 (Int.ofNat l),none),(11,AV.int .i64 (bk .i64 j (Int.ofNat 1)),none)],{ lock:=false,bs:=[Z0] } :: H))))))))))) (Tr.ok (Ex.exit 0,[(3,AV.nils,none),(9,aO 7 l y,none),(10,AV.int .i64 (Int.ofNat l),none),(11,AV.int .i64 j,none),(12,AV.bool false,some 1)],aH::H))) (0,al.row (Row.I .i64 [y (aD 0 j 7),y (aq (aD 0 j 7) 1),y (aq (aD 0 j 7) 2),y (aq (aD 0 j 7) 3),y (aq (aD 0 j 7) 4),y (aq (aD 0 j 7) 5),y (aq (aD 0 j 7) 6)])):=by kernel_rfl
theorem Kw (n:Nat) (l:Nat) (y g:Nat→Int) (H:aa) (j:Int) (v k:Nat):aP (bt (n+3) 64 24) (il aT (n+1) 2) a6 a7 (part Tryz.f64 [1,1,0,1,0,0]) (hints (pr (.slc 0 0 v 0 1 k none) l y j)) (⟨false,[(v,.row (.M [.arr .i64 g k]))]⟩::H) =
 (fun (Z0:Nat×al)=>Tr.ite (cP j (Int.ofNat l)) (Tr.req (dY j l) (Tr.req (bX (aD 0 j 7) (bg l 7)) (Tr.req (bX (aq (aD 0 j 7) 1) (bg l 7)) (Tr.req (bX (aq (aD 0 j 7) 2) (bg l 7)) (Tr.req (bX (aq (aD 0 j 7) 3) (bg l 7)) (Tr.req (bX (aq (aD 0 j 7) 4) (bg l 7)) (Tr.req (bX (aq (aD 0 j 7) 5) (bg l 7)) (Tr.req (bX (aq (aD 0 j 7) 6) (bg l 7)) (Tr.ite (mK (y (aq (aD 0 j 7) 5)) (y (aq (aD 0 j 7) 6))) (Tr.req (fO k 1 8) (Tr.req (dJ 0 0) (Tr.req (gi 1 1) (Tr.req (dJ v v) (Tr.req (dJ (aq 0 k) k) (Tr.ok (Ex.normal,[(3,AV.slc 0 0 (Nat.succ v) 0 1 (aq k 1) none,none),(9,aO 7 l y,none),(10,AV.int .i64 (Int.ofNat l),none),(11,AV.int .i64 (bk .i64 j (Int.ofNat 1)),none)],{ lock:=false,bs:=[(Nat.succ v,al.row (Row.M [aW.arr .i64 (qN (qL g 0) k (aL [j])) (aq k 1)])),Z0,(0,al.row (Row.I .i64 [j]))] } :: H))))))) (Tr.ok (Ex.normal,[(3,AV.slc 0 0 v 0 1 k none,none),(9,aO 7 l y,none),(10,AV.int .i64 (Int.ofNat l),none),(11,AV.int .i64 (bk .i64 j (Int.ofNat 1)),none)],{ lock:=false,bs:=[(v,al.row (Row.M [aW.arr .i64 g k])),Z0] } :: H))))))))))) (Tr.ok (Ex.exit 0,[(3,AV.slc 0 0 v 0 1 k none,none),(9,aO 7 l y,none),(10,AV.int .i64 (Int.ofNat l),none),(11,AV.int .i64 j,none),(12,AV.bool false,some 1)],{ lock:=false,bs:=[(v,al.row (Row.M [aW.arr .i64 g k]))] } :: H))) (0,al.row (Row.I .i64 [y (aD 0 j 7),y (aq (aD 0 j 7) 1),y (aq (aD 0 j 7) 2),y (aq (aD 0 j 7) 3),y (aq (aD 0 j 7) 4),y (aq (aD 0 j 7) 5),y (aq (aD 0 j 7) 6)])):=by kernel_rfl
def jy (z:Nat→Int) (i:Nat):Int:=if c5 z i≤cB z i then 1 else 0
theorem N3:∀ b,(0,b) ∈ aV (bQ Tryz.f64)→b=.loop (part Tryz.f64 [1,1,0,1,0,0]):=gM (by kernel_rfl)
section
variable (n:Nat) (l:Nat) (z:Nat→Int) (H:aa)
theorem Qm (h:bY l z=0):exec (bt (n+3) 64 24) (.block 0 (.loop (part Tryz.f64 [1,1,0,1,0,0]))) (pr .nils l (oY z l) 0) (aH::H)=some (.normal,pr (dW (dl (jy z) l)) l (oY z l) (Int.ofNat l)++[(12,.bool false)],I7 (dl (jy z) l)::H):=by
 obtain ⟨hl,hb⟩:=cM h
 have:=iR (n:=n+3) (f:=64) (nt:=24) (c:=part Tryz.f64 [1,1,0,1,0,0]) 0 (fun j=>pr (dW (dl (jy z) j)) l (oY z l) (j:Int)) (fun j=>I7 (dl (jy z) j)::H) l (pr (dW (dl (jy z) l)) l (oY z l) (Int.ofNat l)++[(12,.bool false)],I7 (dl (jy z) l)::H) (by omega) (fun j hj=>?_) ?_
 · exact this
 · have ej:bk .i64 (j:Int) (Int.ofNat 1)=((j+1:Nat):Int):=by rw[dB,show Int.ofNat 1=1 from rfl];exact dv (by omega) (by omega)
   have ei:aD 0 (j:Int) 7=j*7:=by rw[bS];omega
   have hm:=ze (jy z) j
   have hd:dl (jy z) (j+1)=if jy z j=1 then dl (jy z) j++[(j:Int)] else dl (jy z) j:=rfl
   have ht:jy z j=1↔c5 z j≤cB z j:=by unfold jy;simp
   have h5:oY z l (j*7+5)=c5 z j:=uM z (by omega) (by omega)
   have h6:oY z l (j*7+6)=cB z j:=uM z (by omega) (by omega)
   cases e:dl (jy z) j with
   | nil =>
     rw[e] at hd
     refine az (Kv n l (oY z l) H (j:Int)) (fJ (n+1) 2) (af _ _) (ag _ _) ?_
     simp only[ei,ba]
     rw[ej,h5,h6]
     generalize c5 z j=lo at *
     generalize cB z j=hi at *
     generalize dl (jy z) (j+1)=D at *
     generalize jy z j=mj at *
     repeat' first | (refine Tr.aj (fun hc=>?_) (fun hc=>?_)<;>(try simp (disch:=omega) only[nV,nW] at hc)<;>try omega) | (refine Tr.bm ?_ ?_;· (try simp (disch:=omega) only[nV,nW]);try omega) | (refine Tr.aF ?_ ?_;· first | exact trivial | rfl | exact ⟨rfl,rfl⟩ | exact ⟨rfl,rfl,rfl⟩ | (simp (disch:=omega) only[nV,nW];done) | ((try simp (disch:=omega) only[nV,nW]);omega)) | fail
     all_goals first
      | (rw[if_pos (by omega)] at hd;subst hd;exact Tr.ar ⟨rfl,rfl⟩)
      | (rw[if_neg (by omega)] at hd;subst hd;exact Tr.ar ⟨rfl,rfl⟩)
      | fail
   | cons a r =>
     rw[e] at hd hm
     have e1:=mi (a::r) (j:Int)
     simp only[List.length_cons] at hm e1
     have e3:aq (r.length+1) 1=r.length+1+1:=by rw[ba]
     refine az (Kw n l (oY z l) (aL (a::r)) H (j:Int) r.length (r.length+1)) (fJ (n+1) 2) (af _ _) (ag _ _) ?_
     rw[e1,e3]
     simp only[ei,ba]
     rw[ej,h5,h6]
     generalize c5 z j=lo at *
     generalize cB z j=hi at *
     generalize hD:dl (jy z) (j+1)=D at *
     generalize jy z j=mj at *
     have e4:(r++[(j:Int)]).length=r.length+1:=by simp
     repeat' first | (refine Tr.aj (fun hc=>?_) (fun hc=>?_)<;>(try simp (disch:=omega) only[nV,nW] at hc)<;>try omega) | (refine Tr.bm ?_ ?_;· (try simp (disch:=omega) only[nV,nW]);try omega) | (refine Tr.aF ?_ ?_;· first | exact trivial | rfl | exact ⟨rfl,rfl⟩ | exact ⟨rfl,rfl,rfl⟩ | (simp (disch:=omega) only[nV,nW];done) | ((try simp (disch:=omega) only[nV,nW]);omega)) | fail
     all_goals first
      | (rw[if_pos (by omega)] at hd;subst hd
         refine Tr.ar ⟨rfl,?_⟩
         show _=(pr (.slc 0 0 (r++[(j:Int)]).length 0 1 ((r++[(j:Int)]).length+1) none) l (oY z l) ((j+1:Nat):Int),(⟨false,[((r++[(j:Int)]).length,.row (.M [.arr .i64 (aL (a::r++[(j:Int)])) ((r++[(j:Int)]).length+1)]))]⟩:bo)::H)
         rw[e4];rfl)
      | (rw[if_neg (by omega)] at hd;subst hd;exact Tr.ar ⟨rfl,rfl⟩)
      | fail
 · cases e:dl (jy z) l with
   | nil =>
     obtain ⟨x,h1,rfl⟩:=az (Q:=fun x=>x=(.exit 0,pr .nils l (oY z l) (Int.ofNat l)++[(12,.bool false)],aH::H)) (Kv n l (oY z l) H (Int.ofNat l)) (fJ (n+1) 2) (af _ _) (ag _ _) (by
      exact wF)
     exact h1
   | cons a r =>
     obtain ⟨x,h1,rfl⟩:=az (Q:=fun x=>x=(.exit 0,pr (.slc 0 0 r.length 0 1 (r.length+1) none) l (oY z l) (Int.ofNat l)++[(12,.bool false)],(⟨false,[(r.length,.row (.M [.arr .i64 (aL (a::r)) (r.length+1)]))]⟩:bo)::H)) (Kw n l (oY z l) (aL (a::r)) H (Int.ofNat l) r.length (r.length+1)) (fJ (n+1) 2) (af _ _) (ag _ _) (by
      exact wF)
     exact h1
theorem HL {f k:Nat} {t:nI} {A V:AV} (ht:t.Ok (cd k)) (h:∀ H,cd k (.fn f) [A] H=some (V,H)):(ly t f (gO A V)).Ok (cd k):=by
 refine fD ht (fun args p v hg hp H=>?_)
 unfold gO at hg
 split at hg
 · simp only[nP] at hg
   obtain ⟨rfl,rfl⟩:=hg
   subst hp
   exact h H
 · cases hg
end
end Go.Eng
end
section
namespace Go.Eng
open Go.Proofs
section
variable (n:Nat) (l:Nat) (z g:Nat→Int) (m:Nat) (bs:List (Nat×al)) (H:aa)
end
end Go.Eng
end
section
namespace Go.Eng
open Go.Proofs
section
variable (n:Nat) (P:Int→Bool) (Q:Int→List AV→aa→Prop) (b0 b1 b2 b3 b4 b5:Nat×al) (m:Nat) (g:Nat→Int) (H:aa)
end
section
variable (n:Nat) (P:Int→Bool) (Q:Int→List AV→aa→Prop) (b0 b1 b2 b3 b4 b5 b6:Nat×al) (m:Nat) (g:Nat→Int) (H:aa)
end
section
variable (n:Nat) (P:Int→Bool) (Q:Int→List AV→aa→Prop) (b0:Nat×al) (m:Nat) (g:Nat→Int) (H:aa)
end
section
variable (n:Nat) (P:Int→Bool) (Q:Int→List AV→aa→Prop) (b0 b1:Nat×al) (m:Nat) (g:Nat→Int) (H:aa)
end
end Go.Eng
end
section
namespace Go.Eng
open Go.Proofs
noncomputable def hB (y:Nat→Int) (i:Int):Int:=y (aq (aq (aD 0 i 7) 5) 1)
def Og (l:Nat) (z:Nat→Int) (x:Int):Prop:=0≤x∧x<l∧c5 z x.toNat≤cB z x.toNat
def pB (z:Nat→Int) (b x:Int):Bool:=uf z b x.toNat
section
variable (n l:Nat) (z:Nat→Int) (b:Int) (m:Nat) (g:Nat→Int) (H:aa) (x:Int) (hl:l≤14) (hx:0≤x∧x<l)
include hl hx
end
end Go.Eng
end
section
namespace Go.Eng
open Go.Proofs
theorem cY (tab:nI) (n:Nat) (ht:tab.Ok (cd n)):(il tab n 0).Ok (cd n) :=
 ⟨uO _,fun tgt args H x h=>by
   unfold il B4 at h
   split at h
   · split at h
     · rename_i c hc
       exact ht _ _ hc _ _ _ h
     · exact (Tr.ae h).elim
   · exact (Tr.ae h).elim⟩
section
variable (n l:Nat) (z:Nat→Int) (b:Int) (m:Nat) (g:Nat→Int) (H:aa) (hl:l≤14) (hm:m≤1000) (hg:∀ j,j<m→0≤g j∧g j<l)
include hl hm hg
end
section
variable (n l:Nat) (z:Nat→Int) (m:Nat) (g:Nat→Int) (H:aa) (hl:l≤14) (hm:m+1≤1000) (hg:∀ j,j<m+1→Og l z (g j))
include hg in
end
theorem oG (L:List Int) (j:Nat) (h:j<L.length):aL L j ∈ L:=by
 rw[gx]
 simp[List.getD_eq_getElem?_getD,h]
end Go.Eng
end
section
namespace Go.Eng
open Go.Proofs
section
variable (n l:Nat) (z:Nat→Int) (H:aa) (hl:l≤14)
include hl
end
end Go.Eng
end
section
namespace Go.Eng
open Go.Proofs
noncomputable def wY (l:Nat) (z:Nat→Int) (B:AV) (i j:Int):au:=[(0,aO 5 l z),(1,B),(2,.int .i64 i),(7,.int .i64 j)]
theorem Kx (n l k:Nat) (z y:Nat→Int) (full:Bool) (H:aa) (i j:Int):aP (bt (n+3) 73 21) (il aT (n+1) 2) a6 a7 (part Tryz.f73 [1,0,1,0,0]) (hints (wY l z (cQ k y full) i j)) (aH::H) =
 (fun (Z0:aK)=>Tr.ite (cP j (Int.ofNat k)) (Tr.req (dY j k) (Tr.req (bX (aD 0 j 1) k) (Tr.req (dY i l) (Tr.req (bX (aD 0 i 5) (bg l 5)) (Tr.req (bX (aq (aD 0 i 5) 1) (bg l 5)) (Tr.req (bX (aq (aD 0 i 5) 2) (bg l 5)) (Tr.req (bX (aq (aD 0 i 5) 3) (bg l 5)) (Tr.req (bX (aq (aD 0 i 5) 4) (bg l 5)) (Tr.ite (mK (cD .i64 (z (aq (aD 0 i 5) 1)) (z (aq (aD 0 i 5) 3))) (y (aD 0 j 1))) (Tr.ite (mK (y (aD 0 j 1)) (cD .i64 (z (aD 0 i 5)) (z (aq (aD 0 i 5) 2)))) (Tr.ok (Ex.ret,[(6,AV.bool true,some 1)],aH::H)) (Tr.ok (Ex.normal,Z0,aH::H))) (Tr.ok (Ex.normal,Z0,aH::H))))))))))) (Tr.ok (Ex.exit 0,[(0,aO 5 l z,none),(1,AV.slcT none (Row.M [aW.arr .i64 y k]) 1 k full,none),(2,AV.int .i64 i,none),(7,AV.int .i64 j,none),(11,AV.bool false,some 1)],aH::H))) [(0,aO 5 l z,none),(1,AV.slcT none (Row.M [aW.arr .i64 y k]) 1 k full,none),(2,AV.int .i64 i,none),(7,AV.int .i64 (bk .i64 j (Int.ofNat 1)),none)]:=by kernel_rfl
theorem NJ (n l k:Nat) (z y:Nat→Int) (full:Bool) (H:aa) (i:Int) (x:Bool):bK Tryz.prog (cd n) 100000 73 Tryz.f73 (KtB.kt 73) (il aT n 0) (eT a6 0 (wY l z (cQ k y full) i 0) (aH::H) (.ite x (.ok (.ret,[(6,.bool true,none)],aH::H)) (.ok (.normal,hints (wY l z (cQ k y full) i (Int.ofNat k)++[(11,.bool false)]),aH::H)))) a7 [(aO 5 l z,none),(cQ k y full,none),(.int .i64 i,none)] H =
 (fun (Z0:au)=>Tr.reqP (Z0=Z0∧aH::H=aH::H) (Tr.ite x (Tr.ok ((AV.bool true,none),H)) (Tr.ok ((AV.bool false,some 1),H)))) [(0,aO 5 l z),(1,AV.slcT none (Row.M [aW.arr .i64 y k]) 1 k full),(2,AV.int .i64 i),(7,AV.int .i64 (Int.ofNat 0))]:=by kernel_rfl
theorem NK (n l:Nat) (z:Nat→Int) (H:aa) (i:Int):bK Tryz.prog (cd n) 100000 73 Tryz.f73 (KtB.kt 73) (il aT n 0) a6 a7 [(aO 5 l z,none),(.nils,none),(.int .i64 i,none)] H =
 Tr.ok ((AV.bool false,some 1),H):=by kernel_rfl
theorem On:∀ b,(0,b) ∈ aV (bQ Tryz.f73)→b=.loop (part Tryz.f73 [1,0,1,0,0]):=gM (by kernel_rfl)
def BH (z y:Nat→Int) (k i:Nat):Bool:=lB (fun j=>uf z (y j) i) k
section
variable (n l k:Nat) (z y:Nat→Int) (H:aa) (i:Nat)
theorem ML (full:Bool) (h:bY l z=0) (hi:i<l) (hk:k≤1000):exec (bt (n+3) 73 21) (.block 0 (.loop (part Tryz.f73 [1,0,1,0,0]))) (wY l z (cQ k y full) i 0) (aH::H)=some (cond (BH z y k i) (.ret,[(6,.bool true)],aH::H) (.normal,wY l z (cQ k y full) i (Int.ofNat k)++[(11,.bool false)],aH::H)):=by
 obtain ⟨hl,hb⟩:=cM h
 refine wW 0 (fun j=>wY l z (cQ k y full) i (j:Int)) (fun _=>aH::H) k (fun j=>uf z (y j) i) (fun j=>([(6,.bool true)],aH::H)) (wY l z (cQ k y full) i (Int.ofNat k)++[(11,.bool false)],aH::H) (by omega) (fun j hj=>?_) ?_
 · have b:=hb i hi
   have ej:bk .i64 (j:Int) (Int.ofNat 1)=((j+1:Nat):Int):=by rw[dB,show Int.ofNat 1=1 from rfl];exact dv (by omega) (by omega)
   have ei:aD 0 (j:Int) 1=j:=by rw[bS];omega
   have e5:aD 0 (i:Int) 5=i*5:=by rw[bS];omega
   have s1:cD .i64 (z (i*5+1)) (z (i*5+3))=c5 z i:=by rw[db];exact dv (by omega) (by omega)
   have s2:cD .i64 (z (i*5)) (z (i*5+2))=cB z i:=by rw[db];exact dv (by omega) (by omega)
   have hd:uf z (y j) i=(decide (c5 z i≤y j) && decide (y j≤cB z i)):=rfl
   refine az (Kx n l k z y full H i (j:Int)) (fJ (n+1) 2) (af _ _) (ag _ _) ?_
   show Tr.all _ (fun x=>if uf z (y j) i=true then _ else _)
   simp only[ba]
   rw[e5,ei,ej,s1,s2,hd]
   clear hd s1 s2
   generalize c5 z i=lo at *
   generalize cB z i=hi at *
   by_cases h1:lo≤y j
   · by_cases h2:y j≤hi
     · rw[decide_eq_true h1,decide_eq_true h2]
       simp only[Bool.and_self,if_true]
       exact wF
     · rw[decide_eq_true h1,decide_eq_false h2]
       simp only[Bool.and_false,Bool.false_eq_true,if_false]
       exact wF
   · rw[decide_eq_false h1]
     simp only[Bool.false_and,Bool.false_eq_true,if_false]
     exact wF
 · obtain ⟨x,h1,rfl⟩:=az (Q:=fun x=>x=(.exit 0,wY l z (cQ k y full) i (Int.ofNat k)++[(11,.bool false)],aH::H)) (Kx n l k z y full H i (Int.ofNat k)) (fJ (n+1) 2) (af _ _) (ag _ _) (by
    refine Tr.aj (fun hc=>?_) (fun hc=>Tr.ar rfl)
    simp (disch:=omega) only[nV,nW] at hc;omega)
   exact h1
theorem Lu (full:Bool) (h:bY l z=0) (hi:i<l) (hk:k≤1000):cd (n+4) (.fn 73) [aO 5 l z,cQ k y full,.int .i64 (i:Int)] (H)=some (.bool (BH z y k i),H):=by
 have hx:=ML n l k z y H i full h hi hk
 refine bw (n:=n+3) Tryz.func73 rfl rfl rfl (NJ (n+3) l k z y full H i (BH z y k i)) (aB _) (bu (af _ _) On (fun x h1=>by
  refine Eq.trans hx ?_
  rcases Tr.fK h1 with ⟨hc,h1⟩ | ⟨hc,h1⟩
  · rw[hc,← Tr.ab h1];rfl
  · rw[hc,← Tr.ab h1];simp only[cond_false,fz.st,aN])) (ag _ _) ?_
 refine Tr.aF ⟨rfl,rfl⟩ (Tr.aj (fun hc=>Tr.ar ⟨?_,rfl⟩) (fun hc=>Tr.ar ⟨?_,rfl⟩))
 · rw[hc]
 · rw[hc]
theorem Lw (a:Int):cd (n+1) (.fn 73) [aO 5 l z,.nils,.int .i64 a] H=some (.bool false,H) :=
 bw (n:=n) Tryz.func73 rfl rfl rfl (NK n l z H a) (aB n) (af _ _) (ag _ _) (Tr.ar ⟨rfl,rfl⟩)
end
end Go.Eng
end
section
namespace Go.Eng
open Go.Proofs
theorem su (L:List Int) (j:Nat):aL L j=L.getD j 0:=congrFun (gx L) j
theorem zf (m:Nat→Int) (j:Nat) (x:Int):x ∈ dl m j↔∃ i:Nat,x=i∧i<j∧m i=1:=by
 induction j with
 | zero=>simp[dl]
 | succ j ih =>
   show x ∈ (if m j=1 then dl m j++[(j:Int)] else dl m j)↔_
   constructor
   · intro h
     split at h
     · rename_i e
       rcases List.mem_append.1 h with h | h
       · obtain ⟨i,h1,h2,h3⟩:=ih.1 h
         exact ⟨i,h1,by omega,h3⟩
       · rw[List.mem_singleton] at h;exact ⟨j,h,by omega,e⟩
     · obtain ⟨i,h1,h2,h3⟩:=ih.1 h
       exact ⟨i,h1,by omega,h3⟩
   · rintro ⟨i,h1,h2,h3⟩
     by_cases e:i<j
     · have:=ih.2 ⟨i,h1,e,h3⟩
       split
       · exact List.mem_append_left _ this
       · exact this
     · have:i=j:=by omega
       subst this
       rw[if_pos h3,h1];simp
end Go.Eng
end
section
namespace Go.Eng
open Go.Proofs
section
variable (n l k:Nat) (z y:Nat→Int) (H:aa)
end
section
variable (n l:Nat) (z:Nat→Int) (H:aa)
end
end Go.Eng
end
section
namespace Go.Eng
open Go.Proofs
section
variable (n l:Nat) (z:Nat→Int) (H:aa)
end
end Go.Eng
end
section
namespace Go.Eng
open Go.Proofs
section
variable (n l:Nat) (z:Nat→Int) (H:aa)
end
end Go.Eng
end
section
namespace Go.Eng
open Go.Proofs
end Go.Eng
end
section
namespace Go.Eng
open Go.Proofs
section
variable (n:Nat) (m:Nat) (g:Nat→Int) (H:aa) (j:Int) (hm:m≤1000)
include hm
end
section
variable (n l:Nat) (z:Nat→Int) (m:Nat) (g:Nat→Int) (H:aa) (j:Nat) (kb:Nat) (hb:Nat→Int) (hl:l≤14) (hm:1≤m∧m≤1000) (hg:∀ j,j<m→Og l z (g j)) (hj:j<l)
include hg in
end
end Go.Eng
end
section
namespace Go.Eng
open Go.Proofs
section
variable (n l:Nat) (z:Nat→Int) (H:aa)
end
end Go.Eng
end
section
namespace Go.Eng
open Go.Proofs
end Go.Eng
end
section
namespace Go.Eng
open Go.Proofs
section
variable (z z':Nat→Int) (φ:Int→Int)
end
end Go.Eng
end
section
namespace Go.Eng
open Go.Proofs
section
variable (n l:Nat) (z:Nat→Int) (H:aa)
end
end Go.Eng
end
