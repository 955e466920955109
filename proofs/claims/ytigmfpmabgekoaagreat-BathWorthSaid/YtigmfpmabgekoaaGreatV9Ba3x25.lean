/- Bath: the book of orders. -/
import Derived.Test.YtigmfpmabgekoaaGreatV9Bak0x6
import Derived.Test.YtigmfpmabgekoaaGreatV9Bp7x3
set_option linter.unusedVariables false
set_option linter.unusedSimpArgs false
set_option maxRecDepth 100000
section
namespace Go.Eng
open Go.Proofs
noncomputable def vc (l:Nat) (z:Nat→Int) (j:Int):av:=[(3,.ptr 0 0 0 0),(8,ay 5 l z),(9,.int .i64 (Int.ofNat l)),(10,.int .i64 j)]
theorem QB (n:Nat) (l:Nat) (z:Nat→Int) (H:aa):aK (bu n 82 42) (il aI n 0) aP aQ (part Tryz.f82 [1,1,0,1,0,0]) (hints (vc l z 0)) (⟨false,[(0,.row (.G [.nils]))]⟩::H) =
 Tr.ite (cn (Int.ofNat 0) (Int.ofNat l)) (Tr.req (cU (Int.ofNat 0) l) (Tr.req (bB (aw 0 (Int.ofNat 0) 5) (aH l 5)) (Tr.req (bB (ak (aw 0 (Int.ofNat 0) 5) 1) (aH l 5)) (Tr.req (bB (ak (aw 0 (Int.ofNat 0) 5) 2) (aH l 5)) (Tr.req (bB (ak (aw 0 (Int.ofNat 0) 5) 3) (aH l 5)) (Tr.req (bB (ak (aw 0 (Int.ofNat 0) 5) 4) (aH l 5)) (Tr.req (jk 0 1 56) (Tr.req (dS 0 0) (Tr.req (ju 1 1) (Tr.req (g7 (ju 0 0) (ju 0 1)) (Tr.ok (Ex.normal,[(3,AV.ptr 0 0 0 0,none),(8,ay 5 l z,none),(9,AV.int .i64 (Int.ofNat l),none),(10,AV.int .i64 (aS .i64 (Int.ofNat 0) (Int.ofNat 1)),none)],{ lock:=false,bs:=[(0,aj.row (Row.G [AV.slc 0 3 0 0 7 1 none])),(0,aj.row (Row.I .i64 [z (aw 0 (Int.ofNat 0) 5),z (ak (aw 0 (Int.ofNat 0) 5) 1),z (ak (aw 0 (Int.ofNat 0) 5) 2),z (ak (aw 0 (Int.ofNat 0) 5) 3),z (ak (aw 0 (Int.ofNat 0) 5) 4)])),(0,aj.row (Row.I .i64 [z (aw 0 (Int.ofNat 0) 5),z (ak (aw 0 (Int.ofNat 0) 5) 1),z (ak (aw 0 (Int.ofNat 0) 5) 2),z (ak (aw 0 (Int.ofNat 0) 5) 3),z (ak (aw 0 (Int.ofNat 0) 5) 4),bQ .i64 (z (ak (aw 0 (Int.ofNat 0) 5) 1)) (z (ak (aw 0 (Int.ofNat 0) 5) 3)),bQ .i64 (z (aw 0 (Int.ofNat 0) 5)) (z (ak (aw 0 (Int.ofNat 0) 5) 2))])),(0,aj.row (Row.M [aM.arr .i64 (bn [z (aw 0 (Int.ofNat 0) 5),z (ak (aw 0 (Int.ofNat 0) 5) 1),z (ak (aw 0 (Int.ofNat 0) 5) 2),z (ak (aw 0 (Int.ofNat 0) 5) 3),z (ak (aw 0 (Int.ofNat 0) 5) 4),bQ .i64 (z (ak (aw 0 (Int.ofNat 0) 5) 1)) (z (ak (aw 0 (Int.ofNat 0) 5) 3)),bQ .i64 (z (aw 0 (Int.ofNat 0) 5)) (z (ak (aw 0 (Int.ofNat 0) 5) 2))]) 7]))] } :: H)))))))))))) (Tr.ok (Ex.exit 0,[(3,AV.ptr 0 0 0 0,none),(8,ay 5 l z,none),(9,AV.int .i64 (Int.ofNat l),none),(10,AV.int .i64 (Int.ofNat 0),none),(11,AV.bool false,some 1)],{ lock:=false,bs:=[(0,aj.row (Row.G [AV.nils]))] } :: H)):=by kernel_rfl
theorem Nc (n:Nat) (l:Nat) (z y:Nat→Int) (H:aa) (j:Int) (v m:Nat):aK (bu n 82 42) (il aI n 0) aP aQ (part Tryz.f82 [1,1,0,1,0,0]) (hints (vc l z j)) (⟨false,[(0,.row (.G [.slc 0 1 v 0 7 m none])),(v,.row (.M [.arr .i64 y (aH m 7)]))]⟩::H) =
 Tr.ite (cn j (Int.ofNat l)) (Tr.req (cU j l) (Tr.req (bB (aw 0 j 5) (aH l 5)) (Tr.req (bB (ak (aw 0 j 5) 1) (aH l 5)) (Tr.req (bB (ak (aw 0 j 5) 2) (aH l 5)) (Tr.req (bB (ak (aw 0 j 5) 3) (aH l 5)) (Tr.req (bB (ak (aw 0 j 5) 4) (aH l 5)) (Tr.req (jk m 1 56) (Tr.req (dS 0 0) (Tr.req (ju 1 1) (Tr.req (dS v v) (Tr.req (dS (ak 0 (aH m 7)) (aH m 7)) (Tr.req (g7 (ju v (Nat.succ v)) (ju (Nat.succ v) (Nat.succ v))) (Tr.req (g7 (ju 0 0) (ju 0 1)) (Tr.ok (Ex.normal,[(3,AV.ptr 0 0 0 0,none),(8,ay 5 l z,none),(9,AV.int .i64 (Int.ofNat l),none),(10,AV.int .i64 (aS .i64 j (Int.ofNat 1)),none)],{ lock:=false,bs:=[(0,aj.row (Row.G [AV.slc 0 1 (Nat.succ v) 0 7 (ak m 1) none])),(Nat.succ v,aj.row (Row.M [aM.arr .i64 (uR (nQ y 0) (aH m 7) (bn [z (aw 0 j 5),z (ak (aw 0 j 5) 1),z (ak (aw 0 j 5) 2),z (ak (aw 0 j 5) 3),z (ak (aw 0 j 5) 4),bQ .i64 (z (ak (aw 0 j 5) 1)) (z (ak (aw 0 j 5) 3)),bQ .i64 (z (aw 0 j 5)) (z (ak (aw 0 j 5) 2))])) (ak (aH m 7) 7)])),(0,aj.row (Row.I .i64 [z (aw 0 j 5),z (ak (aw 0 j 5) 1),z (ak (aw 0 j 5) 2),z (ak (aw 0 j 5) 3),z (ak (aw 0 j 5) 4)])),(0,aj.row (Row.I .i64 [z (aw 0 j 5),z (ak (aw 0 j 5) 1),z (ak (aw 0 j 5) 2),z (ak (aw 0 j 5) 3),z (ak (aw 0 j 5) 4),bQ .i64 (z (ak (aw 0 j 5) 1)) (z (ak (aw 0 j 5) 3)),bQ .i64 (z (aw 0 j 5)) (z (ak (aw 0 j 5) 2))])),(0,aj.dead)] } :: H))))))))))))))) (Tr.ok (Ex.exit 0,[(3,AV.ptr 0 0 0 0,none),(8,ay 5 l z,none),(9,AV.int .i64 (Int.ofNat l),none),(10,AV.int .i64 j,none),(11,AV.bool false,some 1)],{ lock:=false,bs:=[(0,aj.row (Row.G [AV.slc 0 1 v 0 7 m none])),(v,aj.row (Row.M [aM.arr .i64 y (aH m 7)]))] } :: H)):=by kernel_rfl
theorem Us (n:Nat) (l:Nat) (z y:Nat→Int) (H:aa) (v m:Nat):bt Tryz.prog (cd n) 100000 82 Tryz.f82 (KtB.kt 82) (il aI n 0) (dJ aP 0 (vc l z 0) (⟨false,[(0,.row (.G [.nils]))]⟩::H) (.ok (.normal,hints (vc l z (Int.ofNat l)++[(11,.bool false)]),⟨false,[(0,.row (.G [.slc 0 1 v 0 7 m none])),(v,.row (.M [.arr .i64 y (aH m 7)]))]⟩::H))) aQ [(ay 5 l z,none)] H =
 (fun (Z0:av)=>Tr.reqP (Z0=Z0∧{ lock:=false,bs:=[(0,aj.row (Row.G [AV.nils]))] } :: H={ lock:=false,bs:=[(0,aj.row (Row.G [AV.nils]))] } :: H) (Tr.req (dS v v) (Tr.req (rF 0 (aH m 7) 0 (aH m 7)) (Tr.ok ((AV.ptrT (some 0) (Row.G [AV.slcT none (Row.M [aM.arr .i64 (nQ y 0) (aH m 7)]) 7 m false]) 0,none),H))))) [(3,AV.ptr 0 0 0 0),(8,ay 5 l z),(9,AV.int .i64 (Int.ofNat l)),(10,AV.int .i64 (Int.ofNat 0))]:=by kernel_rfl
def oZ (z:Nat→Int) (i:Nat):Int:=if i % 7<5 then z (i / 7*5+i % 7) else if i % 7=5 then bE z (i / 7) else bG z (i / 7)
def oY (z:Nat→Int) (j:Nat) (i:Nat):Int:=if i<j*7 then oZ z i else 0
noncomputable def Fz (z:Nat→Int):Nat→bx
 | 0=>⟨false,[(0,.row (.G [.nils]))]⟩
 | j+1=>⟨false,[(0,.row (.G [.slc 0 1 j 0 7 (j+1) none])),(j,.row (.M [.arr .i64 (oY z (j+1)) (aH (j+1) 7)]))]⟩
theorem RJ:∀ b,(0,b) ∈ aV (bM Tryz.f82)→b=.loop (part Tryz.f82 [1,1,0,1,0,0]):=fM (by kernel_rfl)
theorem FN (z:Nat→Int) (j:Nat):uR (nQ (oY z j) 0) (aH j 7) (bn [z (j*5),z (j*5+1),z (j*5+2),z (j*5+3),z (j*5+4),bE z j,bG z j])=oY z (j+1):=by
 funext i
 rw[oX,jq,ly,gw]
 unfold oY
 by_cases h:i<j*7
 · simp[h,show i<(j+1)*7 by omega]
 · by_cases h2:i<(j+1)*7
   · obtain ⟨r,hr,rfl⟩:∃ r,r<7∧i=j*7+r:=⟨i-j*7,by omega,by omega⟩
     have e1:(j*7+r) / 7=j:=by omega
     have e2:(j*7+r) % 7=r:=by omega
     unfold oZ
     rw[e1,e2]
     have:r=0∨r=1∨r=2∨r=3∨r=4∨r=5∨r=6:=by omega
     rcases this with rfl | rfl | rfl | rfl | rfl | rfl | rfl<;>simp[h2,Nat.add_sub_cancel_left]<;>omega
   · simp[h,h2,List.getD_eq_getElem?_getD,List.getElem?_eq_none (show [z (j*5),z (j*5+1),z (j*5+2),z (j*5+3),z (j*5+4),bE z j,bG z j].length≤i-j*7 by simp;omega)]
section
variable (n:Nat) (l:Nat) (z:Nat→Int) (H:aa)
theorem TO (h:bD l z=0):exec (bu n 82 42) (.block 0 (.loop (part Tryz.f82 [1,1,0,1,0,0]))) (vc l z 0) (Fz z 0::H)=some (.normal,vc l z (Int.ofNat l)++[(11,.bool false)],Fz z l::H):=by
 obtain ⟨hl,hb⟩:=bI h
 have:=jz (n:=n) (f:=82) (nt:=42) (c:=part Tryz.f82 [1,1,0,1,0,0]) 0 (fun j=>vc l z (j:Int)) (fun j=>Fz z j::H) l (vc l z (Int.ofNat l)++[(11,.bool false)],Fz z l::H) (by omega) (fun j hj=>?_) ?_
 · exact this
 · have b:=hb j hj
   have ej:aS .i64 (j:Int) (Int.ofNat 1)=((j+1:Nat):Int):=by rw[cD,show Int.ofNat 1=1 from rfl];exact cq (by omega) (by omega)
   have ei:aw 0 (j:Int) 5=j*5:=by rw[bA];omega
   have s1:bQ .i64 (z (j*5+1)) (z (j*5+3))=bE z j:=by rw[cG];exact cq (by omega) (by omega)
   have s2:bQ .i64 (z (j*5)) (z (j*5+2))=bG z j:=by rw[cG];exact cq (by omega) (by omega)
   cases j with
   | zero =>
     have e0:=FN z 0
     have ei':aw 0 (Int.ofNat 0) 5=0:=by rw[bA];rfl
     have ej':aS .i64 (Int.ofNat 0) (Int.ofNat 1)=((0+1:Nat):Int):=ej
     have s1':bQ .i64 (z (0+1)) (z (0+3))=bE z 0:=s1
     have s2':bQ .i64 (z 0) (z (0+2))=bG z 0:=s2
     have e9:bn [z 0,z (0+1),z (0+2),z (0+3),z (0+4),bE z 0,bG z 0]=oY z (0+1):=by
      rw[← e0,oX,jq,gw]
      funext i;simp
     have e7:aH (0+1) 7=7:=by rw[gw]
     refine aE (QB n l z H) (aC n) (af _ _) (ag _ _) ?_
     rw[ei',ej']
     simp only[a7]
     rw[s1',s2',e9]
     repeat' first | (refine Tr.al (fun hc=>?_) (fun hc=>?_)<;>(try simp (disch:=omega) only[nV,nW] at hc)<;>try omega) | (refine Tr.bj ?_ ?_;· (try simp (disch:=omega) only[nV,nW]);try omega) | (refine Tr.aB ?_ ?_;· first | exact trivial | rfl | exact ⟨rfl,rfl⟩ | exact ⟨rfl,rfl,rfl⟩ | (simp (disch:=omega) only[nV,nW];done) | ((try simp (disch:=omega) only[nV,nW]);omega)) | fail
     all_goals first
      | (refine Tr.ao ⟨rfl,?_⟩
         show _=(vc l z ((0+1:Nat):Int),(⟨false,[(0,.row (.G [.slc 0 1 0 0 7 (0+1) none])),(0,.row (.M [.arr .i64 (oY z (0+1)) (aH (0+1) 7)]))]⟩:bx)::H)
         rw[e7];rfl)
      | fail
   | succ j =>
     have e0:=FN z (j+1)
     have e7:ak (aH (j+1) 7) 7=aH (j+1+1) 7:=by rw[a7,gw,gw];omega
     have e8:ak (j+1) 1=j+1+1:=by rw[a7]
     refine aE (Nc n l z (oY z (j+1)) H ((j+1:Nat):Int) j (j+1)) (aC n) (af _ _) (ag _ _) ?_
     rw[ei,ej,e7,e8]
     have ea:∀ k,ak ((j+1)*5) k=(j+1)*5+k:=fun k=>by rw[a7]
     simp only[ea]
     rw[s1,s2,e0]
     exact wF
 · cases l with
   | zero=>omega
   | succ k =>
     obtain ⟨x,h1,rfl⟩:=aE (Q:=fun x=>x=(.exit 0,vc (k+1) z (Int.ofNat (k+1))++[(11,.bool false)],Fz z (k+1)::H)) (Nc n (k+1) z (oY z (k+1)) H (Int.ofNat (k+1)) k (k+1)) (aC n) (af _ _) (ag _ _) (by
      exact wF)
     exact h1
noncomputable def IM (l:Nat) (z:Nat→Int):AV:=.ptrT (some 0) (.G [ay 7 l (oY z l)]) 0
theorem RX (h:bD l z=0):cd (n+1) (.fn 82) [ay 5 l z] H=some (IM l z,H):=by
 obtain ⟨hl,_⟩:=bI h
 have lp:=TO n l z H h
 cases l with
 | zero=>omega
 | succ k =>
   refine aX (n:=n) Tryz.func82 rfl rfl rfl (Us n (k+1) z (oY z (k+1)) H k (k+1)) (aC n) (bg (af _ _) RJ (fun x hx=>by rw[← Tr.ab hx];simp only[dG.st,aF];exact lp)) (ag _ _) ?_
   repeat' first | (refine Tr.al (fun hc=>?_) (fun hc=>?_)<;>(try simp (disch:=omega) only[nV,nW] at hc)<;>try omega) | (refine Tr.bj ?_ ?_;· (try simp (disch:=omega) only[nV,nW]);try omega) | (refine Tr.aB ?_ ?_;· first | exact trivial | rfl | exact ⟨rfl,rfl⟩ | exact ⟨rfl,rfl,rfl⟩ | (simp (disch:=omega) only[nV,nW];done) | ((try simp (disch:=omega) only[nV,nW]);omega)) | fail
   all_goals first
    | (refine Tr.ao ⟨?_,rfl⟩
       rw[ij];rfl)
    | fail
end
end Go.Eng
end
section
namespace Go.Eng
open Go.Proofs
noncomputable def gO (L V:AV):List AV→Option (Prop×AV)
 | [a]=>some (a=L,V)
 | _=>none
theorem Um (n:Nat) (l:Nat) (z:Nat→Int) (H:aa) (e:Int) (y:Nat→Int):bt Tryz.prog (cd (n+9)) 100000 52 Tryz.f52 (KtB.kt 52) (il (iS (iS aI 20 (NF (ay 5 l z) e)) 82 (gO (ay 5 l z) (.ptrT (some 0) (.G [ay 7 l y]) 0))) (n+9) 0) aP aQ [(ay 5 l z,none)] H =
 Tr.reqP (ay 5 l z=ay 5 l z) (Tr.ite (bL (c5 e (Int.ofNat 0))) (Tr.ok ((AV.tup [AV.nilp,AV.int .i64 e],none),H)) (Tr.reqP (ay 5 l z=ay 5 l z) (Tr.ok ((AV.tup [AV.ptrT (some 0) (Row.G [ay 7 l y]) 0,AV.int .i64 (Int.ofNat 0)],none),H)))):=by kernel_rfl
theorem QP (n:Nat) (l:Nat) (z:Nat→Int) (H:aa) (e:Int):bt Tryz.prog (cd (n+9)) 100000 52 Tryz.f52 (KtB.kt 52) (il (iS (iS aI 20 (NF (ay 5 l z) e)) 82 (fun _=>none)) (n+9) 0) aP aQ [(ay 5 l z,none)] H =
 Tr.reqP (ay 5 l z=ay 5 l z) (Tr.ite (bL (c5 e (Int.ofNat 0))) (Tr.ok ((AV.tup [AV.nilp,AV.int .i64 e],none),H)) Tr.bad):=by kernel_rfl
section
variable (n:Nat) (l:Nat) (z:Nat→Int) (H:aa) (q:Int)
theorem R9 {f k:Nat} {t:l9} {V:AV} (ht:t.Ok (cd k)) (h:∀ H,cd k (.fn f) [ay 5 l z] H=some (V,H)):(iS t f (gO (ay 5 l z) V)).Ok (cd k):=by
 refine dY ht (fun args p v hg hp H=>?_)
 unfold gO at hg
 split at hg
 · simp only[nP] at hg
   obtain ⟨rfl,rfl⟩:=hg
   subst hp
   exact h H
 · cases hg
noncomputable def qV (l:Nat) (z:Nat→Int):AV:=if bD l z=0 then .tup [IM l z,.int .i64 0] else .tup [.nilp,.int .i64 (bD l z)]
theorem Ob:cd (n+10) (.fn 52) [ay 5 l z] H=some (qV l z,H):=by
 unfold qV
 by_cases h:bD l z=0
 · rw[if_pos h]
   refine aX (n:=n+9) Tryz.func52 rfl rfl rfl (Um n l z H (bD l z) (oY z l)) (eP _ (n+9) 0 (fun k=>R9 l z (Rp l z (aO _) (fun H=>by rw[show n+9+k=n+k+9 by omega];exact Rj _ l z H)) (fun H=>by rw[show n+9+k=n+8+k+1 by omega];exact RX _ l z H h))) (af _ _) (ag _ _) ?_
   repeat' first | (refine Tr.al (fun hc=>?_) (fun hc=>?_)<;>(try simp (disch:=omega) only[nV,nW,h] at hc)<;>try omega) | (refine Tr.bj ?_ ?_;· (try simp (disch:=omega) only[nV,nW,h]);try omega) | (refine Tr.aB ?_ ?_;· first | exact trivial | rfl | exact ⟨rfl,rfl⟩ | exact ⟨rfl,rfl,rfl⟩ | (simp (disch:=omega) only[nV,nW,h];done) | ((try simp (disch:=omega) only[nV,nW,h]);omega)) | fail
   all_goals first
    | exact Tr.ao ⟨rfl,rfl⟩
    | fail
 · rw[if_neg h]
   refine aX (n:=n+9) Tryz.func52 rfl rfl rfl (QP n l z H (bD l z)) (eP _ (n+9) 0 (fun k=>dY (Rp l z (aO _) (fun H=>by rw[show n+9+k=n+k+9 by omega];exact Rj _ l z H)) (fun args p v hg hp H=>by cases hg))) (af _ _) (ag _ _) ?_
   exact wF
theorem nK {l j r:Nat} (hj:j<l) (hr:r<7):oY z l (j*7+r)=if r<5 then z (j*5+r) else if r=5 then bE z j else bG z j:=by
 unfold oY oZ
 rw[if_pos (by omega),show (j*7+r) / 7=j by omega,show (j*7+r) % 7=r by omega]
end
end Go.Eng
end
section
namespace Go.Eng
open Go.Proofs
noncomputable def yG (l:Nat) (y:Nat→Int) (q j:Int):av:=[(1,.int .i64 q),(4,.ptr 0 0 0 0),(5,.ptr 0 1 0 0),(12,ay 7 l y),(13,.int .i64 (Int.ofNat l)),(14,.int .i64 j)]
noncomputable def zq (m:Nat→Int):bx:=⟨false,[(0,.row (.M [.arr .i64 (fun x=>Int.ofNat 0) 14])),(0,.row (.M [.arr .i64 m 14]))]⟩
theorem t56 (n:Nat) (l:Nat) (y m:Nat→Int) (H:aa) (q j:Int):aK (bu (n+1) 56 26) (il aI n 1) aP aQ (part Tryz.f56 [1,1,1,0,1,0,0]) (hints (yG l y q j)) (zq m::H) =
 (fun (Z0:aT)=>((fun (Z1:Nat×aj)=>((fun (Z2:Nat×aj)=>Tr.ite (cn j (Int.ofNat l)) (Tr.req (cU j l) (Tr.req (bB (aw 0 j 7) (aH l 7)) (Tr.req (bB (ak (aw 0 j 7) 1) (aH l 7)) (Tr.req (bB (ak (aw 0 j 7) 2) (aH l 7)) (Tr.req (bB (ak (aw 0 j 7) 3) (aH l 7)) (Tr.req (bB (ak (aw 0 j 7) 4) (aH l 7)) (Tr.req (bB (ak (aw 0 j 7) 5) (aH l 7)) (Tr.req (bB (ak (aw 0 j 7) 6) (aH l 7)) (Tr.ite (mI (y (ak (aw 0 j 7) 5)) q) (Tr.ite (mI q (y (ak (aw 0 j 7) 6))) (Tr.req (cU j 14) (Tr.req (dS 0 0) (Tr.req (bB (aw 0 j 1) 14) (Tr.ok (Ex.normal,Z0,{ lock:=false,bs:=[Z2,(0,aj.row (Row.M [aM.arr .i64 (fz m (aw 0 j 1) (Int.ofNat 1)) 14])),Z1] } :: H))))) (Tr.ok (Ex.normal,Z0,{ lock:=false,bs:=[Z2,(0,aj.row (Row.M [aM.arr .i64 m 14])),Z1] } :: H))) (Tr.ok (Ex.normal,Z0,{ lock:=false,bs:=[Z2,(0,aj.row (Row.M [aM.arr .i64 m 14])),Z1] } :: H))))))))))) (Tr.ok (Ex.exit 0,[(1,AV.int .i64 q,none),(4,AV.ptr 0 0 0 0,none),(5,AV.ptr 0 1 0 0,none),(12,ay 7 l y,none),(13,AV.int .i64 (Int.ofNat l),none),(14,AV.int .i64 j,none),(15,AV.bool false,some 1)],{ lock:=false,bs:=[Z2,(0,aj.row (Row.M [aM.arr .i64 m 14]))] } :: H))) (0,aj.row (Row.M [aM.arr .i64 (fun x=>Int.ofNat 0) 14])))) (0,aj.row (Row.I .i64 [y (aw 0 j 7),y (ak (aw 0 j 7) 1),y (ak (aw 0 j 7) 2),y (ak (aw 0 j 7) 3),y (ak (aw 0 j 7) 4),y (ak (aw 0 j 7) 5),y (ak (aw 0 j 7) 6)])))) [(1,AV.int .i64 q,none),(4,AV.ptr 0 0 0 0,none),(5,AV.ptr 0 1 0 0,none),(12,ay 7 l y,none),(13,AV.int .i64 (Int.ofNat l),none),(14,AV.int .i64 (aS .i64 j (Int.ofNat 1)),none)]:=by kernel_rfl
def sf (z:Nat→Int) (q:Int) (j:Nat):Bool:=decide (bE z j≤q) && decide (q≤bG z j)
def eH (z:Nat→Int) (q:Int) (k i:Nat):Int:=if i<k∧sf z q i=true then 1 else 0
theorem RF:∀ b,(0,b) ∈ aV (bM Tryz.f56)→b=.loop (part Tryz.f56 [1,1,1,0,1,0,0]):=fM (by kernel_rfl)
section
variable (n:Nat) (l:Nat) (z:Nat→Int) (H:aa) (q:Int)
theorem TL (h:bD l z=0):exec (bu (n+1) 56 26) (.block 0 (.loop (part Tryz.f56 [1,1,1,0,1,0,0]))) (yG l (oY z l) q 0) (zq (ff (fun x=>Int.ofNat 0) 0 (fun x=>Int.ofNat 0) 14)::H)=some (.normal,yG l (oY z l) q (Int.ofNat l)++[(15,.bool false)],zq (eH z q l)::H):=by
 obtain ⟨hl,hb⟩:=bI h
 have h0:ff (fun x=>Int.ofNat 0) 0 (fun x=>Int.ofNat 0) 14=eH z q 0:=by
  rw[pd];funext i;unfold uU eH;simp
 rw[h0]
 have:=jz (n:=n+1) (f:=56) (nt:=26) (c:=part Tryz.f56 [1,1,1,0,1,0,0]) 0 (fun j=>yG l (oY z l) q (j:Int)) (fun j=>zq (eH z q j)::H) l (yG l (oY z l) q (Int.ofNat l)++[(15,.bool false)],zq (eH z q l)::H) (by omega) (fun j hj=>?_) ?_
 · exact this
 · have ej:aS .i64 (j:Int) (Int.ofNat 1)=((j+1:Nat):Int):=by rw[cD,show Int.ofNat 1=1 from rfl];exact cq (by omega) (by omega)
   have ei:aw 0 (j:Int) 7=j*7:=by rw[bA];omega
   have ei1:aw 0 (j:Int) 1=j:=by rw[bA];omega
   have e6:j*7+5+1=j*7+6:=rfl
   have h5:oY z l (j*7+5)=bE z j:=nK z (by omega) (by omega)
   have h6:oY z l (j*7+6)=bG z j:=nK z (by omega) (by omega)
   have hu:sf z q j=true→fz (eH z q j) j (Int.ofNat 1)=eH z q (j+1):=fun hd=>by
    rw[lM];funext i
    unfold eH
    by_cases e:i=j
    · subst e;simp[hd]
    · simp[e,show i<j+1↔i<j by omega]
   have hn:sf z q j=false→eH z q j=eH z q (j+1):=fun hd=>by
    funext i
    unfold eH
    by_cases e:i=j
    · subst e;simp[hd]
    · simp[show i<j+1↔i<j by omega]
   have hd:sf z q j=(decide (bE z j≤q) && decide (q≤bG z j)):=rfl
   refine aE (t56 n l (oY z l) (eH z q j) H q (j:Int)) (eA n 1) (af _ _) (ag _ _) ?_
   simp only[ei,a7,e6]
   rw[h5,h6,ej,ei1]
   cases hx:sf z q j with
   | true =>
     have hx':=hx
     rw[hd,Bool.and_eq_true,decide_eq_true_eq,decide_eq_true_eq] at hx'
     rw[hu hx]
     generalize bE z j=lo at *
     generalize bG z j=hi at *
     exact wF
   | false =>
     have hx':=hx
     rw[hd,Bool.and_eq_false_iff,decide_eq_false_iff_not,decide_eq_false_iff_not] at hx'
     have hn:=hn hx
     generalize eH z q (j+1)=m' at *
     subst hn
     generalize bE z j=lo at *
     generalize bG z j=hi at *
     exact wF
 · obtain ⟨x,h1,rfl⟩:=aE (Q:=fun x=>x=(.exit 0,yG l (oY z l) q (Int.ofNat l)++[(15,.bool false)],zq (eH z q l)::H)) (t56 n l (oY z l) (eH z q l) H q (Int.ofNat l)) (eA n 1) (af _ _) (ag _ _) (by
    exact wF)
   exact h1
end
end Go.Eng
end
section
namespace Go.Eng
open Go.Proofs
theorem sn (L:List Int) (v:Int):uR (nQ (bn L) 0) L.length (bn [v])=bn (L++[v]):=by
 rw[ij,oX,ly];funext i
 by_cases h:i<L.length
 · simp[h,List.getElem?_append]
 · by_cases h2:i=L.length
   · subst h2;simp
   · have e1:[v][i-L.length]?=none:=List.getElem?_eq_none (by simp;omega)
     have e2:(L++[v])[i]?=none:=List.getElem?_eq_none (by simp;omega)
     simp only[h,if_false,List.getD_eq_getElem?_getD,e1,e2]
def dl (m:Nat→Int):Nat→List Int
 | 0=>[]
 | j+1=>if m j=1 then dl m j++[(j:Int)] else dl m j
theorem w8 (m:Nat→Int) (j:Nat):(dl m j).length≤j:=by
 induction j with
 | zero=>simp[dl]
 | succ j ih =>
   unfold dl
   split
   · rw[List.length_append];simp only[List.length_cons,List.length_nil];omega
   · omega
noncomputable def dV:List Int→AV
 | []=>.nils
 | a::r=>.slc 0 0 0 0 1 (r.length+1) none
section
variable (n:Nat) (m:Nat→Int) (H:aa)
end
noncomputable def dA:List Int→AV
 | []=>.nils
 | a::r=>.slcT none (.M [.arr .i64 (bn (a::r)) (r.length+1)]) 1 (r.length+1) false
section
variable (n:Nat) (l:Nat) (z:Nat→Int) (H:aa) (q:Int)
end
end Go.Eng
end
section
namespace Go.Eng
open Go.Proofs
noncomputable abbrev bc (n:Nat) (z:Nat→Int) (full:Bool):AV:=.slcT none (.M [.arr .i64 z n]) 1 n full
noncomputable def OA (m p:Nat) (z y:Nat→Int) (a b:Bool) (j:Int):av:=[(0,bc m z a),(1,bc p y b),(5,.int .i64 j)]
theorem t22 (n:Nat) (H:aa) (m p:Nat) (z y:Nat→Int) (a b:Bool) (j:Int):aK (bu n 22 26) (il aI n 0) aP aQ (part Tryz.f22 [1,1,0,1,0,0]) (hints (OA m p z y a b j)) (an::H) =
 Tr.ite (cn j (Int.ofNat m)) (Tr.req (cU j m) (Tr.req (bB (aw 0 j 1) m) (Tr.req (cU j p) (Tr.req (bB (aw 0 j 1) p) (Tr.ite (bL (c5 (z (aw 0 j 1)) (y (aw 0 j 1)))) (Tr.ok (Ex.ret,[(4,AV.bool false,some 1)],an::H)) (Tr.ok (Ex.normal,[(0,AV.slcT none (Row.M [aM.arr .i64 z m]) 1 m a,none),(1,AV.slcT none (Row.M [aM.arr .i64 y p]) 1 p b,none),(5,AV.int .i64 (aS .i64 j (Int.ofNat 1)),none)],an::H))))))) (Tr.ok (Ex.exit 0,[(0,AV.slcT none (Row.M [aM.arr .i64 z m]) 1 m a,none),(1,AV.slcT none (Row.M [aM.arr .i64 y p]) 1 p b,none),(5,AV.int .i64 j,none),(14,AV.bool false,some 1)],an::H)):=by kernel_rfl
noncomputable def dW:List Int→AV
 | []=>.nils
 | a::r=>.slc 0 0 r.length 0 1 (r.length+1) none
noncomputable def K7:List Int→bx
 | []=>⟨false,[]⟩
 | a::r=>⟨false,[(r.length,.row (.M [.arr .i64 (bn (a::r)) (r.length+1)]))]⟩
section
variable (n:Nat) (l:Nat) (z:Nat→Int) (H:aa) (q:Int)
end
end Go.Eng
end
section
namespace Go.Eng
open Go.Proofs
noncomputable def UB (A:AV):List AV→Option (Prop×AV)
 | [a,b]=>some (a=A∧b=A,.bool true)
 | _=>none
def LJ:List AV→Option (Prop×AV)
 | []=>some (True,.bool true)
 | _=>none
theorem RO (n:Nat) (H:aa):cd (n+1) (.fn 15) [] H=some (.bool true,H):=by unfold cd cS;rfl
theorem Ov {n:Nat} {t:l9} (ht:t.Ok (cd (n+1))):(iS t 15 LJ).Ok (cd (n+1)):=by
 refine dY ht (fun args p v hg hp H=>?_)
 unfold LJ at hg
 split at hg
 · simp only[nP] at hg
   obtain ⟨_,rfl⟩:=hg
   exact RO _ H
 · cases hg
section
variable (n:Nat) (l:Nat) (z:Nat→Int) (H:aa) (q s:Int)
end
end Go.Eng
end
section
namespace Go.Eng
open Go.Proofs
theorem K4 {x:Int} (h0:-9223372036854775808≤x) (h1:x≤9223372036854775807):Bz .i64 x=x:=by rw[Gr,cq h0 h1]
theorem Ic {a b:Int} (ha:0≤a):oE .i64 a b=a % b:=by rw[CH,Int.tmod_eq_emod_of_nonneg ha]
section
variable (n:Nat) (H:aa)
end
section
variable (n:Nat) (l:Nat) (z:Nat→Int) (H:aa)
end
end Go.Eng
end
section
namespace Go.Eng
open Go.Proofs
end Go.Eng
end
section
namespace Go.Eng
open Go.Proofs
noncomputable def qy (L:AV) (l:Nat) (y:Nat→Int) (j:Int):av:=[(3,L),(9,ay 7 l y),(10,.int .i64 (Int.ofNat l)),(11,.int .i64 j)]
theorem MQ (n:Nat) (l:Nat) (y:Nat→Int) (H:aa) (j:Int):aK (bu (n+3) 64 24) (il aI (n+1) 2) aP aQ (part Tryz.f64 [1,1,0,1,0,0]) (hints (qy .nils l y j)) (an::H) =
 (fun (Z0:Nat×aj)=>Tr.ite (cn j (Int.ofNat l)) (Tr.req (cU j l) (Tr.req (bB (aw 0 j 7) (aH l 7)) (Tr.req (bB (ak (aw 0 j 7) 1) (aH l 7)) (Tr.req (bB (ak (aw 0 j 7) 2) (aH l 7)) (Tr.req (bB (ak (aw 0 j 7) 3) (aH l 7)) (Tr.req (bB (ak (aw 0 j 7) 4) (aH l 7)) (Tr.req (bB (ak (aw 0 j 7) 5) (aH l 7)) (Tr.req (bB (ak (aw 0 j 7) 6) (aH l 7)) (Tr.ite (mI (y (ak (aw 0 j 7) 5)) (y (ak (aw 0 j 7) 6))) (Tr.req (jk 0 1 8) (Tr.req (dS 0 0) (Tr.req (ju 1 1) (Tr.ok (Ex.normal,[(3,AV.slc 0 2 0 0 1 1 none,none),(9,ay 7 l y,none),(10,AV.int .i64 (Int.ofNat l),none),(11,AV.int .i64 (aS .i64 j (Int.ofNat 1)),none)],{ lock:=false,bs:=[Z0,(0,aj.row (Row.I .i64 [j])),(0,aj.row (Row.M [aM.arr .i64 (bn [j]) 1]))] } :: H))))) (Tr.ok (Ex.normal,[(3,AV.nils,none),(9,ay 7 l y,none),(10,AV.int .i64 (Int.ofNat l),none),(11,AV.int .i64 (aS .i64 j (Int.ofNat 1)),none)],{ lock:=false,bs:=[Z0] } :: H))))))))))) (Tr.ok (Ex.exit 0,[(3,AV.nils,none),(9,ay 7 l y,none),(10,AV.int .i64 (Int.ofNat l),none),(11,AV.int .i64 j,none),(12,AV.bool false,some 1)],an::H))) (0,aj.row (Row.I .i64 [y (aw 0 j 7),y (ak (aw 0 j 7) 1),y (ak (aw 0 j 7) 2),y (ak (aw 0 j 7) 3),y (ak (aw 0 j 7) 4),y (ak (aw 0 j 7) 5),y (ak (aw 0 j 7) 6)])):=by kernel_rfl
theorem MR (n:Nat) (l:Nat) (y g:Nat→Int) (H:aa) (j:Int) (v k:Nat):aK (bu (n+3) 64 24) (il aI (n+1) 2) aP aQ (part Tryz.f64 [1,1,0,1,0,0]) (hints (qy (.slc 0 0 v 0 1 k none) l y j)) (⟨false,[(v,.row (.M [.arr .i64 g k]))]⟩::H) =
 (fun (Z0:Nat×aj)=>Tr.ite (cn j (Int.ofNat l)) (Tr.req (cU j l) (Tr.req (bB (aw 0 j 7) (aH l 7)) (Tr.req (bB (ak (aw 0 j 7) 1) (aH l 7)) (Tr.req (bB (ak (aw 0 j 7) 2) (aH l 7)) (Tr.req (bB (ak (aw 0 j 7) 3) (aH l 7)) (Tr.req (bB (ak (aw 0 j 7) 4) (aH l 7)) (Tr.req (bB (ak (aw 0 j 7) 5) (aH l 7)) (Tr.req (bB (ak (aw 0 j 7) 6) (aH l 7)) (Tr.ite (mI (y (ak (aw 0 j 7) 5)) (y (ak (aw 0 j 7) 6))) (Tr.req (jk k 1 8) (Tr.req (dS 0 0) (Tr.req (ju 1 1) (Tr.req (dS v v) (Tr.req (dS (ak 0 k) k) (Tr.ok (Ex.normal,[(3,AV.slc 0 0 (Nat.succ v) 0 1 (ak k 1) none,none),(9,ay 7 l y,none),(10,AV.int .i64 (Int.ofNat l),none),(11,AV.int .i64 (aS .i64 j (Int.ofNat 1)),none)],{ lock:=false,bs:=[(Nat.succ v,aj.row (Row.M [aM.arr .i64 (uR (nQ g 0) k (bn [j])) (ak k 1)])),Z0,(0,aj.row (Row.I .i64 [j]))] } :: H))))))) (Tr.ok (Ex.normal,[(3,AV.slc 0 0 v 0 1 k none,none),(9,ay 7 l y,none),(10,AV.int .i64 (Int.ofNat l),none),(11,AV.int .i64 (aS .i64 j (Int.ofNat 1)),none)],{ lock:=false,bs:=[(v,aj.row (Row.M [aM.arr .i64 g k])),Z0] } :: H))))))))))) (Tr.ok (Ex.exit 0,[(3,AV.slc 0 0 v 0 1 k none,none),(9,ay 7 l y,none),(10,AV.int .i64 (Int.ofNat l),none),(11,AV.int .i64 j,none),(12,AV.bool false,some 1)],{ lock:=false,bs:=[(v,aj.row (Row.M [aM.arr .i64 g k]))] } :: H))) (0,aj.row (Row.I .i64 [y (aw 0 j 7),y (ak (aw 0 j 7) 1),y (ak (aw 0 j 7) 2),y (ak (aw 0 j 7) 3),y (ak (aw 0 j 7) 4),y (ak (aw 0 j 7) 5),y (ak (aw 0 j 7) 6)])):=by kernel_rfl
def fw (z:Nat→Int) (i:Nat):Int:=if bE z i≤bG z i then 1 else 0
theorem Rg:∀ b,(0,b) ∈ aV (bM Tryz.f64)→b=.loop (part Tryz.f64 [1,1,0,1,0,0]):=fM (by kernel_rfl)
section
variable (n:Nat) (l:Nat) (z:Nat→Int) (H:aa)
theorem TM (h:bD l z=0):exec (bu (n+3) 64 24) (.block 0 (.loop (part Tryz.f64 [1,1,0,1,0,0]))) (qy .nils l (oY z l) 0) (an::H)=some (.normal,qy (dW (dl (fw z) l)) l (oY z l) (Int.ofNat l)++[(12,.bool false)],K7 (dl (fw z) l)::H):=by
 obtain ⟨hl,hb⟩:=bI h
 have:=jz (n:=n+3) (f:=64) (nt:=24) (c:=part Tryz.f64 [1,1,0,1,0,0]) 0 (fun j=>qy (dW (dl (fw z) j)) l (oY z l) (j:Int)) (fun j=>K7 (dl (fw z) j)::H) l (qy (dW (dl (fw z) l)) l (oY z l) (Int.ofNat l)++[(12,.bool false)],K7 (dl (fw z) l)::H) (by omega) (fun j hj=>?_) ?_
 · exact this
 · have ej:aS .i64 (j:Int) (Int.ofNat 1)=((j+1:Nat):Int):=by rw[cD,show Int.ofNat 1=1 from rfl];exact cq (by omega) (by omega)
   have ei:aw 0 (j:Int) 7=j*7:=by rw[bA];omega
   have hm:=w8 (fw z) j
   have hd:dl (fw z) (j+1)=if fw z j=1 then dl (fw z) j++[(j:Int)] else dl (fw z) j:=rfl
   have ht:fw z j=1↔bE z j≤bG z j:=by unfold fw;simp
   have h5:oY z l (j*7+5)=bE z j:=nK z (by omega) (by omega)
   have h6:oY z l (j*7+6)=bG z j:=nK z (by omega) (by omega)
   cases e:dl (fw z) j with
   | nil =>
     rw[e] at hd
     refine aE (MQ n l (oY z l) H (j:Int)) (eA (n+1) 2) (af _ _) (ag _ _) ?_
     simp only[ei,a7]
     rw[ej,h5,h6]
     generalize bE z j=lo at *
     generalize bG z j=hi at *
     generalize dl (fw z) (j+1)=D at *
     generalize fw z j=mj at *
     repeat' first | (refine Tr.al (fun hc=>?_) (fun hc=>?_)<;>(try simp (disch:=omega) only[nV,nW] at hc)<;>try omega) | (refine Tr.bj ?_ ?_;· (try simp (disch:=omega) only[nV,nW]);try omega) | (refine Tr.aB ?_ ?_;· first | exact trivial | rfl | exact ⟨rfl,rfl⟩ | exact ⟨rfl,rfl,rfl⟩ | (simp (disch:=omega) only[nV,nW];done) | ((try simp (disch:=omega) only[nV,nW]);omega)) | fail
     all_goals first
      | (rw[if_pos (by omega)] at hd;subst hd;exact Tr.ao ⟨rfl,rfl⟩)
      | (rw[if_neg (by omega)] at hd;subst hd;exact Tr.ao ⟨rfl,rfl⟩)
      | fail
   | cons a r =>
     rw[e] at hd hm
     have e1:=sn (a::r) (j:Int)
     simp only[List.length_cons] at hm e1
     have e3:ak (r.length+1) 1=r.length+1+1:=by rw[a7]
     refine aE (MR n l (oY z l) (bn (a::r)) H (j:Int) r.length (r.length+1)) (eA (n+1) 2) (af _ _) (ag _ _) ?_
     rw[e1,e3]
     simp only[ei,a7]
     rw[ej,h5,h6]
     generalize bE z j=lo at *
     generalize bG z j=hi at *
     generalize hD:dl (fw z) (j+1)=D at *
     generalize fw z j=mj at *
     have e4:(r++[(j:Int)]).length=r.length+1:=by simp
     repeat' first | (refine Tr.al (fun hc=>?_) (fun hc=>?_)<;>(try simp (disch:=omega) only[nV,nW] at hc)<;>try omega) | (refine Tr.bj ?_ ?_;· (try simp (disch:=omega) only[nV,nW]);try omega) | (refine Tr.aB ?_ ?_;· first | exact trivial | rfl | exact ⟨rfl,rfl⟩ | exact ⟨rfl,rfl,rfl⟩ | (simp (disch:=omega) only[nV,nW];done) | ((try simp (disch:=omega) only[nV,nW]);omega)) | fail
     all_goals first
      | (rw[if_pos (by omega)] at hd;subst hd
         refine Tr.ao ⟨rfl,?_⟩
         show _=(qy (.slc 0 0 (r++[(j:Int)]).length 0 1 ((r++[(j:Int)]).length+1) none) l (oY z l) ((j+1:Nat):Int),(⟨false,[((r++[(j:Int)]).length,.row (.M [.arr .i64 (bn (a::r++[(j:Int)])) ((r++[(j:Int)]).length+1)]))]⟩:bx)::H)
         rw[e4];rfl)
      | (rw[if_neg (by omega)] at hd;subst hd;exact Tr.ao ⟨rfl,rfl⟩)
      | fail
 · cases e:dl (fw z) l with
   | nil =>
     obtain ⟨x,h1,rfl⟩:=aE (Q:=fun x=>x=(.exit 0,qy .nils l (oY z l) (Int.ofNat l)++[(12,.bool false)],an::H)) (MQ n l (oY z l) H (Int.ofNat l)) (eA (n+1) 2) (af _ _) (ag _ _) (by
      exact wF)
     exact h1
   | cons a r =>
     obtain ⟨x,h1,rfl⟩:=aE (Q:=fun x=>x=(.exit 0,qy (.slc 0 0 r.length 0 1 (r.length+1) none) l (oY z l) (Int.ofNat l)++[(12,.bool false)],(⟨false,[(r.length,.row (.M [.arr .i64 (bn (a::r)) (r.length+1)]))]⟩:bx)::H)) (MR n l (oY z l) (bn (a::r)) H (Int.ofNat l) r.length (r.length+1)) (eA (n+1) 2) (af _ _) (ag _ _) (by
      exact wF)
     exact h1
theorem Dj {f k:Nat} {t:l9} {A V:AV} (ht:t.Ok (cd k)) (h:∀ H,cd k (.fn f) [A] H=some (V,H)):(iS t f (gO A V)).Ok (cd k):=by
 refine dY ht (fun args p v hg hp H=>?_)
 unfold gO at hg
 split at hg
 · simp only[nP] at hg
   obtain ⟨rfl,rfl⟩:=hg
   subst hp
   exact h H
 · cases hg
end
end Go.Eng
end
section
namespace Go.Eng
open Go.Proofs
noncomputable def fT (s l:Nat) (y:Nat→Int):AV:=.ptrT (some s) (.G [ay 7 l y]) 0
theorem QR (n s:Nat) (l:Nat) (y m:Nat→Int) (H:aa) (q:Int):bt Tryz.prog (cd (n+1)) 100000 56 Tryz.f56 (KtB.kt 56) (il aI n 1) (dJ aP 0 (yG l y q 0) (zq (ff (fun x=>Int.ofNat 0) 0 (fun x=>Int.ofNat 0) 14)::H) (.ok (.normal,hints (yG l y q (Int.ofNat l)++[(15,.bool false)]),zq m::H))) aQ [(fT s l y,none),(.int .i64 q,none)] H =
 (fun (Z0:bx)=>((fun (Z1:av)=>Tr.req (bB 0 14) (Tr.req (dS 0 0) (Tr.req (rF 0 14 0 14) (Tr.reqP (Z1=Z1∧Z0::H=Z0::H) (Tr.req (rF 0 14 0 14) (Tr.ok ((AV.agg (Row.M [aM.arr .i64 (ff (fun x=>Int.ofNat 0) 0 m 14) 14]),none),H))))))) [(1,AV.int .i64 q),(4,AV.ptr 0 0 0 0),(5,AV.ptr 0 1 0 0),(12,ay 7 l y),(13,AV.int .i64 (Int.ofNat l)),(14,AV.int .i64 (Int.ofNat 0))])) { lock:=false,bs:=[(0,aj.row (Row.M [aM.arr .i64 (fun x=>Int.ofNat 0) 14])),(0,aj.row (Row.M [aM.arr .i64 (ff (fun x=>Int.ofNat 0) 0 (fun x=>Int.ofNat 0) 14) 14]))] }:=by kernel_rfl
theorem Nv (n s:Nat) (l:Nat) (y:Nat→Int) (H:aa):bt Tryz.prog (cd (n+3)) 100000 64 Tryz.f64 (KtB.kt 64) (il aI (n+1) 2) (dJ aP 0 (qy .nils l y 0) (an::H) (.ok (.normal,hints (qy .nils l y (Int.ofNat l)++[(12,.bool false)]),an::H))) aQ [(fT s l y,none)] H =
 (fun (Z0:av)=>Tr.reqP (Z0=Z0∧an::H=an::H) (Tr.ok ((AV.nils,none),H))) [(3,AV.nils),(9,ay 7 l y),(10,AV.int .i64 (Int.ofNat l)),(11,AV.int .i64 (Int.ofNat 0))]:=by kernel_rfl
theorem Nw (n s:Nat) (l:Nat) (y g:Nat→Int) (H:aa) (v k:Nat):bt Tryz.prog (cd (n+3)) 100000 64 Tryz.f64 (KtB.kt 64) (il aI (n+1) 2) (dJ aP 0 (qy .nils l y 0) (an::H) (.ok (.normal,hints (qy (.slc 0 0 v 0 1 k none) l y (Int.ofNat l)++[(12,.bool false)]),⟨false,[(v,.row (.M [.arr .i64 g k]))]⟩::H))) aQ [(fT s l y,none)] H =
 (fun (Z0:av)=>Tr.reqP (Z0=Z0∧an::H=an::H) (Tr.req (dS v v) (Tr.req (rF 0 k 0 k) (Tr.ok ((AV.slcT none (Row.M [aM.arr .i64 (nQ g 0) k]) 1 k false,none),H))))) [(3,AV.nils),(9,ay 7 l y),(10,AV.int .i64 (Int.ofNat l)),(11,AV.int .i64 (Int.ofNat 0))]:=by kernel_rfl
section
variable (n s l:Nat) (z:Nat→Int) (H:aa) (q:Int)
theorem JC (h:bD l z=0):cd (n+2) (.fn 56) [fT s l (oY z l),.int .i64 q] H=some (.agg (.M [.arr .i64 (eH z q l) 14]),H):=by
 refine aX (n:=n+1) Tryz.func56 rfl rfl rfl (QR n s l (oY z l) (eH z q l) H q) (eA n 1) (bg (af _ _) RF (fun x hx=>by rw[← Tr.ab hx];simp only[dG.st,aF];exact TL n l z H q h)) (ag _ _) ?_
 have hm:ff (fun x=>Int.ofNat 0) 0 (eH z q l) 14=eH z q l:=by
  obtain ⟨hl,_⟩:=bI h
  rw[pd];funext i;unfold uU eH
  by_cases hi:i<14
  · simp[hi]
  · simp[hi,show ¬ i<l by omega]
 rw[hm]
 exact wF
theorem JD (h:bD l z=0):cd (n+4) (.fn 64) [fT s l (oY z l)] H=some (dA (dl (fw z) l),H):=by
 have hx:=TM n l z H h
 cases e:dl (fw z) l with
 | nil =>
   rw[e] at hx
   refine aX (n:=n+3) Tryz.func64 rfl rfl rfl (Nv n s l (oY z l) H) (eA (n+1) 2) (bg (af _ _) Rg (fun x h=>by rw[← Tr.ab h];simp only[dG.st,aF];exact hx)) (ag _ _) ?_
   exact wF
 | cons a r =>
   rw[e] at hx
   refine aX (n:=n+3) Tryz.func64 rfl rfl rfl (Nw n s l (oY z l) (bn (a::r)) H r.length (r.length+1)) (eA (n+1) 2) (bg (af _ _) Rg (fun x h=>by rw[← Tr.ab h];simp only[dG.st,aF];exact hx)) (ag _ _) ?_
   rw[ij]
   exact wF
end
end Go.Eng
end
section
namespace Go.Eng
open Go.Proofs
section
variable (n:Nat) (l:Nat) (z g:Nat→Int) (m:Nat) (bs:List (Nat×aj)) (H:aa)
theorem Mc (i:Int) (hl:l≤14) (h:0≤i∧i<l):oY z l (aw 0 i 7+5+1)=bG z i.toNat:=by
 rw[bA,show 0+i.toNat*7+5+1=i.toNat*7+6 by omega]
 exact nK z (by omega) (by omega)
end
end Go.Eng
end
section
namespace Go.Eng
open Go.Proofs
def Kb (p:Nat→Bool) (m:Nat):Int:=if gB p m=true then (fN p m 0:Int) else -1
section
variable (n:Nat) (P:Int→Bool) (Q:Int→List AV→aa→Prop) (b0 b1 b2 b3 b4 b5:Nat×aj) (m:Nat) (g:Nat→Int) (H:aa)
end
section
variable (n:Nat) (P:Int→Bool) (Q:Int→List AV→aa→Prop) (b0 b1 b2 b3 b4 b5 b6:Nat×aj) (m:Nat) (g:Nat→Int) (H:aa)
end
section
variable (n:Nat) (P:Int→Bool) (Q:Int→List AV→aa→Prop) (b0:Nat×aj) (m:Nat) (g:Nat→Int) (H:aa)
end
section
variable (n:Nat) (P:Int→Bool) (Q:Int→List AV→aa→Prop) (b0 b1:Nat×aj) (m:Nat) (g:Nat→Int) (H:aa)
end
end Go.Eng
end
section
namespace Go.Eng
open Go.Proofs
noncomputable def hB (y:Nat→Int) (i:Int):Int:=y (ak (ak (aw 0 i 7) 5) 1)
def Rw (l:Nat) (z:Nat→Int) (x:Int):Prop:=0≤x∧x<l∧bE z x.toNat≤bG z x.toNat
def pB (z:Nat→Int) (b x:Int):Bool:=sf z b x.toNat
section
variable (n l:Nat) (z:Nat→Int) (b:Int) (m:Nat) (g:Nat→Int) (H:aa) (x:Int) (hl:l≤14) (hx:0≤x∧x<l)
include hl hx
end
end Go.Eng
end
section
namespace Go.Eng
open Go.Proofs
theorem cg (tab:l9) (n:Nat) (ht:tab.Ok (cd n)):(il tab n 0).Ok (cd n) :=
 ⟨wv _,fun tgt args H x h=>by
   unfold il DI at h
   split at h
   · split at h
     · rename_i c hc
       exact ht _ _ hc _ _ _ h
     · exact (Tr.ae h).elim
   · exact (Tr.ae h).elim⟩
section
variable (n l:Nat) (z:Nat→Int) (b:Int) (m:Nat) (g:Nat→Int) (H:aa) (hl:l≤14) (hm:m≤1000) (hg:∀ j,j<m→0≤g j∧g j<l)
include hl hm hg
end
section
variable (n l:Nat) (z:Nat→Int) (m:Nat) (g:Nat→Int) (H:aa) (hl:l≤14) (hm:m+1≤1000) (hg:∀ j,j<m+1→Rw l z (g j))
include hg in
end
theorem pO (L:List Int) (j:Nat) (h:j<L.length):bn L j ∈ L:=by
 rw[g5]
 simp[List.getD_eq_getElem?_getD,h]
end Go.Eng
end
section
namespace Go.Eng
open Go.Proofs
section
variable (n l:Nat) (z:Nat→Int) (H:aa) (hl:l≤14)
include hl
end
end Go.Eng
end
section
namespace Go.Eng
open Go.Proofs
noncomputable def yH (l:Nat) (z:Nat→Int) (B:AV) (i j:Int):av:=[(0,ay 5 l z),(1,B),(2,.int .i64 i),(7,.int .i64 j)]
theorem MT (n l k:Nat) (z y:Nat→Int) (full:Bool) (H:aa) (i j:Int):aK (bu (n+3) 73 21) (il aI (n+1) 2) aP aQ (part Tryz.f73 [1,0,1,0,0]) (hints (yH l z (bc k y full) i j)) (an::H) =
 (fun (Z0:aT)=>Tr.ite (cn j (Int.ofNat k)) (Tr.req (cU j k) (Tr.req (bB (aw 0 j 1) k) (Tr.req (cU i l) (Tr.req (bB (aw 0 i 5) (aH l 5)) (Tr.req (bB (ak (aw 0 i 5) 1) (aH l 5)) (Tr.req (bB (ak (aw 0 i 5) 2) (aH l 5)) (Tr.req (bB (ak (aw 0 i 5) 3) (aH l 5)) (Tr.req (bB (ak (aw 0 i 5) 4) (aH l 5)) (Tr.ite (mI (bQ .i64 (z (ak (aw 0 i 5) 1)) (z (ak (aw 0 i 5) 3))) (y (aw 0 j 1))) (Tr.ite (mI (y (aw 0 j 1)) (bQ .i64 (z (aw 0 i 5)) (z (ak (aw 0 i 5) 2)))) (Tr.ok (Ex.ret,[(6,AV.bool true,some 1)],an::H)) (Tr.ok (Ex.normal,Z0,an::H))) (Tr.ok (Ex.normal,Z0,an::H))))))))))) (Tr.ok (Ex.exit 0,[(0,ay 5 l z,none),(1,AV.slcT none (Row.M [aM.arr .i64 y k]) 1 k full,none),(2,AV.int .i64 i,none),(7,AV.int .i64 j,none),(11,AV.bool false,some 1)],an::H))) [(0,ay 5 l z,none),(1,AV.slcT none (Row.M [aM.arr .i64 y k]) 1 k full,none),(2,AV.int .i64 i,none),(7,AV.int .i64 (aS .i64 j (Int.ofNat 1)),none)]:=by kernel_rfl
theorem QU (n l k:Nat) (z y:Nat→Int) (full:Bool) (H:aa) (i:Int) (x:Bool):bt Tryz.prog (cd n) 100000 73 Tryz.f73 (KtB.kt 73) (il aI n 0) (dJ aP 0 (yH l z (bc k y full) i 0) (an::H) (.ite x (.ok (.ret,[(6,.bool true,none)],an::H)) (.ok (.normal,hints (yH l z (bc k y full) i (Int.ofNat k)++[(11,.bool false)]),an::H)))) aQ [(ay 5 l z,none),(bc k y full,none),(.int .i64 i,none)] H =
 (fun (Z0:av)=>Tr.reqP (Z0=Z0∧an::H=an::H) (Tr.ite x (Tr.ok ((AV.bool true,none),H)) (Tr.ok ((AV.bool false,some 1),H)))) [(0,ay 5 l z),(1,AV.slcT none (Row.M [aM.arr .i64 y k]) 1 k full),(2,AV.int .i64 i),(7,AV.int .i64 (Int.ofNat 0))]:=by kernel_rfl
theorem QV (n l:Nat) (z:Nat→Int) (H:aa) (i:Int):bt Tryz.prog (cd n) 100000 73 Tryz.f73 (KtB.kt 73) (il aI n 0) aP aQ [(ay 5 l z,none),(.nils,none),(.int .i64 i,none)] H =
 Tr.ok ((AV.bool false,some 1),H):=by kernel_rfl
theorem RH:∀ b,(0,b) ∈ aV (bM Tryz.f73)→b=.loop (part Tryz.f73 [1,0,1,0,0]):=fM (by kernel_rfl)
def vG (z y:Nat→Int) (k i:Nat):Bool:=gB (fun j=>sf z (y j) i) k
section
variable (n l k:Nat) (z y:Nat→Int) (H:aa) (i:Nat)
theorem PF (full:Bool) (h:bD l z=0) (hi:i<l) (hk:k≤1000):exec (bu (n+3) 73 21) (.block 0 (.loop (part Tryz.f73 [1,0,1,0,0]))) (yH l z (bc k y full) i 0) (an::H)=some (cond (vG z y k i) (.ret,[(6,.bool true)],an::H) (.normal,yH l z (bc k y full) i (Int.ofNat k)++[(11,.bool false)],an::H)):=by
 obtain ⟨hl,hb⟩:=bI h
 refine rn 0 (fun j=>yH l z (bc k y full) i (j:Int)) (fun _=>an::H) k (fun j=>sf z (y j) i) (fun j=>([(6,.bool true)],an::H)) (yH l z (bc k y full) i (Int.ofNat k)++[(11,.bool false)],an::H) (by omega) (fun j hj=>?_) ?_
 · have b:=hb i hi
   have ej:aS .i64 (j:Int) (Int.ofNat 1)=((j+1:Nat):Int):=by rw[cD,show Int.ofNat 1=1 from rfl];exact cq (by omega) (by omega)
   have ei:aw 0 (j:Int) 1=j:=by rw[bA];omega
   have e5:aw 0 (i:Int) 5=i*5:=by rw[bA];omega
   have s1:bQ .i64 (z (i*5+1)) (z (i*5+3))=bE z i:=by rw[cG];exact cq (by omega) (by omega)
   have s2:bQ .i64 (z (i*5)) (z (i*5+2))=bG z i:=by rw[cG];exact cq (by omega) (by omega)
   have hd:sf z (y j) i=(decide (bE z i≤y j) && decide (y j≤bG z i)):=rfl
   refine aE (MT n l k z y full H i (j:Int)) (eA (n+1) 2) (af _ _) (ag _ _) ?_
   show Tr.all _ (fun x=>if sf z (y j) i=true then _ else _)
   simp only[a7]
   rw[e5,ei,ej,s1,s2,hd]
   clear hd s1 s2
   generalize bE z i=lo at *
   generalize bG z i=hi at *
   by_cases h1:lo≤y j
   · by_cases h2:y j≤hi
     · rw[decide_eq_true h1,decide_eq_true h2]
       simp only[Bool.and_self,if_true]
       exact wF
     · rw[decide_eq_true h1,decide_eq_false h2]
       simp only[Bool.and_false,Bool.false_eq_true,if_false]
       exact wF
   · rw[decide_eq_false h1]
     simp only[Bool.false_and,Bool.false_eq_true,if_false]
     exact wF
 · obtain ⟨x,h1,rfl⟩:=aE (Q:=fun x=>x=(.exit 0,yH l z (bc k y full) i (Int.ofNat k)++[(11,.bool false)],an::H)) (MT n l k z y full H i (Int.ofNat k)) (eA (n+1) 2) (af _ _) (ag _ _) (by
    refine Tr.al (fun hc=>?_) (fun hc=>Tr.ao rfl)
    simp (disch:=omega) only[nV,nW] at hc;omega)
   exact h1
theorem Oh (full:Bool) (h:bD l z=0) (hi:i<l) (hk:k≤1000):cd (n+4) (.fn 73) [ay 5 l z,bc k y full,.int .i64 (i:Int)] (H)=some (.bool (vG z y k i),H):=by
 have hx:=PF n l k z y H i full h hi hk
 refine aX (n:=n+3) Tryz.func73 rfl rfl rfl (QU (n+3) l k z y full H i (vG z y k i)) (aC _) (bg (af _ _) RH (fun x h1=>by
  refine Eq.trans hx ?_
  rcases Tr.gu h1 with ⟨hc,h1⟩ | ⟨hc,h1⟩
  · rw[hc,← Tr.ab h1];rfl
  · rw[hc,← Tr.ab h1];simp only[cond_false,dG.st,aF])) (ag _ _) ?_
 refine Tr.aB ⟨rfl,rfl⟩ (Tr.al (fun hc=>Tr.ao ⟨?_,rfl⟩) (fun hc=>Tr.ao ⟨?_,rfl⟩))
 · rw[hc]
 · rw[hc]
theorem Oj (a:Int):cd (n+1) (.fn 73) [ay 5 l z,.nils,.int .i64 a] H=some (.bool false,H) :=
 aX (n:=n) Tryz.func73 rfl rfl rfl (QV n l z H a) (aC n) (af _ _) (ag _ _) (Tr.ao ⟨rfl,rfl⟩)
end
end Go.Eng
end
section
namespace Go.Eng
open Go.Proofs
theorem tJ (L:List Int) (j:Nat):bn L j=L.getD j 0:=congrFun (g5 L) j
theorem qt (m:Nat→Int) (j:Nat) (x:Int):x ∈ dl m j↔∃ i:Nat,x=i∧i<j∧m i=1:=by
 induction j with
 | zero=>simp[dl]
 | succ j ih =>
   show x ∈ (if m j=1 then dl m j++[(j:Int)] else dl m j)↔_
   constructor
   · intro h
     split at h
     · rename_i e
       rcases List.mem_append.1 h with h | h
       · obtain ⟨i,h1,h2,h3⟩:=ih.1 h
         exact ⟨i,h1,by omega,h3⟩
       · rw[List.mem_singleton] at h;exact ⟨j,h,by omega,e⟩
     · obtain ⟨i,h1,h2,h3⟩:=ih.1 h
       exact ⟨i,h1,by omega,h3⟩
   · rintro ⟨i,h1,h2,h3⟩
     by_cases e:i<j
     · have:=ih.2 ⟨i,h1,e,h3⟩
       split
       · exact List.mem_append_left _ this
       · exact this
     · have:i=j:=by omega
       subst this
       rw[if_pos h3,h1];simp
end Go.Eng
end
section
namespace Go.Eng
open Go.Proofs
section
variable (n l k:Nat) (z y:Nat→Int) (H:aa)
end
section
variable (n l:Nat) (z:Nat→Int) (H:aa)
end
end Go.Eng
end
section
namespace Go.Eng
open Go.Proofs
section
variable (n l:Nat) (z:Nat→Int) (H:aa)
end
end Go.Eng
end
section
namespace Go.Eng
open Go.Proofs
section
variable (n l:Nat) (z:Nat→Int) (H:aa)
end
end Go.Eng
end
section
namespace Go.Eng
open Go.Proofs
end Go.Eng
end
section
namespace Go.Eng
open Go.Proofs
section
variable (n:Nat) (m:Nat) (g:Nat→Int) (H:aa) (j:Int) (hm:m≤1000)
include hm
end
section
variable (n l:Nat) (z:Nat→Int) (m:Nat) (g:Nat→Int) (H:aa) (j:Nat) (kb:Nat) (hb:Nat→Int) (hl:l≤14) (hm:1≤m∧m≤1000) (hg:∀ j,j<m→Rw l z (g j)) (hj:j<l)
include hg in
end
end Go.Eng
end
section
namespace Go.Eng
open Go.Proofs
section
variable (n l:Nat) (z:Nat→Int) (H:aa)
end
end Go.Eng
end
section
namespace Go.Eng
open Go.Proofs
end Go.Eng
end
section
namespace Go.Eng
open Go.Proofs
section
variable (z z':Nat→Int) (φ:Int→Int)
end
end Go.Eng
end
