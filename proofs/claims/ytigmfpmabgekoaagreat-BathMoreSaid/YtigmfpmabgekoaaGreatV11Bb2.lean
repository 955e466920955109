/- Bath: the element of a list with the least number (least, with the closure of best). -/
import Derived.Test.YtigmfpmabgekoaaGreatV11Ba3x9
set_option linter.unusedVariables false
set_option linter.unusedSimpArgs false
set_option maxRecDepth 100000
namespace Go.Eng
open Go.Proofs
noncomputable def eN (l:Nat) (y:Nat→Int):Nat×ak:=(0,.row (.G [.ptrT (some 1) (.G [aJ 7 l y]) 0]))
noncomputable def wL (m:Nat) (z:Nat→Int) (i j:Int):av:=[(1,.fn (.func 86) [] [.ptr 1 0 0 0]),(5,.int .i64 i),(12,.slcT none (.M [.arr .i64 (g7 z 1) (dk m 1)]) 1 (dk m 1) false),(13,.int .i64 (Int.ofNat (dk m 1))),(14,.int .i64 j)]
theorem t85 (n l:Nat) (y z:Nat→Int) (m:Nat) (bs:List (Nat×ak)) (H:aa) (i j:Int):aX (bz (n+1) 85 28) (il aU n 1) aZ a6 (part Tryz.f85 [1,1,0,1,0,0]) (hints (wL m z i j)) (aB::⟨false,eN l y::bs⟩::H) =
 (fun (Z0:bn)=>((fun (Z1:Nat×AV×Option Nat)=>Tr.ite (dq j (Int.ofNat (dk m 1))) (Tr.req (dF j (dk m 1)) (Tr.req (bA (ar 0 j 1) (dk m 1)) (Tr.req (dF (g7 z 1 (ar 0 j 1)) l) (Tr.req (bA (af (af (ar 0 (g7 z 1 (ar 0 j 1)) 7) 5) 1) (aD l 7)) (Tr.req (dF i l) (Tr.req (bA (af (af (ar 0 i 7) 5) 1) (aD l 7)) (Tr.ite (dq (y (af (af (ar 0 (g7 z 1 (ar 0 j 1)) 7) 5) 1)) (y (af (af (ar 0 i 7) 5) 1))) (Tr.ok (Ex.normal,[(1,AV.fn (Fn.func 86) [] [AV.ptr 1 0 0 0],none),(5,AV.int .i64 (g7 z 1 (ar 0 j 1)),none),Z1,(13,AV.int .i64 (Int.ofNat (dk m 1)),none),(14,AV.int .i64 (a8 .i64 j (Int.ofNat 1)),none)],aB::Z0::H)) (Tr.ok (Ex.normal,[(1,AV.fn (Fn.func 86) [] [AV.ptr 1 0 0 0],none),(5,AV.int .i64 i,none),Z1,(13,AV.int .i64 (Int.ofNat (dk m 1)),none),(14,AV.int .i64 (a8 .i64 j (Int.ofNat 1)),none)],aB::Z0::H))))))))) (Tr.ok (Ex.exit 0,[(1,AV.fn (Fn.func 86) [] [AV.ptr 1 0 0 0],none),(5,AV.int .i64 i,none),Z1,(13,AV.int .i64 (Int.ofNat (dk m 1)),none),(14,AV.int .i64 j,none),(15,AV.bool false,some 1)],aB::Z0::H))) (12,AV.slcT none (Row.M [aW.arr .i64 (g7 z 1) (dk m 1)]) 1 (dk m 1) false,none))) { lock:=false,bs:=(0,ak.row (Row.G [AV.ptrT (some 1) (Row.G [aJ 7 l y]) 0]))::bs }:=by kernel_rfl
theorem TH (n l:Nat) (y z:Nat→Int) (m:Nat) (bs:List (Nat×ak)) (H:aa) (i:Int):bw Tryz.prog (cd (n+1)) 100000 85 Tryz.f85 (KtB.kt 85) (il aU n 1) (gf aZ 0 (wL m z (z 0) 0) (aB::⟨false,eN l y::bs⟩::H) (.ok (.normal,hints (wL m z i (Int.ofNat (dk m 1))++[(15,.bool false)]),aB::⟨false,eN l y::bs⟩::H))) a6 [(cI m z false,none),(.fn (.func 86) [] [.ptr 0 0 0 0],none)] (⟨false,eN l y::bs⟩::H) =
 (fun (Z0:bn)=>Tr.req (dF (Int.ofNat 0) m) (Tr.req (bA 0 m) (Tr.req (je (Int.ofNat 1) m) (Tr.req (dG (af (dH (Int.ofNat 1)) (dk m (dH (Int.ofNat 1)))) m) (Tr.reqP ([(1,AV.fn (Fn.func 86) [] [AV.ptr 1 0 0 0]),(5,AV.int .i64 (z 0)),(12,AV.slcT none (Row.M [aW.arr .i64 (g7 z (dH (Int.ofNat 1))) (dk m (dH (Int.ofNat 1)))]) 1 (dk m (dH (Int.ofNat 1))) false),(13,AV.int .i64 (Int.ofNat (dk m (dH (Int.ofNat 1))))),(14,AV.int .i64 (Int.ofNat 0))]=[(1,AV.fn (Fn.func 86) [] [AV.ptr 1 0 0 0]),(5,AV.int .i64 (z 0)),(12,AV.slcT none (Row.M [aW.arr .i64 (g7 z 1) (dk m 1)]) 1 (dk m 1) false),(13,AV.int .i64 (Int.ofNat (dk m 1))),(14,AV.int .i64 (Int.ofNat 0))]∧aB::Z0::H=aB::Z0::H) (Tr.ok ((AV.int .i64 i,none),Z0::H))))))) { lock:=false,bs:=(0,ak.row (Row.G [AV.ptrT (some 1) (Row.G [aJ 7 l y]) 0]))::bs }:=by kernel_rfl
def dL (z g:Nat→Int):Nat→Int
 | 0=>g 0
 | k+1=>if bU z (g (k+1)).toNat<bU z (dL z g k).toNat then g (k+1) else dL z g k
theorem wV (z g:Nat→Int) (k:Nat):∃ j,j≤k∧dL z g k=g j:=by
 induction k with
 | zero=>exact ⟨0,by omega,rfl⟩
 | succ k ih =>
   obtain ⟨j,h1,h2⟩:=ih
   unfold dL
   split
   · exact ⟨k+1,by omega,rfl⟩
   · exact ⟨j,by omega,h2⟩
theorem Rb:∀ b,(0,b) ∈ bo (ct Tryz.f85)→b=.loop (part Tryz.f85 [1,1,0,1,0,0]):=kX (by kernel_rfl)
section
variable (n:Nat) (l:Nat) (z g:Nat→Int) (m:Nat) (bs:List (Nat×ak)) (H:aa)
theorem Cc (i:Int) (hl:l≤14) (h:0≤i∧i<l):oY z l (ar 0 i 7+5+1)=bU z i.toNat:=by
 rw[bC,show 0+i.toNat*7+5+1=i.toNat*7+6 by omega]
 exact nL z (by omega) (by omega)
theorem Te (hl:l≤14) (h1:m<1000) (hg:∀ j,j<m+1→0≤g j∧g j<l):exec (bz (n+1) 85 28) (.block 0 (.loop (part Tryz.f85 [1,1,0,1,0,0]))) (wL (m+1) g (g 0) 0) (aB::⟨false,eN l (oY z l)::bs⟩::H)=some (.normal,wL (m+1) g (dL z g m) (Int.ofNat (dk (m+1) 1))++[(15,.bool false)],aB::⟨false,eN l (oY z l)::bs⟩::H):=by
 have e1:dk (m+1) 1=m:=by rw[gz];omega
 have:=nD (n:=n+1) (f:=85) (nt:=28) (c:=part Tryz.f85 [1,1,0,1,0,0]) 0 (fun j=>wL (m+1) g (dL z g j) (j:Int)) (fun _=>aB::⟨false,eN l (oY z l)::bs⟩::H) m (wL (m+1) g (dL z g m) (Int.ofNat (dk (m+1) 1))++[(15,.bool false)],aB::⟨false,eN l (oY z l)::bs⟩::H) (by omega) (fun j hj=>?_) ?_
 · exact this
 · have ej:a8 .i64 (j:Int) (Int.ofNat 1)=((j+1:Nat):Int):=by rw[bV,show Int.ofNat 1=1 from rfl];exact cK (by omega) (by omega)
   have ei:g7 g 1 (ar 0 (j:Int) 1)=g (j+1):=by rw[bC,Ko];simp only[];congr 1;omega
   have eb:ar 0 (j:Int) 1=j:=by rw[bC];omega
   obtain ⟨k,hk,hq⟩:=wV z g j
   have g1:=hg (j+1) (by omega)
   have g2:=hg k (by omega)
   rw[← hq] at g2
   have o1:=Cc l z (g (j+1)) hl g1
   have o2:=Cc l z (dL z g j) hl g2
   have hs:dL z g (j+1)=if bU z (g (j+1)).toNat<bU z (dL z g j).toNat then g (j+1) else dL z g j:=rfl
   have i1:ar 0 (g (j+1)) 7=(g (j+1)).toNat*7:=by rw[bC];omega
   have i2:ar 0 (dL z g j) 7=(dL z g j).toNat*7:=by rw[bC];omega
   refine aG (t85 n l (oY z l) g (m+1) bs H (dL z g j) (j:Int)) (dS n 1) (ag _ _) (ah _ _) ?_
   simp only[ei]
   simp only[aQ]
   rw[o1,o2,ej,i1,i2,eb]
   rw[hs]
   clear hs o1 o2 i1 i2 ei hq
   generalize bU z (g (j+1)).toNat=A at *
   generalize bU z (dL z g j).toNat=B at *
   generalize g (j+1)=G at *
   generalize dL z g j=L at *
   by_cases hab:A<B
   · rw[if_pos hab]
     repeat' first | (refine Tr.al (fun hc=>?_) (fun hc=>?_)<;>(try simp (disch:=omega) only[nV,nW,e1] at hc)<;>try omega) | (refine Tr.bf ?_ ?_;· (try simp (disch:=omega) only[nV,nW,e1]);try omega) | (refine Tr.ay ?_ ?_;· first | exact trivial | rfl | exact ⟨rfl,rfl⟩ | exact ⟨rfl,rfl,rfl⟩ | (simp (disch:=omega) only[nV,nW,e1];done) | ((try simp (disch:=omega) only[nV,nW,e1]);omega)) | fail
     all_goals first
      | exact Tr.aw ⟨rfl,rfl⟩
      | fail
   · rw[if_neg hab]
     repeat' first | (refine Tr.al (fun hc=>?_) (fun hc=>?_)<;>(try simp (disch:=omega) only[nV,nW,e1] at hc)<;>try omega) | (refine Tr.bf ?_ ?_;· (try simp (disch:=omega) only[nV,nW,e1]);try omega) | (refine Tr.ay ?_ ?_;· first | exact trivial | rfl | exact ⟨rfl,rfl⟩ | exact ⟨rfl,rfl,rfl⟩ | (simp (disch:=omega) only[nV,nW,e1];done) | ((try simp (disch:=omega) only[nV,nW,e1]);omega)) | fail
     all_goals first
      | exact Tr.aw ⟨rfl,rfl⟩
      | fail
 · have em:((m:Nat):Int)=Int.ofNat (dk (m+1) 1):=by rw[e1];rfl
   show exec _ _ (wL (m+1) g (dL z g m) (m:Int)) _=_
   rw[em]
   obtain ⟨x,h1,rfl⟩:=aG (Q:=fun x=>x=(.exit 0,wL (m+1) g (dL z g m) (Int.ofNat (dk (m+1) 1))++[(15,.bool false)],aB::⟨false,eN l (oY z l)::bs⟩::H)) (t85 n l (oY z l) g (m+1) bs H (dL z g m) (Int.ofNat (dk (m+1) 1))) (dS n 1) (ag _ _) (ah _ _) (by
    exact wF)
   exact h1
theorem QY (hl:l≤14) (h1:m<1000) (hg:∀ j,j<m+1→0≤g j∧g j<l):cd (n+2) (.fn 85) [cI (m+1) g false,.fn (.func 86) [] [.ptr 0 0 0 0]] (⟨false,eN l (oY z l)::bs⟩::H)=some (.int .i64 (dL z g m),⟨false,eN l (oY z l)::bs⟩::H):=by
 refine ba (n:=n+1) Tryz.func85 rfl rfl rfl (TH n l (oY z l) g (m+1) bs H (dL z g m)) (dS n 1) (bL (ag _ _) Rb (fun x hx=>by rw[← Tr.ab hx];simp only[gY.st,aY];exact Te n l z g m bs H hl h1 hg)) (ah _ _) ?_
 rw[show dH (Int.ofNat 1)=1 from fP _]
 have e1:dk (m+1) 1=m:=by rw[gz];omega
 repeat' first | (refine Tr.al (fun hc=>?_) (fun hc=>?_)<;>(try simp (disch:=omega) only[nV,nW,e1] at hc)<;>try omega) | (refine Tr.bf ?_ ?_;· (try simp (disch:=omega) only[nV,nW,e1]);try omega) | (refine Tr.ay ?_ ?_;· first | exact trivial | rfl | exact ⟨rfl,rfl⟩ | exact ⟨rfl,rfl,rfl⟩ | (simp (disch:=omega) only[nV,nW,e1];done) | ((try simp (disch:=omega) only[nV,nW,e1]);omega)) | fail
 all_goals first
  | exact Tr.aw ⟨rfl,rfl⟩
  | fail
end
end Go.Eng
