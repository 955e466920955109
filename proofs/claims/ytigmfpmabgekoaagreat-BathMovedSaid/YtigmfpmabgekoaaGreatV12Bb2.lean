/- Bath: the element of a list with the least number (least, with the closure of best). -/
import Derived.Test.YtigmfpmabgekoaaGreatV12Ba3x9
set_option linter.unusedVariables false
set_option linter.unusedSimpArgs false
set_option maxRecDepth 100000
namespace Go.Eng
open Go.Proofs
noncomputable def eQ (l:Nat) (y:Nat→Int):Nat×ak:=(0,.row (.G [.ptrT (some 1) (.G [aG 7 l y]) 0]))
noncomputable def xj (m:Nat) (z:Nat→Int) (i j:Int):ay:=[(1,.fn (.func 86) [] [.ptr 1 0 0 0]),(5,.int .i64 i),(12,.slcT none (.M [.arr .i64 (fE z 1) (dg m 1)]) 1 (dg m 1) false),(13,.int .i64 (Int.ofNat (dg m 1))),(14,.int .i64 j)]
theorem t85 (n l:Nat) (y z:Nat→Int) (m:Nat) (bs:List (Nat×ak)) (H:aa) (i j:Int):aN (bp (n+1) 85 28) (il aR n 1) aW aX (part Tryz.f85 [1,1,0,1,0,0]) (hints (xj m z i j)) (aC::⟨false,eQ l y::bs⟩::H) =
 (fun (Z0:bm)=>((fun (Z1:Nat×AV×Option Nat)=>Tr.ite (df j (Int.ofNat (dg m 1))) (Tr.req (dR j (dg m 1)) (Tr.req (bx (au 0 j 1) (dg m 1)) (Tr.req (dR (fE z 1 (au 0 j 1)) l) (Tr.req (bx (ah (ah (au 0 (fE z 1 (au 0 j 1)) 7) 5) 1) (aq l 7)) (Tr.req (dR i l) (Tr.req (bx (ah (ah (au 0 i 7) 5) 1) (aq l 7)) (Tr.ite (df (y (ah (ah (au 0 (fE z 1 (au 0 j 1)) 7) 5) 1)) (y (ah (ah (au 0 i 7) 5) 1))) (Tr.ok (Ex.normal,[(1,AV.fn (Fn.func 86) [] [AV.ptr 1 0 0 0],none),(5,AV.int .i64 (fE z 1 (au 0 j 1)),none),Z1,(13,AV.int .i64 (Int.ofNat (dg m 1)),none),(14,AV.int .i64 (aK .i64 j (Int.ofNat 1)),none)],aC::Z0::H)) (Tr.ok (Ex.normal,[(1,AV.fn (Fn.func 86) [] [AV.ptr 1 0 0 0],none),(5,AV.int .i64 i,none),Z1,(13,AV.int .i64 (Int.ofNat (dg m 1)),none),(14,AV.int .i64 (aK .i64 j (Int.ofNat 1)),none)],aC::Z0::H))))))))) (Tr.ok (Ex.exit 0,[(1,AV.fn (Fn.func 86) [] [AV.ptr 1 0 0 0],none),(5,AV.int .i64 i,none),Z1,(13,AV.int .i64 (Int.ofNat (dg m 1)),none),(14,AV.int .i64 j,none),(15,AV.bool false,some 1)],aC::Z0::H))) (12,AV.slcT none (Row.M [aL.arr .i64 (fE z 1) (dg m 1)]) 1 (dg m 1) false,none))) { lock:=false,bs:=(0,ak.row (Row.G [AV.ptrT (some 1) (Row.G [aG 7 l y]) 0]))::bs }:=by kernel_rfl
theorem Uw (n l:Nat) (y z:Nat→Int) (m:Nat) (bs:List (Nat×ak)) (H:aa) (i:Int):bu Tryz.prog (cd (n+1)) 100000 85 Tryz.f85 (KtB.kt 85) (il aR n 1) (eP aW 0 (xj m z (z 0) 0) (aC::⟨false,eQ l y::bs⟩::H) (.ok (.normal,hints (xj m z i (Int.ofNat (dg m 1))++[(15,.bool false)]),aC::⟨false,eQ l y::bs⟩::H))) aX [(bD m z false,none),(.fn (.func 86) [] [.ptr 0 0 0 0],none)] (⟨false,eQ l y::bs⟩::H) =
 (fun (Z0:bm)=>Tr.req (dR (Int.ofNat 0) m) (Tr.req (bx 0 m) (Tr.req (jk (Int.ofNat 1) m) (Tr.req (fA (ah (dB (Int.ofNat 1)) (dg m (dB (Int.ofNat 1)))) m) (Tr.reqP ([(1,AV.fn (Fn.func 86) [] [AV.ptr 1 0 0 0]),(5,AV.int .i64 (z 0)),(12,AV.slcT none (Row.M [aL.arr .i64 (fE z (dB (Int.ofNat 1))) (dg m (dB (Int.ofNat 1)))]) 1 (dg m (dB (Int.ofNat 1))) false),(13,AV.int .i64 (Int.ofNat (dg m (dB (Int.ofNat 1))))),(14,AV.int .i64 (Int.ofNat 0))]=[(1,AV.fn (Fn.func 86) [] [AV.ptr 1 0 0 0]),(5,AV.int .i64 (z 0)),(12,AV.slcT none (Row.M [aL.arr .i64 (fE z 1) (dg m 1)]) 1 (dg m 1) false),(13,AV.int .i64 (Int.ofNat (dg m 1))),(14,AV.int .i64 (Int.ofNat 0))]∧aC::Z0::H=aC::Z0::H) (Tr.ok ((AV.int .i64 i,none),Z0::H))))))) { lock:=false,bs:=(0,ak.row (Row.G [AV.ptrT (some 1) (Row.G [aG 7 l y]) 0]))::bs }:=by kernel_rfl
def dG (z g:Nat→Int):Nat→Int
 | 0=>g 0
 | k+1=>if bE z (g (k+1)).toNat<bE z (dG z g k).toNat then g (k+1) else dG z g k
theorem xy (z g:Nat→Int) (k:Nat):∃ j,j≤k∧dG z g k=g j:=by
 induction k with
 | zero=>exact ⟨0,by omega,rfl⟩
 | succ k ih =>
   obtain ⟨j,h1,h2⟩:=ih
   unfold dG
   split
   · exact ⟨k+1,by omega,rfl⟩
   · exact ⟨j,by omega,h2⟩
theorem RZ:∀ b,(0,b) ∈ bc (bZ Tryz.f85)→b=.loop (part Tryz.f85 [1,1,0,1,0,0]):=jj (by kernel_rfl)
section
variable (n:Nat) (l:Nat) (z g:Nat→Int) (m:Nat) (bs:List (Nat×ak)) (H:aa)
theorem CA (i:Int) (hl:l≤14) (h:0≤i∧i<l):oY z l (au 0 i 7+5+1)=bE z i.toNat:=by
 rw[bB,show 0+i.toNat*7+5+1=i.toNat*7+6 by omega]
 exact nU z (by omega) (by omega)
theorem T3 (hl:l≤14) (h1:m<1000) (hg:∀ j,j<m+1→0≤g j∧g j<l):exec (bp (n+1) 85 28) (.block 0 (.loop (part Tryz.f85 [1,1,0,1,0,0]))) (xj (m+1) g (g 0) 0) (aC::⟨false,eQ l (oY z l)::bs⟩::H)=some (.normal,xj (m+1) g (dG z g m) (Int.ofNat (dg (m+1) 1))++[(15,.bool false)],aC::⟨false,eQ l (oY z l)::bs⟩::H):=by
 have e1:dg (m+1) 1=m:=by rw[gF];omega
 have:=j9 (n:=n+1) (f:=85) (nt:=28) (c:=part Tryz.f85 [1,1,0,1,0,0]) 0 (fun j=>xj (m+1) g (dG z g j) (j:Int)) (fun _=>aC::⟨false,eQ l (oY z l)::bs⟩::H) m (xj (m+1) g (dG z g m) (Int.ofNat (dg (m+1) 1))++[(15,.bool false)],aC::⟨false,eQ l (oY z l)::bs⟩::H) (by omega) (fun j hj=>?_) ?_
 · exact this
 · have ej:aK .i64 (j:Int) (Int.ofNat 1)=((j+1:Nat):Int):=by rw[bH,show Int.ofNat 1=1 from rfl];exact cr (by omega) (by omega)
   have ei:fE g 1 (au 0 (j:Int) 1)=g (j+1):=by rw[bB,K0];simp only[];congr 1;omega
   have eb:au 0 (j:Int) 1=j:=by rw[bB];omega
   obtain ⟨k,hk,hq⟩:=xy z g j
   have g1:=hg (j+1) (by omega)
   have g2:=hg k (by omega)
   rw[← hq] at g2
   have o1:=CA l z (g (j+1)) hl g1
   have o2:=CA l z (dG z g j) hl g2
   have hs:dG z g (j+1)=if bE z (g (j+1)).toNat<bE z (dG z g j).toNat then g (j+1) else dG z g j:=rfl
   have i1:au 0 (g (j+1)) 7=(g (j+1)).toNat*7:=by rw[bB];omega
   have i2:au 0 (dG z g j) 7=(dG z g j).toNat*7:=by rw[bB];omega
   refine aD (t85 n l (oY z l) g (m+1) bs H (dG z g j) (j:Int)) (dO n 1) (af _ _) (ag _ _) ?_
   simp only[ei]
   simp only[aU]
   rw[o1,o2,ej,i1,i2,eb]
   rw[hs]
   clear hs o1 o2 i1 i2 ei hq
   generalize bE z (g (j+1)).toNat=A at *
   generalize bE z (dG z g j).toNat=B at *
   generalize g (j+1)=G at *
   generalize dG z g j=L at *
   by_cases hab:A<B
   · rw[if_pos hab]
     repeat' first | (refine Tr.al (fun hc=>?_) (fun hc=>?_)<;>(try simp (disch:=omega) only[nV,nW,e1] at hc)<;>try omega) | (refine Tr.a8 ?_ ?_;· (try simp (disch:=omega) only[nV,nW,e1]);try omega) | (refine Tr.aw ?_ ?_;· first | exact trivial | rfl | exact ⟨rfl,rfl⟩ | exact ⟨rfl,rfl,rfl⟩ | (simp (disch:=omega) only[nV,nW,e1];done) | ((try simp (disch:=omega) only[nV,nW,e1]);omega)) | fail
     all_goals first
      | exact Tr.av ⟨rfl,rfl⟩
      | fail
   · rw[if_neg hab]
     repeat' first | (refine Tr.al (fun hc=>?_) (fun hc=>?_)<;>(try simp (disch:=omega) only[nV,nW,e1] at hc)<;>try omega) | (refine Tr.a8 ?_ ?_;· (try simp (disch:=omega) only[nV,nW,e1]);try omega) | (refine Tr.aw ?_ ?_;· first | exact trivial | rfl | exact ⟨rfl,rfl⟩ | exact ⟨rfl,rfl,rfl⟩ | (simp (disch:=omega) only[nV,nW,e1];done) | ((try simp (disch:=omega) only[nV,nW,e1]);omega)) | fail
     all_goals first
      | exact Tr.av ⟨rfl,rfl⟩
      | fail
 · have em:((m:Nat):Int)=Int.ofNat (dg (m+1) 1):=by rw[e1];rfl
   show exec _ _ (xj (m+1) g (dG z g m) (m:Int)) _=_
   rw[em]
   obtain ⟨x,h1,rfl⟩:=aD (Q:=fun x=>x=(.exit 0,xj (m+1) g (dG z g m) (Int.ofNat (dg (m+1) 1))++[(15,.bool false)],aC::⟨false,eQ l (oY z l)::bs⟩::H)) (t85 n l (oY z l) g (m+1) bs H (dG z g m) (Int.ofNat (dg (m+1) 1))) (dO n 1) (af _ _) (ag _ _) (by
    exact wF)
   exact h1
theorem RJ (hl:l≤14) (h1:m<1000) (hg:∀ j,j<m+1→0≤g j∧g j<l):cd (n+2) (.fn 85) [bD (m+1) g false,.fn (.func 86) [] [.ptr 0 0 0 0]] (⟨false,eQ l (oY z l)::bs⟩::H)=some (.int .i64 (dG z g m),⟨false,eQ l (oY z l)::bs⟩::H):=by
 refine ba (n:=n+1) Tryz.func85 rfl rfl rfl (Uw n l (oY z l) g (m+1) bs H (dG z g m)) (dO n 1) (bz (af _ _) RZ (fun x hx=>by rw[← Tr.ab hx];simp only[gi.st,aP];exact T3 n l z g m bs H hl h1 hg)) (ag _ _) ?_
 rw[show dB (Int.ofNat 1)=1 from fR _]
 have e1:dg (m+1) 1=m:=by rw[gF];omega
 repeat' first | (refine Tr.al (fun hc=>?_) (fun hc=>?_)<;>(try simp (disch:=omega) only[nV,nW,e1] at hc)<;>try omega) | (refine Tr.a8 ?_ ?_;· (try simp (disch:=omega) only[nV,nW,e1]);try omega) | (refine Tr.aw ?_ ?_;· first | exact trivial | rfl | exact ⟨rfl,rfl⟩ | exact ⟨rfl,rfl,rfl⟩ | (simp (disch:=omega) only[nV,nW,e1];done) | ((try simp (disch:=omega) only[nV,nW,e1]);omega)) | fail
 all_goals first
  | exact Tr.av ⟨rfl,rfl⟩
  | fail
end
end Go.Eng
