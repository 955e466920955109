/- Drop: CheckBath, as it is defined. -/
import Derived.Test.YtjmjkhpfipglcaaV7DrAx4
section
namespace Go.Eng
open Go.Proofs
set_option linter.unusedVariables false
set_option linter.unusedSimpArgs false
set_option maxRecDepth 100000
def kY (w:Int) (zs:Nat→Int) (j:Nat):Bool:=decide (zs (j*2)<1) || (decide (w≤zs (j*2)) || (decide (zs (j*2+1)<0) || decide (1000<zs (j*2+1))))
def qi (zs:Nat→Int) (i j:Nat):Bool:=(zs (i*2) == zs (j*2)) && (zs (i*2+1) == zs (j*2+1))
def fF (ls:Nat) (zd:Nat→Int) (j:Nat):Bool:=decide (zd (j*3)<0) || (decide ((ls:Int)≤zd (j*3)) || (decide (zd (j*3+1)<1) || (decide (zd (j*3+2)<zd (j*3+1)) || decide (10000<zd (j*3+2)))))
def bN (w:Int) (ls ld:Nat) (zs zd:Nat→Int):Int :=
 cond (decide (w<2)) 2 (cond (decide (1000<w)) 2 (cond (decide (10<ls)) 6 (cond (decide (40<ld)) 6 (cond (bD (kY w zs) ls) 3 (cond (bD (fun i=>bD (qi zs i) i) ls) 15 (cond (bD (fF ls zd) ld) 16 0))))))
noncomputable def Lt (w:Int) (ls ld:Nat) (zs zd:Nat→Int) (x y z:Int):b6:=⟨false,[(0,.row (.G [.int .i64 w,aU 2 ls zs,aU 3 ld zd])),(0,.row (.I .i64 [x,y,z]))]⟩
theorem Ie (n:Nat) (w:Int) (ls ld:Nat) (zs zd:Nat→Int) (H:ae) (j:Int):aH (bF n 20 130) (il aG n 0) aJ aK (part Try.f20 [1,1,1,0,1,0,0]) (hints [(1,AV.ptr 0 0 0 0),(3,AV.int IntKind.i64 j)]) (a6 w ls ld zs zd::H) =
 (fun (Z0:a8)=>Tr.ite (bA j (Int.ofNat ls)) (Tr.req (br j ls) (Tr.req (bt (al 0 j 2) (aI ls 2)) (Tr.ite (bA (zs (al 0 j 2)) (Int.ofNat 1)) (Tr.ok (Ex.ret,Z0,a6 w ls ld zs zd::H)) (Tr.req (br j ls) (Tr.req (bt (al 0 j 2) (aI ls 2)) (Tr.ite (dA w (zs (al 0 j 2))) (Tr.ok (Ex.ret,Z0,a6 w ls ld zs zd::H)) (Tr.req (br j ls) (Tr.req (bt (au (al 0 j 2) 1) (aI ls 2)) (Tr.ite (bA (zs (au (al 0 j 2) 1)) (Int.ofNat 0)) (Tr.ok (Ex.ret,Z0,a6 w ls ld zs zd::H)) (Tr.req (br j ls) (Tr.req (bt (au (al 0 j 2) 1) (aI ls 2)) (Tr.ite (bA (Int.ofNat 1000) (zs (au (al 0 j 2) 1))) (Tr.ok (Ex.ret,Z0,a6 w ls ld zs zd::H)) (Tr.ok (Ex.normal,[(1,AV.ptr 0 0 0 0,none),(3,AV.int .i64 (ay .i64 j (Int.ofNat 1)),none)],a6 w ls ld zs zd::H)))))))))))))) (Tr.ok (Ex.exit 0,[(1,AV.ptr 0 0 0 0,none),(3,AV.int .i64 j,none),(30,AV.bool false,some 1)],a6 w ls ld zs zd::H))) [(2,AV.int .i64 (Int.ofNat 3),some 1)]:=by kernel_rfl
theorem Ig (n:Nat) (w:Int) (ls ld:Nat) (zs zd:Nat→Int) (H:ae) (j i:Int):aH (bF n 20 130) (il aG n 0) aJ aK (part Try.f20 [1,1,1,1,0,1,0,0,1,0,0,1,0,0]) (hints [(1,AV.ptr 0 0 0 0),(4,AV.int IntKind.i64 i),(5,AV.int IntKind.i64 j)]) (a6 w ls ld zs zd::H) =
 Tr.ite (bA j i) (Tr.req (br i ls) (Tr.req (bt (al 0 i 2) (aI ls 2)) (Tr.req (bt (au (al 0 i 2) 1) (aI ls 2)) (Tr.req (br j ls) (Tr.req (bt (al 0 j 2) (aI ls 2)) (Tr.req (bt (au (al 0 j 2) 1) (aI ls 2)) (Tr.ite (cX (aF (zs (al 0 i 2)) (zs (al 0 j 2))) (aF (zs (au (al 0 i 2) 1)) (zs (au (al 0 j 2) 1)))) (Tr.ok (Ex.ret,[(2,AV.int .i64 (Int.ofNat 15),some 1)],a6 w ls ld zs zd::H)) (Tr.ok (Ex.normal,[(1,AV.ptr 0 0 0 0,none),(4,AV.int .i64 i,none),(5,AV.int .i64 (ay .i64 j (Int.ofNat 1)),none)],a6 w ls ld zs zd::H))))))))) (Tr.ok (Ex.exit 4,[(1,AV.ptr 0 0 0 0,none),(4,AV.int .i64 i,none),(5,AV.int .i64 j,none),(78,AV.bool false,some 1)],a6 w ls ld zs zd::H)):=by kernel_rfl
theorem N5 (n:Nat) (w:Int) (ls ld:Nat) (zs zd:Nat→Int) (H:ae) (i:Int) (q:Bool):aH (bF n 20 130) (il aG n 0) (dc aJ 4 [(1,AV.ptr 0 0 0 0),(4,AV.int IntKind.i64 i),(5,AV.int IntKind.i64 (Int.ofNat 0))] (a6 w ls ld zs zd::H) (.ite q (.ok (.ret,[(2,AV.int IntKind.i64 15,none)],a6 w ls ld zs zd::H)) (.ok (.normal,hints [(1,AV.ptr 0 0 0 0),(4,AV.int IntKind.i64 i),(5,AV.int IntKind.i64 i),(78,AV.bool false)],a6 w ls ld zs zd::H)))) aK (part Try.f20 [1,1,1,1,0,1,0,0]) (hints [(1,AV.ptr 0 0 0 0),(4,AV.int IntKind.i64 i)]) (a6 w ls ld zs zd::H) =
 Tr.ite (bA i (Int.ofNat ls)) (Tr.reqP ([(1,AV.ptr 0 0 0 0),(4,AV.int .i64 i),(5,AV.int .i64 (Int.ofNat 0))]=[(1,AV.ptr 0 0 0 0),(4,AV.int .i64 i),(5,AV.int .i64 (Int.ofNat 0))]∧a6 w ls ld zs zd::H=a6 w ls ld zs zd::H) (Tr.ite q (Tr.ok (Ex.ret,[(2,AV.int .i64 (Int.ofNat 15),none)],a6 w ls ld zs zd::H)) (Tr.ok (Ex.normal,[(1,AV.ptr 0 0 0 0,none),(4,AV.int .i64 (ay .i64 i (Int.ofNat 1)),none)],a6 w ls ld zs zd::H)))) (Tr.ok (Ex.exit 2,[(1,AV.ptr 0 0 0 0,none),(4,AV.int .i64 i,none),(73,AV.bool false,some 1)],a6 w ls ld zs zd::H)):=by kernel_rfl
theorem N6 (n:Nat) (w:Int) (ls ld:Nat) (zs zd:Nat→Int) (H:ae) (i:Int):aH (bF n 20 130) (il aG n 0) (fY aJ 4) aK (part Try.f20 [1,1,1,1,0,1,0,0]) (hints [(1,AV.ptr 0 0 0 0),(4,AV.int IntKind.i64 i)]) (a6 w ls ld zs zd::H) =
 Tr.ite (bA i (Int.ofNat ls)) Tr.bad (Tr.ok (Ex.exit 2,[(1,AV.ptr 0 0 0 0,none),(4,AV.int .i64 i,none),(73,AV.bool false,some 1)],a6 w ls ld zs zd::H)):=by kernel_rfl
theorem Ih (n:Nat) (w:Int) (ls ld:Nat) (zs zd:Nat→Int) (H:ae) (j:Int):aH (bF (n+1) 20 130) (il aG n 1) aJ aK (part Try.f20 [1,1,1,1,1,0,1,0,0]) (hints [(1,AV.ptr 0 0 0 0),(6,AV.int IntKind.i64 j)]) (a6 w ls ld zs zd::H) =
 (fun (Z0:b6)=>((fun (Z1:a8)=>Tr.ite (bA j (Int.ofNat ld)) (Tr.req (br j ld) (Tr.req (bt (al 0 j 3) (aI ld 3)) (Tr.req (bt (au (al 0 j 3) 1) (aI ld 3)) (Tr.req (bt (au (al 0 j 3) 2) (aI ld 3)) (Tr.ite (dA (Int.ofNat 0) (zd (al 0 j 3))) (Tr.ite (aD (bA (zd (al 0 j 3)) (Int.ofNat ls))) (Tr.ok (Ex.ret,Z1,Z0::H)) (Tr.ite (bA (zd (au (al 0 j 3) 1)) (Int.ofNat 1)) (Tr.ok (Ex.ret,Z1,Z0::H)) (Tr.ite (bA (zd (au (al 0 j 3) 2)) (zd (au (al 0 j 3) 1))) (Tr.ok (Ex.ret,Z1,Z0::H)) (Tr.ite (bA (Int.ofNat 10000) (zd (au (al 0 j 3) 2))) (Tr.ok (Ex.ret,Z1,Z0::H)) (Tr.ok (Ex.normal,[(1,AV.ptr 0 0 0 0,none),(6,AV.int .i64 (ay .i64 j (Int.ofNat 1)),none)],Z0::H)))))) (Tr.ok (Ex.ret,Z1,Z0::H))))))) (Tr.ok (Ex.exit 6,[(1,AV.ptr 0 0 0 0,none),(6,AV.int .i64 j,none),(96,AV.bool false,some 1)],a6 w ls ld zs zd::H))) [(2,AV.int .i64 (Int.ofNat 16),some 1)])) { lock:=false,bs:=[(0,aj.row (Row.G [AV.int .i64 w,aU 2 ls zs,aU 3 ld zd])),(0,aj.row (Row.I .i64 [zd (al 0 j 3),zd (au (al 0 j 3) 1),zd (au (al 0 j 3) 2)]))] }:=by kernel_rfl
theorem Py:av (aL Try.f20)=[(0,.loop (part Try.f20 [1,1,1,0,1,0,0])),(1,part Try.f20 [1,1,1,0,1,0,0,1,0,0]),(2,.loop (part Try.f20 [1,1,1,1,0,1,0,0])),(3,part Try.f20 [1,1,1,1,0,1,0,0,1,0,0]),(4,.loop (part Try.f20 [1,1,1,1,0,1,0,0,1,0,0,1,0,0])),(5,part Try.f20 [1,1,1,1,0,1,0,0,1,0,0,1,0,0,1,0,0]),(6,.loop (part Try.f20 [1,1,1,1,1,0,1,0,0])),(7,part Try.f20 [1,1,1,1,1,0,1,0,0,1,0,0])]:=by kernel_rfl
theorem LD:av (part Try.f20 [1,1,1,1,0,1,0,0])=[(3,part Try.f20 [1,1,1,1,0,1,0,0,1,0,0]),(4,.loop (part Try.f20 [1,1,1,1,0,1,0,0,1,0,0,1,0,0])),(5,part Try.f20 [1,1,1,1,0,1,0,0,1,0,0,1,0,0,1,0,0])]:=by kernel_rfl
section
variable (n:Nat) (w:Int) (ls ld:Nat) (zs zd:Nat→Int) (H:ae)
theorem Nr (h1:ls≤10) (x:dg) (hx:(Tr.ite (bD (kY w zs) ls) (Tr.ok (.ret,[(2,AV.int IntKind.i64 3,none)],a6 w ls ld zs zd::H)) (Tr.ok (.normal,hints [(1,AV.ptr 0 0 0 0),(3,AV.int IntKind.i64 (Int.ofNat ls)),(30,AV.bool false)],a6 w ls ld zs zd::H))).run=some x) :
 exec (bF n 20 130) (.block 0 (.loop (part Try.f20 [1,1,1,0,1,0,0]))) [(1,AV.ptr 0 0 0 0),(3,AV.int IntKind.i64 (Int.ofNat 0))] (a6 w ls ld zs zd::H)=some x.st:=by
 refine rp (bk n) (ah _ _) (ai _ _) 0 (fun j=>[(1,AV.ptr 0 0 0 0),(3,AV.int IntKind.i64 (Int.ofNat j))]) (fun _=>a6 w ls ld zs zd::H) ls (kY w zs)
  (fun j=>if j<ls then (.ret,[(2,AV.int IntKind.i64 3,some 1)],a6 w ls ld zs zd::H) else (.exit 0,hints [(1,AV.ptr 0 0 0 0),(3,AV.int IntKind.i64 (Int.ofNat ls))]++[(30,AV.bool false,some 1)],a6 w ls ld zs zd::H)) (by omega) (fun j hj hp=>?_) (fun j hj hp=>?_) ⟨?_,?_⟩ x ?_
 · refine ⟨hints [(1,AV.ptr 0 0 0 0),(3,AV.int IntKind.i64 (Int.ofNat (j+1)))],a6 w ls ld zs zd::H,?_,aw _,rfl⟩
   simp only[kY,Bool.or_eq_false_iff,decide_eq_false_iff_not] at hp
   rw[Ie]
   simp (disch:=omega) only[Tr.run_ite,Tr.b8,Tr.gp,cj,er,dW,dJ,l7,bT,bP,aR,decide_eq_true,decide_eq_false,cond_true,cond_false,Int.ofNat_eq_natCast,Int.toNat_natCast,Nat.zero_add,Int.natCast_one,lQ]
   rfl
 · rw[if_pos hj]
   refine ⟨?_,rfl⟩
   simp only[kY,Bool.or_eq_true,decide_eq_true_eq] at hp
   rw[Ie]
   by_cases e1:zs (j*2)<1
   · simp (disch:=omega) only[Tr.run_ite,Tr.b8,Tr.gp,cj,er,dW,dJ,l7,bT,bP,aR,decide_eq_true,decide_eq_false,cond_true,cond_false,Int.ofNat_eq_natCast,Int.toNat_natCast,Nat.zero_add];rfl
   · by_cases e2:w≤zs (j*2)
     · simp (disch:=omega) only[Tr.run_ite,Tr.b8,Tr.gp,cj,er,dW,dJ,l7,bT,bP,aR,decide_eq_true,decide_eq_false,cond_true,cond_false,Int.ofNat_eq_natCast,Int.toNat_natCast,Nat.zero_add];rfl
     · by_cases e3:zs (j*2+1)<0
       · simp (disch:=omega) only[Tr.run_ite,Tr.b8,Tr.gp,cj,er,dW,dJ,l7,bT,bP,aR,decide_eq_true,decide_eq_false,cond_true,cond_false,Int.ofNat_eq_natCast,Int.toNat_natCast,Nat.zero_add];rfl
       · simp (disch:=omega) only[Tr.run_ite,Tr.b8,Tr.gp,cj,er,dW,dJ,l7,bT,bP,aR,decide_eq_true,decide_eq_false,cond_true,cond_false,Int.ofNat_eq_natCast,Int.toNat_natCast,Nat.zero_add];rfl
 · rw[if_neg (by omega),Ie]
   simp (disch:=omega) only[Tr.run_ite,cj,Int.ofNat_eq_natCast,decide_eq_false,cond_false,Tr.gp]
   rfl
 · rw[if_neg (by omega)]
 · rcases Tr.bH hx with ⟨hc,hx⟩ | ⟨hc,hx⟩
   · have:=eN hc
     exact .inl ⟨this,by rw[if_pos this,← Tr.ab hx];rfl⟩
   · exact .inr ⟨eo hc,by rw[if_neg (by omega),← Tr.ab hx];rfl⟩
theorem Nt (h1:ls≤10) (i:Nat) (hi:i<ls) (x:dg) (hx:(Tr.ite (bD (qi zs i) i) (Tr.ok (.ret,[(2,AV.int IntKind.i64 15,none)],a6 w ls ld zs zd::H)) (Tr.ok (.normal,hints [(1,AV.ptr 0 0 0 0),(4,AV.int IntKind.i64 (Int.ofNat i)),(5,AV.int IntKind.i64 (Int.ofNat i)),(78,AV.bool false)],a6 w ls ld zs zd::H))).run=some x) :
 exec (bF n 20 130) (.block 4 (.loop (part Try.f20 [1,1,1,1,0,1,0,0,1,0,0,1,0,0]))) [(1,AV.ptr 0 0 0 0),(4,AV.int IntKind.i64 (Int.ofNat i)),(5,AV.int IntKind.i64 (Int.ofNat 0))] (a6 w ls ld zs zd::H)=some x.st:=by
 refine rp (bk n) (ah _ _) (ai _ _) 4 (fun j=>[(1,AV.ptr 0 0 0 0),(4,AV.int IntKind.i64 (Int.ofNat i)),(5,AV.int IntKind.i64 (Int.ofNat j))]) (fun _=>a6 w ls ld zs zd::H) i (qi zs i)
  (fun j=>if j<i then (.ret,[(2,AV.int IntKind.i64 15,some 1)],a6 w ls ld zs zd::H) else (.exit 4,hints [(1,AV.ptr 0 0 0 0),(4,AV.int IntKind.i64 (Int.ofNat i)),(5,AV.int IntKind.i64 (Int.ofNat i))]++[(78,AV.bool false,some 1)],a6 w ls ld zs zd::H)) (by omega) (fun j hj hp=>?_) (fun j hj hp=>?_) ⟨?_,?_⟩ x ?_
 · refine ⟨hints [(1,AV.ptr 0 0 0 0),(4,AV.int IntKind.i64 (Int.ofNat i)),(5,AV.int IntKind.i64 (Int.ofNat (j+1)))],a6 w ls ld zs zd::H,?_,aw _,rfl⟩
   rw[Ig]
   simp (disch:=omega) only[nX,nS,bY]
   simp only[qi] at hp
   rw[hp]
   rfl
 · rw[if_pos hj]
   refine ⟨?_,rfl⟩
   rw[Ig]
   simp (disch:=omega) only[nX,nS,bY]
   simp only[qi] at hp
   rw[hp]
   rfl
 · rw[if_neg (by omega),Ig]
   simp (disch:=omega) only[nX,nS,bY]
   rfl
 · rw[if_neg (by omega)]
 · rcases Tr.bH hx with ⟨hc,hx⟩ | ⟨hc,hx⟩
   · have:=eN hc
     exact .inl ⟨this,by rw[if_pos this,← Tr.ab hx];rfl⟩
   · exact .inr ⟨eo hc,by rw[if_neg (by omega),← Tr.ab hx];rfl⟩
theorem Ns (h1:ls≤10) (x:dg) (hx:(Tr.ite (bD (fun i=>bD (qi zs i) i) ls) (Tr.ok (.ret,[(2,AV.int IntKind.i64 15,none)],a6 w ls ld zs zd::H)) (Tr.ok (.normal,hints [(1,AV.ptr 0 0 0 0),(4,AV.int IntKind.i64 (Int.ofNat ls)),(73,AV.bool false)],a6 w ls ld zs zd::H))).run=some x) :
 exec (bF n 20 130) (.block 2 (.loop (part Try.f20 [1,1,1,1,0,1,0,0]))) [(1,AV.ptr 0 0 0 0),(4,AV.int IntKind.i64 (Int.ofNat 0))] (a6 w ls ld zs zd::H)=some x.st:=by
 have hB:∀ i:Nat,i<ls→iI.Ok _ (bF n 20 130) (part Try.f20 [1,1,1,1,0,1,0,0]):=fun i hi=>bf (ah _ _) (id0:=4) (B:=.loop (part Try.f20 [1,1,1,1,0,1,0,0,1,0,0,1,0,0])) (fun b hb=>by rw[LD] at hb;simpa using hb) (fun x hx=>Nt n w ls ld zs zd H h1 i hi x hx)
 have step:∀ j,j<ls→∀ y,_→exec (bF n 20 130) (part Try.f20 [1,1,1,1,0,1,0,0]) [(1,AV.ptr 0 0 0 0),(4,AV.int IntKind.i64 (Int.ofNat j))] (a6 w ls ld zs zd::H)=some (dg.st y):=fun j hj y hy=>rf (N5 n w ls ld zs zd H (Int.ofNat j) (bD (qi zs j) j)) (bk n) (hB j hj) (ai _ _) (x:=y) hy
 refine Jt 2 (fun j=>[(1,AV.ptr 0 0 0 0),(4,AV.int IntKind.i64 (Int.ofNat j))]) (fun _=>a6 w ls ld zs zd::H) ls (fun i=>bD (qi zs i) i)
  (fun j=>if j<ls then (.ret,[(2,AV.int IntKind.i64 15,none)],a6 w ls ld zs zd::H) else (.exit 2,hints [(1,AV.ptr 0 0 0 0),(4,AV.int IntKind.i64 (Int.ofNat ls))]++[(73,AV.bool false,some 1)],a6 w ls ld zs zd::H)) (by omega) (fun j hj hp=>?_) (fun j hj hp=>?_) ⟨?_,?_⟩ x ?_
 · refine ⟨_,_,step j hj (.normal,hints [(1,AV.ptr 0 0 0 0),(4,AV.int IntKind.i64 (Int.ofNat (j+1)))],a6 w ls ld zs zd::H) ?_,rfl,rfl⟩
   rw[Tr.run_ite,cj,decide_eq_true (by simpa using hj),cond_true,Tr.bc ⟨rfl,rfl⟩,hp]
   simp (disch:=omega) only[nX,nS,bY]
   rfl
 · rw[if_pos hj]
   refine ⟨step j hj (.ret,[(2,AV.int IntKind.i64 15,none)],a6 w ls ld zs zd::H) ?_,rfl⟩
   rw[Tr.run_ite,cj,decide_eq_true (by simpa using hj),cond_true,Tr.bc ⟨rfl,rfl⟩,hp]
   rfl
 · rw[if_neg (by omega)]
   refine rf (N6 n w ls ld zs zd H (Int.ofNat ls)) (bk n) (cN (ah _ _) 4) (ai _ _) ?_
   simp (disch:=omega) only[nX,nS,bY]
   rfl
 · rw[if_neg (by omega)]
 · rcases Tr.bH hx with ⟨hc,hx⟩ | ⟨hc,hx⟩
   · have:=eN hc
     exact .inl ⟨this,by rw[if_pos this,← Tr.ab hx]⟩
   · exact .inr ⟨eo hc,by rw[if_neg (by omega),← Tr.ab hx];rfl⟩
theorem Nu (h1:ld≤40) (x:dg) (hx:(Tr.ite (bD (fF ls zd) ld) (Tr.ok (.ret,[(2,AV.int IntKind.i64 16,none)],Lt w ls ld zs zd (zd (fN (fF ls zd) ld 0*3)) (zd (fN (fF ls zd) ld 0*3+1)) (zd (fN (fF ls zd) ld 0*3+2))::H)) (Tr.ok (.normal,hints [(1,AV.ptr 0 0 0 0),(6,AV.int IntKind.i64 (Int.ofNat ld)),(96,AV.bool false)],a6 w ls ld zs zd::H))).run=some x) :
 exec (bF (n+1) 20 130) (.block 6 (.loop (part Try.f20 [1,1,1,1,1,0,1,0,0]))) [(1,AV.ptr 0 0 0 0),(6,AV.int IntKind.i64 (Int.ofNat 0))] (a6 w ls ld zs zd::H)=some x.st:=by
 refine rp (bU n 1) (ah _ _) (ai _ _) 6 (fun j=>[(1,AV.ptr 0 0 0 0),(6,AV.int IntKind.i64 (Int.ofNat j))]) (fun _=>a6 w ls ld zs zd::H) ld (fF ls zd)
  (fun j=>if j<ld then (.ret,[(2,AV.int IntKind.i64 16,some 1)],Lt w ls ld zs zd (zd (j*3)) (zd (j*3+1)) (zd (j*3+2))::H) else (.exit 6,hints [(1,AV.ptr 0 0 0 0),(6,AV.int IntKind.i64 (Int.ofNat ld))]++[(96,AV.bool false,some 1)],a6 w ls ld zs zd::H)) (by omega) (fun j hj hp=>?_) (fun j hj hp=>?_) ⟨?_,?_⟩ x ?_
 · refine ⟨hints [(1,AV.ptr 0 0 0 0),(6,AV.int IntKind.i64 (Int.ofNat (j+1)))],Lt w ls ld zs zd (zd (j*3)) (zd (j*3+1)) (zd (j*3+2))::H,?_,aw _,rfl⟩
   simp only[fF,Bool.or_eq_false_iff,decide_eq_false_iff_not] at hp
   rw[Ih]
   simp (disch:=omega) only[nX,nS,bY]
   rfl
 · rw[if_pos hj]
   refine ⟨?_,rfl⟩
   simp only[fF,Bool.or_eq_true,decide_eq_true_eq] at hp
   rw[Ih]
   by_cases e1:zd (j*3)<0<;>by_cases e2:(ls:Int)≤zd (j*3)<;>by_cases e3:zd (j*3+1)<1<;>by_cases e4:zd (j*3+2)<zd (j*3+1)<;>by_cases e5:10000<zd (j*3+2)<;>first
    | (exfalso;omega)
    | (simp (disch:=omega) only[nX,nS,bY];rfl)
 · rw[if_neg (by omega),Ih]
   simp (disch:=omega) only[nX,nS,bY]
   rfl
 · rw[if_neg (by omega)]
 · rcases Tr.bH hx with ⟨hc,hx⟩ | ⟨hc,hx⟩
   · have:=eN hc
     exact .inl ⟨this,by rw[if_pos this,← Tr.ab hx];rfl⟩
   · exact .inr ⟨eo hc,by rw[if_neg (by omega),← Tr.ab hx];rfl⟩
theorem RP (n:Nat) (w:Int) (ls ld:Nat) (zs zd:Nat→Int) (H:ae) (q1 q2 q3:Bool) (x y z:Int):aW Try.prog (cd (n+1)) 100000 20 Try.f20 (Kt.kt 20) (il aG n 1) (dc (dc (dc aJ 6 [(1,AV.ptr 0 0 0 0),(6,AV.int IntKind.i64 (Int.ofNat 0))] (a6 w ls ld zs zd::H) (Tr.ite q3 (Tr.ok (.ret,[(2,AV.int IntKind.i64 16,none)],Lt w ls ld zs zd x y z::H)) (Tr.ok (.normal,hints [(1,AV.ptr 0 0 0 0),(6,AV.int IntKind.i64 (Int.ofNat ld)),(96,AV.bool false)],a6 w ls ld zs zd::H)))) 2 [(1,AV.ptr 0 0 0 0),(4,AV.int IntKind.i64 (Int.ofNat 0))] (a6 w ls ld zs zd::H) (Tr.ite q2 (Tr.ok (.ret,[(2,AV.int IntKind.i64 15,none)],a6 w ls ld zs zd::H)) (Tr.ok (.normal,hints [(1,AV.ptr 0 0 0 0),(4,AV.int IntKind.i64 (Int.ofNat ls)),(73,AV.bool false)],a6 w ls ld zs zd::H)))) 0 [(1,AV.ptr 0 0 0 0),(3,AV.int IntKind.i64 (Int.ofNat 0))] (a6 w ls ld zs zd::H) (Tr.ite q1 (Tr.ok (.ret,[(2,AV.int IntKind.i64 3,none)],a6 w ls ld zs zd::H)) (Tr.ok (.normal,hints [(1,AV.ptr 0 0 0 0),(3,AV.int IntKind.i64 (Int.ofNat ls)),(30,AV.bool false)],a6 w ls ld zs zd::H)))) aK [(aa w ls zs ld zd,none)] H =
 Tr.ite (bA w (Int.ofNat 2)) (Tr.ok ((AV.int .i64 (Int.ofNat 2),some 1),H)) (Tr.ite (bA (Int.ofNat 1000) w) (Tr.ok ((AV.int .i64 (Int.ofNat 2),some 1),H)) (Tr.ite (bA (Int.ofNat 10) (Int.ofNat ls)) (Tr.ok ((AV.int .i64 (Int.ofNat 6),some 1),H)) (Tr.ite (bA (Int.ofNat 40) (Int.ofNat ld)) (Tr.ok ((AV.int .i64 (Int.ofNat 6),some 1),H)) (Tr.reqP ([(1,AV.ptr 0 0 0 0),(3,AV.int .i64 (Int.ofNat 0))]=[(1,AV.ptr 0 0 0 0),(3,AV.int .i64 (Int.ofNat 0))]∧a6 w ls ld zs zd::H=a6 w ls ld zs zd::H) (Tr.ite q1 (Tr.ok ((AV.int .i64 (Int.ofNat 3),none),H)) (Tr.reqP ([(1,AV.ptr 0 0 0 0),(4,AV.int .i64 (Int.ofNat 0))]=[(1,AV.ptr 0 0 0 0),(4,AV.int .i64 (Int.ofNat 0))]∧a6 w ls ld zs zd::H=a6 w ls ld zs zd::H) (Tr.ite q2 (Tr.ok ((AV.int .i64 (Int.ofNat 15),none),H)) (Tr.reqP ([(1,AV.ptr 0 0 0 0),(6,AV.int .i64 (Int.ofNat 0))]=[(1,AV.ptr 0 0 0 0),(6,AV.int .i64 (Int.ofNat 0))]∧a6 w ls ld zs zd::H=a6 w ls ld zs zd::H) (Tr.ite q3 (Tr.ok ((AV.int .i64 (Int.ofNat 16),none),H)) (Tr.ok ((AV.int .i64 (Int.ofNat 0),some 1),H))))))))))):=by kernel_rfl
theorem N3:∀ id b,(id,b) ∈ av (aL Try.f20)→(id=0→b=.loop (part Try.f20 [1,1,1,0,1,0,0]))∧(id=2→b=.loop (part Try.f20 [1,1,1,1,0,1,0,0]))∧(id=6→b=.loop (part Try.f20 [1,1,1,1,1,0,1,0,0])):=by
 intro id b hb
 rw[Py] at hb
 simp only[List.mem_cons,Prod.mk.injEq,List.not_mem_nil,or_false] at hb
 rcases hb with ⟨rfl,rfl⟩ | ⟨rfl,rfl⟩ | ⟨rfl,rfl⟩ | ⟨rfl,rfl⟩ | ⟨rfl,rfl⟩ | ⟨rfl,rfl⟩ | ⟨rfl,rfl⟩ | ⟨rfl,rfl⟩<;>refine ⟨fun h=>?_,fun h=>?_,fun h=>?_⟩<;>first | rfl | exact absurd h (by decide)
theorem v20 (n:Nat) (w:Int) (ls ld:Nat) (zs zd:Nat→Int) (H:ae):aW Try.prog (cd (n+1)) 100000 20 Try.f20 (Kt.kt 20) (il aG n 1) (fY (fY (fY aJ 6) 2) 0) aK [(aa w ls zs ld zd,none)] H =
 Tr.ite (bA w (Int.ofNat 2)) (Tr.ok ((AV.int .i64 (Int.ofNat 2),some 1),H)) (Tr.ite (bA (Int.ofNat 1000) w) (Tr.ok ((AV.int .i64 (Int.ofNat 2),some 1),H)) (Tr.ite (bA (Int.ofNat 10) (Int.ofNat ls)) (Tr.ok ((AV.int .i64 (Int.ofNat 6),some 1),H)) (Tr.ite (bA (Int.ofNat 40) (Int.ofNat ld)) (Tr.ok ((AV.int .i64 (Int.ofNat 6),some 1),H)) Tr.bad))):=by kernel_rfl
theorem I8:cd (n+2) (.fn 20) [aa w ls zs ld zd] H=some (.int .i64 (bN w ls ld zs zd),H):=by
 have out:(¬ ls≤10∨¬ ld≤40)→cd (n+2) (.fn 20) [aa w ls zs ld zd] H=some (.int .i64 (bN w ls ld zs zd),H):=by
  intro ho
  refine gw (n:=n+1) Try.func20 rfl rfl rfl (v20 n w ls ld zs zd H) (bU n 1) (cN (cN (cN (ah _ _) 6) 2) 0) (ai _ _) (y:=((.int .i64 (bN w ls ld zs zd),some 1),H)) ?_
  by_cases e1:w<2<;>by_cases e2:1000<w<;>by_cases e3:10<ls<;>by_cases e4:40<ld<;>first
   | (exfalso;omega)
   | (simp (disch:=omega) only[nX,nS,bY,bN,e1,e2,e3,e4,decide_true,decide_false];rfl)
 by_cases hls:ls≤10
 · by_cases hld:ld≤40
   · refine gw (n:=n+1) Try.func20 rfl rfl rfl (RP n w ls ld zs zd H (bD (kY w zs) ls) (bD (fun i=>bD (qi zs i) i) ls) (bD (fF ls zd) ld) (zd (fN (fF ls zd) ld 0*3)) (zd (fN (fF ls zd) ld 0*3+1)) (zd (fN (fF ls zd) ld 0*3+2))) (bU n 1)
      (bf (bf (bf (ah _ _) (fun b hb=>(N3 _ b hb).2.2 rfl) (fun x hx=>Nu n w ls ld zs zd H hld x hx)) (fun b hb=>(N3 _ b hb).2.1 rfl) (fun x hx=>Ns (n+1) w ls ld zs zd H hls x hx)) (fun b hb=>(N3 _ b hb).1 rfl) (fun x hx=>Nr (n+1) w ls ld zs zd H hls x hx)) (ai _ _) (y:=((.int .i64 (bN w ls ld zs zd),if w<2 then some 1 else if 1000<w then some 1 else if bD (kY w zs) ls then none else if bD (fun i=>bD (qi zs i) i) ls then none else if bD (fF ls zd) ld then none else some 1),H)) ?_
     have e3:¬ 10<ls:=by omega
     have e4:¬ 40<ld:=by omega
     by_cases e1:w<2
     · simp (disch:=omega) only[nX,nS,bY,bN,e1,decide_true,if_true]
       rfl
     · by_cases e2:1000<w
       · simp (disch:=omega) only[nX,nS,bY,bN,e1,e2,decide_true,decide_false,if_true,if_false]
         rfl
       · rw[Tr.run_ite,cj,decide_eq_false (by simpa using e1),cond_false,Tr.run_ite,cj,decide_eq_false (by simpa using e2),cond_false,Tr.run_ite,cj,decide_eq_false (by simp;omega),cond_false,Tr.run_ite,cj,decide_eq_false (by simp;omega),cond_false,Tr.bc ⟨rfl,rfl⟩]
         simp only[bN,e1,e2,e3,e4,decide_false,cond_false,if_false]
         cases bD (kY w zs) ls with
         | true=>rfl
         | false =>
           rw[Tr.run_ite,cond_false,Tr.bc (by simp)]
           cases bD (fun i=>bD (qi zs i) i) ls with
           | true=>rfl
           | false =>
             rw[Tr.run_ite,cond_false,Tr.bc (by simp)]
             cases bD (fF ls zd) ld<;>rfl
   · exact out (.inr hld)
 · exact out (.inl hls)
end
end Go.Eng
end
section
namespace Go.Eng
open Go.Proofs
set_option linter.unusedVariables false
set_option linter.unusedSimpArgs false
set_option maxRecDepth 100000
noncomputable def ry (s:Int):aO:=[(1,AV.nils),(2,.int .i64 s),(3,.ptr 0 0 0 0),(7,.int .i64 (Int.ofNat 0)),(8,.int .i64 (Int.ofNat 0))]
def Mp (B:AV) (side:Prop) (ev:Bool→AV):List AV→Option (Prop×AV)
 | [b,.bool h]=>some (b=B∧side,ev h)
 | _=>none
def vB (B:AV) (e:Int):List AV→Option (Prop×AV)
 | [b]=>some (b=B,.int .i64 e)
 | _=>none
theorem Ob (n:Nat) (w:Int) (ls:Nat) (zs zd:Nat→Int) (H:ae) (s:Int):aH (bF n 45 31) (il aG n 0) aJ aK (part Try.f45 [1,1,0,1,0,0]) (hints (ry s)) (a6 w ls 0 zs zd::H) =
 (fun (Z0:b6)=>Tr.ite (bA (Int.ofNat 0) (Int.ofNat 0)) (Tr.req (br (Int.ofNat 0) 0) (Tr.req (bt (al 0 (Int.ofNat 0) 3) (aI 0 3)) (Tr.ite (aF (zd (al 0 (Int.ofNat 0) 3)) s) Tr.bad (Tr.ok (Ex.normal,[(1,AV.nils,none),(2,AV.int .i64 s,none),(3,AV.ptr 0 0 0 0,none),(7,AV.int .i64 (Int.ofNat 0),none),(8,AV.int .i64 (ay .i64 (Int.ofNat 0) (Int.ofNat 1)),none)],Z0::H))))) (Tr.ok (Ex.exit 0,[(1,AV.nils,none),(2,AV.int .i64 s,none),(3,AV.ptr 0 0 0 0,none),(7,AV.int .i64 (Int.ofNat 0),none),(8,AV.int .i64 (Int.ofNat 0),none),(13,AV.bool false,some 1)],Z0::H))) { lock:=false,bs:=[(0,aj.row (Row.G [AV.int .i64 w,aU 2 ls zs,AV.slcT none (Row.M [aC.arr .i64 zd (aI 0 3)]) 3 0 false]))] }:=by kernel_rfl
theorem OS (n:Nat) (w:Int) (ls:Nat) (zs zd:Nat→Int) (H:ae) (s:Int):aW Try.prog (cd n) 100000 45 Try.f45 (Kt.kt 45) (il aG n 0) (dc aJ 0 (ry s) (a6 w ls 0 zs zd::H) (.ok (.normal,hints (ry s)++[(13,AV.bool false,none)],a6 w ls 0 zs zd::H))) aK [(aa w ls zs 0 zd,none),(.nils,none),(.int .i64 s,none)] H =
 (fun (Z0:b6)=>((fun (Z1:aO)=>Tr.reqP (Z1=Z1∧Z0::H=Z0::H) (Tr.ok ((AV.int .i64 (Int.ofNat 0),none),H))) [(1,AV.nils),(2,AV.int .i64 s),(3,AV.ptr 0 0 0 0),(7,AV.int .i64 (Int.ofNat 0)),(8,AV.int .i64 (Int.ofNat 0))])) { lock:=false,bs:=[(0,aj.row (Row.G [AV.int .i64 w,aU 2 ls zs,AV.slcT none (Row.M [aC.arr .i64 zd (aI 0 3)]) 3 0 false]))] }:=by kernel_rfl
section
variable (n:Nat) (w:Int) (ls ld:Nat) (zs zd:Nat→Int) (H:ae) (s:Int)
theorem NI:exec (bF n 45 31) (.block 0 (.loop (part Try.f45 [1,1,0,1,0,0]))) (ry s) (a6 w ls 0 zs zd::H)=some (.normal,ry s++[(13,AV.bool false)],a6 w ls 0 zs zd::H):=by
 refine G7 (bk n) (ah _ _) (ai _ _) 0 (fun _=>ry s) (fun _=>a6 w ls 0 zs zd::H) 0 (.exit 0,hints (ry s)++[(13,AV.bool false,some 1)],a6 w ls 0 zs zd::H) (by omega) (fun j hj=>absurd hj (by omega)) ⟨?_,rfl⟩
 rw[Ob]
 simp (disch:=omega) only[nX,nS,bY]
 rfl
theorem L3:cd (n+1) (.fn 45) [aa w ls zs 0 zd,.nils,.int .i64 s] H=some (.int .i64 0,H):=by
 refine gw Try.func45 rfl rfl rfl (OS n w ls zs zd H s) (bk n) (bf (ah _ _) (B:=.loop (part Try.f45 [1,1,0,1,0,0])) (fun b hb=>by rw[Pd] at hb;simpa using hb) (fun x hx=>?_)) (ai _ _) (y:=((.int .i64 0,none),H)) (Tr.bc ⟨rfl,rfl⟩)
 rw[← Tr.ab hx]
 exact NI n w ls zs zd H s
def lN (h:Bool) (zd:Nat→Int) (ld:Nat) (s:Int):Int:=im zd (upto (jb h zd) ld) s ld
def Ku (zd:Nat→Int) (ld:Nat) (t:AV) (s:Int):Int :=
 match t with
 | .slcT _ (.M [.arr _ z _]) _ _ _=>im zd z s ld
 | _=>0
theorem Ai (h:Bool):Ku zd ld (ra h zd ld) s=lN h zd ld s:=by
 cases ld<;>rfl
theorem Ja (h:Bool) (h2:ld<2 ^ 16):cd (n+1) (.fn 45) [aa w ls zs ld zd,ra h zd ld,.int .i64 s] H=some (.int .i64 (lN h zd ld s),H):=by
 cases ld with
 | zero=>exact L3 n w ls zs zd H s
 | succ m=>exact Pg n w ls (m+1) (m+1) zs zd (upto (jb h zd) (m+1)) H s (Nat.le_refl _) h2
theorem za (h:bN w ls ld zs zd=0):ls≤10∧ld≤40:=by
 unfold bN at h
 by_cases e1:w<2<;>by_cases e2:1000<w<;>by_cases e3:10<ls<;>by_cases e4:40<ld<;>simp only[e1,e2,e3,e4,decide_true,decide_false,cond_true,cond_false] at h<;>first | omega | (simp at h)
theorem D6 (k:Nat) (t:lR) (ht:t.Ok (cd (n+2+k))):(b7 t 20 (vB (aa w ls zs ld zd) (bN w ls ld zs zd))).Ok (cd (n+2+k)):=by
 refine bI ht (fun args p v h hp H=>?_)
 unfold vB at h
 split at h
 · simp only[nP] at h
   obtain ⟨rfl,rfl⟩:=h
   rw[hp,show n+2+k=n+k+2 by omega]
   exact I8 (n+k) w ls ld zs zd H
 · cases h
end
end Go.Eng
end
section
namespace Go.Eng
open Go.Proofs
set_option linter.unusedVariables false
set_option linter.unusedSimpArgs false
set_option maxRecDepth 100000
noncomputable def s7 (w:Int) (ls ld:Nat) (zs zd:Nat→Int):b6:=⟨false,[(0,.row (.G [.int .i64 w,aU 2 ls zs,aU 3 ld zd])),(0,.row (.I .i64 [w]))]⟩
def af:b6:=⟨false,[]⟩
noncomputable def N4 (m:Nat) (z:Nat→Int) (full:Bool):AV:=.slcT none (.M [.arr .i64 z (aI m 2)]) 2 m full
noncomputable def wa (ls:Nat) (zs:Nat→Int) (j:Int):aO:=[(0,aU 2 ls zs),(1,AV.fn (Fn.func 62) [] [AV.ptr 2 0 0 0]),(7,AV.int .i64 (Int.ofNat ls)),(8,AV.int .i64 j)]
noncomputable def wc (ld:Nat) (zd:Nat→Int) (j:Int):aO:=[(0,aU 3 ld zd),(1,AV.fn (Fn.func 64) [] [AV.ptr 2 0 0 0]),(7,AV.int .i64 (Int.ofNat ld)),(8,AV.int .i64 j)]
noncomputable def sK (w:Int) (ls ld:Nat) (zs zd:Nat→Int) (H:ae):ae:=af::af::s7 w ls ld zs zd::H
noncomputable def wb (m:Nat) (z:Nat→Int) (full:Bool) (j:Int):aO:=[(0,N4 m z full),(3,.ptr 0 0 0 0),(7,AV.int .i64 (Int.ofNat m)),(8,AV.int .i64 j)]
noncomputable def rQ (x y:Int):b6:=⟨false,[(0,.row (.I .i64 [x,y]))]⟩
theorem t96 (n:Nat) (w:Int) (ls ld:Nat) (zs zd:Nat→Int) (H:ae) (j:Int):aH (bF (n+5) 96 19) (il aG n 5) aJ aK (part Try.f96 [1,0,1,0,0]) (hints (wa ls zs j)) (sK w ls ld zs zd H) =
 (fun (Z0:b6)=>Tr.ite (bA j (Int.ofNat ls)) (Tr.req (br j ls) (Tr.req (bt (al 0 j 2) (aI ls 2)) (Tr.req (bt (au (al 0 j 2) 1) (aI ls 2)) (Tr.req (br (Int.ofNat 0) 1) (Tr.ite (bA (zs (al 0 j 2)) (Int.ofNat 1)) (Tr.ok (Ex.ret,[(4,AV.int .i64 j,none)],{ lock:=false,bs:=[] } :: { lock:=false,bs:=[] } :: Z0::H)) (Tr.ite (bA (az .i64 w (Int.ofNat 1)) (zs (al 0 j 2))) (Tr.ok (Ex.ret,[(4,AV.int .i64 j,none)],{ lock:=false,bs:=[] } :: { lock:=false,bs:=[] } :: Z0::H)) (Tr.req (br (Int.ofNat 0) 1) (Tr.ite (bA (zs (au (al 0 j 2) 1)) (Int.ofNat 0)) (Tr.ok (Ex.ret,[(4,AV.int .i64 j,none)],{ lock:=false,bs:=[] } :: { lock:=false,bs:=[] } :: Z0::H)) (Tr.ite (bA (Int.ofNat 1000) (zs (au (al 0 j 2) 1))) (Tr.ok (Ex.ret,[(4,AV.int .i64 j,none)],{ lock:=false,bs:=[] } :: { lock:=false,bs:=[] } :: Z0::H)) (Tr.ok (Ex.normal,[(0,aU 2 ls zs,none),(1,AV.fn (Fn.func 62) [] [AV.ptr 2 0 0 0],none),(7,AV.int .i64 (Int.ofNat ls),none),(8,AV.int .i64 (ay .i64 j (Int.ofNat 1)),none)],{ lock:=false,bs:=[] } :: { lock:=false,bs:=[] } :: Z0::H))))))))))) (Tr.ok (Ex.exit 0,[(0,aU 2 ls zs,none),(1,AV.fn (Fn.func 62) [] [AV.ptr 2 0 0 0],none),(7,AV.int .i64 (Int.ofNat ls),none),(8,AV.int .i64 j,none),(9,AV.bool false,some 1)],{ lock:=false,bs:=[] } :: { lock:=false,bs:=[] } :: Z0::H))) { lock:=false,bs:=[(0,aj.row (Row.G [AV.int .i64 w,aU 2 ls zs,aU 3 ld zd])),(0,aj.row (Row.I .i64 [w]))] }:=by kernel_rfl
theorem t98 (n:Nat) (w:Int) (ls ld:Nat) (zs zd:Nat→Int) (H:ae) (j:Int):aH (bF (n+5) 98 19) (il aG n 5) aJ aK (part Try.f98 [1,0,1,0,0]) (hints (wc ld zd j)) (sK w ls ld zs zd H) =
 (fun (Z0:b6)=>Tr.ite (bA j (Int.ofNat ld)) (Tr.req (br j ld) (Tr.req (bt (al 0 j 3) (aI ld 3)) (Tr.req (bt (au (al 0 j 3) 1) (aI ld 3)) (Tr.req (bt (au (al 0 j 3) 2) (aI ld 3)) (Tr.ite (bA (zd (al 0 j 3)) (Int.ofNat 0)) (Tr.ok (Ex.ret,[(4,AV.int .i64 j,none)],{ lock:=false,bs:=[] } :: { lock:=false,bs:=[] } :: Z0::H)) (Tr.ite (dA (Int.ofNat ls) (zd (al 0 j 3))) (Tr.ok (Ex.ret,[(4,AV.int .i64 j,none)],{ lock:=false,bs:=[] } :: { lock:=false,bs:=[] } :: Z0::H)) (Tr.ite (bA (zd (au (al 0 j 3) 2)) (zd (au (al 0 j 3) 1))) (Tr.ok (Ex.ret,[(4,AV.int .i64 j,none)],{ lock:=false,bs:=[] } :: { lock:=false,bs:=[] } :: Z0::H)) (Tr.req (br (Int.ofNat 0) 2) (Tr.ite (bA (zd (au (al 0 j 3) 1)) (Int.ofNat 1)) (Tr.ok (Ex.ret,[(4,AV.int .i64 j,none)],{ lock:=false,bs:=[] } :: { lock:=false,bs:=[] } :: Z0::H)) (Tr.ite (bA (Int.ofNat 10000) (zd (au (al 0 j 3) 1))) (Tr.ok (Ex.ret,[(4,AV.int .i64 j,none)],{ lock:=false,bs:=[] } :: { lock:=false,bs:=[] } :: Z0::H)) (Tr.req (br (Int.ofNat 1) 2) (Tr.ite (bA (zd (au (al 0 j 3) 2)) (Int.ofNat 1)) (Tr.ok (Ex.ret,[(4,AV.int .i64 j,none)],{ lock:=false,bs:=[] } :: { lock:=false,bs:=[] } :: Z0::H)) (Tr.ite (bA (Int.ofNat 10000) (zd (au (al 0 j 3) 2))) (Tr.ok (Ex.ret,[(4,AV.int .i64 j,none)],{ lock:=false,bs:=[] } :: { lock:=false,bs:=[] } :: Z0::H)) (Tr.ok (Ex.normal,[(0,aU 3 ld zd,none),(1,AV.fn (Fn.func 64) [] [AV.ptr 2 0 0 0],none),(7,AV.int .i64 (Int.ofNat ld),none),(8,AV.int .i64 (ay .i64 j (Int.ofNat 1)),none)],{ lock:=false,bs:=[] } :: { lock:=false,bs:=[] } :: Z0::H))))))))))))))) (Tr.ok (Ex.exit 0,[(0,aU 3 ld zd,none),(1,AV.fn (Fn.func 64) [] [AV.ptr 2 0 0 0],none),(7,AV.int .i64 (Int.ofNat ld),none),(8,AV.int .i64 j,none),(9,AV.bool false,some 1)],{ lock:=false,bs:=[] } :: { lock:=false,bs:=[] } :: Z0::H))) { lock:=false,bs:=[(0,aj.row (Row.G [AV.int .i64 w,aU 2 ls zs,aU 3 ld zd])),(0,aj.row (Row.I .i64 [w]))] }:=by kernel_rfl
theorem t97 (n:Nat) (m:Nat) (z:Nat→Int) (full:Bool) (x y:Int) (H:ae) (j:Int):aH (bF n 97 19) (il aG n 0) aJ aK (part Try.f97 [1,0,1,0,0]) (hints (wb m z full j)) (rQ x y::H) =
 (fun (Z0:b6)=>Tr.ite (bA j (Int.ofNat m)) (Tr.req (br j m) (Tr.req (bt (al 0 j 2) (aI m 2)) (Tr.req (bt (au (al 0 j 2) 1) (aI m 2)) (Tr.ite (cX (aF x (z (al 0 j 2))) (aF y (z (au (al 0 j 2) 1)))) (Tr.ok (Ex.ret,[(4,AV.int .i64 j,none)],Z0::H)) (Tr.ok (Ex.normal,[(0,AV.slcT none (Row.M [aC.arr .i64 z (aI m 2)]) 2 m full,none),(3,AV.ptr 0 0 0 0,none),(7,AV.int .i64 (Int.ofNat m),none),(8,AV.int .i64 (ay .i64 j (Int.ofNat 1)),none)],Z0::H)))))) (Tr.ok (Ex.exit 0,[(0,AV.slcT none (Row.M [aC.arr .i64 z (aI m 2)]) 2 m full,none),(3,AV.ptr 0 0 0 0,none),(7,AV.int .i64 (Int.ofNat m),none),(8,AV.int .i64 j,none),(9,AV.bool false,some 1)],Z0::H))) { lock:=false,bs:=[(0,aj.row (Row.I .i64 [x,y]))] }:=by kernel_rfl
def mL (w:Int) (zs:Nat→Int) (j:Nat):Bool:=decide (zs (j*2)<1) || (decide (w-1<zs (j*2)) || (decide (zs (j*2+1)<0) || decide (1000<zs (j*2+1))))
def mM (ls:Nat) (zd:Nat→Int) (j:Nat):Bool:=decide (zd (j*3)<0) || (decide ((ls:Int)≤zd (j*3)) || (decide (zd (j*3+2)<zd (j*3+1)) || (decide (zd (j*3+1)<1) || (decide (10000<zd (j*3+1)) || (decide (zd (j*3+2)<1) || decide (10000<zd (j*3+2)))))))
def zj (z:Nat→Int) (x y:Int) (j:Nat):Bool:=(x == z (j*2)) && (y == z (j*2+1))
section
variable (n:Nat) (w:Int) (ls ld:Nat) (zs zd:Nat→Int) (H:ae)
theorem Ry (h1:ls≤10) (hw:2≤w∧w≤1000) (x:dg) (hx:(Tr.ite (bD (mL w zs) ls) (Tr.ok (.ret,hints [(4,AV.int .i64 (Int.ofNat (fN (mL w zs) ls 0)))],sK w ls ld zs zd H)) (Tr.ok (.normal,hints (wa ls zs (Int.ofNat ls)++[(9,AV.bool false)]),sK w ls ld zs zd H))).run=some x) :
 exec (bF (n+5) 96 19) (.block 0 (.loop (part Try.f96 [1,0,1,0,0]))) (wa ls zs (Int.ofNat 0)) (sK w ls ld zs zd H)=some x.st:=by
 have hw1:IntKind.i64.wrap (w-1)=w-1:=Go.IntWalk.i64_in _ (by omega)
 refine rp (bU n 5) (ah _ _) (ai _ _) 0 (fun j=>wa ls zs (Int.ofNat j)) (fun _=>sK w ls ld zs zd H) ls (mL w zs)
  (fun j=>if j<ls then (.ret,hints [(4,AV.int .i64 (Int.ofNat j))],sK w ls ld zs zd H) else (.exit 0,hints (wa ls zs (Int.ofNat ls))++[(9,AV.bool false,some 1)],sK w ls ld zs zd H)) (by omega) (fun j hj hp=>?_) (fun j hj hp=>?_) ⟨?_,?_⟩ x ?_
 · refine ⟨hints (wa ls zs (Int.ofNat (j+1))),sK w ls ld zs zd H,?_,aw _,rfl⟩
   simp only[mL,Bool.or_eq_false_iff,decide_eq_false_iff_not] at hp
   rw[t96]
   simp (disch:=omega) only[nX,nS,bY,aQ,hw1]
   rfl
 · rw[if_pos hj]
   refine ⟨?_,rfl⟩
   simp only[mL,Bool.or_eq_true,decide_eq_true_eq] at hp
   rw[t96]
   by_cases e1:zs (j*2)<1<;>by_cases e2:w-1<zs (j*2)<;>by_cases e3:zs (j*2+1)<0<;>by_cases e4:1000<zs (j*2+1)<;>first
    | (exfalso;omega)
    | (simp (disch:=omega) only[nX,nS,bY,aQ,hw1];rfl)
 · rw[if_neg (by omega),t96]
   simp (disch:=omega) only[nX,nS,bY,aQ,hw1]
   rfl
 · rw[if_neg (by omega)]
 · rcases Tr.bH hx with ⟨hc,hx⟩ | ⟨hc,hx⟩
   · have:=eN hc
     exact .inl ⟨this,by rw[if_pos this,← Tr.ab hx]⟩
   · exact .inr ⟨eo hc,by rw[if_neg (by omega),← Tr.ab hx];rfl⟩
theorem RA (h1:ld≤40) (x:dg) (hx:(Tr.ite (bD (mM ls zd) ld) (Tr.ok (.ret,hints [(4,AV.int .i64 (Int.ofNat (fN (mM ls zd) ld 0)))],sK w ls ld zs zd H)) (Tr.ok (.normal,hints (wc ld zd (Int.ofNat ld)++[(9,AV.bool false)]),sK w ls ld zs zd H))).run=some x) :
 exec (bF (n+5) 98 19) (.block 0 (.loop (part Try.f98 [1,0,1,0,0]))) (wc ld zd (Int.ofNat 0)) (sK w ls ld zs zd H)=some x.st:=by
 refine rp (bU n 5) (ah _ _) (ai _ _) 0 (fun j=>wc ld zd (Int.ofNat j)) (fun _=>sK w ls ld zs zd H) ld (mM ls zd)
  (fun j=>if j<ld then (.ret,hints [(4,AV.int .i64 (Int.ofNat j))],sK w ls ld zs zd H) else (.exit 0,hints (wc ld zd (Int.ofNat ld))++[(9,AV.bool false,some 1)],sK w ls ld zs zd H)) (by omega) (fun j hj hp=>?_) (fun j hj hp=>?_) ⟨?_,?_⟩ x ?_
 · refine ⟨hints (wc ld zd (Int.ofNat (j+1))),sK w ls ld zs zd H,?_,aw _,rfl⟩
   simp only[mM,Bool.or_eq_false_iff,decide_eq_false_iff_not] at hp
   rw[t98]
   simp (disch:=omega) only[nX,nS,bY]
   rfl
 · rw[if_pos hj]
   refine ⟨?_,rfl⟩
   simp only[mM,Bool.or_eq_true,decide_eq_true_eq] at hp
   rw[t98]
   by_cases e1:zd (j*3)<0<;>by_cases e2:(ls:Int)≤zd (j*3)<;>by_cases e3:zd (j*3+2)<zd (j*3+1)<;>by_cases e4:zd (j*3+1)<1<;>by_cases e5:10000<zd (j*3+1)<;>by_cases e6:zd (j*3+2)<1<;>by_cases e7:10000<zd (j*3+2)<;>first
    | (exfalso;omega)
    | (simp (disch:=omega) only[nX,nS,bY];rfl)
 · rw[if_neg (by omega),t98]
   simp (disch:=omega) only[nX,nS,bY]
   rfl
 · rw[if_neg (by omega)]
 · rcases Tr.bH hx with ⟨hc,hx⟩ | ⟨hc,hx⟩
   · have:=eN hc
     exact .inl ⟨this,by rw[if_pos this,← Tr.ab hx]⟩
   · exact .inr ⟨eo hc,by rw[if_neg (by omega),← Tr.ab hx];rfl⟩
theorem Rz (m:Nat) (z:Nat→Int) (full:Bool) (x' y':Int) (h1:m≤1000) (x:dg) (hx:(Tr.ite (bD (zj z x' y') m) (Tr.ok (.ret,hints [(4,AV.int .i64 (Int.ofNat (fN (zj z x' y') m 0)))],rQ x' y'::H)) (Tr.ok (.normal,hints (wb m z full (Int.ofNat m)++[(9,AV.bool false)]),rQ x' y'::H))).run=some x) :
 exec (bF (n) 97 19) (.block 0 (.loop (part Try.f97 [1,0,1,0,0]))) (wb m z full (Int.ofNat 0)) (rQ x' y'::H)=some x.st:=by
 refine rp (bk n) (ah _ _) (ai _ _) 0 (fun j=>wb m z full (Int.ofNat j)) (fun _=>rQ x' y'::H) m (zj z x' y')
  (fun j=>if j<m then (.ret,hints [(4,AV.int .i64 (Int.ofNat j))],rQ x' y'::H) else (.exit 0,hints (wb m z full (Int.ofNat m))++[(9,AV.bool false,some 1)],rQ x' y'::H)) (by omega) (fun j hj hp=>?_) (fun j hj hp=>?_) ⟨?_,?_⟩ x ?_
 · refine ⟨hints (wb m z full (Int.ofNat (j+1))),rQ x' y'::H,?_,aw _,rfl⟩
   rw[t97]
   simp (disch:=omega) only[nX,nS,bY]
   simp only[zj] at hp
   rw[hp]
   rfl
 · rw[if_pos hj]
   refine ⟨?_,rfl⟩
   rw[t97]
   simp (disch:=omega) only[nX,nS,bY]
   simp only[zj] at hp
   rw[hp]
   rfl
 · rw[if_neg (by omega),t97]
   simp (disch:=omega) only[nX,nS,bY]
   rfl
 · rw[if_neg (by omega)]
 · rcases Tr.bH hx with ⟨hc,hx⟩ | ⟨hc,hx⟩
   · have:=eN hc
     exact .inl ⟨this,by rw[if_pos this,← Tr.ab hx]⟩
   · exact .inr ⟨eo hc,by rw[if_neg (by omega),← Tr.ab hx];rfl⟩
end
end Go.Eng
end
