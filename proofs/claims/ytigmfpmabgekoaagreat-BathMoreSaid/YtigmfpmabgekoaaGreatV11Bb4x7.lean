/- Bath: the closure of best; the fewest baths. -/
import Derived.Test.YtigmfpmabgekoaaGreatV11Bb3
set_option linter.unusedVariables false
set_option linter.unusedSimpArgs false
set_option maxRecDepth 100000
section
namespace Go.Eng
open Go.Proofs
noncomputable def jW (L:AV) (B A:AV):av:=[(1,L),(2,.ptr 0 0 0 0),(6,B),(7,A)]
noncomputable def Jr (m:Nat) (g:Nat→Int) (args:List AV) (H:aa):Tr (AV×aa) :=
 match H with
 | ⟨false,bs⟩::r=>.reqP (args=[cI m g false]) (.ok (.slc 0 (iA bs) 0 0 1 m none,⟨false,bs++[(0,.row (.M [.arr .i64 g m]))]⟩::r))
 | _=>.bad
noncomputable def hB (y:Nat→Int) (i:Int):Int:=y (af (af (ar 0 i 7) 5) 1)
noncomputable def l6 (l:Nat) (y:Nat→Int):bn:=⟨false,[eN l y]⟩
noncomputable def uD (l k k2 v2:Nat) (y b a:Nat→Int):bn:=⟨false,[eN l y,(k2,.row (.M [.arr .i64 a k])),(v2,.row (.M [.arr .i64 b k]))]⟩
noncomputable def Lw (l m:Nat) (y g:Nat→Int) (i:Int):bn:=iX (eN l y) (0,.row (.I .i64 [hB y i])) (0,.row (.I .i64 [hB y i])) (0,.row (.M [.arr .i64 (an [hB y i]) 1])) (0,.row (.I .i64 [i])) (0,.row (.M [.arr .i64 (an [i]) 1])) m g
noncomputable def Ly (l m k k2 v2:Nat) (y b a g:Nat→Int) (i:Int):bn:=iY (eN l y) (k2+1,.row (.M [.arr .i64 (bF (g7 a 0) k (an [i])) (af k 1)])) (v2,.row (.M [.arr .i64 b k])) (0,.row (.I .i64 [hB y i])) (0,.row (.I .i64 [hB y i])) (0,.row (.M [.arr .i64 (bF (g7 b 0) (dH (Int.ofNat k)) (an [hB y i])) (af (dH (Int.ofNat k)) 1)])) (0,.row (.I .i64 [i])) m g
noncomputable def K8 (c:List Nat) (K m p:Nat) (g:Nat→Int) (i:Int) (L0 L1 L2:bn) (H:aa):mb :=
 IA (IA (jc aU 68 (Jr m g)) 85 [cI m g false,.fn (.func 86) [] [.ptr 0 0 0 0]] (L0::H) (.ok (.int .i64 i,L0::H))) 67 [.slc 0 K 0 0 1 m none,.fn (.func 87) [] (c.map fun x=>.ptr 0 x 0 0)] (L1::H) (.ok (.slc 0 K 0 0 1 p none,L2::H))
theorem M8 (n l:Nat) (y:Nat→Int) (b:Int) (b2 b3 b4 b5:Nat×ak) (m:Nat) (g:Nat→Int) (H:aa) (x:Int):bw Tryz.prog (cd (n+1)) 100000 87 Tryz.f87 (KtB.kt 87) (il aU n 1) aZ a6 [(.int .i64 x,none),(.ptr 1 0 0 0,none),(.ptr 1 1 0 0,none)] (aB::iX (eN l y) (0,.row (.I .i64 [b])) b2 b3 b4 b5 m g::H) =
 (fun (Z0:bn)=>Tr.req (dF x l) (Tr.req (bA (ar 0 x 7) (aD l 7)) (Tr.req (bA (af (ar 0 x 7) 1) (aD l 7)) (Tr.req (bA (af (ar 0 x 7) 2) (aD l 7)) (Tr.req (bA (af (ar 0 x 7) 3) (aD l 7)) (Tr.req (bA (af (ar 0 x 7) 4) (aD l 7)) (Tr.req (bA (af (ar 0 x 7) 5) (aD l 7)) (Tr.req (bA (af (ar 0 x 7) 6) (aD l 7)) (Tr.ite (mP (y (af (ar 0 x 7) 5)) b) (Tr.ok ((AV.bool (mP b (y (af (ar 0 x 7) 6))),none),aB::Z0::H)) (Tr.ok ((AV.bool false,some 1),aB::Z0::H))))))))))) { lock:=false,bs:=[(0,ak.row (Row.G [AV.ptrT (some 1) (Row.G [aJ 7 l y]) 0])),(0,ak.row (Row.I .i64 [b])),b2,b3,b4,b5,(0,ak.row (Row.M [aW.arr .i64 g m]))] }:=by kernel_rfl
theorem M9 (n l:Nat) (y:Nat→Int) (b:Int) (b2 b3 b4 b5:Nat×ak) (m:Nat) (g:Nat→Int) (H:aa) (x:Int):bw Tryz.prog (cd (n+1)) 100000 87 Tryz.f87 (KtB.kt 87) (il aU n 1) aZ a6 [(.int .i64 x,none),(.ptr 2 0 0 0,none),(.ptr 2 1 0 0,none)] (aB::aB::iX (eN l y) (0,.row (.I .i64 [b])) b2 b3 b4 b5 m g::H) =
 (fun (Z0:bn)=>Tr.req (dF x l) (Tr.req (bA (ar 0 x 7) (aD l 7)) (Tr.req (bA (af (ar 0 x 7) 1) (aD l 7)) (Tr.req (bA (af (ar 0 x 7) 2) (aD l 7)) (Tr.req (bA (af (ar 0 x 7) 3) (aD l 7)) (Tr.req (bA (af (ar 0 x 7) 4) (aD l 7)) (Tr.req (bA (af (ar 0 x 7) 5) (aD l 7)) (Tr.req (bA (af (ar 0 x 7) 6) (aD l 7)) (Tr.ite (mP (y (af (ar 0 x 7) 5)) b) (Tr.ok ((AV.bool (mP b (y (af (ar 0 x 7) 6))),none),aB::aB::Z0::H)) (Tr.ok ((AV.bool false,some 1),aB::aB::Z0::H))))))))))) { lock:=false,bs:=[(0,ak.row (Row.G [AV.ptrT (some 1) (Row.G [aJ 7 l y]) 0])),(0,ak.row (Row.I .i64 [b])),b2,b3,b4,b5,(0,ak.row (Row.M [aW.arr .i64 g m]))] }:=by kernel_rfl
theorem Na (n l:Nat) (y:Nat→Int) (b:Int) (b1 b2 b4 b5 b6:Nat×ak) (m:Nat) (g:Nat→Int) (H:aa) (x:Int):bw Tryz.prog (cd (n+1)) 100000 87 Tryz.f87 (KtB.kt 87) (il aU n 1) aZ a6 [(.int .i64 x,none),(.ptr 1 0 0 0,none),(.ptr 1 3 0 0,none)] (aB::iY (eN l y) b1 b2 (0,.row (.I .i64 [b])) b4 b5 b6 m g::H) =
 (fun (Z0:bn)=>Tr.req (dF x l) (Tr.req (bA (ar 0 x 7) (aD l 7)) (Tr.req (bA (af (ar 0 x 7) 1) (aD l 7)) (Tr.req (bA (af (ar 0 x 7) 2) (aD l 7)) (Tr.req (bA (af (ar 0 x 7) 3) (aD l 7)) (Tr.req (bA (af (ar 0 x 7) 4) (aD l 7)) (Tr.req (bA (af (ar 0 x 7) 5) (aD l 7)) (Tr.req (bA (af (ar 0 x 7) 6) (aD l 7)) (Tr.ite (mP (y (af (ar 0 x 7) 5)) b) (Tr.ok ((AV.bool (mP b (y (af (ar 0 x 7) 6))),none),aB::Z0::H)) (Tr.ok ((AV.bool false,some 1),aB::Z0::H))))))))))) { lock:=false,bs:=[(0,ak.row (Row.G [AV.ptrT (some 1) (Row.G [aJ 7 l y]) 0])),b1,b2,(0,ak.row (Row.I .i64 [b])),b4,b5,b6,(0,ak.row (Row.M [aW.arr .i64 g m]))] }:=by kernel_rfl
theorem Nb (n l:Nat) (y:Nat→Int) (b:Int) (b1 b2 b4 b5 b6:Nat×ak) (m:Nat) (g:Nat→Int) (H:aa) (x:Int):bw Tryz.prog (cd (n+1)) 100000 87 Tryz.f87 (KtB.kt 87) (il aU n 1) aZ a6 [(.int .i64 x,none),(.ptr 2 0 0 0,none),(.ptr 2 3 0 0,none)] (aB::aB::iY (eN l y) b1 b2 (0,.row (.I .i64 [b])) b4 b5 b6 m g::H) =
 (fun (Z0:bn)=>Tr.req (dF x l) (Tr.req (bA (ar 0 x 7) (aD l 7)) (Tr.req (bA (af (ar 0 x 7) 1) (aD l 7)) (Tr.req (bA (af (ar 0 x 7) 2) (aD l 7)) (Tr.req (bA (af (ar 0 x 7) 3) (aD l 7)) (Tr.req (bA (af (ar 0 x 7) 4) (aD l 7)) (Tr.req (bA (af (ar 0 x 7) 5) (aD l 7)) (Tr.req (bA (af (ar 0 x 7) 6) (aD l 7)) (Tr.ite (mP (y (af (ar 0 x 7) 5)) b) (Tr.ok ((AV.bool (mP b (y (af (ar 0 x 7) 6))),none),aB::aB::Z0::H)) (Tr.ok ((AV.bool false,some 1),aB::aB::Z0::H))))))))))) { lock:=false,bs:=[(0,ak.row (Row.G [AV.ptrT (some 1) (Row.G [aJ 7 l y]) 0])),b1,b2,(0,ak.row (Row.I .i64 [b])),b4,b5,b6,(0,ak.row (Row.M [aW.arr .i64 g m]))] }:=by kernel_rfl
theorem PX (n:Nat) (l m p:Nat) (y g g2:Nat→Int) (H:aa) (i:Int):aX (bz n 63 44) (il (K8 [0,1] 6 m p g i (l6 l y) (Lw l m y g i) (Lw l m y g2 i) H) n 0) aZ a6 (part Tryz.f63 [1,1,1,0,0,0]) (hints (jW (cI m g false) .nils .nils)) (l6 l y::H) =
 (fun (Z0:bn)=>((fun (Z1:List AV)=>Tr.ite (dq (Int.ofNat 0) (Int.ofNat m)) (Tr.reqP (Z1=Z1∧l6 l y::H=l6 l y::H) (Tr.req (dF i l) (Tr.req (bA (af (af (ar 0 i 7) 5) 1) (aD l 7)) (Tr.req (je (Int.ofNat 0) 0) (Tr.req (je (Int.ofNat 0) (dH (Int.ofNat 0))) (Tr.req (dU 0 1 8) (Tr.req (bX 0 0) (Tr.req (dG 1 1) (Tr.req (dU 0 1 8) (Tr.req (bX 0 0) (Tr.req (dG 1 1) (Tr.reqP ([AV.slcT none (Row.M [aW.arr .i64 g m]) 1 m false]=[AV.slcT none (Row.M [aW.arr .i64 g m]) 1 m false]) (Tr.reqP ([AV.slc 0 6 0 0 1 m none,AV.fn (Fn.func 87) [] [AV.ptr 0 0 0 0,AV.ptr 0 1 0 0]]=[AV.slc 0 6 0 0 1 m none,AV.fn (Fn.func 87) [] [AV.ptr 0 0 0 0,AV.ptr 0 1 0 0]]∧Z0::H=Z0::H) (Tr.req (bX 0 0) (Tr.req (lX 0 p 0 m) (Tr.ok (Ex.normal,[(1,AV.slcT none (Row.M [aW.arr .i64 (g7 g2 0) p]) 1 p false,none),(2,AV.ptr 0 0 0 0,none),(6,AV.slc 0 3 0 0 1 1 none,none),(7,AV.slc 0 5 0 0 1 1 none,none)],{ lock:=false,bs:=[(0,ak.row (Row.G [AV.ptrT (some 1) (Row.G [aJ 7 l y]) 0])),(0,ak.row (Row.I .i64 [y (af (af (ar 0 i 7) 5) 1)])),(0,ak.row (Row.I .i64 [y (af (af (ar 0 i 7) 5) 1)])),(0,ak.row (Row.M [aW.arr .i64 (an [y (af (af (ar 0 i 7) 5) 1)]) 1])),(0,ak.row (Row.I .i64 [i])),(0,ak.row (Row.M [aW.arr .i64 (an [i]) 1])),(0,ak.dead)] } :: H))))))))))))))))) (Tr.ok (Ex.exit 0,[(1,AV.slcT none (Row.M [aW.arr .i64 g m]) 1 m false,none),(2,AV.ptr 0 0 0 0,none),(6,AV.nils,none),(7,AV.nils,none),(12,AV.bool false,some 1)],l6 l y::H))) [AV.slcT none (Row.M [aW.arr .i64 g m]) 1 m false,AV.fn (Fn.func 86) [] [AV.ptr 0 0 0 0]])) { lock:=false,bs:=[(0,ak.row (Row.G [AV.ptrT (some 1) (Row.G [aJ 7 l y]) 0])),(0,ak.row (Row.I .i64 [y (af (af (ar 0 i 7) 5) 1)])),(0,ak.row (Row.I .i64 [y (af (af (ar 0 i 7) 5) 1)])),(0,ak.row (Row.M [aW.arr .i64 (an [y (af (af (ar 0 i 7) 5) 1)]) 1])),(0,ak.row (Row.I .i64 [i])),(0,ak.row (Row.M [aW.arr .i64 (an [i]) 1])),(0,ak.row (Row.M [aW.arr .i64 g m]))] }:=by kernel_rfl
theorem PY (n:Nat) (l m p k k2 v2:Nat) (y b a g g2:Nat→Int) (H:aa) (i:Int):aX (bz n 63 44) (il (K8 [0,3] 7 m p g i (uD l k k2 v2 y b a) (Ly l m k k2 v2 y b a g i) (Ly l m k k2 v2 y b a g2 i) H) n 0) aZ a6 (part Tryz.f63 [1,1,1,0,0,0]) (hints (jW (cI m g false) (.slc 0 2 v2 0 1 k none) (.slc 0 1 k2 0 1 k none))) (uD l k k2 v2 y b a::H) =
 (fun (Z0:bn)=>((fun (Z1:bn)=>((fun (Z2:bn)=>((fun (Z3:List AV)=>((fun (Z4:List AV)=>((fun (Z5:List AV)=>Tr.ite (dq (Int.ofNat 0) (Int.ofNat m)) (Tr.reqP (Z5=Z5∧Z2::H=Z2::H) (Tr.req (dF i l) (Tr.req (bA (af (af (ar 0 i 7) 5) 1) (aD l 7)) (Tr.req (je (Int.ofNat k) k) (Tr.req (je (Int.ofNat k) (dH (Int.ofNat k))) (Tr.req (dU (dH (Int.ofNat k)) 1 8) (Tr.req (bX 0 0) (Tr.req (dG 1 1) (Tr.ite (bA (dH (Int.ofNat k)) (af (dH (Int.ofNat k)) 1)) (Tr.req (bX v2 v2) (Tr.req (dG (dH (Int.ofNat k)) (dH (Int.ofNat k))) (Tr.req (lX 0 (dH (Int.ofNat k)) 0 k) (Tr.req (dU k 1 8) (Tr.req (bX 0 0) (Tr.req (dG 1 1) (Tr.req (bX k2 k2) (Tr.req (bX (af 0 k) k) (Tr.reqP (Z4=Z4) (Tr.reqP (Z3=Z3∧Z0::H=Z0::H) (Tr.req (bX 0 0) (Tr.req (lX 0 p 0 m) (Tr.ok (Ex.normal,[(1,AV.slcT none (Row.M [aW.arr .i64 (g7 g2 0) p]) 1 p false,none),(2,AV.ptr 0 0 0 0,none),(6,AV.slc 0 5 0 0 1 (af (dH (Int.ofNat k)) 1) none,none),(7,AV.slc 0 1 (Nat.succ k2) 0 1 (af k 1) none,none)],Z1::H)))))))))))))) (Tr.req (bX v2 v2) (Tr.req (bA (af 0 (dH (Int.ofNat k))) k) (Tr.req (fa (dG v2 v2) (dG v2 (Nat.succ v2))) (Tr.req (dU k 1 8) (Tr.req (bX 0 0) (Tr.req (dG 1 1) (Tr.req (bX k2 k2) (Tr.req (bX (af 0 k) k) (Tr.reqP (Z4=Z4) (Tr.reqP (Z3=Z3∧{ lock:=false,bs:=[(0,ak.row (Row.G [AV.ptrT (some 1) (Row.G [aJ 7 l y]) 0])),(Nat.succ k2,ak.row (Row.M [aW.arr .i64 (bF (g7 a 0) k (an [i])) (af k 1)])),(v2,ak.row (Row.M [aW.arr .i64 (bG b (af 0 (dH (Int.ofNat k))) (y (af (af (ar 0 i 7) 5) 1))) k])),(0,ak.row (Row.I .i64 [y (af (af (ar 0 i 7) 5) 1)])),(0,ak.row (Row.I .i64 [y (af (af (ar 0 i 7) 5) 1)])),(0,ak.dead),(0,ak.row (Row.I .i64 [i])),(0,ak.row (Row.M [aW.arr .i64 g m]))] } :: H=Z0::H) (Tr.req (bX 0 0) (Tr.req (lX 0 p 0 m) (Tr.ok (Ex.normal,[(1,AV.slcT none (Row.M [aW.arr .i64 (g7 g2 0) p]) 1 p false,none),(2,AV.ptr 0 0 0 0,none),(6,AV.slc 0 2 v2 0 1 (af (dH (Int.ofNat k)) 1) (some (dH (Int.ofNat k))),none),(7,AV.slc 0 1 (Nat.succ k2) 0 1 (af k 1) none,none)],Z1::H))))))))))))))))))))))) (Tr.ok (Ex.exit 0,[(1,AV.slcT none (Row.M [aW.arr .i64 g m]) 1 m false,none),(2,AV.ptr 0 0 0 0,none),(6,AV.slc 0 2 v2 0 1 k none,none),(7,AV.slc 0 1 k2 0 1 k none,none),(12,AV.bool false,some 1)],Z2::H))) [AV.slcT none (Row.M [aW.arr .i64 g m]) 1 m false,AV.fn (Fn.func 86) [] [AV.ptr 0 0 0 0]])) [AV.slcT none (Row.M [aW.arr .i64 g m]) 1 m false])) [AV.slc 0 7 0 0 1 m none,AV.fn (Fn.func 87) [] [AV.ptr 0 0 0 0,AV.ptr 0 3 0 0]])) { lock:=false,bs:=[(0,ak.row (Row.G [AV.ptrT (some 1) (Row.G [aJ 7 l y]) 0])),(k2,ak.row (Row.M [aW.arr .i64 a k])),(v2,ak.row (Row.M [aW.arr .i64 b k]))] })) { lock:=false,bs:=[(0,ak.row (Row.G [AV.ptrT (some 1) (Row.G [aJ 7 l y]) 0])),(Nat.succ k2,ak.row (Row.M [aW.arr .i64 (bF (g7 a 0) k (an [i])) (af k 1)])),(v2,ak.row (Row.M [aW.arr .i64 b k])),(0,ak.row (Row.I .i64 [y (af (af (ar 0 i 7) 5) 1)])),(0,ak.row (Row.I .i64 [y (af (af (ar 0 i 7) 5) 1)])),(0,ak.row (Row.M [aW.arr .i64 (bF (g7 b 0) (dH (Int.ofNat k)) (an [y (af (af (ar 0 i 7) 5) 1)])) (af (dH (Int.ofNat k)) 1)])),(0,ak.row (Row.I .i64 [i])),(0,ak.dead)] })) { lock:=false,bs:=[(0,ak.row (Row.G [AV.ptrT (some 1) (Row.G [aJ 7 l y]) 0])),(Nat.succ k2,ak.row (Row.M [aW.arr .i64 (bF (g7 a 0) k (an [i])) (af k 1)])),(v2,ak.row (Row.M [aW.arr .i64 b k])),(0,ak.row (Row.I .i64 [y (af (af (ar 0 i 7) 5) 1)])),(0,ak.row (Row.I .i64 [y (af (af (ar 0 i 7) 5) 1)])),(0,ak.row (Row.M [aW.arr .i64 (bF (g7 b 0) (dH (Int.ofNat k)) (an [y (af (af (ar 0 i 7) 5) 1)])) (af (dH (Int.ofNat k)) 1)])),(0,ak.row (Row.I .i64 [i])),(0,ak.row (Row.M [aW.arr .i64 g m]))] }:=by kernel_rfl
theorem Qo (n:Nat) (l m p k k2 v2:Nat) (y b a g g2:Nat→Int) (H:aa):bw Tryz.prog (cd n) 100000 63 Tryz.f63 (KtB.kt 63) (il aU n 0) (gf aZ 0 (jW (cI m g false) .nils .nils) (l6 l y::H) (.ok (.normal,hints (jW (cI p g2 false) (.slc 0 2 v2 0 1 k none) (.slc 0 1 k2 0 1 k none)++[(12,.bool false)]),uD l k k2 v2 y b a::H))) a6 [(.ptrT (some 0) (.G [aJ 7 l y]) 0,none),(cI m g false,none)] H =
 (fun (Z0:av)=>Tr.reqP (Z0=Z0∧l6 l y::H=l6 l y::H) (Tr.req (bX v2 v2) (Tr.req (lX 0 k 0 k) (Tr.req (bX k2 k2) (Tr.req (lX 0 k 0 k) (Tr.ok ((AV.tup [AV.slcT none (Row.M [aW.arr .i64 (g7 b 0) k]) 1 k false,AV.slcT none (Row.M [aW.arr .i64 (g7 a 0) k]) 1 k false],none),H))))))) [(1,AV.slcT none (Row.M [aW.arr .i64 g m]) 1 m false),(2,AV.ptr 0 0 0 0),(6,AV.nils),(7,AV.nils)]:=by kernel_rfl
theorem BE {k m:Nat} {g:Nat→Int} {t:mb} (h1:1≤m) (h2:m≤1000) (ht:t.Ok (cd (k+1))):(jc t 68 (Jr m g)).Ok (cd (k+1)):=by
 refine jd ht (fun args H x hx=>?_)
 unfold Jr at hx
 split at hx
 · obtain ⟨e,hx⟩:=Tr.c7 hx
   rw[e,Rn k _ m g false _ h1 h2,← Tr.ab hx,dh]
 · exact (Tr.ae hx).elim
def uK (l:Nat) (z:Nat→Int) (x:Int):Prop:=0≤x∧x<l∧cQ z x.toNat≤bU z x.toNat
def pB (z:Nat→Int) (b x:Int):Bool:=wA z b x.toNat
theorem IF {l:Nat} {z:Nat→Int} {i:Int} (hl:l≤14) (h:uK l z i):hB (oY z l) i=bU z i.toNat:=by
 unfold hB;rw[aQ,aQ];exact Cc l z i hl ⟨h.1,h.2.1⟩
theorem Cd {l:Nat} {z:Nat→Int} {i:Int} (hl:l≤14) (h:0≤i∧i<l):oY z l (ar 0 i 7+5)=cQ z i.toNat:=by
 rw[bC,show 0+i.toNat*7+5=i.toNat*7+5 by omega]
 exact nL z (by omega) (by omega)
theorem Cb {l:Nat} {z:Nat→Int} {i:Int} (hl:l≤14) (h:0≤i∧i<l):oY z l (ar 0 i 7+6)=bU z i.toNat:=Cc l z i hl h
section
variable (n l:Nat) (z:Nat→Int) (b:Int) (m:Nat) (g:Nat→Int) (H:aa) (x:Int) (hl:l≤14) (hx:0≤x∧x<l)
include hl hx
theorem KX (b2 b3 b4 b5:Nat×ak):cd (n+2) (.fn 87) [.int .i64 x,.ptr 1 0 0 0,.ptr 1 1 0 0] (aB::iX (eN l (oY z l)) (0,.row (.I .i64 [b])) b2 b3 b4 b5 m g::H)=some (.bool (pB z b x),aB::iX (eN l (oY z l)) (0,.row (.I .i64 [b])) b2 b3 b4 b5 m g::H):=by
 have o1:=Cd (z:=z) hl hx
 have o2:=Cb (z:=z) hl hx
 have hd:pB z b x=(decide (cQ z x.toNat≤b) && decide (b≤bU z x.toNat)):=rfl
 refine ba (n:=n+1) Tryz.func87 rfl rfl rfl (M8 n l (oY z l) b b2 b3 b4 b5 m g H x) (dS n 1) (ag _ _) (ah _ _) ?_
 simp only[aQ]
 rw[o1,o2,hd,iz b]
 clear hd o1 o2
 generalize cQ z x.toNat=lo at *
 generalize bU z x.toNat=hi at *
 have e7:ar 0 x 7=x.toNat*7:=by rw[bC];omega
 rw[e7]
 by_cases h:lo≤b
 · rw[decide_eq_true h]
   exact wF
 · rw[decide_eq_false h]
   exact wF
theorem KY (b2 b3 b4 b5:Nat×ak):cd (n+2) (.fn 87) [.int .i64 x,.ptr 2 0 0 0,.ptr 2 1 0 0] (aB::aB::iX (eN l (oY z l)) (0,.row (.I .i64 [b])) b2 b3 b4 b5 m g::H)=some (.bool (pB z b x),aB::aB::iX (eN l (oY z l)) (0,.row (.I .i64 [b])) b2 b3 b4 b5 m g::H):=by
 have o1:=Cd (z:=z) hl hx
 have o2:=Cb (z:=z) hl hx
 have hd:pB z b x=(decide (cQ z x.toNat≤b) && decide (b≤bU z x.toNat)):=rfl
 refine ba (n:=n+1) Tryz.func87 rfl rfl rfl (M9 n l (oY z l) b b2 b3 b4 b5 m g H x) (dS n 1) (ag _ _) (ah _ _) ?_
 simp only[aQ]
 rw[o1,o2,hd,iz b]
 clear hd o1 o2
 generalize cQ z x.toNat=lo at *
 generalize bU z x.toNat=hi at *
 have e7:ar 0 x 7=x.toNat*7:=by rw[bC];omega
 rw[e7]
 by_cases h:lo≤b
 · rw[decide_eq_true h]
   exact wF
 · rw[decide_eq_false h]
   exact wF
theorem KZ (b1 b2 b4 b5 b6:Nat×ak):cd (n+2) (.fn 87) [.int .i64 x,.ptr 1 0 0 0,.ptr 1 3 0 0] (aB::iY (eN l (oY z l)) b1 b2 (0,.row (.I .i64 [b])) b4 b5 b6 m g::H)=some (.bool (pB z b x),aB::iY (eN l (oY z l)) b1 b2 (0,.row (.I .i64 [b])) b4 b5 b6 m g::H):=by
 have o1:=Cd (z:=z) hl hx
 have o2:=Cb (z:=z) hl hx
 have hd:pB z b x=(decide (cQ z x.toNat≤b) && decide (b≤bU z x.toNat)):=rfl
 refine ba (n:=n+1) Tryz.func87 rfl rfl rfl (Na n l (oY z l) b b1 b2 b4 b5 b6 m g H x) (dS n 1) (ag _ _) (ah _ _) ?_
 simp only[aQ]
 rw[o1,o2,hd,iz b]
 clear hd o1 o2
 generalize cQ z x.toNat=lo at *
 generalize bU z x.toNat=hi at *
 have e7:ar 0 x 7=x.toNat*7:=by rw[bC];omega
 rw[e7]
 by_cases h:lo≤b
 · rw[decide_eq_true h]
   exact wF
 · rw[decide_eq_false h]
   exact wF
theorem K0 (b1 b2 b4 b5 b6:Nat×ak):cd (n+2) (.fn 87) [.int .i64 x,.ptr 2 0 0 0,.ptr 2 3 0 0] (aB::aB::iY (eN l (oY z l)) b1 b2 (0,.row (.I .i64 [b])) b4 b5 b6 m g::H)=some (.bool (pB z b x),aB::aB::iY (eN l (oY z l)) b1 b2 (0,.row (.I .i64 [b])) b4 b5 b6 m g::H):=by
 have o1:=Cd (z:=z) hl hx
 have o2:=Cb (z:=z) hl hx
 have hd:pB z b x=(decide (cQ z x.toNat≤b) && decide (b≤bU z x.toNat)):=rfl
 refine ba (n:=n+1) Tryz.func87 rfl rfl rfl (Nb n l (oY z l) b b1 b2 b4 b5 b6 m g H x) (dS n 1) (ag _ _) (ah _ _) ?_
 simp only[aQ]
 rw[o1,o2,hd,iz b]
 clear hd o1 o2
 generalize cQ z x.toNat=lo at *
 generalize bU z x.toNat=hi at *
 have e7:ar 0 x 7=x.toNat*7:=by rw[bC];omega
 rw[e7]
 by_cases h:lo≤b
 · rw[decide_eq_true h]
   exact wF
 · rw[decide_eq_false h]
   exact wF
end
end Go.Eng
end
section
namespace Go.Eng
open Go.Proofs
theorem dC (tab:mb) (n:Nat) (ht:tab.Ok (cd n)):(il tab n 0).Ok (cd n) :=
 ⟨vK _,fun tgt args H x h=>by
   unfold il Dk at h
   split at h
   · split at h
     · rename_i c hc
       exact ht _ _ hc _ _ _ h
     · exact (Tr.ae h).elim
   · exact (Tr.ae h).elim⟩
section
variable (n l:Nat) (z:Nat→Int) (b:Int) (m:Nat) (g:Nat→Int) (H:aa) (hl:l≤14) (hm:m≤1000) (hg:∀ j,j<m→0≤g j∧g j<l)
include hl hm hg
theorem Jt (b2 b3 b4 b5:Nat×ak):∃ g',cd (n+4) (.fn 67) [.slc 0 6 0 0 1 m none,.fn (.func 87) [] [.ptr 0 0 0 0,.ptr 0 1 0 0]] (iX (eN l (oY z l)) (0,.row (.I .i64 [b])) b2 b3 b4 b5 m g::H)=some (.slc 0 6 0 0 1 (cA (pB z b) g m).length none,iX (eN l (oY z l)) (0,.row (.I .i64 [b])) b2 b3 b4 b5 m g'::H)∧∀ x,x<(cA (pB z b) g m).length→g' x=(cA (pB z b) g m).getD x 0:=by
 refine NQ (n+2) (pB z b) (fun x C H'=>(0≤x∧x<l)∧((C=[.ptr 1 0 0 0,.ptr 1 1 0 0]∧∃ g,H'=aB::iX (eN l (oY z l)) (0,.row (.I .i64 [b])) b2 b3 b4 b5 m g::H)∨(C=[.ptr 2 0 0 0,.ptr 2 1 0 0]∧∃ g,H'=aB::aB::iX (eN l (oY z l)) (0,.row (.I .i64 [b])) b2 b3 b4 b5 m g::H))) _ _ _ _ _ _ m g H ?_ hm (fun j g' hj=>⟨hg j hj,.inl ⟨rfl,g',rfl⟩⟩) (fun j hj=>⟨hg j hj,.inr ⟨rfl,g,rfl⟩⟩)
 rintro k x C H' ⟨hx,h⟩
 rw[show n+2+k=n+k+2 by omega]
 rcases h with ⟨rfl,g,rfl⟩ | ⟨rfl,g,rfl⟩
 · exact KX (n+k) l z b m g H x hl hx b2 b3 b4 b5
 · exact KY (n+k) l z b m g H x hl hx b2 b3 b4 b5
theorem Ju (b1 b2 b4 b5 b6:Nat×ak):∃ g',cd (n+4) (.fn 67) [.slc 0 7 0 0 1 m none,.fn (.func 87) [] [.ptr 0 0 0 0,.ptr 0 3 0 0]] (iY (eN l (oY z l)) b1 b2 (0,.row (.I .i64 [b])) b4 b5 b6 m g::H)=some (.slc 0 7 0 0 1 (cA (pB z b) g m).length none,iY (eN l (oY z l)) b1 b2 (0,.row (.I .i64 [b])) b4 b5 b6 m g'::H)∧∀ x,x<(cA (pB z b) g m).length→g' x=(cA (pB z b) g m).getD x 0:=by
 refine NR (n+2) (pB z b) (fun x C H'=>(0≤x∧x<l)∧((C=[.ptr 1 0 0 0,.ptr 1 3 0 0]∧∃ g,H'=aB::iY (eN l (oY z l)) b1 b2 (0,.row (.I .i64 [b])) b4 b5 b6 m g::H)∨(C=[.ptr 2 0 0 0,.ptr 2 3 0 0]∧∃ g,H'=aB::aB::iY (eN l (oY z l)) b1 b2 (0,.row (.I .i64 [b])) b4 b5 b6 m g::H))) _ _ _ _ _ _ _ m g H ?_ hm (fun j g' hj=>⟨hg j hj,.inl ⟨rfl,g',rfl⟩⟩) (fun j hj=>⟨hg j hj,.inr ⟨rfl,g,rfl⟩⟩)
 rintro k x C H' ⟨hx,h⟩
 rw[show n+2+k=n+k+2 by omega]
 rcases h with ⟨rfl,g,rfl⟩ | ⟨rfl,g,rfl⟩
 · exact KZ (n+k) l z b m g H x hl hx b1 b2 b4 b5 b6
 · exact K0 (n+k) l z b m g H x hl hx b1 b2 b4 b5 b6
end
section
variable (n l:Nat) (z:Nat→Int) (m:Nat) (g:Nat→Int) (H:aa) (hl:l≤14) (hm:m+1≤1000) (hg:∀ j,j<m+1→uK l z (g j))
include hg in
theorem IL:uK l z (dL z g m):=by
 obtain ⟨j,h1,h2⟩:=wV z g m
 rw[h2];exact hg j (by omega)
include hl hm hg in
theorem PD:∃ g',(∃ x,exec (bz (n+4) 63 44) (part Tryz.f63 [1,1,1,0,0,0]) (jW (cI (m+1) g false) .nils .nils) (l6 l (oY z l)::H)=some x∧x.1=.normal∧tidy 1 x.2.1 x.2.2=(jW (cI (cA (pB z (bU z (dL z g m).toNat)) g (m+1)).length g' false) (.slc 0 2 0 0 1 1 none) (.slc 0 1 0 0 1 1 none),uD l 1 0 0 (oY z l) (an [bU z (dL z g m).toNat]) (an [dL z g m])::H))∧∀ x,x<(cA (pB z (bU z (dL z g m).toNat)) g (m+1)).length→g' x=(cA (pB z (bU z (dL z g m).toNat)) g (m+1)).getD x 0:=by
 have hi:=IL l z m g hg
 have hb:=IF hl hi
 have g1:∀ j,j<m+1→0≤g j∧g j<l:=fun j hj=>⟨(hg j hj).1,(hg j hj).2.1⟩
 obtain ⟨g2,h1,h2⟩:=Jt n l z (hB (oY z l) (dL z g m)) (m+1) g H hl hm g1 (0,.row (.I .i64 [hB (oY z l) (dL z g m)])) (0,.row (.M [.arr .i64 (an [hB (oY z l) (dL z g m)]) 1])) (0,.row (.I .i64 [dL z g m])) (0,.row (.M [.arr .i64 (an [dL z g m]) 1]))
 refine ⟨g7 g2 0,?_,fun x hx=>by rw[df,h2 x (by rw[hb];exact hx),hb]⟩
 have h85:=QY (n+2) l z g m [] H hl (by omega) g1
 have hlen:=qp (pB z (hB (oY z l) (dL z g m))) g (m+1)
 obtain ⟨hi1,hi2,_⟩:=hi
 rw[← hb]
 generalize (cA (pB z (hB (oY z l) (dL z g m))) g (m+1)).length=p at *
 generalize dL z g m=i at *
 have e7:ar 0 i 7=i.toNat*7:=by rw[bC];omega
 refine aG (PX (n+4) l (m+1) p (oY z l) g g2 H i) (dC _ (n+4) (mn (mn (BE (k:=n+3) (by omega) hm (aT _)) (fun x hx=>by rw[← Tr.ab hx];exact h85)) (fun x hx=>by rw[← Tr.ab hx];exact h1))) (ag _ _) (ah _ _) ?_
 rw[show oY z l (af (af (ar 0 i 7) 5) 1)=hB (oY z l) i from rfl]
 clear hb h1 h2 h85
 generalize hB (oY z l) i=b at *
 rw[e7]
 repeat' first | (refine Tr.al (fun hc=>?_) (fun hc=>?_)<;>(try simp (disch:=omega) only[nV,nW] at hc)<;>try omega) | (refine Tr.bf ?_ ?_;· (try simp (disch:=omega) only[nV,nW]);try omega) | (refine Tr.ay ?_ ?_;· first | exact trivial | rfl | exact ⟨rfl,rfl⟩ | exact ⟨rfl,rfl,rfl⟩ | (simp (disch:=omega) only[nV,nW];done) | ((try simp (disch:=omega) only[nV,nW]);omega)) | fail
 all_goals exact Tr.aw ⟨rfl,by kernel_rfl⟩
include hl hm hg in
theorem PE (q:Nat) (hq:q≤1000) (B A:List Int) (hB:B.length=q+1) (hA:A.length=q+1):∃ g',(∃ x,exec (bz (n+4) 63 44) (part Tryz.f63 [1,1,1,0,0,0]) (jW (cI (m+1) g false) (.slc 0 2 0 0 1 (q+1) none) (.slc 0 1 q 0 1 (q+1) none)) (uD l (q+1) q 0 (oY z l) (an B) (an A)::H)=some x∧x.1=.normal∧tidy 1 x.2.1 x.2.2=(jW (cI (cA (pB z (bU z (dL z g m).toNat)) g (m+1)).length g' false) (.slc 0 2 0 0 1 (q+2) none) (.slc 0 1 (q+1) 0 1 (q+2) none),uD l (q+2) (q+1) 0 (oY z l) (an (B++[bU z (dL z g m).toNat])) (an (A++[dL z g m]))::H))∧∀ x,x<(cA (pB z (bU z (dL z g m).toNat)) g (m+1)).length→g' x=(cA (pB z (bU z (dL z g m).toNat)) g (m+1)).getD x 0:=by
 have hi:=IL l z m g hg
 have hb:=IF hl hi
 have g1:∀ j,j<m+1→0≤g j∧g j<l:=fun j hj=>⟨(hg j hj).1,(hg j hj).2.1⟩
 obtain ⟨g2,h1,h2⟩:=Ju n l z (Go.Eng.hB (oY z l) (dL z g m)) (m+1) g H hl hm g1 (q+1,.row (.M [.arr .i64 (bF (g7 (an A) 0) (q+1) (an [dL z g m])) (af (q+1) 1)])) (0,.row (.M [.arr .i64 (an B) (q+1)])) (0,.row (.I .i64 [Go.Eng.hB (oY z l) (dL z g m)])) (0,.row (.M [.arr .i64 (bF (g7 (an B) 0) (dH (Int.ofNat (q+1))) (an [Go.Eng.hB (oY z l) (dL z g m)])) (af (dH (Int.ofNat (q+1))) 1)])) (0,.row (.I .i64 [dL z g m]))
 refine ⟨g7 g2 0,?_,fun x hx=>by rw[df,h2 x (by rw[hb];exact hx),hb]⟩
 have h85:=QY (n+2) l z g m [(q,.row (.M [.arr .i64 (an A) (q+1)])),(0,.row (.M [.arr .i64 (an B) (q+1)]))] H hl (by omega) g1
 have hlen:=qp (pB z (Go.Eng.hB (oY z l) (dL z g m))) g (m+1)
 obtain ⟨hi1,hi2,_⟩:=hi
 rw[← hb]
 generalize (cA (pB z (Go.Eng.hB (oY z l) (dL z g m))) g (m+1)).length=p at *
 generalize dL z g m=i at *
 have e7:ar 0 i 7=i.toNat*7:=by rw[bC];omega
 have e8:dH (Int.ofNat (q+1))=q+1:=fP _
 have e9:af (q+1) 1=q+2:=by rw[aQ]
 have a1:=nm A i
 have a2:=nm B (Go.Eng.hB (oY z l) i)
 rw[hA] at a1
 rw[hB] at a2
 refine aG (PY (n+4) l (m+1) p (q+1) q 0 (oY z l) (an B) (an A) g g2 H i) (dC _ (n+4) (mn (mn (BE (k:=n+3) (by omega) hm (aT _)) (fun x hx=>by rw[← Tr.ab hx];exact h85)) (fun x hx=>by rw[← Tr.ab hx];exact h1))) (ag _ _) (ah _ _) ?_
 rw[show oY z l (af (af (ar 0 i 7) 5) 1)=Go.Eng.hB (oY z l) i from rfl]
 clear hb h1 h2 h85
 rw[e8,e9,a1,a2]
 generalize Go.Eng.hB (oY z l) i=b at *
 rw[e7]
 repeat' first | (refine Tr.al (fun hc=>?_) (fun hc=>?_)<;>(try simp (disch:=omega) only[nV,nW] at hc)<;>try omega) | (refine Tr.bf ?_ ?_;· (try simp (disch:=omega) only[nV,nW]);try omega) | (refine Tr.ay ?_ ?_;· first | exact trivial | rfl | exact ⟨rfl,rfl⟩ | exact ⟨rfl,rfl,rfl⟩ | (simp (disch:=omega) only[nV,nW];done) | ((try simp (disch:=omega) only[nV,nW]);omega)) | fail
 all_goals exact Tr.aw ⟨rfl,by kernel_rfl⟩
end
noncomputable def oU (z:Nat→Int):Nat→List Int→List (Int×Int)
 | 0,_=>[]
 | _+1,[]=>[]
 | k+1,a::r=>(bU z (dL z (an (a::r)) r.length).toNat,dL z (an (a::r)) r.length)::oU z k (cA (pB z (bU z (dL z (an (a::r)) r.length).toNat)) (an (a::r)) (r.length+1))
theorem ES (P:Int→Bool) (g h:Nat→Int) (m:Nat) (e:∀ j,j<m→g j=h j):cA P g m=cA P h m:=by
 induction m with
 | zero=>rfl
 | succ m ih =>
   show (if P (g m)=true then cA P g m else cA P g m++[g m])=(if P (h m)=true then cA P h m else cA P h m++[h m])
   rw[ih (fun j hj=>e j (by omega)),e m (by omega)]
theorem EX (z g h:Nat→Int) (m:Nat) (e:∀ j,j<m+1→g j=h j):dL z g m=dL z h m:=by
 induction m with
 | zero=>exact e 0 (by omega)
 | succ m ih =>
   have h1:=ih (fun j hj=>e j (by omega))
   have h2:=e (m+1) (by omega)
   show (if bU z (g (m+1)).toNat<bU z (dL z g m).toNat then g (m+1) else dL z g m)=(if bU z (h (m+1)).toNat<bU z (dL z h m).toNat then h (m+1) else dL z h m)
   rw[h1,h2]
theorem ET (P:Int→Bool) (g:Nat→Int) (m:Nat):∀ x,x ∈ cA P g m↔∃ j,j<m∧g j=x∧P x=false:=by
 induction m with
 | zero=>intro x;simp[cA]
 | succ m ih =>
   intro x
   show x ∈ (if P (g m)=true then cA P g m else cA P g m++[g m])↔_
   constructor
   · intro hx
     split at hx
     · obtain ⟨j,h1,h2⟩:=(ih x).1 hx
       exact ⟨j,by omega,h2⟩
     · rename_i hp
       rcases List.mem_append.1 hx with h | h
       · obtain ⟨j,h1,h2⟩:=(ih x).1 h
         exact ⟨j,by omega,h2⟩
       · rw[List.mem_singleton] at h;subst h
         exact ⟨m,by omega,rfl,by simpa using hp⟩
   · rintro ⟨j,h1,rfl,h3⟩
     by_cases e:j<m
     · have:=(ih (g j)).2 ⟨j,e,rfl,h3⟩
       split
       · exact this
       · exact List.mem_append_left _ this
     · have:j=m:=by omega
       subst this
       rw[if_neg (by rw[h3];decide)]
       simp
theorem IJ (P:Int→Bool) (g:Nat→Int) (m j:Nat) (hj:j<m) (h:P (g j)=true):(cA P g m).length<m:=by
 induction m with
 | zero=>omega
 | succ m ih =>
   show (if P (g m)=true then cA P g m else cA P g m++[g m]).length<m+1
   have:=qp P g m
   by_cases e:j<m
   · have:=ih e
     split
     · omega
     · rw[List.length_append];simp only[List.length_cons,List.length_nil];omega
   · have:j=m:=by omega
     subst this
     rw[if_pos h];omega
theorem np (L:List Int) (j:Nat) (h:j<L.length):an L j ∈ L:=by
 rw[gu]
 simp[List.getD_eq_getElem?_getD,h]
end Go.Eng
end
section
namespace Go.Eng
open Go.Proofs
theorem PZ (n:Nat) (l m:Nat) (y g:Nat→Int) (H:aa):aX (bz n 63 44) (il aU n 0) aZ a6 (part Tryz.f63 [1,1,1,0,0,0]) (hints (jW (cI m g false) .nils .nils)) (l6 l y::H) =
 Tr.ite (dq (Int.ofNat 0) (Int.ofNat m)) Tr.bad (Tr.ok (Ex.exit 0,[(1,AV.slcT none (Row.M [aW.arr .i64 g m]) 1 m false,none),(2,AV.ptr 0 0 0 0,none),(6,AV.nils,none),(7,AV.nils,none),(12,AV.bool false,some 1)],l6 l y::H)):=by kernel_rfl
theorem P4 (n:Nat) (l m k k2 v2:Nat) (y b a g:Nat→Int) (H:aa):aX (bz n 63 44) (il aU n 0) aZ a6 (part Tryz.f63 [1,1,1,0,0,0]) (hints (jW (cI m g false) (.slc 0 2 v2 0 1 k none) (.slc 0 1 k2 0 1 k none))) (uD l k k2 v2 y b a::H) =
 Tr.ite (dq (Int.ofNat 0) (Int.ofNat m)) Tr.bad (Tr.ok (Ex.exit 0,[(1,AV.slcT none (Row.M [aW.arr .i64 g m]) 1 m false,none),(2,AV.ptr 0 0 0 0,none),(6,AV.slc 0 2 v2 0 1 k none,none),(7,AV.slc 0 1 k2 0 1 k none,none),(12,AV.bool false,some 1)],{ lock:=false,bs:=[(0,ak.row (Row.G [AV.ptrT (some 1) (Row.G [aJ 7 l y]) 0])),(k2,ak.row (Row.M [aW.arr .i64 a k])),(v2,ak.row (Row.M [aW.arr .i64 b k]))] } :: H)):=by kernel_rfl
theorem Qp (n:Nat) (l m p:Nat) (y g g2:Nat→Int) (H:aa):bw Tryz.prog (cd n) 100000 63 Tryz.f63 (KtB.kt 63) (il aU n 0) (gf aZ 0 (jW (cI m g false) .nils .nils) (l6 l y::H) (.ok (.normal,hints (jW (cI p g2 false) .nils .nils++[(12,.bool false)]),l6 l y::H))) a6 [(.ptrT (some 0) (.G [aJ 7 l y]) 0,none),(cI m g false,none)] H =
 (fun (Z0:av)=>Tr.reqP (Z0=Z0∧l6 l y::H=l6 l y::H) (Tr.ok ((AV.tup [AV.nils,AV.nils],none),H))) [(1,AV.slcT none (Row.M [aW.arr .i64 g m]) 1 m false),(2,AV.ptr 0 0 0 0),(6,AV.nils),(7,AV.nils)]:=by kernel_rfl
noncomputable def FO:List (Int×Int)→AV
 | []=>.nils
 | _::r=>.slc 0 2 0 0 1 (r.length+1) none
noncomputable def FN:List (Int×Int)→AV
 | []=>.nils
 | _::r=>.slc 0 1 r.length 0 1 (r.length+1) none
noncomputable def A4 (l:Nat) (y:Nat→Int):List (Int×Int)→bn
 | []=>l6 l y
 | a::r=>uD l (r.length+1) r.length 0 y (an ((a::r).map (·.1))) (an ((a::r).map (·.2)))
theorem QO:∀ b,(0,b) ∈ bo (ct Tryz.f63)→b=.loop (part Tryz.f63 [1,1,1,0,0,0]):=kX (by kernel_rfl)
section
variable (n l:Nat) (z:Nat→Int) (H:aa) (hl:l≤14)
include hl
theorem Ta (L:List Int) (g:Nat→Int) (hL:L.length≤1000) (hg:∀ j,j<L.length→g j=an L j) (he:∀ x ∈ L,uK l z x) :
 ∃ y,exec (bz (n+4) 63 44) (.block 0 (.loop (part Tryz.f63 [1,1,1,0,0,0]))) (jW (cI L.length g false) .nils .nils) (l6 l (oY z l)::H)=some (.normal,y)∧∃ g',y=(jW (cI 0 g' false) (FO (oU z L.length L)) (FN (oU z L.length L))++[(12,.bool false)],A4 l (oY z l) (oU z L.length L)::H):=by
 refine LG 0 (fun j fr Hx=>∃ (S:List (Int×Int)) (L':List Int) (g':Nat→Int),S.length=j∧j≤L.length∧S++oU z (L.length-j) L'=oU z L.length L∧L'.length≤L.length-j∧(∀ j,j<L'.length→g' j=an L' j)∧(∀ x ∈ L',uK l z x)∧fr=jW (cI L'.length g' false) (FO S) (FN S)∧Hx=A4 l (oY z l) S::H)
  (fun y=>∃ g',y=(jW (cI 0 g' false) (FO (oU z L.length L)) (FN (oU z L.length L))++[(12,.bool false)],A4 l (oY z l) (oU z L.length L)::H)) L.length (by omega) ⟨[],L,g,rfl,by omega,rfl,Nat.le_refl _,hg,he,rfl,rfl⟩ ?_
 rintro j fr Hx ⟨S,L',g',h1,h2,h3,h4,h5,h6,rfl,rfl⟩
 cases L' with
 | nil =>
   have e3:oU z L.length L=S:=by
    rw[← h3]
    cases e:L.length-j with
    | zero=>simp[oU]
    | succ k=>simp[oU]
   rw[e3]
   cases S with
   | nil =>
     obtain ⟨x,y1,rfl⟩:=aG (Q:=fun x=>x=(.exit 0,jW (cI 0 g' false) .nils .nils++[(12,.bool false)],l6 l (oY z l)::H)) (PZ (n+4) l 0 (oY z l) g' H) (aO _) (ag _ _) (ah _ _) (by
      exact wF)
     exact ⟨_,y1,.inr ⟨rfl,g',rfl⟩⟩
   | cons a r =>
     obtain ⟨x,y1,rfl⟩:=aG (Q:=fun x=>x=(.exit 0,jW (cI 0 g' false) (.slc 0 2 0 0 1 (r.length+1) none) (.slc 0 1 r.length 0 1 (r.length+1) none)++[(12,.bool false)],uD l (r.length+1) r.length 0 (oY z l) (an ((a::r).map (·.1))) (an ((a::r).map (·.2)))::H)) (P4 (n+4) l 0 (r.length+1) r.length 0 (oY z l) (an ((a::r).map (·.1))) (an ((a::r).map (·.2))) g' H) (aO _) (ag _ _) (ah _ _) (by
      exact wF)
     exact ⟨_,y1,.inr ⟨rfl,g',rfl⟩⟩
 | cons a0 r0 =>
   simp only[List.length_cons] at h4 h5
   have hgo:∀ j,j<r0.length+1→uK l z (g' j):=fun j hj=>by
    rw[h5 j hj];exact h6 _ (np (a0::r0) j (by simpa using hj))
   have els:=EX z g' (an (a0::r0)) r0.length h5
   obtain ⟨i0,hi1,hi2⟩:=wV z (an (a0::r0)) r0.length
   have hP:pB z (bU z (dL z (an (a0::r0)) r0.length).toNat) (an (a0::r0) i0)=true:=by
    have:=hgo i0 (by omega)
    rw[h5 i0 (by omega)] at this
    unfold pB wA
    rw[hi2]
    simp only[Bool.and_eq_true,decide_eq_true_eq]
    exact ⟨this.2.2,Int.le_refl _⟩
   have hlt:=IJ _ (an (a0::r0)) (r0.length+1) i0 (by omega) hP
   have ekp:=ES (pB z (bU z (dL z (an (a0::r0)) r0.length).toNat)) g' (an (a0::r0)) (r0.length+1) h5
   have hmm:=ET (pB z (bU z (dL z (an (a0::r0)) r0.length).toNat)) (an (a0::r0)) (r0.length+1)
   have eS:S++[(bU z (dL z (an (a0::r0)) r0.length).toNat,dL z (an (a0::r0)) r0.length)]++oU z (L.length-(j+1)) (cA (pB z (bU z (dL z (an (a0::r0)) r0.length).toNat)) (an (a0::r0)) (r0.length+1))=oU z L.length L:=by
    rw[← h3,List.append_assoc]
    congr 1
    rw[show L.length-j=(L.length-(j+1))+1 by omega]
    rfl
   have hok:∀ x ∈ cA (pB z (bU z (dL z (an (a0::r0)) r0.length).toNat)) (an (a0::r0)) (r0.length+1),uK l z x:=fun x hx=>by
    obtain ⟨i,y1,y2,_⟩:=(hmm x).1 hx
    rw[← y2,← h5 i y1];exact hgo i y1
   have R:∃ g2 x,exec (bz (n+4) 63 44) (part Tryz.f63 [1,1,1,0,0,0]) (jW (cI (r0.length+1) g' false) (FO S) (FN S)) (A4 l (oY z l) S::H)=some x∧x.1=.normal∧tidy 1 x.2.1 x.2.2=(jW (cI (cA (pB z (bU z (dL z g' r0.length).toNat)) g' (r0.length+1)).length g2 false) (FO (S++[(bU z (dL z g' r0.length).toNat,dL z g' r0.length)])) (FN (S++[(bU z (dL z g' r0.length).toNat,dL z g' r0.length)])),A4 l (oY z l) (S++[(bU z (dL z g' r0.length).toNat,dL z g' r0.length)])::H)∧∀ x,x<(cA (pB z (bU z (dL z g' r0.length).toNat)) g' (r0.length+1)).length→g2 x=(cA (pB z (bU z (dL z g' r0.length).toNat)) g' (r0.length+1)).getD x 0:=by
    cases S with
    | nil =>
      obtain ⟨g2,⟨x,y1,y2,y3⟩,y4⟩:=PD n l z r0.length g' H hl (by omega) hgo
      exact ⟨g2,x,y1,y2,y3,y4⟩
    | cons a r =>
      simp only[List.length_cons] at h1
      obtain ⟨g2,⟨x,y1,y2,y3⟩,y4⟩:=PE n l z r0.length g' H hl (by omega) hgo r.length (by omega) ((a::r).map (·.1)) ((a::r).map (·.2)) (by simp) (by simp)
      refine ⟨g2,x,y1,y2,y3.trans ?_,y4⟩
      show _=(jW _ (.slc 0 2 0 0 1 ((r++[_]).length+1) none) (.slc 0 1 (r++[_]).length 0 1 ((r++[_]).length+1) none),uD l ((r++[_]).length+1) (r++[_]).length 0 (oY z l) (an ((a::(r++[_])).map (·.1))) (an ((a::(r++[_])).map (·.2)))::H)
      simp only[List.length_append,List.length_cons,List.length_nil,List.map_cons,List.map_append,List.cons_append,List.map_nil]
   obtain ⟨g2,x,y1,y2,y3,y4⟩:=R
   rw[els,ekp] at y3 y4
   refine ⟨x,y1,.inl ⟨y2,by omega,_,_,g2,?_,by omega,eS,by omega,fun j hj=>by rw[y4 j hj];exact (congrFun (gu _) j).symm,hok,?_,?_⟩⟩
   · rw[List.length_append,h1];rfl
   · have:aq (A4 l (oY z l) []::H)=1:=rfl
     rw[this,y3]
   · have:aq (A4 l (oY z l) []::H)=1:=rfl
     rw[this,y3]
theorem Rm (L:List Int) (g:Nat→Int) (hL:L.length≤1000) (hg:∀ j,j<L.length→g j=an L j) (he:∀ x ∈ L,uK l z x) :
 cd (n+5) (.fn 63) [uW l z,cI L.length g false] H=some (.tup [dA ((oU z L.length L).map (·.1)),dA ((oU z L.length L).map (·.2))],H):=by
 obtain ⟨y,h1,g',rfl⟩:=Ta n l z H hl L g hL hg he
 cases e:oU z L.length L with
 | nil =>
   rw[e] at h1
   refine ba (n:=n+4) Tryz.func63 rfl rfl rfl (Qp (n+4) l L.length 0 (oY z l) g g' H) (aO _) (bL (ag _ _) QO (fun x h=>by rw[← Tr.ab h];simp only[gY.st,aY];exact h1)) (ah _ _) ?_
   exact wF
 | cons a r =>
   rw[e] at h1
   refine ba (n:=n+4) Tryz.func63 rfl rfl rfl (Qo (n+4) l L.length 0 (r.length+1) r.length 0 (oY z l) (an ((a::r).map (·.1))) (an ((a::r).map (·.2))) g g' H) (aO _) (bL (ag _ _) QO (fun x h=>by rw[← Tr.ab h];simp only[gY.st,aY];exact h1)) (ah _ _) ?_
   rw[df,df]
   repeat' first | (refine Tr.al (fun hc=>?_) (fun hc=>?_)<;>(try simp (disch:=omega) only[nV,nW] at hc)<;>try omega) | (refine Tr.bf ?_ ?_;· (try simp (disch:=omega) only[nV,nW]);try omega) | (refine Tr.ay ?_ ?_;· first | exact trivial | rfl | exact ⟨rfl,rfl⟩ | exact ⟨rfl,rfl,rfl⟩ | (simp (disch:=omega) only[nV,nW];done) | ((try simp (disch:=omega) only[nV,nW]);omega)) | fail
   all_goals first
    | (refine Tr.aw ⟨?_,rfl⟩
       show _=AV.tup [.slcT none (.M [.arr .i64 (an ((a::r).map (·.1))) ((r.map (·.1)).length+1)]) 1 ((r.map (·.1)).length+1) false,.slcT none (.M [.arr .i64 (an ((a::r).map (·.2))) ((r.map (·.2)).length+1)]) 1 ((r.map (·.2)).length+1) false]
       rw[List.length_map,List.length_map])
    | fail
end
end Go.Eng
end
section
namespace Go.Eng
open Go.Proofs
def IB (z y:Nat→Int) (k i:Nat):Bool:=iu (fun j=>wA z (y j) i) k
section
variable (n l k:Nat) (z y:Nat→Int) (H:aa) (i:Nat)
end
end Go.Eng
end
section
namespace Go.Eng
open Go.Proofs
noncomputable def Lc (z:Nat→Int) (B:List Int) (i:Nat):Bool:=IB z (an B) B.length i
theorem qu (L:List Int) (j:Nat):an L j=L.getD j 0:=congrFun (gu L) j
theorem GM (z:Nat→Int) (B:List Int) (i:Nat):Lc z B i=true↔∃ b,b ∈ B∧wA z b i=true:=by
 unfold Lc IB
 rw[eI]
 constructor
 · rintro ⟨j,h1,h2⟩;exact ⟨_,np B j h1,h2⟩
 · rintro ⟨b,h1,h2⟩
   obtain ⟨j,hj,rfl⟩:=List.getElem_of_mem h1
   refine ⟨j,hj,?_⟩
   rw[qu,List.getD_eq_getElem?_getD,List.getElem?_eq_getElem hj]
   exact h2
noncomputable def uI (z:Nat→Int) (B:List Int) (i:Nat):Int:=if Lc z B i=true then 0 else 1
theorem Ek {m p:Nat→Int} {j:Nat} (h:∀ i,i<j→(m i=1↔p i=1)):dl m j=dl p j:=by
 induction j with
 | zero=>rfl
 | succ j ih =>
   show (if m j=1 then dl m j++[(j:Int)] else dl m j)=(if p j=1 then dl p j++[(j:Int)] else dl p j)
   rw[ih (fun i hi=>h i (by omega))]
   have:=h j (by omega)
   by_cases e:m j=1
   · rw[if_pos e,if_pos (this.1 e)]
   · rw[if_neg e,if_neg (fun x=>e (this.2 x))]
theorem p8 (m:Nat→Int) (j:Nat) (x:Int):x ∈ dl m j↔∃ i:Nat,x=i∧i<j∧m i=1:=by
 induction j with
 | zero=>simp[dl]
 | succ j ih =>
   show x ∈ (if m j=1 then dl m j++[(j:Int)] else dl m j)↔_
   constructor
   · intro h
     split at h
     · rename_i e
       rcases List.mem_append.1 h with h | h
       · obtain ⟨i,h1,h2,h3⟩:=ih.1 h
         exact ⟨i,h1,by omega,h3⟩
       · rw[List.mem_singleton] at h;exact ⟨j,h,by omega,e⟩
     · obtain ⟨i,h1,h2,h3⟩:=ih.1 h
       exact ⟨i,h1,by omega,h3⟩
   · rintro ⟨i,h1,h2,h3⟩
     by_cases e:i<j
     · have:=ih.2 ⟨i,h1,e,h3⟩
       split
       · exact List.mem_append_left _ this
       · exact this
     · have:i=j:=by omega
       subst this
       rw[if_pos h3,h1];simp
end Go.Eng
end
section
namespace Go.Eng
open Go.Proofs
section
variable (n l k:Nat) (z y:Nat→Int) (H:aa)
end
theorem wz {m:Nat→Int} {j:Nat} (h:∀ i,i<j→m i=1):(dl m j).length=j:=by
 induction j with
 | zero=>rfl
 | succ j ih =>
   show (if m j=1 then dl m j++[(j:Int)] else dl m j).length=_
   rw[if_pos (h j (by omega)),List.length_append,ih (fun i hi=>h i (by omega))];rfl
theorem tx (z:Nat→Int) (i:Nat):Lc z [] i=false:=by
 cases h:Lc z [] i with
 | false=>rfl
 | true=>obtain ⟨b,h1,_⟩:=(GM z [] i).1 h;cases h1
noncomputable def uk (z:Nat→Int) (L:List Int):List (Int×Int):=oU z L.length L
section
variable (n l:Nat) (z:Nat→Int) (H:aa)
end
end Go.Eng
end
section
namespace Go.Eng
open Go.Proofs
noncomputable def N6 (l m k:Nat) (y g b a:Nat→Int):List AV→Option (Prop×AV):=fun x=>some (x=[.ptrT (some 0) (.G [aJ 7 l y]) 0,cI m g false],.tup [cI k b false,cI k a false])
theorem Qe (n l:Nat) (z:Nat→Int) (H:aa) (e:Int):bw Tryz.prog (cd n) 100000 23 Tryz.f23 (KtB.kt 23) (il (lg aU 62 (gO (aJ 5 l z) (.tup [.nilp,.int .i64 e]))) n 0) aZ a6 [(aJ 5 l z,none)] H =
 Tr.reqP (aJ 5 l z=aJ 5 l z) (Tr.ite (b8 (dm e (Int.ofNat 0))) (Tr.ok ((AV.tup [AV.nils,AV.int .i64 e],none),H)) Tr.bad):=by kernel_rfl
theorem Ty (n l m k:Nat) (z y g b a:Nat→Int) (H:aa):bw Tryz.prog (cd n) 100000 23 Tryz.f23 (KtB.kt 23) (il (lg (lg (lg aU 62 (gO (aJ 5 l z) (.tup [.ptrT (some 0) (.G [aJ 7 l y]) 0,.int .i64 0]))) 64 (gO (.ptrT (some 0) (.G [aJ 7 l y]) 0) (cI m g false))) 63 (N6 l m k y g b a)) n 0) aZ a6 [(aJ 5 l z,none)] H =
 (fun (Z0:List AV)=>Tr.reqP (aJ 5 l z=aJ 5 l z) (Tr.ite (b8 (dm (Int.ofNat 0) (Int.ofNat 0))) (Tr.ok ((AV.tup [AV.nils,AV.int .i64 (Int.ofNat 0)],none),H)) (Tr.reqP (AV.ptrT (some 0) (Row.G [aJ 7 l y]) 0=AV.ptrT (some 0) (Row.G [aJ 7 l y]) 0) (Tr.reqP (Z0=Z0) (Tr.req (J0 (Int.ofNat k) (Int.ofNat k) 8) (Tr.req (dG (wZ k (dH (Int.ofNat k))) k) (Tr.req (dG (af 0 (wZ k (dH (Int.ofNat k)))) k) (Tr.req (bX 0 0) (Tr.req (lX 0 (wZ k (dH (Int.ofNat k))) 0 (dH (Int.ofNat k))) (Tr.req (bX 0 0) (Tr.req (lX 0 (dH (Int.ofNat k)) 0 (dH (Int.ofNat k))) (Tr.ok ((AV.tup [AV.slcT none (Row.M [aW.arr .i64 (g7 (fH (fun x=>Int.ofNat 0) 0 b (wZ k (dH (Int.ofNat k)))) 0) (dH (Int.ofNat k))]) 1 (dH (Int.ofNat k)) (bX (dH (Int.ofNat k)) (dH (Int.ofNat k))),AV.int .i64 (Int.ofNat 0)],none),H))))))))))))) [AV.ptrT (some 0) (Row.G [aJ 7 l y]) 0,AV.slcT none (Row.M [aW.arr .i64 g m]) 1 m false]:=by kernel_rfl
def Gj (z:Nat→Int) (j:Nat):Bool:=decide (bU z j<cQ z j)
section
variable (n l:Nat) (z:Nat→Int) (H:aa)
theorem xg:iu (Gj z) l=false↔∀ i,i<l→cQ z i≤bU z i:=by
 constructor
 · intro h i hi
   apply Int.not_lt.1
   intro hc
   have:iu (Gj z) l=true:=(eI _ _).2 ⟨i,hi,by unfold Gj;rw[decide_eq_true hc]⟩
   rw[h] at this;cases this
 · intro h
   cases hx:iu (Gj z) l with
   | false=>rfl
   | true =>
     obtain ⟨i,h1,h2⟩:=(eI _ _).1 hx
     unfold Gj at h2
     have:=h i h1
     rw[decide_eq_true_eq] at h2
     omega
theorem La {m:Nat→Int} {j i:Nat} (hi:i<j) (h:m i≠1):(dl m j).length<j:=by
 induction j with
 | zero=>omega
 | succ j ih =>
   show (if m j=1 then dl m j++[(j:Int)] else dl m j).length < _
   have:=sK m j
   by_cases e:i<j
   · have:=ih e
     split
     · rw[List.length_append];simp only[List.length_cons,List.length_nil];omega
     · omega
   · have:i=j:=by omega
     subst this
     rw[if_neg h];omega
theorem F9:cY l z=if bp l z≠0 then bp l z else if iu (Gj z) l=true then 22 else 0:=by
 unfold cY
 by_cases h:bp l z≠0
 · rw[if_pos h,if_pos h]
 · rw[if_neg h,if_neg h]
   by_cases h2:iu (Gj z) l=true
   · rw[if_pos h2]
     obtain ⟨i,h3,h4⟩:=(eI _ _).1 h2
     unfold Gj at h4
     rw[decide_eq_true_eq] at h4
     rw[if_pos (La h3 (by unfold gE;rw[if_neg (by omega)];decide))]
   · have h3:=(xg l z).1 (by simpa using h2)
     rw[if_neg h2,if_neg]
     rw[wz (fun i hi=>by unfold gE;rw[if_pos (h3 i hi)])]
     omega
theorem iF (h:cY l z=0):bp l z=0∧∀ i,i<l→cQ z i≤bU z i:=by
 rw[F9] at h
 by_cases h1:bp l z≠0
 · rw[if_pos h1] at h;exact absurd h h1
 · rw[if_neg h1] at h
   refine ⟨by simpa using h1,(xg l z).1 ?_⟩
   cases h2:iu (Gj z) l with
   | false=>rfl
   | true=>rw[h2,if_pos rfl] at h;cases h
theorem IT (h:cY l z=0):dl (gE z) l=dl (uI z []) l:=by
 obtain ⟨_,h2⟩:=iF l z h
 refine Ek (fun i hi=>?_)
 unfold gE uI
 rw[if_pos (h2 i hi),tx];simp
noncomputable def mE (l:Nat) (z:Nat→Int):List Int:=(uk z (dl (uI z []) l)).map (·.1)
noncomputable def xN (l:Nat) (z:Nat→Int):List Int:=(uk z (dl (uI z []) l)).map (·.2)
end
end Go.Eng
end
