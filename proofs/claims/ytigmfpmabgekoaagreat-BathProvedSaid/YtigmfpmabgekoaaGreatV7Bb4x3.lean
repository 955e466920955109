/- Bath: the closure of best; the fewest baths. -/
import Derived.Test.YtigmfpmabgekoaaGreatV7Bb3
section
namespace Go.Eng
open Go.Proofs
set_option linter.unusedVariables false
set_option linter.unusedSimpArgs false
set_option maxRecDepth 100000
noncomputable def fr63 (L:AV) (B A:AV):Frm:=[(1,L),(2,.ptr 0 0 0 0),(6,B),(7,A)]
noncomputable def ct68 (m:Nat) (g:Nat→Int) (args:List AV) (H:Heap):Tr (AV×Heap) :=
 match H with
 | ⟨false,bs⟩::r=>.reqP (args=[sl1 m g false]) (.ok (.slc 0 (lenX bs) 0 0 1 m none,⟨false,bs++[(0,.row (.M [.arr .i64 g m]))]⟩::r))
 | _=>.bad
noncomputable def hB (y:Nat→Int) (i:Int):Int:=y (addO (addO (idO 0 i 7) 5) 1)
noncomputable def l063 (l:Nat) (y:Nat→Int):Lvl:=⟨false,[bx63 l y]⟩
noncomputable def l163 (l k k2 v2:Nat) (y b a:Nat→Int):Lvl:=⟨false,[bx63 l y,(k2,.row (.M [.arr .i64 a k])),(v2,.row (.M [.arr .i64 b k]))]⟩
noncomputable def la63 (l m:Nat) (y g:Nat→Int) (i:Int):Lvl:=lva (bx63 l y) (0,.row (.I .i64 [hB y i])) (0,.row (.I .i64 [hB y i])) (0,.row (.M [.arr .i64 (lstO [hB y i]) 1])) (0,.row (.I .i64 [i])) (0,.row (.M [.arr .i64 (lstO [i]) 1])) m g
noncomputable def lb63 (l m k k2 v2:Nat) (y b a g:Nat→Int) (i:Int):Lvl:=lvb (bx63 l y) (k2+1,.row (.M [.arr .i64 (appO (shO a 0) k (lstO [i])) (addO k 1)])) (v2,.row (.M [.arr .i64 b k])) (0,.row (.I .i64 [hB y i])) (0,.row (.I .i64 [hB y i])) (0,.row (.M [.arr .i64 (appO (shO b 0) (toN (Int.ofNat k)) (lstO [hB y i])) (addO (toN (Int.ofNat k)) 1)])) (0,.row (.I .i64 [i])) m g
noncomputable def ct63 (c:List Nat) (K m p:Nat) (g:Nat→Int) (i:Int) (L0 L1 L2:Lvl) (H:Heap):Ctr :=
 ctE (ctE (addCt noCt 68 (ct68 m g)) 85 [sl1 m g false,.fn (.func 86) [] [.ptr 0 0 0 0]] (L0::H) (.ok (.int .i64 i,L0::H))) 67 [.slc 0 K 0 0 1 m none,.fn (.func 87) [] (c.map fun x=>.ptr 0 x 0 0)] (L1::H) (.ok (.slc 0 K 0 0 1 p none,L2::H))
theorem u87a1 (n l:Nat) (y:Nat→Int) (b:Int) (b2 b3 b4 b5:Nat×Blk) (m:Nat) (g:Nat→Int) (H:Heap) (x:Int):bodyT Tryz.prog (cd (n+1)) 100000 87 Tryz.f87 (KtB.kt 87) (il noCt n 1) noBT noRT [(.int .i64 x,none),(.ptr 1 0 0 0,none),(.ptr 1 1 0 0,none)] (lvE::lva (bx63 l y) (0,.row (.I .i64 [b])) b2 b3 b4 b5 m g::H) =
 (fun (Z0:Lvl)=>Tr.req (inI x l) (Tr.req (ltN (idO 0 x 7) (mulO l 7)) (Tr.req (ltN (addO (idO 0 x 7) 1) (mulO l 7)) (Tr.req (ltN (addO (idO 0 x 7) 2) (mulO l 7)) (Tr.req (ltN (addO (idO 0 x 7) 3) (mulO l 7)) (Tr.req (ltN (addO (idO 0 x 7) 4) (mulO l 7)) (Tr.req (ltN (addO (idO 0 x 7) 5) (mulO l 7)) (Tr.req (ltN (addO (idO 0 x 7) 6) (mulO l 7)) (Tr.ite (leI (y (addO (idO 0 x 7) 5)) b) (Tr.ok ((AV.bool (leI b (y (addO (idO 0 x 7) 6))),none),lvE::Z0::H)) (Tr.ok ((AV.bool false,some 1),lvE::Z0::H))))))))))) { lock:=false,bs:=[(0,Blk.row (Row.G [AV.ptrT (some 1) (Row.G [slA 7 l y]) 0])),(0,Blk.row (Row.I .i64 [b])),b2,b3,b4,b5,(0,Blk.row (Row.M [Seg.arr .i64 g m]))] }:=by kernel_rfl
theorem u87a2 (n l:Nat) (y:Nat→Int) (b:Int) (b2 b3 b4 b5:Nat×Blk) (m:Nat) (g:Nat→Int) (H:Heap) (x:Int):bodyT Tryz.prog (cd (n+1)) 100000 87 Tryz.f87 (KtB.kt 87) (il noCt n 1) noBT noRT [(.int .i64 x,none),(.ptr 2 0 0 0,none),(.ptr 2 1 0 0,none)] (lvE::lvE::lva (bx63 l y) (0,.row (.I .i64 [b])) b2 b3 b4 b5 m g::H) =
 (fun (Z0:Lvl)=>Tr.req (inI x l) (Tr.req (ltN (idO 0 x 7) (mulO l 7)) (Tr.req (ltN (addO (idO 0 x 7) 1) (mulO l 7)) (Tr.req (ltN (addO (idO 0 x 7) 2) (mulO l 7)) (Tr.req (ltN (addO (idO 0 x 7) 3) (mulO l 7)) (Tr.req (ltN (addO (idO 0 x 7) 4) (mulO l 7)) (Tr.req (ltN (addO (idO 0 x 7) 5) (mulO l 7)) (Tr.req (ltN (addO (idO 0 x 7) 6) (mulO l 7)) (Tr.ite (leI (y (addO (idO 0 x 7) 5)) b) (Tr.ok ((AV.bool (leI b (y (addO (idO 0 x 7) 6))),none),lvE::lvE::Z0::H)) (Tr.ok ((AV.bool false,some 1),lvE::lvE::Z0::H))))))))))) { lock:=false,bs:=[(0,Blk.row (Row.G [AV.ptrT (some 1) (Row.G [slA 7 l y]) 0])),(0,Blk.row (Row.I .i64 [b])),b2,b3,b4,b5,(0,Blk.row (Row.M [Seg.arr .i64 g m]))] }:=by kernel_rfl
theorem u87b1 (n l:Nat) (y:Nat→Int) (b:Int) (b1 b2 b4 b5 b6:Nat×Blk) (m:Nat) (g:Nat→Int) (H:Heap) (x:Int):bodyT Tryz.prog (cd (n+1)) 100000 87 Tryz.f87 (KtB.kt 87) (il noCt n 1) noBT noRT [(.int .i64 x,none),(.ptr 1 0 0 0,none),(.ptr 1 3 0 0,none)] (lvE::lvb (bx63 l y) b1 b2 (0,.row (.I .i64 [b])) b4 b5 b6 m g::H) =
 (fun (Z0:Lvl)=>Tr.req (inI x l) (Tr.req (ltN (idO 0 x 7) (mulO l 7)) (Tr.req (ltN (addO (idO 0 x 7) 1) (mulO l 7)) (Tr.req (ltN (addO (idO 0 x 7) 2) (mulO l 7)) (Tr.req (ltN (addO (idO 0 x 7) 3) (mulO l 7)) (Tr.req (ltN (addO (idO 0 x 7) 4) (mulO l 7)) (Tr.req (ltN (addO (idO 0 x 7) 5) (mulO l 7)) (Tr.req (ltN (addO (idO 0 x 7) 6) (mulO l 7)) (Tr.ite (leI (y (addO (idO 0 x 7) 5)) b) (Tr.ok ((AV.bool (leI b (y (addO (idO 0 x 7) 6))),none),lvE::Z0::H)) (Tr.ok ((AV.bool false,some 1),lvE::Z0::H))))))))))) { lock:=false,bs:=[(0,Blk.row (Row.G [AV.ptrT (some 1) (Row.G [slA 7 l y]) 0])),b1,b2,(0,Blk.row (Row.I .i64 [b])),b4,b5,b6,(0,Blk.row (Row.M [Seg.arr .i64 g m]))] }:=by kernel_rfl
theorem u87b2 (n l:Nat) (y:Nat→Int) (b:Int) (b1 b2 b4 b5 b6:Nat×Blk) (m:Nat) (g:Nat→Int) (H:Heap) (x:Int):bodyT Tryz.prog (cd (n+1)) 100000 87 Tryz.f87 (KtB.kt 87) (il noCt n 1) noBT noRT [(.int .i64 x,none),(.ptr 2 0 0 0,none),(.ptr 2 3 0 0,none)] (lvE::lvE::lvb (bx63 l y) b1 b2 (0,.row (.I .i64 [b])) b4 b5 b6 m g::H) =
 (fun (Z0:Lvl)=>Tr.req (inI x l) (Tr.req (ltN (idO 0 x 7) (mulO l 7)) (Tr.req (ltN (addO (idO 0 x 7) 1) (mulO l 7)) (Tr.req (ltN (addO (idO 0 x 7) 2) (mulO l 7)) (Tr.req (ltN (addO (idO 0 x 7) 3) (mulO l 7)) (Tr.req (ltN (addO (idO 0 x 7) 4) (mulO l 7)) (Tr.req (ltN (addO (idO 0 x 7) 5) (mulO l 7)) (Tr.req (ltN (addO (idO 0 x 7) 6) (mulO l 7)) (Tr.ite (leI (y (addO (idO 0 x 7) 5)) b) (Tr.ok ((AV.bool (leI b (y (addO (idO 0 x 7) 6))),none),lvE::lvE::Z0::H)) (Tr.ok ((AV.bool false,some 1),lvE::lvE::Z0::H))))))))))) { lock:=false,bs:=[(0,Blk.row (Row.G [AV.ptrT (some 1) (Row.G [slA 7 l y]) 0])),b1,b2,(0,Blk.row (Row.I .i64 [b])),b4,b5,b6,(0,Blk.row (Row.M [Seg.arr .i64 g m]))] }:=by kernel_rfl
theorem t63a (n:Nat) (l m p:Nat) (y g g2:Nat→Int) (H:Heap) (i:Int):execT (cxD n 63 44) (il (ct63 [0,1] 6 m p g i (l063 l y) (la63 l m y g i) (la63 l m y g2 i) H) n 0) noBT noRT (part Tryz.f63 [1,1,1,0,0,0]) (hints (fr63 (sl1 m g false) .nils .nils)) (l063 l y::H) =
 (fun (Z0:Lvl)=>((fun (Z1:List AV)=>Tr.ite (ltI (Int.ofNat 0) (Int.ofNat m)) (Tr.reqP (Z1=Z1∧l063 l y::H=l063 l y::H) (Tr.req (inI i l) (Tr.req (ltN (addO (addO (idO 0 i 7) 5) 1) (mulO l 7)) (Tr.req (bndI (Int.ofNat 0) 0) (Tr.req (bndI (Int.ofNat 0) (toN (Int.ofNat 0))) (Tr.req (roomO 0 1 8) (Tr.req (eqN 0 0) (Tr.req (leN 1 1) (Tr.req (roomO 0 1 8) (Tr.req (eqN 0 0) (Tr.req (leN 1 1) (Tr.reqP ([AV.slcT none (Row.M [Seg.arr .i64 g m]) 1 m false]=[AV.slcT none (Row.M [Seg.arr .i64 g m]) 1 m false]) (Tr.reqP ([AV.slc 0 6 0 0 1 m none,AV.fn (Fn.func 87) [] [AV.ptr 0 0 0 0,AV.ptr 0 1 0 0]]=[AV.slc 0 6 0 0 1 m none,AV.fn (Fn.func 87) [] [AV.ptr 0 0 0 0,AV.ptr 0 1 0 0]]∧Z0::H=Z0::H) (Tr.req (eqN 0 0) (Tr.req (inO 0 p 0 m) (Tr.ok (Ex.normal,[(1,AV.slcT none (Row.M [Seg.arr .i64 (shO g2 0) p]) 1 p false,none),(2,AV.ptr 0 0 0 0,none),(6,AV.slc 0 3 0 0 1 1 none,none),(7,AV.slc 0 5 0 0 1 1 none,none)],{ lock:=false,bs:=[(0,Blk.row (Row.G [AV.ptrT (some 1) (Row.G [slA 7 l y]) 0])),(0,Blk.row (Row.I .i64 [y (addO (addO (idO 0 i 7) 5) 1)])),(0,Blk.row (Row.I .i64 [y (addO (addO (idO 0 i 7) 5) 1)])),(0,Blk.row (Row.M [Seg.arr .i64 (lstO [y (addO (addO (idO 0 i 7) 5) 1)]) 1])),(0,Blk.row (Row.I .i64 [i])),(0,Blk.row (Row.M [Seg.arr .i64 (lstO [i]) 1])),(0,Blk.dead)] } :: H))))))))))))))))) (Tr.ok (Ex.exit 0,[(1,AV.slcT none (Row.M [Seg.arr .i64 g m]) 1 m false,none),(2,AV.ptr 0 0 0 0,none),(6,AV.nils,none),(7,AV.nils,none),(12,AV.bool false,some 1)],l063 l y::H))) [AV.slcT none (Row.M [Seg.arr .i64 g m]) 1 m false,AV.fn (Fn.func 86) [] [AV.ptr 0 0 0 0]])) { lock:=false,bs:=[(0,Blk.row (Row.G [AV.ptrT (some 1) (Row.G [slA 7 l y]) 0])),(0,Blk.row (Row.I .i64 [y (addO (addO (idO 0 i 7) 5) 1)])),(0,Blk.row (Row.I .i64 [y (addO (addO (idO 0 i 7) 5) 1)])),(0,Blk.row (Row.M [Seg.arr .i64 (lstO [y (addO (addO (idO 0 i 7) 5) 1)]) 1])),(0,Blk.row (Row.I .i64 [i])),(0,Blk.row (Row.M [Seg.arr .i64 (lstO [i]) 1])),(0,Blk.row (Row.M [Seg.arr .i64 g m]))] }:=by kernel_rfl
theorem t63b (n:Nat) (l m p k k2 v2:Nat) (y b a g g2:Nat→Int) (H:Heap) (i:Int):execT (cxD n 63 44) (il (ct63 [0,3] 7 m p g i (l163 l k k2 v2 y b a) (lb63 l m k k2 v2 y b a g i) (lb63 l m k k2 v2 y b a g2 i) H) n 0) noBT noRT (part Tryz.f63 [1,1,1,0,0,0]) (hints (fr63 (sl1 m g false) (.slc 0 2 v2 0 1 k none) (.slc 0 1 k2 0 1 k none))) (l163 l k k2 v2 y b a::H) =
 (fun (Z0:Lvl)=>((fun (Z1:Lvl)=>((fun (Z2:Lvl)=>((fun (Z3:List AV)=>((fun (Z4:List AV)=>((fun (Z5:List AV)=>Tr.ite (ltI (Int.ofNat 0) (Int.ofNat m)) (Tr.reqP (Z5=Z5∧Z2::H=Z2::H) (Tr.req (inI i l) (Tr.req (ltN (addO (addO (idO 0 i 7) 5) 1) (mulO l 7)) (Tr.req (bndI (Int.ofNat k) k) (Tr.req (bndI (Int.ofNat k) (toN (Int.ofNat k))) (Tr.req (roomO (toN (Int.ofNat k)) 1 8) (Tr.req (eqN 0 0) (Tr.req (leN 1 1) (Tr.ite (ltN (toN (Int.ofNat k)) (addO (toN (Int.ofNat k)) 1)) (Tr.req (eqN v2 v2) (Tr.req (leN (toN (Int.ofNat k)) (toN (Int.ofNat k))) (Tr.req (inO 0 (toN (Int.ofNat k)) 0 k) (Tr.req (roomO k 1 8) (Tr.req (eqN 0 0) (Tr.req (leN 1 1) (Tr.req (eqN k2 k2) (Tr.req (eqN (addO 0 k) k) (Tr.reqP (Z4=Z4) (Tr.reqP (Z3=Z3∧Z0::H=Z0::H) (Tr.req (eqN 0 0) (Tr.req (inO 0 p 0 m) (Tr.ok (Ex.normal,[(1,AV.slcT none (Row.M [Seg.arr .i64 (shO g2 0) p]) 1 p false,none),(2,AV.ptr 0 0 0 0,none),(6,AV.slc 0 5 0 0 1 (addO (toN (Int.ofNat k)) 1) none,none),(7,AV.slc 0 1 (Nat.succ k2) 0 1 (addO k 1) none,none)],Z1::H)))))))))))))) (Tr.req (eqN v2 v2) (Tr.req (ltN (addO 0 (toN (Int.ofNat k))) k) (Tr.req (andB (leN v2 v2) (leN v2 (Nat.succ v2))) (Tr.req (roomO k 1 8) (Tr.req (eqN 0 0) (Tr.req (leN 1 1) (Tr.req (eqN k2 k2) (Tr.req (eqN (addO 0 k) k) (Tr.reqP (Z4=Z4) (Tr.reqP (Z3=Z3∧{ lock:=false,bs:=[(0,Blk.row (Row.G [AV.ptrT (some 1) (Row.G [slA 7 l y]) 0])),(Nat.succ k2,Blk.row (Row.M [Seg.arr .i64 (appO (shO a 0) k (lstO [i])) (addO k 1)])),(v2,Blk.row (Row.M [Seg.arr .i64 (updO b (addO 0 (toN (Int.ofNat k))) (y (addO (addO (idO 0 i 7) 5) 1))) k])),(0,Blk.row (Row.I .i64 [y (addO (addO (idO 0 i 7) 5) 1)])),(0,Blk.row (Row.I .i64 [y (addO (addO (idO 0 i 7) 5) 1)])),(0,Blk.dead),(0,Blk.row (Row.I .i64 [i])),(0,Blk.row (Row.M [Seg.arr .i64 g m]))] } :: H=Z0::H) (Tr.req (eqN 0 0) (Tr.req (inO 0 p 0 m) (Tr.ok (Ex.normal,[(1,AV.slcT none (Row.M [Seg.arr .i64 (shO g2 0) p]) 1 p false,none),(2,AV.ptr 0 0 0 0,none),(6,AV.slc 0 2 v2 0 1 (addO (toN (Int.ofNat k)) 1) (some (toN (Int.ofNat k))),none),(7,AV.slc 0 1 (Nat.succ k2) 0 1 (addO k 1) none,none)],Z1::H))))))))))))))))))))))) (Tr.ok (Ex.exit 0,[(1,AV.slcT none (Row.M [Seg.arr .i64 g m]) 1 m false,none),(2,AV.ptr 0 0 0 0,none),(6,AV.slc 0 2 v2 0 1 k none,none),(7,AV.slc 0 1 k2 0 1 k none,none),(12,AV.bool false,some 1)],Z2::H))) [AV.slcT none (Row.M [Seg.arr .i64 g m]) 1 m false,AV.fn (Fn.func 86) [] [AV.ptr 0 0 0 0]])) [AV.slcT none (Row.M [Seg.arr .i64 g m]) 1 m false])) [AV.slc 0 7 0 0 1 m none,AV.fn (Fn.func 87) [] [AV.ptr 0 0 0 0,AV.ptr 0 3 0 0]])) { lock:=false,bs:=[(0,Blk.row (Row.G [AV.ptrT (some 1) (Row.G [slA 7 l y]) 0])),(k2,Blk.row (Row.M [Seg.arr .i64 a k])),(v2,Blk.row (Row.M [Seg.arr .i64 b k]))] })) { lock:=false,bs:=[(0,Blk.row (Row.G [AV.ptrT (some 1) (Row.G [slA 7 l y]) 0])),(Nat.succ k2,Blk.row (Row.M [Seg.arr .i64 (appO (shO a 0) k (lstO [i])) (addO k 1)])),(v2,Blk.row (Row.M [Seg.arr .i64 b k])),(0,Blk.row (Row.I .i64 [y (addO (addO (idO 0 i 7) 5) 1)])),(0,Blk.row (Row.I .i64 [y (addO (addO (idO 0 i 7) 5) 1)])),(0,Blk.row (Row.M [Seg.arr .i64 (appO (shO b 0) (toN (Int.ofNat k)) (lstO [y (addO (addO (idO 0 i 7) 5) 1)])) (addO (toN (Int.ofNat k)) 1)])),(0,Blk.row (Row.I .i64 [i])),(0,Blk.dead)] })) { lock:=false,bs:=[(0,Blk.row (Row.G [AV.ptrT (some 1) (Row.G [slA 7 l y]) 0])),(Nat.succ k2,Blk.row (Row.M [Seg.arr .i64 (appO (shO a 0) k (lstO [i])) (addO k 1)])),(v2,Blk.row (Row.M [Seg.arr .i64 b k])),(0,Blk.row (Row.I .i64 [y (addO (addO (idO 0 i 7) 5) 1)])),(0,Blk.row (Row.I .i64 [y (addO (addO (idO 0 i 7) 5) 1)])),(0,Blk.row (Row.M [Seg.arr .i64 (appO (shO b 0) (toN (Int.ofNat k)) (lstO [y (addO (addO (idO 0 i 7) 5) 1)])) (addO (toN (Int.ofNat k)) 1)])),(0,Blk.row (Row.I .i64 [i])),(0,Blk.row (Row.M [Seg.arr .i64 g m]))] }:=by kernel_rfl
theorem u63b (n:Nat) (l m p k k2 v2:Nat) (y b a g g2:Nat→Int) (H:Heap):bodyT Tryz.prog (cd n) 100000 63 Tryz.f63 (KtB.kt 63) (il noCt n 0) (blkE noBT 0 (fr63 (sl1 m g false) .nils .nils) (l063 l y::H) (.ok (.normal,hints (fr63 (sl1 p g2 false) (.slc 0 2 v2 0 1 k none) (.slc 0 1 k2 0 1 k none)++[(12,.bool false)]),l163 l k k2 v2 y b a::H))) noRT [(.ptrT (some 0) (.G [slA 7 l y]) 0,none),(sl1 m g false,none)] H =
 (fun (Z0:Frm)=>Tr.reqP (Z0=Z0∧l063 l y::H=l063 l y::H) (Tr.req (eqN v2 v2) (Tr.req (inO 0 k 0 k) (Tr.req (eqN k2 k2) (Tr.req (inO 0 k 0 k) (Tr.ok ((AV.tup [AV.slcT none (Row.M [Seg.arr .i64 (shO b 0) k]) 1 k false,AV.slcT none (Row.M [Seg.arr .i64 (shO a 0) k]) 1 k false],none),H))))))) [(1,AV.slcT none (Row.M [Seg.arr .i64 g m]) 1 m false),(2,AV.ptr 0 0 0 0),(6,AV.nils),(7,AV.nils)]:=by kernel_rfl
theorem ct68_ok {k m:Nat} {g:Nat→Int} {t:Ctr} (h1:1≤m) (h2:m≤1000) (ht:t.Ok (cd (k+1))):(addCt t 68 (ct68 m g)).Ok (cd (k+1)):=by
 refine addCt_ok ht (fun args H x hx=>?_)
 unfold ct68 at hx
 split at hx
 · obtain ⟨e,hx⟩:=Tr.reqP_some hx
   rw[e,c68 k _ m g false _ h1 h2,← Tr.ok_some hx,lenX_eq]
 · exact (Tr.bad_some hx).elim
def okE (l:Nat) (z:Nat→Int) (x:Int):Prop:=0≤x∧x<l∧bLo z x.toNat≤bHi z x.toNat
def pB (z:Nat→Int) (b x:Int):Bool:=dnB z b x.toNat
theorem hB_eq {l:Nat} {z:Nat→Int} {i:Int} (hl:l≤14) (h:okE l z i):hB (oY z l) i=bHi z i.toNat:=by
 unfold hB;rw[addO_eq,addO_eq];exact oY_hi l z i hl ⟨h.1,h.2.1⟩
theorem oY_lo {l:Nat} {z:Nat→Int} {i:Int} (hl:l≤14) (h:0≤i∧i<l):oY z l (idO 0 i 7+5)=bLo z i.toNat:=by
 rw[idO_eq,show 0+i.toNat*7+5=i.toNat*7+5 by omega]
 exact oY_at z (by omega) (by omega)
theorem oY_h6 {l:Nat} {z:Nat→Int} {i:Int} (hl:l≤14) (h:0≤i∧i<l):oY z l (idO 0 i 7+6)=bHi z i.toNat:=oY_hi l z i hl h
section
variable (n l:Nat) (z:Nat→Int) (b:Int) (m:Nat) (g:Nat→Int) (H:Heap) (x:Int) (hl:l≤14) (hx:0≤x∧x<l)
include hl hx
theorem c87a1 (b2 b3 b4 b5:Nat×Blk):cd (n+2) (.fn 87) [.int .i64 x,.ptr 1 0 0 0,.ptr 1 1 0 0] (lvE::lva (bx63 l (oY z l)) (0,.row (.I .i64 [b])) b2 b3 b4 b5 m g::H)=some (.bool (pB z b x),lvE::lva (bx63 l (oY z l)) (0,.row (.I .i64 [b])) b2 b3 b4 b5 m g::H):=by
 have o1:=oY_lo (z:=z) hl hx
 have o2:=oY_h6 (z:=z) hl hx
 have hd:pB z b x=(decide (bLo z x.toNat≤b) && decide (b≤bHi z x.toNat)):=rfl
 refine fn_all (n:=n+1) Tryz.func87 rfl rfl rfl (u87a1 n l (oY z l) b b2 b3 b4 b5 m g H x) (il_no n 1) (noBT_ok _ _) (noRT_ok _ _) ?_
 simp only[addO_eq]
 rw[o1,o2,hd,leI_eq b]
 clear hd o1 o2
 generalize bLo z x.toNat=lo at *
 generalize bHi z x.toNat=hi at *
 have e7:idO 0 x 7=x.toNat*7:=by rw[idO_eq];omega
 rw[e7]
 by_cases h:lo≤b
 · rw[decide_eq_true h]
   repeat' first | (refine Tr.all_ite (fun hc=>?_) (fun hc=>?_)<;>(try simp (disch:=omega) only[nV,nW] at hc)<;>try omega) | (refine Tr.all_req ?_ ?_;· (try simp (disch:=omega) only[nV,nW]);try omega) | (refine Tr.all_reqP ?_ ?_;· first | exact trivial | rfl | exact ⟨rfl,rfl⟩ | exact ⟨rfl,rfl,rfl⟩ | (simp (disch:=omega) only[nV,nW];done) | ((try simp (disch:=omega) only[nV,nW]);omega)) | fail
   all_goals first
    | exact Tr.all_ok ⟨rfl,rfl⟩
    | fail
 · rw[decide_eq_false h]
   repeat' first | (refine Tr.all_ite (fun hc=>?_) (fun hc=>?_)<;>(try simp (disch:=omega) only[nV,nW] at hc)<;>try omega) | (refine Tr.all_req ?_ ?_;· (try simp (disch:=omega) only[nV,nW]);try omega) | (refine Tr.all_reqP ?_ ?_;· first | exact trivial | rfl | exact ⟨rfl,rfl⟩ | exact ⟨rfl,rfl,rfl⟩ | (simp (disch:=omega) only[nV,nW];done) | ((try simp (disch:=omega) only[nV,nW]);omega)) | fail
   all_goals first
    | exact Tr.all_ok ⟨rfl,rfl⟩
    | fail
theorem c87a2 (b2 b3 b4 b5:Nat×Blk):cd (n+2) (.fn 87) [.int .i64 x,.ptr 2 0 0 0,.ptr 2 1 0 0] (lvE::lvE::lva (bx63 l (oY z l)) (0,.row (.I .i64 [b])) b2 b3 b4 b5 m g::H)=some (.bool (pB z b x),lvE::lvE::lva (bx63 l (oY z l)) (0,.row (.I .i64 [b])) b2 b3 b4 b5 m g::H):=by
 have o1:=oY_lo (z:=z) hl hx
 have o2:=oY_h6 (z:=z) hl hx
 have hd:pB z b x=(decide (bLo z x.toNat≤b) && decide (b≤bHi z x.toNat)):=rfl
 refine fn_all (n:=n+1) Tryz.func87 rfl rfl rfl (u87a2 n l (oY z l) b b2 b3 b4 b5 m g H x) (il_no n 1) (noBT_ok _ _) (noRT_ok _ _) ?_
 simp only[addO_eq]
 rw[o1,o2,hd,leI_eq b]
 clear hd o1 o2
 generalize bLo z x.toNat=lo at *
 generalize bHi z x.toNat=hi at *
 have e7:idO 0 x 7=x.toNat*7:=by rw[idO_eq];omega
 rw[e7]
 by_cases h:lo≤b
 · rw[decide_eq_true h]
   repeat' first | (refine Tr.all_ite (fun hc=>?_) (fun hc=>?_)<;>(try simp (disch:=omega) only[nV,nW] at hc)<;>try omega) | (refine Tr.all_req ?_ ?_;· (try simp (disch:=omega) only[nV,nW]);try omega) | (refine Tr.all_reqP ?_ ?_;· first | exact trivial | rfl | exact ⟨rfl,rfl⟩ | exact ⟨rfl,rfl,rfl⟩ | (simp (disch:=omega) only[nV,nW];done) | ((try simp (disch:=omega) only[nV,nW]);omega)) | fail
   all_goals first
    | exact Tr.all_ok ⟨rfl,rfl⟩
    | fail
 · rw[decide_eq_false h]
   repeat' first | (refine Tr.all_ite (fun hc=>?_) (fun hc=>?_)<;>(try simp (disch:=omega) only[nV,nW] at hc)<;>try omega) | (refine Tr.all_req ?_ ?_;· (try simp (disch:=omega) only[nV,nW]);try omega) | (refine Tr.all_reqP ?_ ?_;· first | exact trivial | rfl | exact ⟨rfl,rfl⟩ | exact ⟨rfl,rfl,rfl⟩ | (simp (disch:=omega) only[nV,nW];done) | ((try simp (disch:=omega) only[nV,nW]);omega)) | fail
   all_goals first
    | exact Tr.all_ok ⟨rfl,rfl⟩
    | fail
theorem c87b1 (b1 b2 b4 b5 b6:Nat×Blk):cd (n+2) (.fn 87) [.int .i64 x,.ptr 1 0 0 0,.ptr 1 3 0 0] (lvE::lvb (bx63 l (oY z l)) b1 b2 (0,.row (.I .i64 [b])) b4 b5 b6 m g::H)=some (.bool (pB z b x),lvE::lvb (bx63 l (oY z l)) b1 b2 (0,.row (.I .i64 [b])) b4 b5 b6 m g::H):=by
 have o1:=oY_lo (z:=z) hl hx
 have o2:=oY_h6 (z:=z) hl hx
 have hd:pB z b x=(decide (bLo z x.toNat≤b) && decide (b≤bHi z x.toNat)):=rfl
 refine fn_all (n:=n+1) Tryz.func87 rfl rfl rfl (u87b1 n l (oY z l) b b1 b2 b4 b5 b6 m g H x) (il_no n 1) (noBT_ok _ _) (noRT_ok _ _) ?_
 simp only[addO_eq]
 rw[o1,o2,hd,leI_eq b]
 clear hd o1 o2
 generalize bLo z x.toNat=lo at *
 generalize bHi z x.toNat=hi at *
 have e7:idO 0 x 7=x.toNat*7:=by rw[idO_eq];omega
 rw[e7]
 by_cases h:lo≤b
 · rw[decide_eq_true h]
   repeat' first | (refine Tr.all_ite (fun hc=>?_) (fun hc=>?_)<;>(try simp (disch:=omega) only[nV,nW] at hc)<;>try omega) | (refine Tr.all_req ?_ ?_;· (try simp (disch:=omega) only[nV,nW]);try omega) | (refine Tr.all_reqP ?_ ?_;· first | exact trivial | rfl | exact ⟨rfl,rfl⟩ | exact ⟨rfl,rfl,rfl⟩ | (simp (disch:=omega) only[nV,nW];done) | ((try simp (disch:=omega) only[nV,nW]);omega)) | fail
   all_goals first
    | exact Tr.all_ok ⟨rfl,rfl⟩
    | fail
 · rw[decide_eq_false h]
   repeat' first | (refine Tr.all_ite (fun hc=>?_) (fun hc=>?_)<;>(try simp (disch:=omega) only[nV,nW] at hc)<;>try omega) | (refine Tr.all_req ?_ ?_;· (try simp (disch:=omega) only[nV,nW]);try omega) | (refine Tr.all_reqP ?_ ?_;· first | exact trivial | rfl | exact ⟨rfl,rfl⟩ | exact ⟨rfl,rfl,rfl⟩ | (simp (disch:=omega) only[nV,nW];done) | ((try simp (disch:=omega) only[nV,nW]);omega)) | fail
   all_goals first
    | exact Tr.all_ok ⟨rfl,rfl⟩
    | fail
theorem c87b2 (b1 b2 b4 b5 b6:Nat×Blk):cd (n+2) (.fn 87) [.int .i64 x,.ptr 2 0 0 0,.ptr 2 3 0 0] (lvE::lvE::lvb (bx63 l (oY z l)) b1 b2 (0,.row (.I .i64 [b])) b4 b5 b6 m g::H)=some (.bool (pB z b x),lvE::lvE::lvb (bx63 l (oY z l)) b1 b2 (0,.row (.I .i64 [b])) b4 b5 b6 m g::H):=by
 have o1:=oY_lo (z:=z) hl hx
 have o2:=oY_h6 (z:=z) hl hx
 have hd:pB z b x=(decide (bLo z x.toNat≤b) && decide (b≤bHi z x.toNat)):=rfl
 refine fn_all (n:=n+1) Tryz.func87 rfl rfl rfl (u87b2 n l (oY z l) b b1 b2 b4 b5 b6 m g H x) (il_no n 1) (noBT_ok _ _) (noRT_ok _ _) ?_
 simp only[addO_eq]
 rw[o1,o2,hd,leI_eq b]
 clear hd o1 o2
 generalize bLo z x.toNat=lo at *
 generalize bHi z x.toNat=hi at *
 have e7:idO 0 x 7=x.toNat*7:=by rw[idO_eq];omega
 rw[e7]
 by_cases h:lo≤b
 · rw[decide_eq_true h]
   repeat' first | (refine Tr.all_ite (fun hc=>?_) (fun hc=>?_)<;>(try simp (disch:=omega) only[nV,nW] at hc)<;>try omega) | (refine Tr.all_req ?_ ?_;· (try simp (disch:=omega) only[nV,nW]);try omega) | (refine Tr.all_reqP ?_ ?_;· first | exact trivial | rfl | exact ⟨rfl,rfl⟩ | exact ⟨rfl,rfl,rfl⟩ | (simp (disch:=omega) only[nV,nW];done) | ((try simp (disch:=omega) only[nV,nW]);omega)) | fail
   all_goals first
    | exact Tr.all_ok ⟨rfl,rfl⟩
    | fail
 · rw[decide_eq_false h]
   repeat' first | (refine Tr.all_ite (fun hc=>?_) (fun hc=>?_)<;>(try simp (disch:=omega) only[nV,nW] at hc)<;>try omega) | (refine Tr.all_req ?_ ?_;· (try simp (disch:=omega) only[nV,nW]);try omega) | (refine Tr.all_reqP ?_ ?_;· first | exact trivial | rfl | exact ⟨rfl,rfl⟩ | exact ⟨rfl,rfl,rfl⟩ | (simp (disch:=omega) only[nV,nW];done) | ((try simp (disch:=omega) only[nV,nW]);omega)) | fail
   all_goals first
    | exact Tr.all_ok ⟨rfl,rfl⟩
    | fail
end
end Go.Eng
end
section
namespace Go.Eng
open Go.Proofs
set_option linter.unusedVariables false
set_option linter.unusedSimpArgs false
set_option maxRecDepth 100000
theorem il_ok0 (tab:Ctr) (n:Nat) (ht:tab.Ok (cd n)):(il tab n 0).Ok (cd n) :=
 ⟨oraD_mode _,fun tgt args H x h=>by
   unfold il inlT at h
   split at h
   · split at h
     · rename_i c hc
       exact ht _ _ hc _ _ _ h
     · exact (Tr.bad_some h).elim
   · exact (Tr.bad_some h).elim⟩
section
variable (n l:Nat) (z:Nat→Int) (b:Int) (m:Nat) (g:Nat→Int) (H:Heap) (hl:l≤14) (hm:m≤1000) (hg:∀ j,j<m→0≤g j∧g j<l)
include hl hm hg
theorem del63a (b2 b3 b4 b5:Nat×Blk):∃ g',cd (n+4) (.fn 67) [.slc 0 6 0 0 1 m none,.fn (.func 87) [] [.ptr 0 0 0 0,.ptr 0 1 0 0]] (lva (bx63 l (oY z l)) (0,.row (.I .i64 [b])) b2 b3 b4 b5 m g::H)=some (.slc 0 6 0 0 1 (kpt (pB z b) g m).length none,lva (bx63 l (oY z l)) (0,.row (.I .i64 [b])) b2 b3 b4 b5 m g'::H)∧∀ x,x<(kpt (pB z b) g m).length→g' x=(kpt (pB z b) g m).getD x 0:=by
 refine c67a (n+2) (pB z b) (fun x C H'=>(0≤x∧x<l)∧((C=[.ptr 1 0 0 0,.ptr 1 1 0 0]∧∃ g,H'=lvE::lva (bx63 l (oY z l)) (0,.row (.I .i64 [b])) b2 b3 b4 b5 m g::H)∨(C=[.ptr 2 0 0 0,.ptr 2 1 0 0]∧∃ g,H'=lvE::lvE::lva (bx63 l (oY z l)) (0,.row (.I .i64 [b])) b2 b3 b4 b5 m g::H))) _ _ _ _ _ _ m g H ?_ hm (fun j g' hj=>⟨hg j hj,.inl ⟨rfl,g',rfl⟩⟩) (fun j hj=>⟨hg j hj,.inr ⟨rfl,g,rfl⟩⟩)
 rintro k x C H' ⟨hx,h⟩
 rw[show n+2+k=n+k+2 by omega]
 rcases h with ⟨rfl,g,rfl⟩ | ⟨rfl,g,rfl⟩
 · exact c87a1 (n+k) l z b m g H x hl hx b2 b3 b4 b5
 · exact c87a2 (n+k) l z b m g H x hl hx b2 b3 b4 b5
theorem del63b (b1 b2 b4 b5 b6:Nat×Blk):∃ g',cd (n+4) (.fn 67) [.slc 0 7 0 0 1 m none,.fn (.func 87) [] [.ptr 0 0 0 0,.ptr 0 3 0 0]] (lvb (bx63 l (oY z l)) b1 b2 (0,.row (.I .i64 [b])) b4 b5 b6 m g::H)=some (.slc 0 7 0 0 1 (kpt (pB z b) g m).length none,lvb (bx63 l (oY z l)) b1 b2 (0,.row (.I .i64 [b])) b4 b5 b6 m g'::H)∧∀ x,x<(kpt (pB z b) g m).length→g' x=(kpt (pB z b) g m).getD x 0:=by
 refine c67b (n+2) (pB z b) (fun x C H'=>(0≤x∧x<l)∧((C=[.ptr 1 0 0 0,.ptr 1 3 0 0]∧∃ g,H'=lvE::lvb (bx63 l (oY z l)) b1 b2 (0,.row (.I .i64 [b])) b4 b5 b6 m g::H)∨(C=[.ptr 2 0 0 0,.ptr 2 3 0 0]∧∃ g,H'=lvE::lvE::lvb (bx63 l (oY z l)) b1 b2 (0,.row (.I .i64 [b])) b4 b5 b6 m g::H))) _ _ _ _ _ _ _ m g H ?_ hm (fun j g' hj=>⟨hg j hj,.inl ⟨rfl,g',rfl⟩⟩) (fun j hj=>⟨hg j hj,.inr ⟨rfl,g,rfl⟩⟩)
 rintro k x C H' ⟨hx,h⟩
 rw[show n+2+k=n+k+2 by omega]
 rcases h with ⟨rfl,g,rfl⟩ | ⟨rfl,g,rfl⟩
 · exact c87b1 (n+k) l z b m g H x hl hx b1 b2 b4 b5 b6
 · exact c87b2 (n+k) l z b m g H x hl hx b1 b2 b4 b5 b6
end
section
variable (n l:Nat) (z:Nat→Int) (m:Nat) (g:Nat→Int) (H:Heap) (hl:l≤14) (hm:m+1≤1000) (hg:∀ j,j<m+1→okE l z (g j))
include hg in
theorem ls_ok:okE l z (lsZ z g m):=by
 obtain ⟨j,h1,h2⟩:=lsZ_in z g m
 rw[h2];exact hg j (by omega)
include hl hm hg in
theorem r63a:∃ g',(∃ x,exec (cxD (n+4) 63 44) (part Tryz.f63 [1,1,1,0,0,0]) (fr63 (sl1 (m+1) g false) .nils .nils) (l063 l (oY z l)::H)=some x∧x.1=.normal∧tidy 1 x.2.1 x.2.2=(fr63 (sl1 (kpt (pB z (bHi z (lsZ z g m).toNat)) g (m+1)).length g' false) (.slc 0 2 0 0 1 1 none) (.slc 0 1 0 0 1 1 none),l163 l 1 0 0 (oY z l) (lstO [bHi z (lsZ z g m).toNat]) (lstO [lsZ z g m])::H))∧∀ x,x<(kpt (pB z (bHi z (lsZ z g m).toNat)) g (m+1)).length→g' x=(kpt (pB z (bHi z (lsZ z g m).toNat)) g (m+1)).getD x 0:=by
 have hi:=ls_ok l z m g hg
 have hb:=hB_eq hl hi
 have g1:∀ j,j<m+1→0≤g j∧g j<l:=fun j hj=>⟨(hg j hj).1,(hg j hj).2.1⟩
 obtain ⟨g2,h1,h2⟩:=del63a n l z (hB (oY z l) (lsZ z g m)) (m+1) g H hl hm g1 (0,.row (.I .i64 [hB (oY z l) (lsZ z g m)])) (0,.row (.M [.arr .i64 (lstO [hB (oY z l) (lsZ z g m)]) 1])) (0,.row (.I .i64 [lsZ z g m])) (0,.row (.M [.arr .i64 (lstO [lsZ z g m]) 1]))
 refine ⟨shO g2 0,?_,fun x hx=>by rw[shO_zero,h2 x (by rw[hb];exact hx),hb]⟩
 have h85:=c85 (n+2) l z g m [] H hl (by omega) g1
 have hlen:=kp_len (pB z (hB (oY z l) (lsZ z g m))) g (m+1)
 obtain ⟨hi1,hi2,_⟩:=hi
 rw[← hb]
 generalize (kpt (pB z (hB (oY z l) (lsZ z g m))) g (m+1)).length=p at *
 generalize lsZ z g m=i at *
 have e7:idO 0 i 7=i.toNat*7:=by rw[idO_eq];omega
 refine ex_all (t63a (n+4) l (m+1) p (oY z l) g g2 H i) (il_ok0 _ (n+4) (ctE_ok (ctE_ok (ct68_ok (k:=n+3) (by omega) hm (noCt_ok _)) (fun x hx=>by rw[← Tr.ok_some hx];exact h85)) (fun x hx=>by rw[← Tr.ok_some hx];exact h1))) (noBT_ok _ _) (noRT_ok _ _) ?_
 rw[show oY z l (addO (addO (idO 0 i 7) 5) 1)=hB (oY z l) i from rfl]
 clear hb h1 h2 h85
 generalize hB (oY z l) i=b at *
 rw[e7]
 repeat' first | (refine Tr.all_ite (fun hc=>?_) (fun hc=>?_)<;>(try simp (disch:=omega) only[nV,nW] at hc)<;>try omega) | (refine Tr.all_req ?_ ?_;· (try simp (disch:=omega) only[nV,nW]);try omega) | (refine Tr.all_reqP ?_ ?_;· first | exact trivial | rfl | exact ⟨rfl,rfl⟩ | exact ⟨rfl,rfl,rfl⟩ | (simp (disch:=omega) only[nV,nW];done) | ((try simp (disch:=omega) only[nV,nW]);omega)) | fail
 all_goals exact Tr.all_ok ⟨rfl,by kernel_rfl⟩
include hl hm hg in
theorem r63b (q:Nat) (hq:q≤1000) (B A:List Int) (hB:B.length=q+1) (hA:A.length=q+1):∃ g',(∃ x,exec (cxD (n+4) 63 44) (part Tryz.f63 [1,1,1,0,0,0]) (fr63 (sl1 (m+1) g false) (.slc 0 2 0 0 1 (q+1) none) (.slc 0 1 q 0 1 (q+1) none)) (l163 l (q+1) q 0 (oY z l) (lstO B) (lstO A)::H)=some x∧x.1=.normal∧tidy 1 x.2.1 x.2.2=(fr63 (sl1 (kpt (pB z (bHi z (lsZ z g m).toNat)) g (m+1)).length g' false) (.slc 0 2 0 0 1 (q+2) none) (.slc 0 1 (q+1) 0 1 (q+2) none),l163 l (q+2) (q+1) 0 (oY z l) (lstO (B++[bHi z (lsZ z g m).toNat])) (lstO (A++[lsZ z g m]))::H))∧∀ x,x<(kpt (pB z (bHi z (lsZ z g m).toNat)) g (m+1)).length→g' x=(kpt (pB z (bHi z (lsZ z g m).toNat)) g (m+1)).getD x 0:=by
 have hi:=ls_ok l z m g hg
 have hb:=hB_eq hl hi
 have g1:∀ j,j<m+1→0≤g j∧g j<l:=fun j hj=>⟨(hg j hj).1,(hg j hj).2.1⟩
 obtain ⟨g2,h1,h2⟩:=del63b n l z (Go.Eng.hB (oY z l) (lsZ z g m)) (m+1) g H hl hm g1 (q+1,.row (.M [.arr .i64 (appO (shO (lstO A) 0) (q+1) (lstO [lsZ z g m])) (addO (q+1) 1)])) (0,.row (.M [.arr .i64 (lstO B) (q+1)])) (0,.row (.I .i64 [Go.Eng.hB (oY z l) (lsZ z g m)])) (0,.row (.M [.arr .i64 (appO (shO (lstO B) 0) (toN (Int.ofNat (q+1))) (lstO [Go.Eng.hB (oY z l) (lsZ z g m)])) (addO (toN (Int.ofNat (q+1))) 1)])) (0,.row (.I .i64 [lsZ z g m]))
 refine ⟨shO g2 0,?_,fun x hx=>by rw[shO_zero,h2 x (by rw[hb];exact hx),hb]⟩
 have h85:=c85 (n+2) l z g m [(q,.row (.M [.arr .i64 (lstO A) (q+1)])),(0,.row (.M [.arr .i64 (lstO B) (q+1)]))] H hl (by omega) g1
 have hlen:=kp_len (pB z (Go.Eng.hB (oY z l) (lsZ z g m))) g (m+1)
 obtain ⟨hi1,hi2,_⟩:=hi
 rw[← hb]
 generalize (kpt (pB z (Go.Eng.hB (oY z l) (lsZ z g m))) g (m+1)).length=p at *
 generalize lsZ z g m=i at *
 have e7:idO 0 i 7=i.toNat*7:=by rw[idO_eq];omega
 have e8:toN (Int.ofNat (q+1))=q+1:=toN_eq _
 have e9:addO (q+1) 1=q+2:=by rw[addO_eq]
 have a1:=lst_app A i
 have a2:=lst_app B (Go.Eng.hB (oY z l) i)
 rw[hA] at a1
 rw[hB] at a2
 refine ex_all (t63b (n+4) l (m+1) p (q+1) q 0 (oY z l) (lstO B) (lstO A) g g2 H i) (il_ok0 _ (n+4) (ctE_ok (ctE_ok (ct68_ok (k:=n+3) (by omega) hm (noCt_ok _)) (fun x hx=>by rw[← Tr.ok_some hx];exact h85)) (fun x hx=>by rw[← Tr.ok_some hx];exact h1))) (noBT_ok _ _) (noRT_ok _ _) ?_
 rw[show oY z l (addO (addO (idO 0 i 7) 5) 1)=Go.Eng.hB (oY z l) i from rfl]
 clear hb h1 h2 h85
 rw[e8,e9,a1,a2]
 generalize Go.Eng.hB (oY z l) i=b at *
 rw[e7]
 repeat' first | (refine Tr.all_ite (fun hc=>?_) (fun hc=>?_)<;>(try simp (disch:=omega) only[nV,nW] at hc)<;>try omega) | (refine Tr.all_req ?_ ?_;· (try simp (disch:=omega) only[nV,nW]);try omega) | (refine Tr.all_reqP ?_ ?_;· first | exact trivial | rfl | exact ⟨rfl,rfl⟩ | exact ⟨rfl,rfl,rfl⟩ | (simp (disch:=omega) only[nV,nW];done) | ((try simp (disch:=omega) only[nV,nW]);omega)) | fail
 all_goals exact Tr.all_ok ⟨rfl,by kernel_rfl⟩
end
noncomputable def bsS (z:Nat→Int):Nat→List Int→List (Int×Int)
 | 0,_=>[]
 | _+1,[]=>[]
 | k+1,a::r=>(bHi z (lsZ z (lstO (a::r)) r.length).toNat,lsZ z (lstO (a::r)) r.length)::bsS z k (kpt (pB z (bHi z (lsZ z (lstO (a::r)) r.length).toNat)) (lstO (a::r)) (r.length+1))
theorem kp_congr (P:Int→Bool) (g h:Nat→Int) (m:Nat) (e:∀ j,j<m→g j=h j):kpt P g m=kpt P h m:=by
 induction m with
 | zero=>rfl
 | succ m ih =>
   show (if P (g m)=true then kpt P g m else kpt P g m++[g m])=(if P (h m)=true then kpt P h m else kpt P h m++[h m])
   rw[ih (fun j hj=>e j (by omega)),e m (by omega)]
theorem ls_congr (z g h:Nat→Int) (m:Nat) (e:∀ j,j<m+1→g j=h j):lsZ z g m=lsZ z h m:=by
 induction m with
 | zero=>exact e 0 (by omega)
 | succ m ih =>
   have h1:=ih (fun j hj=>e j (by omega))
   have h2:=e (m+1) (by omega)
   show (if bHi z (g (m+1)).toNat<bHi z (lsZ z g m).toNat then g (m+1) else lsZ z g m)=(if bHi z (h (m+1)).toNat<bHi z (lsZ z h m).toNat then h (m+1) else lsZ z h m)
   rw[h1,h2]
theorem kp_mem (P:Int→Bool) (g:Nat→Int) (m:Nat):∀ x,x ∈ kpt P g m↔∃ j,j<m∧g j=x∧P x=false:=by
 induction m with
 | zero=>intro x;simp[kpt]
 | succ m ih =>
   intro x
   show x ∈ (if P (g m)=true then kpt P g m else kpt P g m++[g m])↔_
   constructor
   · intro hx
     split at hx
     · obtain ⟨j,h1,h2⟩:=(ih x).1 hx
       exact ⟨j,by omega,h2⟩
     · rename_i hp
       rcases List.mem_append.1 hx with h | h
       · obtain ⟨j,h1,h2⟩:=(ih x).1 h
         exact ⟨j,by omega,h2⟩
       · rw[List.mem_singleton] at h;subst h
         exact ⟨m,by omega,rfl,by simpa using hp⟩
   · rintro ⟨j,h1,rfl,h3⟩
     by_cases e:j<m
     · have:=(ih (g j)).2 ⟨j,e,rfl,h3⟩
       split
       · exact this
       · exact List.mem_append_left _ this
     · have:j=m:=by omega
       subst this
       rw[if_neg (by rw[h3];decide)]
       simp
theorem kp_lt (P:Int→Bool) (g:Nat→Int) (m j:Nat) (hj:j<m) (h:P (g j)=true):(kpt P g m).length<m:=by
 induction m with
 | zero=>omega
 | succ m ih =>
   show (if P (g m)=true then kpt P g m else kpt P g m++[g m]).length<m+1
   have:=kp_len P g m
   by_cases e:j<m
   · have:=ih e
     split
     · omega
     · rw[List.length_append];simp only[List.length_cons,List.length_nil];omega
   · have:j=m:=by omega
     subst this
     rw[if_pos h];omega
theorem lst_get (L:List Int) (j:Nat) (h:j<L.length):lstO L j ∈ L:=by
 rw[lstO_eq]
 simp[List.getD_eq_getElem?_getD,h]
end Go.Eng
end
section
namespace Go.Eng
open Go.Proofs
set_option linter.unusedVariables false
set_option linter.unusedSimpArgs false
set_option maxRecDepth 100000
theorem t63x (n:Nat) (l m:Nat) (y g:Nat→Int) (H:Heap):execT (cxD n 63 44) (il noCt n 0) noBT noRT (part Tryz.f63 [1,1,1,0,0,0]) (hints (fr63 (sl1 m g false) .nils .nils)) (l063 l y::H) =
 Tr.ite (ltI (Int.ofNat 0) (Int.ofNat m)) Tr.bad (Tr.ok (Ex.exit 0,[(1,AV.slcT none (Row.M [Seg.arr .i64 g m]) 1 m false,none),(2,AV.ptr 0 0 0 0,none),(6,AV.nils,none),(7,AV.nils,none),(12,AV.bool false,some 1)],l063 l y::H)):=by kernel_rfl
theorem t63y (n:Nat) (l m k k2 v2:Nat) (y b a g:Nat→Int) (H:Heap):execT (cxD n 63 44) (il noCt n 0) noBT noRT (part Tryz.f63 [1,1,1,0,0,0]) (hints (fr63 (sl1 m g false) (.slc 0 2 v2 0 1 k none) (.slc 0 1 k2 0 1 k none))) (l163 l k k2 v2 y b a::H) =
 Tr.ite (ltI (Int.ofNat 0) (Int.ofNat m)) Tr.bad (Tr.ok (Ex.exit 0,[(1,AV.slcT none (Row.M [Seg.arr .i64 g m]) 1 m false,none),(2,AV.ptr 0 0 0 0,none),(6,AV.slc 0 2 v2 0 1 k none,none),(7,AV.slc 0 1 k2 0 1 k none,none),(12,AV.bool false,some 1)],{ lock:=false,bs:=[(0,Blk.row (Row.G [AV.ptrT (some 1) (Row.G [slA 7 l y]) 0])),(k2,Blk.row (Row.M [Seg.arr .i64 a k])),(v2,Blk.row (Row.M [Seg.arr .i64 b k]))] } :: H)):=by kernel_rfl
theorem u63c (n:Nat) (l m p:Nat) (y g g2:Nat→Int) (H:Heap):bodyT Tryz.prog (cd n) 100000 63 Tryz.f63 (KtB.kt 63) (il noCt n 0) (blkE noBT 0 (fr63 (sl1 m g false) .nils .nils) (l063 l y::H) (.ok (.normal,hints (fr63 (sl1 p g2 false) .nils .nils++[(12,.bool false)]),l063 l y::H))) noRT [(.ptrT (some 0) (.G [slA 7 l y]) 0,none),(sl1 m g false,none)] H =
 (fun (Z0:Frm)=>Tr.reqP (Z0=Z0∧l063 l y::H=l063 l y::H) (Tr.ok ((AV.tup [AV.nils,AV.nils],none),H))) [(1,AV.slcT none (Row.M [Seg.arr .i64 g m]) 1 m false),(2,AV.ptr 0 0 0 0),(6,AV.nils),(7,AV.nils)]:=by kernel_rfl
noncomputable def sB63:List (Int×Int)→AV
 | []=>.nils
 | _::r=>.slc 0 2 0 0 1 (r.length+1) none
noncomputable def sA63:List (Int×Int)→AV
 | []=>.nils
 | _::r=>.slc 0 1 r.length 0 1 (r.length+1) none
noncomputable def sL63 (l:Nat) (y:Nat→Int):List (Int×Int)→Lvl
 | []=>l063 l y
 | a::r=>l163 l (r.length+1) r.length 0 y (lstO ((a::r).map (·.1))) (lstO ((a::r).map (·.2)))
theorem b63:∀ b,(0,b) ∈ blocksOf (bodyOf Tryz.f63)→b=.loop (part Tryz.f63 [1,1,1,0,0,0]):=by
 have:((blocksOf (bodyOf Tryz.f63)).filter fun x=>Nat.beq x.1 0)=[(0,.loop (part Tryz.f63 [1,1,1,0,0,0]))]:=by kernel_rfl
 intro b hb
 have hm:(0,b) ∈ ((blocksOf (bodyOf Tryz.f63)).filter fun x=>Nat.beq x.1 0):=List.mem_filter.2 ⟨hb,rfl⟩
 rw[this] at hm;simpa using hm
section
variable (n l:Nat) (z:Nat→Int) (H:Heap) (hl:l≤14)
include hl
theorem l63 (L:List Int) (g:Nat→Int) (hL:L.length≤1000) (hg:∀ j,j<L.length→g j=lstO L j) (he:∀ x ∈ L,okE l z x) :
 ∃ y,exec (cxD (n+4) 63 44) (.block 0 (.loop (part Tryz.f63 [1,1,1,0,0,0]))) (fr63 (sl1 L.length g false) .nils .nils) (l063 l (oY z l)::H)=some (.normal,y)∧∃ g',y=(fr63 (sl1 0 g' false) (sB63 (bsS z L.length L)) (sA63 (bsS z L.length L))++[(12,.bool false)],sL63 l (oY z l) (bsS z L.length L)::H):=by
 refine loopI 0 (fun j fr Hx=>∃ (S:List (Int×Int)) (L':List Int) (g':Nat→Int),S.length=j∧j≤L.length∧S++bsS z (L.length-j) L'=bsS z L.length L∧L'.length≤L.length-j∧(∀ j,j<L'.length→g' j=lstO L' j)∧(∀ x ∈ L',okE l z x)∧fr=fr63 (sl1 L'.length g' false) (sB63 S) (sA63 S)∧Hx=sL63 l (oY z l) S::H)
  (fun y=>∃ g',y=(fr63 (sl1 0 g' false) (sB63 (bsS z L.length L)) (sA63 (bsS z L.length L))++[(12,.bool false)],sL63 l (oY z l) (bsS z L.length L)::H)) L.length (by omega) ⟨[],L,g,rfl,by omega,rfl,Nat.le_refl _,hg,he,rfl,rfl⟩ ?_
 rintro j fr Hx ⟨S,L',g',h1,h2,h3,h4,h5,h6,rfl,rfl⟩
 cases L' with
 | nil =>
   have e3:bsS z L.length L=S:=by
    rw[← h3]
    cases e:L.length-j with
    | zero=>simp[bsS]
    | succ k=>simp[bsS]
   rw[e3]
   cases S with
   | nil =>
     obtain ⟨x,y1,rfl⟩:=ex_all (Q:=fun x=>x=(.exit 0,fr63 (sl1 0 g' false) .nils .nils++[(12,.bool false)],l063 l (oY z l)::H)) (t63x (n+4) l 0 (oY z l) g' H) (il_no0 _) (noBT_ok _ _) (noRT_ok _ _) (by
      repeat' first | (refine Tr.all_ite (fun hc=>?_) (fun hc=>?_)<;>(try simp (disch:=omega) only[nV,nW] at hc)<;>try omega) | (refine Tr.all_req ?_ ?_;· (try simp (disch:=omega) only[nV,nW]);try omega) | (refine Tr.all_reqP ?_ ?_;· first | exact trivial | rfl | exact ⟨rfl,rfl⟩ | exact ⟨rfl,rfl,rfl⟩ | (simp (disch:=omega) only[nV,nW];done) | ((try simp (disch:=omega) only[nV,nW]);omega)) | fail
      all_goals exact Tr.all_ok rfl)
     exact ⟨_,y1,.inr ⟨rfl,g',rfl⟩⟩
   | cons a r =>
     obtain ⟨x,y1,rfl⟩:=ex_all (Q:=fun x=>x=(.exit 0,fr63 (sl1 0 g' false) (.slc 0 2 0 0 1 (r.length+1) none) (.slc 0 1 r.length 0 1 (r.length+1) none)++[(12,.bool false)],l163 l (r.length+1) r.length 0 (oY z l) (lstO ((a::r).map (·.1))) (lstO ((a::r).map (·.2)))::H)) (t63y (n+4) l 0 (r.length+1) r.length 0 (oY z l) (lstO ((a::r).map (·.1))) (lstO ((a::r).map (·.2))) g' H) (il_no0 _) (noBT_ok _ _) (noRT_ok _ _) (by
      repeat' first | (refine Tr.all_ite (fun hc=>?_) (fun hc=>?_)<;>(try simp (disch:=omega) only[nV,nW] at hc)<;>try omega) | (refine Tr.all_req ?_ ?_;· (try simp (disch:=omega) only[nV,nW]);try omega) | (refine Tr.all_reqP ?_ ?_;· first | exact trivial | rfl | exact ⟨rfl,rfl⟩ | exact ⟨rfl,rfl,rfl⟩ | (simp (disch:=omega) only[nV,nW];done) | ((try simp (disch:=omega) only[nV,nW]);omega)) | fail
      all_goals exact Tr.all_ok rfl)
     exact ⟨_,y1,.inr ⟨rfl,g',rfl⟩⟩
 | cons a0 r0 =>
   simp only[List.length_cons] at h4 h5
   have hgo:∀ j,j<r0.length+1→okE l z (g' j):=fun j hj=>by
    rw[h5 j hj];exact h6 _ (lst_get (a0::r0) j (by simpa using hj))
   have els:=ls_congr z g' (lstO (a0::r0)) r0.length h5
   obtain ⟨i0,hi1,hi2⟩:=lsZ_in z (lstO (a0::r0)) r0.length
   have hP:pB z (bHi z (lsZ z (lstO (a0::r0)) r0.length).toNat) (lstO (a0::r0) i0)=true:=by
    have:=hgo i0 (by omega)
    rw[h5 i0 (by omega)] at this
    unfold pB dnB
    rw[hi2]
    simp only[Bool.and_eq_true,decide_eq_true_eq]
    exact ⟨this.2.2,Int.le_refl _⟩
   have hlt:=kp_lt _ (lstO (a0::r0)) (r0.length+1) i0 (by omega) hP
   have ekp:=kp_congr (pB z (bHi z (lsZ z (lstO (a0::r0)) r0.length).toNat)) g' (lstO (a0::r0)) (r0.length+1) h5
   have hmm:=kp_mem (pB z (bHi z (lsZ z (lstO (a0::r0)) r0.length).toNat)) (lstO (a0::r0)) (r0.length+1)
   have eS:S++[(bHi z (lsZ z (lstO (a0::r0)) r0.length).toNat,lsZ z (lstO (a0::r0)) r0.length)]++bsS z (L.length-(j+1)) (kpt (pB z (bHi z (lsZ z (lstO (a0::r0)) r0.length).toNat)) (lstO (a0::r0)) (r0.length+1))=bsS z L.length L:=by
    rw[← h3,List.append_assoc]
    congr 1
    rw[show L.length-j=(L.length-(j+1))+1 by omega]
    rfl
   have hok:∀ x ∈ kpt (pB z (bHi z (lsZ z (lstO (a0::r0)) r0.length).toNat)) (lstO (a0::r0)) (r0.length+1),okE l z x:=fun x hx=>by
    obtain ⟨i,y1,y2,_⟩:=(hmm x).1 hx
    rw[← y2,← h5 i y1];exact hgo i y1
   have R:∃ g2 x,exec (cxD (n+4) 63 44) (part Tryz.f63 [1,1,1,0,0,0]) (fr63 (sl1 (r0.length+1) g' false) (sB63 S) (sA63 S)) (sL63 l (oY z l) S::H)=some x∧x.1=.normal∧tidy 1 x.2.1 x.2.2=(fr63 (sl1 (kpt (pB z (bHi z (lsZ z g' r0.length).toNat)) g' (r0.length+1)).length g2 false) (sB63 (S++[(bHi z (lsZ z g' r0.length).toNat,lsZ z g' r0.length)])) (sA63 (S++[(bHi z (lsZ z g' r0.length).toNat,lsZ z g' r0.length)])),sL63 l (oY z l) (S++[(bHi z (lsZ z g' r0.length).toNat,lsZ z g' r0.length)])::H)∧∀ x,x<(kpt (pB z (bHi z (lsZ z g' r0.length).toNat)) g' (r0.length+1)).length→g2 x=(kpt (pB z (bHi z (lsZ z g' r0.length).toNat)) g' (r0.length+1)).getD x 0:=by
    cases S with
    | nil =>
      obtain ⟨g2,⟨x,y1,y2,y3⟩,y4⟩:=r63a n l z r0.length g' H hl (by omega) hgo
      exact ⟨g2,x,y1,y2,y3,y4⟩
    | cons a r =>
      simp only[List.length_cons] at h1
      obtain ⟨g2,⟨x,y1,y2,y3⟩,y4⟩:=r63b n l z r0.length g' H hl (by omega) hgo r.length (by omega) ((a::r).map (·.1)) ((a::r).map (·.2)) (by simp) (by simp)
      refine ⟨g2,x,y1,y2,y3.trans ?_,y4⟩
      show _=(fr63 _ (.slc 0 2 0 0 1 ((r++[_]).length+1) none) (.slc 0 1 (r++[_]).length 0 1 ((r++[_]).length+1) none),l163 l ((r++[_]).length+1) (r++[_]).length 0 (oY z l) (lstO ((a::(r++[_])).map (·.1))) (lstO ((a::(r++[_])).map (·.2)))::H)
      simp only[List.length_append,List.length_cons,List.length_nil,List.map_cons,List.map_append,List.cons_append,List.map_nil]
   obtain ⟨g2,x,y1,y2,y3,y4⟩:=R
   rw[els,ekp] at y3 y4
   refine ⟨x,y1,.inl ⟨y2,by omega,_,_,g2,?_,by omega,eS,by omega,fun j hj=>by rw[y4 j hj];exact (congrFun (lstO_eq _) j).symm,hok,?_,?_⟩⟩
   · rw[List.length_append,h1];rfl
   · have:hNext (sL63 l (oY z l) []::H)=1:=rfl
     rw[this,y3]
   · have:hNext (sL63 l (oY z l) []::H)=1:=rfl
     rw[this,y3]
theorem c63 (L:List Int) (g:Nat→Int) (hL:L.length≤1000) (hg:∀ j,j<L.length→g j=lstO L j) (he:∀ x ∈ L,okE l z x) :
 cd (n+5) (.fn 63) [bookV l z,sl1 L.length g false] H=some (.tup [dA ((bsS z L.length L).map (·.1)),dA ((bsS z L.length L).map (·.2))],H):=by
 obtain ⟨y,h1,g',rfl⟩:=l63 n l z H hl L g hL hg he
 cases e:bsS z L.length L with
 | nil =>
   rw[e] at h1
   refine fn_all (n:=n+4) Tryz.func63 rfl rfl rfl (u63c (n+4) l L.length 0 (oY z l) g g' H) (il_no0 _) (blkE_ok (noBT_ok _ _) b63 (fun x h=>by rw[← Tr.ok_some h];simp only[Res.st,hints_eq];exact h1)) (noRT_ok _ _) ?_
   repeat' first | (refine Tr.all_ite (fun hc=>?_) (fun hc=>?_)<;>(try simp (disch:=omega) only[nV,nW] at hc)<;>try omega) | (refine Tr.all_req ?_ ?_;· (try simp (disch:=omega) only[nV,nW]);try omega) | (refine Tr.all_reqP ?_ ?_;· first | exact trivial | rfl | exact ⟨rfl,rfl⟩ | exact ⟨rfl,rfl,rfl⟩ | (simp (disch:=omega) only[nV,nW];done) | ((try simp (disch:=omega) only[nV,nW]);omega)) | fail
   all_goals first
    | exact Tr.all_ok ⟨rfl,rfl⟩
    | fail
 | cons a r =>
   rw[e] at h1
   refine fn_all (n:=n+4) Tryz.func63 rfl rfl rfl (u63b (n+4) l L.length 0 (r.length+1) r.length 0 (oY z l) (lstO ((a::r).map (·.1))) (lstO ((a::r).map (·.2))) g g' H) (il_no0 _) (blkE_ok (noBT_ok _ _) b63 (fun x h=>by rw[← Tr.ok_some h];simp only[Res.st,hints_eq];exact h1)) (noRT_ok _ _) ?_
   rw[shO_zero,shO_zero]
   repeat' first | (refine Tr.all_ite (fun hc=>?_) (fun hc=>?_)<;>(try simp (disch:=omega) only[nV,nW] at hc)<;>try omega) | (refine Tr.all_req ?_ ?_;· (try simp (disch:=omega) only[nV,nW]);try omega) | (refine Tr.all_reqP ?_ ?_;· first | exact trivial | rfl | exact ⟨rfl,rfl⟩ | exact ⟨rfl,rfl,rfl⟩ | (simp (disch:=omega) only[nV,nW];done) | ((try simp (disch:=omega) only[nV,nW]);omega)) | fail
   all_goals first
    | (refine Tr.all_ok ⟨?_,rfl⟩
       show _=AV.tup [.slcT none (.M [.arr .i64 (lstO ((a::r).map (·.1))) ((r.map (·.1)).length+1)]) 1 ((r.map (·.1)).length+1) false,.slcT none (.M [.arr .i64 (lstO ((a::r).map (·.2))) ((r.map (·.2)).length+1)]) 1 ((r.map (·.2)).length+1) false]
       rw[List.length_map,List.length_map])
    | fail
end
end Go.Eng
end
