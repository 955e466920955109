/- Bath: CheckApart of the program. -/
import Derived.Test.YtigmfpmabgekoaaGreatV7Bi1
import Derived.Test.YtigmfpmabgekoaaGreatV7Bc1x11
import Derived.Test.YtigmfpmabgekoaaGreatV7Be4x4
import Derived.Test.YtigmfpmabgekoaaGreatV7Ba3x9
section
namespace Go.Eng
open Go.Proofs
set_option linter.unusedVariables false
set_option linter.unusedSimpArgs false
set_option maxRecDepth 100000
noncomputable def fr33a (l k:Nat) (z b:Nat→Int) (x j:Int):Frm:=[(0,slA 5 l z),(1,sl1 k b false),(5,.ptr 0 0 0 0),(7,.int .i64 x),(22,sl1 k b false),(23,.int .i64 (Int.ofNat k)),(24,.int .i64 j)]
noncomputable def fr33c (k:Nat) (b:Nat→Int) (i:Int):Frm:=[(1,sl1 k b false),(5,.ptr 0 0 0 0),(42,sl1 k b false),(43,.int .i64 (Int.ofNat k)),(44,.int .i64 i)]
noncomputable def fr33d (k:Nat) (b:Nat→Int) (i m j:Int) (q:Nat) (F:Bool):Frm:=[(1,sl1 k b false),(5,.ptr 0 0 0 0),(11,.int .i64 m),(42,sl1 k b false),(43,.int .i64 (Int.ofNat k)),(44,.int .i64 i),(51,sl1 q b F),(52,.int .i64 (Int.ofNat q)),(53,.int .i64 j)]
noncomputable def lv33 (l:Nat) (y:Nat→Int):Lvl:=⟨false,[(0,.row (.G [.ptrT (some 0) (.G [slA 7 l y]) 0]))]⟩
noncomputable def f76 (d:Nat):AV:=.fn (.func 76) [] [.ptr d 0 0 0]
noncomputable def fr88f (k:Nat) (b:Nat→Int) (j:Int):Frm:=[(0,sl1 k b false),(1,f76 2),(7,.int .i64 (Int.ofNat k)),(8,.int .i64 j)]
theorem u76 (n l:Nat) (y:Nat→Int) (H:Heap) (x:Int):bodyT Tryz.prog (cd (n+1)) 100000 76 Tryz.f76 (KtB.kt 76) (il noCt n 1) noBT noRT [(.int .i64 x,none),(.ptr 2 0 0 0,none)] (lvE::lvE::lv33 l y::H) =
 Tr.req (inI x l) (Tr.req (ltN (idO 0 x 7) (mulO l 7)) (Tr.req (ltN (addO (idO 0 x 7) 1) (mulO l 7)) (Tr.req (ltN (addO (idO 0 x 7) 2) (mulO l 7)) (Tr.req (ltN (addO (idO 0 x 7) 3) (mulO l 7)) (Tr.req (ltN (addO (idO 0 x 7) 4) (mulO l 7)) (Tr.req (ltN (addO (idO 0 x 7) 5) (mulO l 7)) (Tr.req (ltN (addO (idO 0 x 7) 6) (mulO l 7)) (Tr.ok ((AV.bool (notB (leI (y (addO (idO 0 x 7) 5)) (y (addO (idO 0 x 7) 6)))),none),lvE::lvE::lv33 l y::H))))))))):=by kernel_rfl
theorem t88f (n l k:Nat) (y b:Nat→Int) (P:Int→Bool) (Q:Int→List AV→Heap→Prop) (H:Heap) (j:Int):execT (cxD n 88 19) (il (ctC 76 P Q) n 0) noBT noRT (part Tryz.f88 [1,0,1,0,0]) (hints (fr88f k b j)) (lvE::lvE::lv33 l y::H) =
 Tr.ite (ltI j (Int.ofNat k)) (Tr.req (inI j k) (Tr.req (ltN (idO 0 j 1) k) (Tr.reqP (Q (b (idO 0 j 1)) [AV.ptr 2 0 0 0] (lvE::lvE::lv33 l y::H)) (Tr.ite (P (b (idO 0 j 1))) (Tr.ok (Ex.ret,[(4,AV.int .i64 j,none)],lvE::lvE::lv33 l y::H)) (Tr.ok (Ex.normal,[(0,AV.slcT none (Row.M [Seg.arr .i64 b k]) 1 k false,none),(1,AV.fn (Fn.func 76) [] [AV.ptr 2 0 0 0],none),(7,AV.int .i64 (Int.ofNat k),none),(8,AV.int .i64 (addI .i64 j (Int.ofNat 1)),none)],lvE::lvE::lv33 l y::H)))))) (Tr.ok (Ex.exit 0,[(0,AV.slcT none (Row.M [Seg.arr .i64 b k]) 1 k false,none),(1,AV.fn (Fn.func 76) [] [AV.ptr 2 0 0 0],none),(7,AV.int .i64 (Int.ofNat k),none),(8,AV.int .i64 j,none),(9,AV.bool false,some 1)],lvE::lvE::lv33 l y::H)):=by kernel_rfl
theorem u88f (n l k:Nat) (y b:Nat→Int) (H:Heap) (x:Bool) (r:Nat):bodyT Tryz.prog (cd n) 100000 88 Tryz.f88 (KtB.kt 88) (il noCt n 0) (blkE noBT 0 (fr88f k b 0) (lvE::lvE::lv33 l y::H) (.ite x (.ok (.ret,[(4,.int .i64 (Int.ofNat r),none)],lvE::lvE::lv33 l y::H)) (.ok (.normal,hints (fr88f k b (Int.ofNat k)++[(9,.bool false)]),lvE::lvE::lv33 l y::H)))) noRT [(sl1 k b false,none),(f76 1,none)] (lvE::lv33 l y::H) =
 (fun (Z0:Frm)=>Tr.reqP (Z0=Z0∧lvE::lvE::lv33 l y::H=lvE::lvE::lv33 l y::H) (Tr.ite x (Tr.ok ((AV.int .i64 (Int.ofNat r),none),lvE::lv33 l y::H)) (Tr.ok ((AV.int .i64 (Int.negSucc 0),some 1),lvE::lv33 l y::H)))) [(0,AV.slcT none (Row.M [Seg.arr .i64 b k]) 1 k false),(1,AV.fn (Fn.func 76) [] [AV.ptr 2 0 0 0]),(7,AV.int .i64 (Int.ofNat k)),(8,AV.int .i64 (Int.ofNat 0))]:=by kernel_rfl
theorem u75 (n l k:Nat) (y b:Nat→Int) (H:Heap) (r:Int):bodyT Tryz.prog (cd n) 100000 75 Tryz.f75 (KtB.kt 75) (il (ctE noCt 88 [sl1 k b false,f76 1] (lvE::lv33 l y::H) (.ok (.int .i64 r,lvE::lv33 l y::H))) n 0) noBT noRT [(sl1 k b false,none),(f76 0,none)] (lv33 l y::H) =
 (fun (Z0:List AV)=>Tr.reqP (Z0=Z0∧lvE::lv33 l y::H=lvE::lv33 l y::H) (Tr.ok ((AV.bool (leI (Int.ofNat 0) r),none),lv33 l y::H))) [AV.slcT none (Row.M [Seg.arr .i64 b k]) 1 k false,AV.fn (Fn.func 76) [] [AV.ptr 1 0 0 0]]:=by kernel_rfl
theorem t33a (n l k:Nat) (z y b:Nat→Int) (H:Heap) (x j:Int):execT (cxD n 33 74) (il noCt n 0) noBT noRT (part Tryz.f33 [1,1,1,1,0,1,0,0]) (hints (fr33a l k z b x j)) (lv33 l y::H) =
 Tr.ite (ltI j (Int.ofNat k)) (Tr.req (inI j k) (Tr.req (ltN (idO 0 j 1) k) (Tr.ite (leI (b (idO 0 j 1)) x) (Tr.ok (Ex.ret,[(4,AV.int .i64 (Int.ofNat 3),some 1)],lv33 l y::H)) (Tr.ite (leI (Int.ofNat l) (b (idO 0 j 1))) (Tr.ok (Ex.ret,[(4,AV.int .i64 (Int.ofNat 3),some 1)],lv33 l y::H)) (Tr.ok (Ex.normal,[(0,slA 5 l z,none),(1,AV.slcT none (Row.M [Seg.arr .i64 b k]) 1 k false,none),(5,AV.ptr 0 0 0 0,none),(7,AV.int .i64 (b (idO 0 j 1)),none),(22,AV.slcT none (Row.M [Seg.arr .i64 b k]) 1 k false,none),(23,AV.int .i64 (Int.ofNat k),none),(24,AV.int .i64 (addI .i64 j (Int.ofNat 1)),none)],lv33 l y::H)))))) (Tr.ok (Ex.exit 0,[(0,slA 5 l z,none),(1,AV.slcT none (Row.M [Seg.arr .i64 b k]) 1 k false,none),(5,AV.ptr 0 0 0 0,none),(7,AV.int .i64 x,none),(22,AV.slcT none (Row.M [Seg.arr .i64 b k]) 1 k false,none),(23,AV.int .i64 (Int.ofNat k),none),(24,AV.int .i64 j,none),(25,AV.bool false,some 1)],lv33 l y::H)):=by kernel_rfl
theorem t33c (n l k:Nat) (y b:Nat→Int) (H:Heap) (i m:Int) (e:Bool):execT (cxD n 33 74) (il noCt n 0) (blkE noBT 4 (fr33d k b i m 0 (toN i) (andB false (eqN (toN i) k))) (lv33 l y::H) (.ite e (.ok (.ret,[(4,.int .i64 14,none)],lv33 l y::H)) (.ok (.normal,hints (fr33d k b i m (Int.ofNat (toN i)) (toN i) (andB false (eqN (toN i) k))++[(54,.bool false)]),lv33 l y::H)))) noRT (part Tryz.f33 [1,1,1,1,1,1,0,1,0,0]) (hints (fr33c k b i)) (lv33 l y::H) =
 (fun (Z0:Nat×AV)=>Tr.ite (ltI i (Int.ofNat k)) (Tr.req (inI i k) (Tr.req (ltN (idO 0 i 1) k) (Tr.req (bndI i k) (Tr.req (leN (addO 0 (toN i)) k) (Tr.reqP ([(1,AV.slcT none (Row.M [Seg.arr .i64 b k]) 1 k false),(5,AV.ptr 0 0 0 0),(11,AV.int .i64 (b (idO 0 i 1))),(42,AV.slcT none (Row.M [Seg.arr .i64 b k]) 1 k false),(43,AV.int .i64 (Int.ofNat k)),(44,AV.int .i64 i),Z0,(52,AV.int .i64 (Int.ofNat (toN i))),(53,AV.int .i64 (Int.ofNat 0))]=[(1,AV.slcT none (Row.M [Seg.arr .i64 b k]) 1 k false),(5,AV.ptr 0 0 0 0),(11,AV.int .i64 m),(42,AV.slcT none (Row.M [Seg.arr .i64 b k]) 1 k false),(43,AV.int .i64 (Int.ofNat k)),(44,AV.int .i64 i),Z0,(52,AV.int .i64 (Int.ofNat (toN i))),(53,AV.int .i64 (Int.ofNat 0))]∧lv33 l y::H=lv33 l y::H) (Tr.ite e (Tr.ok (Ex.ret,[(4,AV.int .i64 (Int.ofNat 14),none)],lv33 l y::H)) (Tr.ok (Ex.normal,[(1,AV.slcT none (Row.M [Seg.arr .i64 b k]) 1 k false,none),(5,AV.ptr 0 0 0 0,none),(42,AV.slcT none (Row.M [Seg.arr .i64 b k]) 1 k false,none),(43,AV.int .i64 (Int.ofNat k),none),(44,AV.int .i64 (addI .i64 i (Int.ofNat 1)),none)],lv33 l y::H)))))))) (Tr.ok (Ex.exit 2,[(1,AV.slcT none (Row.M [Seg.arr .i64 b k]) 1 k false,none),(5,AV.ptr 0 0 0 0,none),(42,AV.slcT none (Row.M [Seg.arr .i64 b k]) 1 k false,none),(43,AV.int .i64 (Int.ofNat k),none),(44,AV.int .i64 i,none),(45,AV.bool false,some 1)],lv33 l y::H))) (51,AV.slcT none (Row.M [Seg.arr .i64 b (toN i)]) 1 (toN i) (andB false (eqN (toN i) k))):=by kernel_rfl
theorem t33x (n l k:Nat) (y b:Nat→Int) (H:Heap) (i:Int):execT (cxD n 33 74) (il noCt n 0) (stopB noBT 4) noRT (part Tryz.f33 [1,1,1,1,1,1,0,1,0,0]) (hints (fr33c k b i)) (lv33 l y::H) =
 Tr.ite (ltI i (Int.ofNat k)) (Tr.req (inI i k) (Tr.req (ltN (idO 0 i 1) k) (Tr.req (bndI i k) (Tr.req (leN (addO 0 (toN i)) k) Tr.bad)))) (Tr.ok (Ex.exit 2,[(1,AV.slcT none (Row.M [Seg.arr .i64 b k]) 1 k false,none),(5,AV.ptr 0 0 0 0,none),(42,AV.slcT none (Row.M [Seg.arr .i64 b k]) 1 k false,none),(43,AV.int .i64 (Int.ofNat k),none),(44,AV.int .i64 i,none),(45,AV.bool false,some 1)],lv33 l y::H)):=by kernel_rfl
theorem t33d (n l k:Nat) (y b:Nat→Int) (H:Heap) (i m j:Int) (q:Nat) (F:Bool):execT (cxD (n+1) 33 74) (il noCt n 1) noBT noRT (part Tryz.f33 [1,1,1,1,1,1,0,1,0,0,1,1,0,0,1,1,0,0]) (hints (fr33d k b i m j q F)) (lv33 l y::H) =
 Tr.ite (ltI j (Int.ofNat q)) (Tr.req (inI j q) (Tr.req (ltN (idO 0 j 1) q) (Tr.req (inI m l) (Tr.req (ltN (idO 0 m 7) (mulO l 7)) (Tr.req (ltN (addO (idO 0 m 7) 1) (mulO l 7)) (Tr.req (ltN (addO (idO 0 m 7) 2) (mulO l 7)) (Tr.req (ltN (addO (idO 0 m 7) 3) (mulO l 7)) (Tr.req (ltN (addO (idO 0 m 7) 4) (mulO l 7)) (Tr.req (ltN (addO (idO 0 m 7) 5) (mulO l 7)) (Tr.req (ltN (addO (idO 0 m 7) 6) (mulO l 7)) (Tr.req (inI (b (idO 0 j 1)) l) (Tr.req (ltN (idO 0 (b (idO 0 j 1)) 7) (mulO l 7)) (Tr.req (ltN (addO (idO 0 (b (idO 0 j 1)) 7) 1) (mulO l 7)) (Tr.req (ltN (addO (idO 0 (b (idO 0 j 1)) 7) 2) (mulO l 7)) (Tr.req (ltN (addO (idO 0 (b (idO 0 j 1)) 7) 3) (mulO l 7)) (Tr.req (ltN (addO (idO 0 (b (idO 0 j 1)) 7) 4) (mulO l 7)) (Tr.req (ltN (addO (idO 0 (b (idO 0 j 1)) 7) 5) (mulO l 7)) (Tr.req (ltN (addO (idO 0 (b (idO 0 j 1)) 7) 6) (mulO l 7)) (Tr.ite (leI (maxO (y (addO (idO 0 m 7) 5)) (y (addO (idO 0 (b (idO 0 j 1)) 7) 5))) (minO (y (addO (idO 0 m 7) 6)) (y (addO (idO 0 (b (idO 0 j 1)) 7) 6)))) (Tr.ok (Ex.ret,[(4,AV.int .i64 (Int.ofNat 14),some 1)],lv33 l y::H)) (Tr.ok (Ex.normal,[(1,AV.slcT none (Row.M [Seg.arr .i64 b k]) 1 k false,none),(5,AV.ptr 0 0 0 0,none),(11,AV.int .i64 m,none),(42,AV.slcT none (Row.M [Seg.arr .i64 b k]) 1 k false,none),(43,AV.int .i64 (Int.ofNat k),none),(44,AV.int .i64 i,none),(51,AV.slcT none (Row.M [Seg.arr .i64 b q]) 1 q F,none),(52,AV.int .i64 (Int.ofNat q),none),(53,AV.int .i64 (addI .i64 j (Int.ofNat 1)),none)],lv33 l y::H))))))))))))))))))))) (Tr.ok (Ex.exit 4,[(1,AV.slcT none (Row.M [Seg.arr .i64 b k]) 1 k false,none),(5,AV.ptr 0 0 0 0,none),(11,AV.int .i64 m,none),(42,AV.slcT none (Row.M [Seg.arr .i64 b k]) 1 k false,none),(43,AV.int .i64 (Int.ofNat k),none),(44,AV.int .i64 i,none),(51,AV.slcT none (Row.M [Seg.arr .i64 b q]) 1 q F,none),(52,AV.int .i64 (Int.ofNat q),none),(53,AV.int .i64 j,none),(54,AV.bool false,some 1)],lv33 l y::H)):=by kernel_rfl
theorem u33 (n l k:Nat) (z y b:Nat→Int) (H:Heap) (e1 e2 e3:Bool) (x:Int):bodyT Tryz.prog (cd n) 100000 33 Tryz.f33 (KtB.kt 33) (il (ctE (tX noCt 52 [slA 5 l z] (.tup [.ptrT (some 0) (.G [slA 7 l y]) 0,.int .i64 0])) 75 [sl1 k b false,f76 0] (lv33 l y::H) (.ok (.bool e2,lv33 l y::H))) n 0) (blkE (blkE noBT 2 (fr33c k b 0) (lv33 l y::H) (.ite e3 (.ok (.ret,[(4,.int .i64 14,none)],lv33 l y::H)) (.ok (.normal,hints (fr33c k b (Int.ofNat k)++[(45,.bool false)]),lv33 l y::H)))) 0 (fr33a l k z b (-1) 0) (lv33 l y::H) (.ite e1 (.ok (.ret,[(4,.int .i64 3,none)],lv33 l y::H)) (.ok (.normal,hints (fr33a l k z b x (Int.ofNat k)++[(25,.bool false)]),lv33 l y::H)))) noRT [(slA 5 l z,none),(sl1 k b false,none)] H =
 (fun (Z0:Frm)=>((fun (Z1:Frm)=>((fun (Z2:List AV)=>Tr.reqP ([slA 5 l z]=[slA 5 l z]) (Tr.ite (notB (eqI (Int.ofNat 0) (Int.ofNat 0))) (Tr.ok ((AV.int .i64 (Int.ofNat 0),none),H)) (Tr.reqP (Z0=Z0∧lv33 l y::H=lv33 l y::H) (Tr.ite e1 (Tr.ok ((AV.int .i64 (Int.ofNat 3),none),H)) (Tr.reqP (Z2=Z2∧lv33 l y::H=lv33 l y::H) (Tr.ite e2 (Tr.ok ((AV.int .i64 (Int.ofNat 22),some 1),H)) (Tr.reqP (Z1=Z1∧lv33 l y::H=lv33 l y::H) (Tr.ite e3 (Tr.ok ((AV.int .i64 (Int.ofNat 14),none),H)) (Tr.ok ((AV.int .i64 (Int.ofNat 0),some 1),H)))))))))) [AV.slcT none (Row.M [Seg.arr .i64 b k]) 1 k false,AV.fn (Fn.func 76) [] [AV.ptr 0 0 0 0]])) [(1,AV.slcT none (Row.M [Seg.arr .i64 b k]) 1 k false),(5,AV.ptr 0 0 0 0),(42,AV.slcT none (Row.M [Seg.arr .i64 b k]) 1 k false),(43,AV.int .i64 (Int.ofNat k)),(44,AV.int .i64 (Int.ofNat 0))])) [(0,slA 5 l z),(1,AV.slcT none (Row.M [Seg.arr .i64 b k]) 1 k false),(5,AV.ptr 0 0 0 0),(7,AV.int .i64 (Int.negSucc 0)),(22,AV.slcT none (Row.M [Seg.arr .i64 b k]) 1 k false),(23,AV.int .i64 (Int.ofNat k)),(24,AV.int .i64 (Int.ofNat 0))]:=by kernel_rfl
theorem u33a (n l k:Nat) (z y b:Nat→Int) (H:Heap):bodyT Tryz.prog (cd n) 100000 33 Tryz.f33 (KtB.kt 33) (il (tX noCt 52 [slA 5 l z] (.tup [.ptrT (some 0) (.G [slA 7 l y]) 0,.int .i64 0])) n 0) (blkE (stopB noBT 2) 0 (fr33a l k z b (-1) 0) (lv33 l y::H) (.ok (.ret,[(4,.int .i64 3,none)],lv33 l y::H))) noRT [(slA 5 l z,none),(sl1 k b false,none)] H =
 (fun (Z0:Frm)=>Tr.reqP ([slA 5 l z]=[slA 5 l z]) (Tr.ite (notB (eqI (Int.ofNat 0) (Int.ofNat 0))) (Tr.ok ((AV.int .i64 (Int.ofNat 0),none),H)) (Tr.reqP (Z0=Z0∧lv33 l y::H=lv33 l y::H) (Tr.ok ((AV.int .i64 (Int.ofNat 3),none),H))))) [(0,slA 5 l z),(1,AV.slcT none (Row.M [Seg.arr .i64 b k]) 1 k false),(5,AV.ptr 0 0 0 0),(7,AV.int .i64 (Int.negSucc 0)),(22,AV.slcT none (Row.M [Seg.arr .i64 b k]) 1 k false),(23,AV.int .i64 (Int.ofNat k)),(24,AV.int .i64 (Int.ofNat 0))]:=by kernel_rfl
theorem u33x (n l k:Nat) (z b:Nat→Int) (H:Heap) (e:Int):bodyT Tryz.prog (cd n) 100000 33 Tryz.f33 (KtB.kt 33) (il (tX noCt 52 [slA 5 l z] (.tup [.nilp,.int .i64 e])) n 0) (stopB noBT 0) noRT [(slA 5 l z,none),(sl1 k b false,none)] H =
 Tr.reqP ([slA 5 l z]=[slA 5 l z]) (Tr.ite (notB (eqI e (Int.ofNat 0))) (Tr.ok ((AV.int .i64 e,none),H)) Tr.bad):=by kernel_rfl
theorem b33a:∀ b,(0,b) ∈ blocksOf (bodyOf Tryz.f33)→b=.loop (part Tryz.f33 [1,1,1,1,0,1,0,0]):=by
 have:((blocksOf (bodyOf Tryz.f33)).filter fun x=>Nat.beq x.1 0)=[(0,.loop (part Tryz.f33 [1,1,1,1,0,1,0,0]))]:=by kernel_rfl
 intro b hb
 have hm:(0,b) ∈ ((blocksOf (bodyOf Tryz.f33)).filter fun x=>Nat.beq x.1 0):=List.mem_filter.2 ⟨hb,rfl⟩
 rw[this] at hm;simpa using hm
theorem b33c:∀ b,(2,b) ∈ blocksOf (bodyOf Tryz.f33)→b=.loop (part Tryz.f33 [1,1,1,1,1,1,0,1,0,0]):=by
 have:((blocksOf (bodyOf Tryz.f33)).filter fun x=>Nat.beq x.1 2)=[(2,.loop (part Tryz.f33 [1,1,1,1,1,1,0,1,0,0]))]:=by kernel_rfl
 intro b hb
 have hm:(2,b) ∈ ((blocksOf (bodyOf Tryz.f33)).filter fun x=>Nat.beq x.1 2):=List.mem_filter.2 ⟨hb,rfl⟩
 rw[this] at hm;simpa using hm
theorem b33d:∀ b,(4,b) ∈ blocksOf (part Tryz.f33 [1,1,1,1,1,1,0,1,0,0])→b=.loop (part Tryz.f33 [1,1,1,1,1,1,0,1,0,0,1,1,0,0,1,1,0,0]):=by
 have:((blocksOf (part Tryz.f33 [1,1,1,1,1,1,0,1,0,0])).filter fun x=>Nat.beq x.1 4)=[(4,.loop (part Tryz.f33 [1,1,1,1,1,1,0,1,0,0,1,1,0,0,1,1,0,0]))]:=by kernel_rfl
 intro b hb
 have hm:(4,b) ∈ ((blocksOf (part Tryz.f33 [1,1,1,1,1,1,0,1,0,0])).filter fun x=>Nat.beq x.1 4):=List.mem_filter.2 ⟨hb,rfl⟩
 rw[this] at hm;simpa using hm
noncomputable def nxA (b:Nat→Int):Nat→Int
 | 0=>-1
 | j+1=>b j
noncomputable def od33 (l:Nat) (b:Nat→Int) (j:Nat):Bool:=decide (b j≤nxA b j) || decide ((l:Int)≤b j)
theorem od_33 (l:Nat) (b:Nat→Int) (k:Nat):exN (od33 l b) k=exN (od34 l b) k:=by
 refine exN_first (fun j h=>?_)
 cases j with
 | zero =>
   rw[Bool.eq_iff_iff]
   simp only[od33,od34,Bool.or_eq_true,Bool.and_eq_true,decide_eq_true_eq,Bool.not_eq_true',Bool.and_eq_false_iff,decide_eq_false_iff_not]
   simp only[nxA]
   omega
 | succ j =>
   have h1:=h j (by omega)
   simp only[od34,Bool.or_eq_false_iff,Bool.not_eq_false',Bool.and_eq_true,decide_eq_true_eq] at h1
   rw[Bool.eq_iff_iff]
   simp only[od33,od34,Bool.or_eq_true,Bool.and_eq_true,decide_eq_true_eq,Bool.not_eq_true',Bool.and_eq_false_iff,decide_eq_false_iff_not,Nat.add_sub_cancel]
   simp only[nxA]
   omega
def nbX (z:Nat→Int) (x:Int):Bool:=decide (bHi z x.toNat<bLo z x.toNat)
section
variable (n l k:Nat) (z b:Nat→Int) (H:Heap)
theorem c76 (x:Int) (hl:l≤14) (hx:0≤x∧x<l):cd (n+2) (.fn 76) [.int .i64 x,.ptr 2 0 0 0] (lvE::lvE::lv33 l (oY z l)::H)=some (.bool (nbX z x),lvE::lvE::lv33 l (oY z l)::H):=by
 have o1:=oY_lo (z:=z) hl hx
 have o2:=oY_h6 (z:=z) hl hx
 have hp:nbX z x=!decide (bLo z x.toNat≤bHi z x.toNat):=by
  unfold nbX
  by_cases h:bLo z x.toNat≤bHi z x.toNat
  · rw[decide_eq_true h,decide_eq_false (by omega)];rfl
  · rw[decide_eq_false h,decide_eq_true (by omega)];rfl
 refine fn_all (n:=n+1) Tryz.func76 rfl rfl rfl (u76 n l (oY z l) H x) (il_no n 1) (noBT_ok _ _) (noRT_ok _ _) ?_
 simp only[addO_eq]
 rw[o1,o2,hp]
 clear o1 o2 hp
 generalize bLo z x.toNat=lo at *
 generalize bHi z x.toNat=hi at *
 have e7:idO 0 x 7=x.toNat*7:=by rw[idO_eq];omega
 rw[e7,leI_eq,notB_eq]
 repeat' first | (refine Tr.all_ite (fun hc=>?_) (fun hc=>?_)<;>(try simp (disch:=omega) only[nV,nW] at hc)<;>try omega) | (refine Tr.all_req ?_ ?_;· (try simp (disch:=omega) only[nV,nW]);try omega) | (refine Tr.all_reqP ?_ ?_;· first | exact trivial | rfl | exact ⟨rfl,rfl⟩ | exact ⟨rfl,rfl,rfl⟩ | (simp (disch:=omega) only[nV,nW];done) | ((try simp (disch:=omega) only[nV,nW]);omega)) | fail
 all_goals first
  | exact Tr.all_ok ⟨rfl,rfl⟩
  | fail
theorem c75 (hl:l≤14) (hk:k≤1000) (hb:∀ j,j<k→0≤b j∧b j<l):cd (n+4) (.fn 75) [sl1 k b false,f76 0] (lv33 l (oY z l)::H)=some (.bool (exN (noA z b) k),lv33 l (oY z l)::H):=by
 have hQ:∀ q x C H',((0≤x∧x<(l:Int))∧C=[.ptr 2 0 0 0]∧H'=lvE::lvE::lv33 l (oY z l)::H)→cd (n+2+q) (.fn 76) (.int .i64 x::C) H'=some (.bool (nbX z x),H'):=by
  rintro q x C H' ⟨hx,rfl,rfl⟩
  rw[show n+2+q=n+q+2 by omega]
  exact c76 (n+q) l z H x hl hx
 have hx:=findX (n:=n+2) (f:=88) (nt:=19) (c:=part Tryz.f88 [1,0,1,0,0]) 0 (fun j=>fr88f k b (j:Int)) (fun _=>lvE::lvE::lv33 l (oY z l)::H) k (fun j=>nbX z (b j)) (fun j=>([(4,.int .i64 (j:Nat))],lvE::lvE::lv33 l (oY z l)::H)) (fr88f k b (Int.ofNat k)++[(9,.bool false)],lvE::lvE::lv33 l (oY z l)::H) (by omega) (fun j hj=>?_) ?_
 · have h88:cd (n+3) (.fn 88) [sl1 k b false,f76 1] (lvE::lv33 l (oY z l)::H)=some (.int .i64 (ixF (fun j=>nbX z (b j)) k),lvE::lv33 l (oY z l)::H):=by
    refine fn_all (n:=n+2) Tryz.func88 rfl rfl rfl (u88f (n+2) l k (oY z l) b H (exN (fun j=>nbX z (b j)) k) (fN (fun j=>nbX z (b j)) k 0)) (il_no0 _) (blkE_ok (noBT_ok _ _) b88 (fun x h=>blk_ite h hx)) (noRT_ok _ _) ?_
    refine Tr.all_reqP ⟨rfl,rfl⟩ (Tr.all_ite (fun hc=>Tr.all_ok ⟨?_,rfl⟩) (fun hc=>Tr.all_ok ⟨?_,rfl⟩))
    · unfold ixF;rw[if_pos hc];rfl
    · unfold ixF;rw[if_neg (by rw[hc];decide)];rfl
   refine fn_all (n:=n+3) Tryz.func75 rfl rfl rfl (u75 (n+3) l k (oY z l) b H (ixF (fun j=>nbX z (b j)) k)) (il_ok0 _ (n+3) (ctE_ok (noCt_ok _) (fun x hy=>by rw[← Tr.ok_some hy];exact h88))) (noBT_ok _ _) (noRT_ok _ _) ?_
   refine Tr.all_reqP ⟨rfl,rfl⟩ (Tr.all_ok ⟨?_,rfl⟩)
   rw[ix_leI];rfl
 · refine ex_all (t88f (n+2) l k (oY z l) b (nbX z) _ H (j:Int)) (il_ok _ (n+2) 0 (fun q=>ctC_ok (hQ q))) (noBT_ok _ _) (noRT_ok _ _) ?_
   show Tr.all _ (fun x=>if nbX z (b j)=true then _ else _)
   rw[cs64 (by omega),id1]
   have q2:=hb j hj
   cases hp:nbX z (b j) with
   | true =>
     simp only[if_true]
     refine Tr.all_ite (fun hc=>?_) (fun hc=>?_)
     · repeat' first | (refine Tr.all_ite (fun hc=>?_) (fun hc=>?_)<;>(try simp (disch:=omega) only[nV,nW] at hc)<;>try omega) | (refine Tr.all_req ?_ ?_;· (try simp (disch:=omega) only[nV,nW]);try omega) | (refine Tr.all_reqP ?_ ?_;· first | exact trivial | rfl | exact ⟨rfl,rfl⟩ | exact ⟨rfl,rfl,rfl⟩ | (simp (disch:=omega) only[nV,nW];done) | ((try simp (disch:=omega) only[nV,nW]);omega)) | fail
       all_goals first
        | exact ⟨q2,rfl,rfl⟩
        | (refine Tr.all_reqP ⟨q2,rfl,rfl⟩ ?_
           repeat' first | (refine Tr.all_ite (fun hc=>?_) (fun hc=>?_)<;>(try simp (disch:=omega) only[nV,nW] at hc)<;>try omega) | (refine Tr.all_req ?_ ?_;· (try simp (disch:=omega) only[nV,nW]);try omega) | (refine Tr.all_reqP ?_ ?_;· first | exact trivial | rfl | exact ⟨rfl,rfl⟩ | exact ⟨rfl,rfl,rfl⟩ | (simp (disch:=omega) only[nV,nW];done) | ((try simp (disch:=omega) only[nV,nW]);omega)) | fail
           all_goals exact Tr.all_ok rfl)
        | exact Tr.all_ok rfl
        | fail
     · simp (disch:=omega) only[nV,nW] at hc;omega
   | false =>
     simp only[Bool.false_eq_true,if_false]
     refine Tr.all_ite (fun hc=>?_) (fun hc=>?_)
     · repeat' first | (refine Tr.all_ite (fun hc=>?_) (fun hc=>?_)<;>(try simp (disch:=omega) only[nV,nW] at hc)<;>try omega) | (refine Tr.all_req ?_ ?_;· (try simp (disch:=omega) only[nV,nW]);try omega) | (refine Tr.all_reqP ?_ ?_;· first | exact trivial | rfl | exact ⟨rfl,rfl⟩ | exact ⟨rfl,rfl,rfl⟩ | (simp (disch:=omega) only[nV,nW];done) | ((try simp (disch:=omega) only[nV,nW]);omega)) | fail
       all_goals first
        | exact ⟨q2,rfl,rfl⟩
        | (refine Tr.all_reqP ⟨q2,rfl,rfl⟩ ?_
           repeat' first | (refine Tr.all_ite (fun hc=>?_) (fun hc=>?_)<;>(try simp (disch:=omega) only[nV,nW] at hc)<;>try omega) | (refine Tr.all_req ?_ ?_;· (try simp (disch:=omega) only[nV,nW]);try omega) | (refine Tr.all_reqP ?_ ?_;· first | exact trivial | rfl | exact ⟨rfl,rfl⟩ | exact ⟨rfl,rfl,rfl⟩ | (simp (disch:=omega) only[nV,nW];done) | ((try simp (disch:=omega) only[nV,nW]);omega)) | fail
           all_goals exact Tr.all_ok ⟨rfl,rfl⟩)
        | exact Tr.all_ok ⟨rfl,rfl⟩
        | fail
     · simp (disch:=omega) only[nV,nW] at hc;omega
 · obtain ⟨x,h1,rfl⟩:=ex_all (Q:=fun x=>x=(.exit 0,fr88f k b (Int.ofNat k)++[(9,.bool false)],lvE::lvE::lv33 l (oY z l)::H)) (t88f (n+2) l k (oY z l) b (nbX z) _ H (Int.ofNat k)) (il_ok _ (n+2) 0 (fun q=>ctC_ok (hQ q))) (noBT_ok _ _) (noRT_ok _ _) (by
    refine Tr.all_ite (fun hc=>?_) (fun hc=>Tr.all_ok rfl)
    simp (disch:=omega) only[nV,nW] at hc;omega)
   exact h1
theorem l33a (hk:k≤1000):exec (cxD n 33 74) (.block 0 (.loop (part Tryz.f33 [1,1,1,1,0,1,0,0]))) (fr33a l k z b (-1) 0) (lv33 l (oY z l)::H)=some (cond (exN (od33 l b) k) (.ret,[(4,.int .i64 3)],lv33 l (oY z l)::H) (.normal,fr33a l k z b (nxA b k) (Int.ofNat k)++[(25,.bool false)],lv33 l (oY z l)::H)):=by
 refine findX 0 (fun j=>fr33a l k z b (nxA b j) (j:Int)) (fun _=>lv33 l (oY z l)::H) k (od33 l b) (fun j=>([(4,.int .i64 3)],lv33 l (oY z l)::H)) (fr33a l k z b (nxA b k) (Int.ofNat k)++[(25,.bool false)],lv33 l (oY z l)::H) (by omega) (fun j hj=>?_) ?_
 · have hp:od33 l b j=(decide (b j≤nxA b j) || decide ((l:Int)≤b j)):=rfl
   have ha:nxA b (j+1)=b j:=rfl
   refine ex_all (t33a n l k z (oY z l) b H (nxA b j) (j:Int)) (il_no0 n) (noBT_ok _ _) (noRT_ok _ _) ?_
   show Tr.all _ (fun x=>if od33 l b j=true then _ else _)
   rw[cs64 (by omega),id1,ha]
   generalize nxA b j=x at *
   generalize od33 l b j=o at *
   by_cases h1:b j≤x
   · rw[decide_eq_true h1,Bool.true_or] at hp
     subst hp
     simp only[if_true]
     repeat' first | (refine Tr.all_ite (fun hc=>?_) (fun hc=>?_)<;>(try simp (disch:=omega) only[nV,nW] at hc)<;>try omega) | (refine Tr.all_req ?_ ?_;· (try simp (disch:=omega) only[nV,nW]);try omega) | (refine Tr.all_reqP ?_ ?_;· first | exact trivial | rfl | exact ⟨rfl,rfl⟩ | exact ⟨rfl,rfl,rfl⟩ | (simp (disch:=omega) only[nV,nW];done) | ((try simp (disch:=omega) only[nV,nW]);omega)) | fail
     all_goals first
      | exact Tr.all_ok rfl
      | fail
   · by_cases h2:(l:Int)≤b j
     · rw[decide_eq_true h2,Bool.or_true] at hp
       subst hp
       simp only[if_true]
       repeat' first | (refine Tr.all_ite (fun hc=>?_) (fun hc=>?_)<;>(try simp (disch:=omega) only[nV,nW] at hc)<;>try omega) | (refine Tr.all_req ?_ ?_;· (try simp (disch:=omega) only[nV,nW]);try omega) | (refine Tr.all_reqP ?_ ?_;· first | exact trivial | rfl | exact ⟨rfl,rfl⟩ | exact ⟨rfl,rfl,rfl⟩ | (simp (disch:=omega) only[nV,nW];done) | ((try simp (disch:=omega) only[nV,nW]);omega)) | fail
       all_goals first
        | exact Tr.all_ok rfl
        | fail
     · rw[decide_eq_false h1,decide_eq_false h2,Bool.or_false] at hp
       subst hp
       simp only[Bool.false_eq_true,if_false]
       repeat' first | (refine Tr.all_ite (fun hc=>?_) (fun hc=>?_)<;>(try simp (disch:=omega) only[nV,nW] at hc)<;>try omega) | (refine Tr.all_req ?_ ?_;· (try simp (disch:=omega) only[nV,nW]);try omega) | (refine Tr.all_reqP ?_ ?_;· first | exact trivial | rfl | exact ⟨rfl,rfl⟩ | exact ⟨rfl,rfl,rfl⟩ | (simp (disch:=omega) only[nV,nW];done) | ((try simp (disch:=omega) only[nV,nW]);omega)) | fail
       all_goals first
        | exact Tr.all_ok ⟨rfl,by kernel_rfl⟩
        | fail
 · obtain ⟨x,h1,rfl⟩:=ex_all (Q:=fun x=>x=(.exit 0,fr33a l k z b (nxA b k) (Int.ofNat k)++[(25,.bool false)],lv33 l (oY z l)::H)) (t33a n l k z (oY z l) b H (nxA b k) (Int.ofNat k)) (il_no0 n) (noBT_ok _ _) (noRT_ok _ _) (by
    refine Tr.all_ite (fun hc=>?_) (fun hc=>Tr.all_ok rfl)
    simp (disch:=omega) only[nV,nW] at hc;omega)
   exact h1
theorem l33d (hl:l≤14) (hk:k≤1000) (hb:∀ j,j<k→0≤b j∧b j<l) (i:Nat) (hi:i<k) (F:Bool):exec (cxD (n+1) 33 74) (.block 4 (.loop (part Tryz.f33 [1,1,1,1,1,1,0,1,0,0,1,1,0,0,1,1,0,0]))) (fr33d k b i (b i) 0 i F) (lv33 l (oY z l)::H)=some (cond (mtA z b i) (.ret,[(4,.int .i64 14)],lv33 l (oY z l)::H) (.normal,fr33d k b i (b i) (Int.ofNat i) i F++[(54,.bool false)],lv33 l (oY z l)::H)):=by
 refine findX 4 (fun j=>fr33d k b i (b i) (j:Int) i F) (fun _=>lv33 l (oY z l)::H) i (fun j=>mtB z (b i) (b j)) (fun j=>([(4,.int .i64 14)],lv33 l (oY z l)::H)) (fr33d k b i (b i) (Int.ofNat i) i F++[(54,.bool false)],lv33 l (oY z l)::H) (by omega) (fun j hj=>?_) ?_
 · have hbi:=hb i hi
   have hbj:=hb j (by omega)
   have hp:mtB z (b i) (b j)=decide (max (bLo z (b i).toNat) (bLo z (b j).toNat)≤min (bHi z (b i).toNat) (bHi z (b j).toNat)):=rfl
   have o1:=oY_lo (z:=z) hl hbi
   have o2:=oY_h6 (z:=z) hl hbi
   have o3:=oY_lo (z:=z) hl hbj
   have o4:=oY_h6 (z:=z) hl hbj
   refine ex_all (t33d n l k (oY z l) b H i (b i) (j:Int) i F) (il_no n 1) (noBT_ok _ _) (noRT_ok _ _) ?_
   show Tr.all _ (fun x=>if mtB z (b i) (b j)=true then _ else _)
   rw[cs64 (by omega),id1]
   simp only[addO_eq]
   rw[o1,o2,o3,o4]
   clear o1 o2 o3 o4
   generalize hq:b i=q at *
   generalize b j=r at *
   generalize mtB z q r=mb at *
   have e7:idO 0 q 7=q.toNat*7:=by rw[idO_eq];omega
   have f7:idO 0 r 7=r.toNat*7:=by rw[idO_eq];omega
   rw[e7,f7]
   generalize bLo z q.toNat=lo at *
   generalize bHi z q.toNat=hi at *
   generalize bLo z r.toNat=lo2 at *
   generalize bHi z r.toNat=hi2 at *
   by_cases h1:max lo lo2≤min hi hi2
   · rw[decide_eq_true h1] at hp
     subst hp
     simp only[if_true]
     repeat' first | (refine Tr.all_ite (fun hc=>?_) (fun hc=>?_)<;>(try simp (disch:=omega) only[nV,nW] at hc)<;>try omega) | (refine Tr.all_req ?_ ?_;· (try simp (disch:=omega) only[nV,nW]);try omega) | (refine Tr.all_reqP ?_ ?_;· first | exact trivial | rfl | exact ⟨rfl,rfl⟩ | exact ⟨rfl,rfl,rfl⟩ | (simp (disch:=omega) only[nV,nW];done) | ((try simp (disch:=omega) only[nV,nW]);omega)) | fail
     all_goals first
      | exact Tr.all_ok rfl
      | fail
   · rw[decide_eq_false h1] at hp
     subst hp
     simp only[Bool.false_eq_true,if_false]
     repeat' first | (refine Tr.all_ite (fun hc=>?_) (fun hc=>?_)<;>(try simp (disch:=omega) only[nV,nW] at hc)<;>try omega) | (refine Tr.all_req ?_ ?_;· (try simp (disch:=omega) only[nV,nW]);try omega) | (refine Tr.all_reqP ?_ ?_;· first | exact trivial | rfl | exact ⟨rfl,rfl⟩ | exact ⟨rfl,rfl,rfl⟩ | (simp (disch:=omega) only[nV,nW];done) | ((try simp (disch:=omega) only[nV,nW]);omega)) | fail
     all_goals first
      | exact Tr.all_ok ⟨rfl,by kernel_rfl⟩
      | fail
 · obtain ⟨x,h1,rfl⟩:=ex_all (Q:=fun x=>x=(.exit 4,fr33d k b i (b i) (Int.ofNat i) i F++[(54,.bool false)],lv33 l (oY z l)::H)) (t33d n l k (oY z l) b H i (b i) (Int.ofNat i) i F) (il_no n 1) (noBT_ok _ _) (noRT_ok _ _) (by
    refine Tr.all_ite (fun hc=>?_) (fun hc=>Tr.all_ok rfl)
    simp (disch:=omega) only[nV,nW] at hc;omega)
   exact h1
end
end Go.Eng
end
section
namespace Go.Eng
open Go.Proofs
set_option linter.unusedVariables false
set_option linter.unusedSimpArgs false
theorem ls_min (z g:Nat→Int):∀ (k j:Nat),j≤k→bHi z (lsZ z g k).toNat≤bHi z (g j).toNat
 | 0,j,h=>by
   have:j=0:=by omega
   subst this;exact Int.le_refl _
 | k + 1,j,h=>by
   have e:lsZ z g (k+1)=if bHi z (g (k+1)).toNat<bHi z (lsZ z g k).toNat then g (k+1) else lsZ z g k:=rfl
   rw[e]
   by_cases hj:j=k+1
   · subst hj;split
     · exact Int.le_refl _
     · omega
   · have:=ls_min z g k j (by omega)
     split
     · omega
     · exact this
theorem lst_mem {L:List Int} {x:Int} (h:x ∈ L):∃ j,j<L.length∧lstO L j=x:=by
 obtain ⟨j,hj,rfl⟩:=List.getElem_of_mem h
 exact ⟨j,hj,by rw[lst_at,List.getD_eq_getElem?_getD,List.getElem?_eq_getElem hj];rfl⟩
theorem pB_iff (z:Nat→Int) (b x:Int):pB z b x=true↔bLo z x.toNat≤b∧b≤bHi z x.toNat:=by
 unfold pB dnB;rw[Bool.and_eq_true,decide_eq_true_eq,decide_eq_true_eq]
theorem bs_spec (l:Nat) (z:Nat→Int):∀ (k:Nat) (L:List Int),L.length≤k→(∀ x ∈ L,okE l z x) →
 (∀ x ∈ L,∃ p ∈ bsS z k L,pB z p.1 x=true)∧(∀ p ∈ bsS z k L,p.2 ∈ L∧p.1=bHi z p.2.toNat)∧(bsS z k L).Pairwise (fun p q=>p.1<bLo z q.2.toNat)
 | 0,L,h,_=>by
   have:L=[]:=List.eq_nil_of_length_eq_zero (by omega)
   subst this;exact ⟨(fun x h=>by cases h),(fun p h=>by simp[bsS] at h),(by simp[bsS])⟩
 | k+1,[],_,_=>⟨(fun x h=>by cases h),(fun p h=>by simp[bsS] at h),(by simp[bsS])⟩
 | k + 1,a::r,h,hok=>by
   have e:bsS z (k+1) (a::r)=(bHi z (lsZ z (lstO (a::r)) r.length).toNat,lsZ z (lstO (a::r)) r.length)::bsS z k (kpt (pB z (bHi z (lsZ z (lstO (a::r)) r.length).toNat)) (lstO (a::r)) (r.length+1)):=rfl
   rw[e]
   have hmin:=ls_min z (lstO (a::r)) r.length
   obtain ⟨i0,hi1,hi2⟩:=lsZ_in z (lstO (a::r)) r.length
   have hin:lsZ z (lstO (a::r)) r.length ∈ a::r:=by rw[hi2];exact lst_get (a::r) i0 (by simp;omega)
   have hok0:=hok _ hin
   generalize hn:lsZ z (lstO (a::r)) r.length=n at *
   have hm:=kp_mem (pB z (bHi z n.toNat)) (lstO (a::r)) (r.length+1)
   have hsub:∀ x ∈ kpt (pB z (bHi z n.toNat)) (lstO (a::r)) (r.length+1),x ∈ a::r∧pB z (bHi z n.toNat) x=false:=fun x hx=>by
    obtain ⟨j,h1,h2,h3⟩:=(hm x).1 hx
    exact ⟨by rw[← h2];exact lst_get (a::r) j (by simpa using h1),h3⟩
   have hlt:(kpt (pB z (bHi z n.toNat)) (lstO (a::r)) (r.length+1)).length<r.length+1:=kp_lt _ _ _ i0 (by omega) (by rw[← hi2];exact (pB_iff _ _ _).2 ⟨hok0.2.2,Int.le_refl _⟩)
   obtain ⟨s1,s2,s3⟩:=bs_spec l z k (kpt (pB z (bHi z n.toNat)) (lstO (a::r)) (r.length+1)) (by simp at h;omega) (fun x hx=>hok x (hsub x hx).1)
   refine ⟨fun x hx=>?_,fun p hp=>?_,List.Pairwise.cons (fun q hq=>?_) s3⟩
   · cases hb:pB z (bHi z n.toNat) x with
     | true=>exact ⟨_,List.mem_cons_self,hb⟩
     | false =>
       obtain ⟨j,hj,hx2⟩:=lst_mem hx
       obtain ⟨p,hp,h2⟩:=s1 x ((hm x).2 ⟨j,by simpa using hj,hx2,hb⟩)
       exact ⟨p,List.mem_cons_of_mem _ hp,h2⟩
   · rcases List.mem_cons.1 hp with rfl | hp
     · exact ⟨hin,rfl⟩
     · obtain ⟨h1,h2⟩:=s2 p hp
       exact ⟨(hsub _ h1).1,h2⟩
   · obtain ⟨h1,_⟩:=s2 q hq
     obtain ⟨h3,h4⟩:=hsub _ h1
     obtain ⟨j,hj,hx2⟩:=lst_mem h3
     have h5:=hmin j (by simp at hj;omega)
     rw[hx2] at h5
     show bHi z n.toNat < _
     apply Int.not_le.1
     intro hc
     have:=(pB_iff z (bHi z n.toNat) q.2).2 ⟨hc,h5⟩
     rw[h4] at this;cases this
def Disj (z:Nat→Int) (a c:Int):Prop:=∀ b,¬ (pB z b a=true∧pB z b c=true)
theorem pierce_le (z:Nat→Int):∀ (A B:List Int),(∀ a ∈ A,∃ b ∈ B,pB z b a=true)→A.Pairwise (Disj z)→A.length≤B.length
 | [],B,_,_=>Nat.zero_le _
 | a::A,B,h,hd=>by
   obtain ⟨b,hb,h1⟩:=h a List.mem_cons_self
   rw[List.pairwise_cons] at hd
   have ih:=pierce_le z A (B.erase b) (fun a' ha'=>by
    obtain ⟨b',hb',h2⟩:=h a' (List.mem_cons_of_mem _ ha')
    exact ⟨b',(List.mem_erase_of_ne (fun e=>by subst e;exact hd.1 a' ha' _ ⟨h1,h2⟩)).2 hb',h2⟩) hd.2
   have:=List.length_erase_of_mem hb
   have hp:0<B.length:=List.length_pos_of_mem hb
   simp only[List.length_cons]
   omega
theorem fw_spec (l:Nat) (z:Nat→Int) (L:List Int) (hok:∀ x ∈ L,okE l z x) :
 (∀ x ∈ L,∃ b ∈ (fwP z L).map (·.1),pB z b x=true)∧(∀ a ∈ (fwP z L).map (·.2),a ∈ L)∧((fwP z L).map (·.2)).Pairwise (Disj z):=by
 obtain ⟨h1,h2,h3⟩:=bs_spec l z L.length L (Nat.le_refl _) hok
 refine ⟨fun x hx=>?_,fun a ha=>?_,?_⟩
 · obtain ⟨p,hp,h⟩:=h1 x hx
   exact ⟨p.1,List.mem_map_of_mem hp,h⟩
 · obtain ⟨p,hp,rfl⟩:=List.mem_map.1 ha
   exact (h2 p hp).1
 · rw[List.pairwise_map]
   refine List.Pairwise.imp_of_mem (fun {p q} hp hq hpq b hb=>?_) h3
   obtain ⟨e1,e2⟩:=hb
   rw[pB_iff] at e1 e2
   have:=(h2 p hp).2
   omega
end Go.Eng
end
section
namespace Go.Eng
open Go.Proofs
set_option linter.unusedVariables false
set_option linter.unusedSimpArgs false
set_option maxRecDepth 100000
end Go.Eng
end
section
namespace Go.Eng
open Go.Proofs
set_option linter.unusedVariables false
set_option linter.unusedSimpArgs false
set_option maxRecDepth 100000
def smB (z:Nat→Int):Nat→Bool
 | 0=>true
 | j+1=>smB z j && decide (bLo z j≤bHi z j)
theorem smB_iff (z:Nat→Int) (j:Nat):smB z j=true↔∀ i,i<j→bLo z i≤bHi z i:=by
 induction j with
 | zero=>simp[smB]
 | succ j ih =>
   unfold smB
   rw[Bool.and_eq_true,ih,decide_eq_true_eq]
   constructor
   · rintro ⟨h1,h2⟩ i hi
     by_cases e:i<j
     · exact h1 i e
     · have:i=j:=by omega
       subst this;exact h2
   · intro h
     exact ⟨fun i hi=>h i (by omega),h j (by omega)⟩
theorem smB_who (l:Nat) (z:Nat→Int) (h:chkO l z=0):whoE l z=if smB z l=true then 0 else 22:=by
 rw[who_eq,if_neg (fun x=>x h)]
 cases e:exN (noB z) l with
 | false=>rw[if_neg (by decide),if_pos ((smB_iff z l).2 ((no_all l z).1 e))]
 | true =>
   rw[if_pos rfl,if_neg]
   intro hs
   have:=(no_all l z).2 ((smB_iff z l).1 hs)
   rw[e] at this;cases this
section
variable (n l p:Nat) (z x:Nat→Int) (H:Heap) (w:Int)
end
end Go.Eng
end
section
namespace Go.Eng
open Go.Proofs
set_option linter.unusedVariables false
set_option linter.unusedSimpArgs false
set_option maxRecDepth 100000
theorem bsPV_ok {l:Nat} {z:Nat→Int} (h:whoE l z=0):bsPV l z=.tup [sl1 (P66 l z) (cpZ (fwB l z)) true,.int .i64 0]:=by
 unfold bsPV P66;rw[if_pos h]
 have:(fwB l z).length=(fwP z (alL l z)).length:=by unfold fwB alL;simp
 rw[this]
theorem who_of {l:Nat} {z:Nat→Int} (h:chkO l z=0) (h2:∀ i,i<l→bLo z i≤bHi z i):whoE l z=0:=by
 rw[smB_who l z h,if_pos ((smB_iff z l).2 h2)]
section
variable (n l:Nat) (z:Nat→Int) (H:Heap) (w:Int)
end
end Go.Eng
end
section
namespace Go.Eng
open Go.Proofs
set_option linter.unusedVariables false
set_option linter.unusedSimpArgs false
theorem exN_no {p:Nat→Bool} {k:Nat} (h:∀ j,j<k→p j=false):exN p k=false:=by
 cases e:exN p k with
 | false=>rfl
 | true =>
   obtain ⟨j,hj,e2⟩:=(exN_iff _ _).1 e
   rw[h j hj] at e2;cases e2
theorem exN_not {p:Nat→Bool} {k:Nat} (h:¬ exN p k=true):∀ j,j<k→p j=false:=fun j hj=>by
 cases e:p j with
 | false=>rfl
 | true=>exact absurd ((exN_iff _ _).2 ⟨j,hj,e⟩) h
theorem disj_symm {z:Nat→Int} {a c:Int} (h:Disj z a c):Disj z c a:=fun b hb=>h b ⟨hb.2,hb.1⟩
theorem alL_ok {l:Nat} {z:Nat→Int} (h:whoE l z=0):∀ x ∈ alL l z,okE l z x:=fun x hx=>by
 obtain ⟨h1,h2⟩:=who_ok l z h
 obtain ⟨i,rfl,h5,_⟩:=(dl_mem _ _ _).1 hx
 exact ⟨by omega,by omega,by rw[Int.toNat_natCast];exact h2 i h5⟩
theorem srt_perm (L:List Int):(srtG L).Perm L:=List.mergeSort_perm L _
theorem srt_le (L:List Int):(srtG L).Pairwise (·≤·):=by
 have:=List.pairwise_mergeSort (le:=fun x y:Int=>decide (x≤y)) (fun a b c h1 h2=>by simp only[decide_eq_true_eq] at *;omega) (fun a b=>by simp only[Bool.or_eq_true,decide_eq_true_eq];omega) L
 exact this.imp (fun h=>by simpa using h)
structure Apt (l:Nat) (z:Nat→Int) (S:List Int):Prop where
 ok:∀ a ∈ S,okE l z a
 dj:S.Pairwise (Disj z)
 lt:S.Pairwise (· < ·)
theorem srt_apt {l:Nat} {z:Nat→Int} (h:whoE l z=0):Apt l z (srtG (fwA l z)):=by
 obtain ⟨_,a2,a3⟩:=fw_spec l z (alL l z) (alL_ok h)
 have a2:∀ a ∈ fwA l z,a ∈ alL l z:=a2
 have a3:(fwA l z).Pairwise (Disj z):=a3
 have hp:=srt_perm (fwA l z)
 have ok:∀ a ∈ srtG (fwA l z),okE l z a:=fun a ha=>alL_ok h a (a2 a (hp.mem_iff.1 ha))
 have dj:(srtG (fwA l z)).Pairwise (Disj z):=(hp.pairwise_iff (fun {a b}=>disj_symm)).2 a3
 refine ⟨ok,dj,?_⟩
 refine (List.Pairwise.and dj (srt_le (fwA l z))).imp_of_mem (fun {a b} ha hb hab=>?_)
 obtain ⟨h1,h2⟩:=hab
 apply Int.not_le.1
 intro hc
 have:a=b:=by omega
 subst this
 have:=(ok a ha).2.2
 exact h1 (bHi z a.toNat) ⟨(pB_iff _ _ _).2 ⟨this,Int.le_refl _⟩,(pB_iff _ _ _).2 ⟨this,Int.le_refl _⟩⟩
theorem lst_el (S:List Int) (j:Nat) (hj:j<S.length):lstO S j=S[j]:=by
 rw[lst_at,List.getD_eq_getElem?_getD,List.getElem?_eq_getElem hj];rfl
theorem apt_ok {l:Nat} {z:Nat→Int} {S:List Int} (h:chkO l z=0) (a:Apt l z S):caE l z S.length (lstO S)=0:=by
 have hlt:∀ i j,(hi:i<S.length)→(hj:j<S.length)→i<j→S[i]<S[j]:=List.pairwise_iff_getElem.1 a.lt
 have hdj:∀ i j,(hi:i<S.length)→(hj:j<S.length)→i<j→Disj z S[i] S[j]:=List.pairwise_iff_getElem.1 a.dj
 have hok:∀ j,(hj:j<S.length)→okE l z S[j]:=fun j hj=>a.ok _ (List.getElem_mem hj)
 unfold caE
 rw[if_neg (fun x=>x h),if_neg,if_neg,if_neg]
 · rw[exN_no];· decide
   intro i hi
   unfold mtA
   refine exN_no (fun j hj=>?_)
   rw[lst_el S i hi,lst_el S j (by omega)]
   unfold mtB
   refine decide_eq_false (fun hc=>?_)
   refine hdj j i (by omega) hi hj (max (bLo z (S[i]).toNat) (bLo z (S[j]).toNat)) ⟨(pB_iff _ _ _).2 ⟨?_,?_⟩,(pB_iff _ _ _).2 ⟨?_,?_⟩⟩<;>omega
 · rw[exN_no];· decide
   intro j hj
   unfold noA
   rw[lst_el S j hj]
   have:=(hok j hj).2.2
   exact decide_eq_false (by omega)
 · rw[exN_no];· decide
   intro j hj
   unfold od34
   rw[lst_el S j hj]
   obtain ⟨h1,h2,_⟩:=hok j hj
   rw[decide_eq_true h1,decide_eq_true h2]
   by_cases h0:0<j
   · rw[lst_el S (j-1) (by omega)]
     have:=hlt (j-1) j (by omega) hj (by omega)
     rw[decide_eq_false (show ¬ S[j]≤S[j-1] by omega)];simp
   · rw[decide_eq_false h0];rfl
theorem ca_apt {l:Nat} {z:Nat→Int} {k:Nat} {b:Nat→Int} (h:caE l z k b=0):chkO l z=0∧(∀ j,j<k→okE l z (b j))∧((List.range k).map b).Pairwise (Disj z):=by
 unfold caE at h
 split at h
 · exact absurd h (by assumption)
 rename_i h0
 split at h
 · cases h
 rename_i h1
 split at h
 · cases h
 rename_i h2
 split at h
 · cases h
 rename_i h3
 have h1:=exN_not h1
 have h2:=exN_not h2
 have h3:=exN_not h3
 refine ⟨Decidable.byContradiction h0,fun j hj=>?_,?_⟩
 · have:=h1 j hj
   simp only[od34,Bool.or_eq_false_iff,Bool.not_eq_false',Bool.and_eq_true,decide_eq_true_eq] at this
   have h5:=h2 j hj
   unfold noA at h5
   have:=of_decide_eq_false h5
   exact ⟨by omega,by omega,by omega⟩
 · rw[List.pairwise_map,List.pairwise_iff_getElem]
   intro i j hi hj hij q hq
   rw[List.getElem_range,List.getElem_range] at hq
   simp at hi hj
   have h5:=h3 j hj
   unfold mtA at h5
   have h6:=exN_not (by rw[h5];decide) i hij
   unfold mtB at h6
   have:=of_decide_eq_false h6
   obtain ⟨q1,q2⟩:=hq
   rw[pB_iff] at q1 q2
   omega
theorem cb_spec {l:Nat} {z:Nat→Int} {k:Nat} {b:Nat→Int} (h:cbE l z k b=0):chkO l z=0∧k≤14∧(∀ j,0<j→j<k→b (j-1)<b j)∧∀ i,i<l→∃ j,j<k∧pB z (b j) (i:Int)=true:=by
 unfold cbE at h
 split at h
 · exact absurd h (by assumption)
 rename_i h0
 split at h
 · rename_i h1;exact absurd h h1
 rename_i h1
 split at h
 · cases h
 rename_i h2
 have h1:ibE k b=0:=Decidable.byContradiction h1
 unfold ibE at h1
 split at h1
 · cases h1
 rename_i h3
 split at h1
 · cases h1
 rename_i h4
 have h4:=exN_not h4
 have h2:=exN_not h2
 refine ⟨Decidable.byContradiction h0,by omega,fun j hj hk=>?_,fun i hi=>?_⟩
 · have:=h4 j hk
   simp only[od38,Bool.or_eq_false_iff,Bool.and_eq_false_iff,decide_eq_false_iff_not] at this
   omega
 · have:=h2 i hi
   simp only[Bool.not_eq_false'] at this
   unfold dnN at this
   obtain ⟨j,hj,e⟩:=(exN_iff _ _).1 this
   exact ⟨j,hj,by unfold pB;rw[Int.toNat_natCast];exact e⟩
theorem rg_mem {k:Nat} {b:Nat→Int} {j:Nat} (h:j<k):b j ∈ (List.range k).map b:=List.mem_map.2 ⟨j,List.mem_range.2 h,rfl⟩
theorem cb_ge {l:Nat} {z:Nat→Int} {k:Nat} {b:Nat→Int} (h:cbE l z k b=0) (A:List Int) (hA:∀ a ∈ A,okE l z a) (hd:A.Pairwise (Disj z)):A.length≤k:=by
 obtain ⟨_,_,_,h4⟩:=cb_spec h
 have:=pierce_le z A ((List.range k).map b) (fun a ha=>by
  obtain ⟨o1,o2,_⟩:=hA a ha
  obtain ⟨j,hj,e⟩:=h4 a.toNat (by omega)
  exact ⟨b j,rg_mem hj,by rw[Int.toNat_of_nonneg o1] at e;exact e⟩) hd
 simpa using this
theorem cb_who {l:Nat} {z:Nat→Int} {k:Nat} {b:Nat→Int} (h:cbE l z k b=0):whoE l z=0:=by
 obtain ⟨h1,_,_,h4⟩:=cb_spec h
 refine who_of h1 (fun i hi=>?_)
 obtain ⟨j,hj,e⟩:=h4 i hi
 rw[pB_iff,Int.toNat_natCast] at e
 omega
theorem P_A (l:Nat) (z:Nat→Int):(fwA l z).length=P66 l z:=by unfold fwA P66 alL;rw[List.length_map]
theorem P_B (l:Nat) (z:Nat→Int):(fwB l z).length=P66 l z:=by unfold fwB P66 alL;rw[List.length_map]
theorem ap_ok {l:Nat} {z:Nat→Int} (h:whoE l z=0):caE l z (P66 l z) (lstO (srtG (fwA l z)))=0:=by
 have:=apt_ok (who_ok l z h).1 (srt_apt h)
 rwa [srt_len,P_A] at this
end Go.Eng
end
