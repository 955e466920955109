/- Lay: turns, hands, early cells. -/
import Derived.Test.YtoomemfhcbajoaaV4Lb14x3
namespace Go.Eng
open Go.Proofs
set_option linter.unusedVariables false
set_option linter.unusedSimpArgs false
set_option maxRecDepth 100000
noncomputable def fr48 (T c o j:Int):Frm:=[(1,.int .i64 T),(2,.int .i64 c),(3,.int .i64 o),(4,.ptr 0 0 0 0),(8,.ptr 0 1 0 0),(9,.ptr 0 2 0 0),(10,.int .i64 j)]
noncomputable def lv48a (l:Nat) (t:Nat→Int) (k:Nat) (d:Nat→Int):Lvl:=⟨false,[bxS l t k d,(0,.row (.G [.nils,.nils])),(0,.row (.G [sl1 l t false,.nils]))]⟩
noncomputable def lv48b (l:Nat) (t:Nat→Int) (k:Nat) (d:Nat→Int) (v m:Nat) (y:Nat→Int):Lvl:=⟨false,[bxS l t k d,(0,.row (.G [.nils,.nils])),(0,.row (.G [sl1 l t false,.slc 0 3 v 0 1 m none])),(v,.row (.M [.arr .i64 y m]))]⟩
noncomputable def fr34 (s l:Nat) (t:Nat→Int) (k:Nat) (d g:Nat→Int) (x j:Int):Frm:=[(1,.ptr 0 0 0 0),(4,tbA s l t k d g),(6,.int .i64 x),(7,.int .i64 j)]
noncomputable def fr35 (j:Int):Frm:=[(1,.ptr 0 0 0 0),(4,.int .i64 j)]
noncomputable def fr31 (h j:Int):Frm:=[(1,.int .i64 h),(2,.ptr 0 0 0 0),(6,.int .i64 j)]
noncomputable def lv36 (l:Nat) (t:Nat→Int) (k:Nat) (d g:Nat→Int):Lvl:=⟨false,[bxS l t k d,(0,.row (.G [tbA 0 l t k d g]))]⟩
theorem t48a (n l k:Nat) (t d:Nat→Int) (T c o j:Int) (H:Heap):execT (cxD n 48 42) (il noCt n 0) noBT noRT (part Try.f48 [1,1,0,1,0,0]) (hints (fr48 T c o j)) (lv48a l t k d::H) =
 (fun (Z0:Nat×Blk)=>((fun (Z1:HFrm)=>((fun (Z2:Nat×Blk)=>Tr.ite (ltI j (Int.ofNat k)) (Tr.req (inI j k) (Tr.req (ltN (idO 0 j 1) k) (Tr.ite (eqI j c) (Tr.req (roomO 0 1 8) (Tr.req (eqN 0 0) (Tr.req (leN 1 1) (Tr.ok (Ex.normal,Z1,{ lock:=false,bs:=[Z0,(0,Blk.row (Row.G [AV.nils,AV.nils])),Z2,(0,Blk.row (Row.I .i64 [minO (minO (d (idO 0 j 1)) T) o])),(0,Blk.row (Row.M [Seg.arr .i64 (lstO [minO (minO (d (idO 0 j 1)) T) o]) 1]))] } :: H))))) (Tr.req (roomO 0 1 8) (Tr.req (eqN 0 0) (Tr.req (leN 1 1) (Tr.ok (Ex.normal,Z1,{ lock:=false,bs:=[Z0,(0,Blk.row (Row.G [AV.nils,AV.nils])),Z2,(0,Blk.row (Row.I .i64 [minO (d (idO 0 j 1)) T])),(0,Blk.row (Row.M [Seg.arr .i64 (lstO [minO (d (idO 0 j 1)) T]) 1]))] } :: H)))))))) (Tr.ok (Ex.exit 0,[(1,AV.int .i64 T,none),(2,AV.int .i64 c,none),(3,AV.int .i64 o,none),(4,AV.ptr 0 0 0 0,none),(8,AV.ptr 0 1 0 0,none),(9,AV.ptr 0 2 0 0,none),(10,AV.int .i64 j,none),(19,AV.bool false,some 1)],{ lock:=false,bs:=[Z0,(0,Blk.row (Row.G [AV.nils,AV.nils])),(0,Blk.row (Row.G [AV.slcT none (Row.M [Seg.arr .i64 t l]) 1 l false,AV.nils]))] } :: H))) (0,Blk.row (Row.G [AV.slcT none (Row.M [Seg.arr .i64 t l]) 1 l false,AV.slc 0 4 0 0 1 1 none])))) [(1,AV.int .i64 T,none),(2,AV.int .i64 c,none),(3,AV.int .i64 o,none),(4,AV.ptr 0 0 0 0,none),(8,AV.ptr 0 1 0 0,none),(9,AV.ptr 0 2 0 0,none),(10,AV.int .i64 (addI .i64 j (Int.ofNat 1)),none)])) (0,Blk.row (Row.G [AV.slcT none (Row.M [Seg.arr .i64 t l]) 1 l false,AV.slcT none (Row.M [Seg.arr .i64 d k]) 1 k false])):=by kernel_rfl
theorem t48b (n l k v m:Nat) (t d y:Nat→Int) (T c o j:Int) (H:Heap):execT (cxD n 48 42) (il noCt n 0) noBT noRT (part Try.f48 [1,1,0,1,0,0]) (hints (fr48 T c o j)) (lv48b l t k d v m y::H) =
 (fun (Z0:Nat×Blk)=>((fun (Z1:HFrm)=>((fun (Z2:Nat×Blk)=>Tr.ite (ltI j (Int.ofNat k)) (Tr.req (inI j k) (Tr.req (ltN (idO 0 j 1) k) (Tr.ite (eqI j c) (Tr.req (roomO m 1 8) (Tr.req (eqN 0 0) (Tr.req (leN 1 1) (Tr.req (eqN v v) (Tr.req (eqN (addO 0 m) m) (Tr.ok (Ex.normal,Z1,{ lock:=false,bs:=[Z0,(0,Blk.row (Row.G [AV.nils,AV.nils])),Z2,(Nat.succ v,Blk.row (Row.M [Seg.arr .i64 (appO (shO y 0) m (lstO [minO (minO (d (idO 0 j 1)) T) o])) (addO m 1)])),(0,Blk.row (Row.I .i64 [minO (minO (d (idO 0 j 1)) T) o]))] } :: H))))))) (Tr.req (roomO m 1 8) (Tr.req (eqN 0 0) (Tr.req (leN 1 1) (Tr.req (eqN v v) (Tr.req (eqN (addO 0 m) m) (Tr.ok (Ex.normal,Z1,{ lock:=false,bs:=[Z0,(0,Blk.row (Row.G [AV.nils,AV.nils])),Z2,(Nat.succ v,Blk.row (Row.M [Seg.arr .i64 (appO (shO y 0) m (lstO [minO (d (idO 0 j 1)) T])) (addO m 1)])),(0,Blk.row (Row.I .i64 [minO (d (idO 0 j 1)) T]))] } :: H)))))))))) (Tr.ok (Ex.exit 0,[(1,AV.int .i64 T,none),(2,AV.int .i64 c,none),(3,AV.int .i64 o,none),(4,AV.ptr 0 0 0 0,none),(8,AV.ptr 0 1 0 0,none),(9,AV.ptr 0 2 0 0,none),(10,AV.int .i64 j,none),(19,AV.bool false,some 1)],{ lock:=false,bs:=[Z0,(0,Blk.row (Row.G [AV.nils,AV.nils])),(0,Blk.row (Row.G [AV.slcT none (Row.M [Seg.arr .i64 t l]) 1 l false,AV.slc 0 3 v 0 1 m none])),(v,Blk.row (Row.M [Seg.arr .i64 y m]))] } :: H))) (0,Blk.row (Row.G [AV.slcT none (Row.M [Seg.arr .i64 t l]) 1 l false,AV.slc 0 3 (Nat.succ v) 0 1 (addO m 1) none])))) [(1,AV.int .i64 T,none),(2,AV.int .i64 c,none),(3,AV.int .i64 o,none),(4,AV.ptr 0 0 0 0,none),(8,AV.ptr 0 1 0 0,none),(9,AV.ptr 0 2 0 0,none),(10,AV.int .i64 (addI .i64 j (Int.ofNat 1)),none)])) (0,Blk.row (Row.G [AV.slcT none (Row.M [Seg.arr .i64 t l]) 1 l false,AV.slcT none (Row.M [Seg.arr .i64 d k]) 1 k false])):=by kernel_rfl
theorem u48 (n l k q:Nat) (t d y:Nat→Int) (T c o:Int) (H:Heap):bodyT Try.prog (cd n) 100000 48 Try.f48 (KtL.kt 48) (il noCt n 0) (blkE noBT 0 (fr48 T c o 0) (lv48a l t k d::H) (.ok (.normal,hints (fr48 T c o (Int.ofNat k)++[(19,.bool false)]),lv48b l t k d q (q+1) y::H))) noRT [(shA l t k d,none),(.int .i64 T,none),(.int .i64 c,none),(.int .i64 o,none)] H =
 (fun (Z0:Lvl)=>((fun (Z1:Frm)=>Tr.reqP (Z1=Z1∧Z0::H=Z0::H) (Tr.req (eqN q q) (Tr.req (inO 0 (Nat.succ q) 0 (Nat.succ q)) (Tr.ok ((AV.agg (Row.G [AV.slcT none (Row.M [Seg.arr .i64 t l]) 1 l false,AV.slcT none (Row.M [Seg.arr .i64 (shO y 0) (Nat.succ q)]) 1 (Nat.succ q) false]),none),H))))) [(1,AV.int .i64 T),(2,AV.int .i64 c),(3,AV.int .i64 o),(4,AV.ptr 0 0 0 0),(8,AV.ptr 0 1 0 0),(9,AV.ptr 0 2 0 0),(10,AV.int .i64 (Int.ofNat 0))])) { lock:=false,bs:=[(0,Blk.row (Row.G [AV.slcT none (Row.M [Seg.arr .i64 t l]) 1 l false,AV.slcT none (Row.M [Seg.arr .i64 d k]) 1 k false])),(0,Blk.row (Row.G [AV.nils,AV.nils])),(0,Blk.row (Row.G [AV.slcT none (Row.M [Seg.arr .i64 t l]) 1 l false,AV.nils]))] }:=by kernel_rfl
theorem t34 (n s l k:Nat) (t d g:Nat→Int) (H:Heap) (x j c:Int):execT (cxD n 34 40) (il (tX noCt 71 [tbA s l t k d g,sl1 k d false,.int .i64 j] (.int .i64 c)) n 0) noBT noRT (part Try.f34 [1,1,1,1,0,1,0,0]) (hints (fr34 s l t k d g x j)) (lvO0 l t k d::H) =
 (fun (Z0:Row)=>((fun (Z1:Lvl)=>((fun (Z2:List AV)=>Tr.ite (leI j (Int.ofNat 40)) (Tr.reqP (Z2=Z2) (Tr.req (notB (eqI j (Int.ofNat 0))) (Tr.ok (Ex.normal,[(1,AV.ptr 0 0 0 0,none),(4,AV.ptrT (some s) Z0 0,none),(6,AV.int .i64 (maxO x (quoI IntKind.i64 (subI .i64 (addI .i64 c j) (Int.ofNat 1)) j)),none),(7,AV.int .i64 (addI .i64 j (Int.ofNat 1)),none)],Z1::H)))) (Tr.ok (Ex.exit 1,[(1,AV.ptr 0 0 0 0,none),(4,AV.ptrT (some s) Z0 0,none),(6,AV.int .i64 x,none),(7,AV.int .i64 j,none),(24,AV.bool false,some 1)],Z1::H))) [AV.ptrT (some s) Z0 0,AV.slcT none (Row.M [Seg.arr .i64 d k]) 1 k false,AV.int .i64 j])) { lock:=false,bs:=[(0,Blk.row (Row.G [AV.slcT none (Row.M [Seg.arr .i64 t l]) 1 l false,AV.slcT none (Row.M [Seg.arr .i64 d k]) 1 k false]))] })) (Row.M [Seg.one (AV.slcT none (Row.M [Seg.arr .i64 t l]) 1 l false),Seg.one (AV.slcT none (Row.M [Seg.arr .i64 d k]) 1 k false),Seg.arr .i64 g 30]):=by kernel_rfl
theorem u34 (n l k:Nat) (t d g:Nat→Int) (H:Heap) (c r:Int):bodyT Try.prog (cd n) 100000 34 Try.f34 (KtL.kt 34) (il (tX (tX noCt 51 [shA l t k d] (.tup [tbA 0 l t k d g,.int .i64 0])) 71 [tbA 0 l t k d g,sl1 k d false,.int .i64 0] (.int .i64 c)) n 0) (blkE noBT 1 (fr34 0 l t k d g 1 1) (lvO0 l t k d::H) (.ok (.normal,hints (fr34 0 l t k d g r 41++[(24,.bool false)]),lvO0 l t k d::H))) noRT [(shA l t k d,none)] H =
 (fun (Z0:Row)=>((fun (Z1:Row)=>((fun (Z2:Frm)=>((fun (Z3:List AV)=>Tr.reqP ([AV.agg Z1]=[AV.agg Z1]) (Tr.ite (notB (eqI (Int.ofNat 0) (Int.ofNat 0))) (Tr.ok ((AV.tup [AV.int .i64 (Int.ofNat 0),AV.int .i64 (Int.ofNat 0)],none),H)) (Tr.reqP (Z3=Z3) (Tr.ite (ltI (Int.ofNat 0) c) (Tr.ok ((AV.tup [AV.int .i64 (Int.ofNat 0),AV.int .i64 (Int.ofNat 13)],none),H)) (Tr.reqP (Z2=Z2∧{ lock:=false,bs:=[(0,Blk.row Z1)] } :: H={ lock:=false,bs:=[(0,Blk.row Z1)] } :: H) (Tr.ok ((AV.tup [AV.int .i64 r,AV.int .i64 (Int.ofNat 0)],none),H))))))) [AV.ptrT (some 0) Z0 0,AV.slcT none (Row.M [Seg.arr .i64 d k]) 1 k false,AV.int .i64 (Int.ofNat 0)])) [(1,AV.ptr 0 0 0 0),(4,AV.ptrT (some 0) Z0 0),(6,AV.int .i64 (Int.ofNat 1)),(7,AV.int .i64 (Int.ofNat 1))])) (Row.G [AV.slcT none (Row.M [Seg.arr .i64 t l]) 1 l false,AV.slcT none (Row.M [Seg.arr .i64 d k]) 1 k false]))) (Row.M [Seg.one (AV.slcT none (Row.M [Seg.arr .i64 t l]) 1 l false),Seg.one (AV.slcT none (Row.M [Seg.arr .i64 d k]) 1 k false),Seg.arr .i64 g 30]):=by kernel_rfl
theorem u34s (n l k:Nat) (t d:Nat→Int) (H:Heap) (e:Int):bodyT Try.prog (cd n) 100000 34 Try.f34 (KtL.kt 34) (il (tX noCt 51 [shA l t k d] (.tup [.nilp,.int .i64 e])) n 0) (stopB noBT 1) noRT [(shA l t k d,none)] H =
 (fun (Z0:List AV)=>Tr.reqP (Z0=Z0) (Tr.ite (notB (eqI e (Int.ofNat 0))) (Tr.ok ((AV.tup [AV.int .i64 (Int.ofNat 0),AV.int .i64 e],none),H)) Tr.bad)) [AV.agg (Row.G [AV.slcT none (Row.M [Seg.arr .i64 t l]) 1 l false,AV.slcT none (Row.M [Seg.arr .i64 d k]) 1 k false])]:=by kernel_rfl
theorem u34n (n l k:Nat) (t d g:Nat→Int) (H:Heap) (c:Int):bodyT Try.prog (cd n) 100000 34 Try.f34 (KtL.kt 34) (il (tX (tX noCt 51 [shA l t k d] (.tup [tbA 0 l t k d g,.int .i64 0])) 71 [tbA 0 l t k d g,sl1 k d false,.int .i64 0] (.int .i64 c)) n 0) (stopB noBT 1) noRT [(shA l t k d,none)] H =
 (fun (Z0:List AV)=>((fun (Z1:List AV)=>Tr.reqP (Z1=Z1) (Tr.ite (notB (eqI (Int.ofNat 0) (Int.ofNat 0))) (Tr.ok ((AV.tup [AV.int .i64 (Int.ofNat 0),AV.int .i64 (Int.ofNat 0)],none),H)) (Tr.reqP (Z0=Z0) (Tr.ite (ltI (Int.ofNat 0) c) (Tr.ok ((AV.tup [AV.int .i64 (Int.ofNat 0),AV.int .i64 (Int.ofNat 13)],none),H)) Tr.bad)))) [AV.agg (Row.G [AV.slcT none (Row.M [Seg.arr .i64 t l]) 1 l false,AV.slcT none (Row.M [Seg.arr .i64 d k]) 1 k false])])) [AV.ptrT (some 0) (Row.M [Seg.one (AV.slcT none (Row.M [Seg.arr .i64 t l]) 1 l false),Seg.one (AV.slcT none (Row.M [Seg.arr .i64 d k]) 1 k false),Seg.arr .i64 g 30]) 0,AV.slcT none (Row.M [Seg.arr .i64 d k]) 1 k false,AV.int .i64 (Int.ofNat 0)]:=by kernel_rfl
theorem t35 (n l k:Nat) (t d:Nat→Int) (H:Heap) (j:Int) (b:Bool):execT (cxD n 35 21) (il (tX noCt 65 [shA l t k d,.int .i64 j] (.bool b)) n 0) noBT noRT (part Try.f35 [1,1,0,1,0,0]) (hints (fr35 j)) (lvO0 l t k d::H) =
 (fun (Z0:Row)=>Tr.ite (leI j (Int.ofNat l)) (Tr.reqP ([AV.agg Z0,AV.int .i64 j]=[AV.agg Z0,AV.int .i64 j]) (Tr.ite b (Tr.ok (Ex.ret,[(2,AV.int .i64 j,none),(3,AV.int .i64 (Int.ofNat 0),some 1)],{ lock:=false,bs:=[(0,Blk.row Z0)] } :: H)) (Tr.ok (Ex.normal,[(1,AV.ptr 0 0 0 0,none),(4,AV.int .i64 (addI .i64 j (Int.ofNat 1)),none)],{ lock:=false,bs:=[(0,Blk.row Z0)] } :: H)))) (Tr.ok (Ex.exit 0,[(1,AV.ptr 0 0 0 0,none),(4,AV.int .i64 j,none),(14,AV.bool false,some 1)],{ lock:=false,bs:=[(0,Blk.row Z0)] } :: H))) (Row.G [AV.slcT none (Row.M [Seg.arr .i64 t l]) 1 l false,AV.slcT none (Row.M [Seg.arr .i64 d k]) 1 k false]):=by kernel_rfl
theorem t35x (n l k:Nat) (t d:Nat→Int) (H:Heap) (j:Int):execT (cxD n 35 21) (il (tN noCt 65) n 0) noBT noRT (part Try.f35 [1,1,0,1,0,0]) (hints (fr35 j)) (lvO0 l t k d::H) =
 Tr.ite (leI j (Int.ofNat l)) Tr.bad (Tr.ok (Ex.exit 0,[(1,AV.ptr 0 0 0 0,none),(4,AV.int .i64 j,none),(14,AV.bool false,some 1)],{ lock:=false,bs:=[(0,Blk.row (Row.G [AV.slcT none (Row.M [Seg.arr .i64 t l]) 1 l false,AV.slcT none (Row.M [Seg.arr .i64 d k]) 1 k false]))] } :: H)):=by kernel_rfl
theorem u35 (n l k:Nat) (t d:Nat→Int) (H:Heap) (r:Int) (b:Bool):bodyT Try.prog (cd n) 100000 35 Try.f35 (KtL.kt 35) (il (tX noCt 22 [shA l t k d] (.int .i64 0)) n 0) (blkE noBT 0 (fr35 1) (lvO0 l t k d::H) (.ite b (.ok (.ret,[(2,.int .i64 r,none),(3,.int .i64 0,none)],lvO0 l t k d::H)) (.ok (.normal,hints (fr35 (Int.ofNat (l+1))++[(14,.bool false)]),lvO0 l t k d::H)))) noRT [(shA l t k d,none)] H =
 (fun (Z0:Row)=>Tr.reqP ([AV.agg Z0]=[AV.agg Z0]) (Tr.ite (notB (eqI (Int.ofNat 0) (Int.ofNat 0))) (Tr.reqP ([AV.agg Z0]=[AV.agg Z0]) (Tr.ok ((AV.tup [AV.int .i64 (Int.ofNat 0),AV.int .i64 (Int.ofNat 0)],none),H))) (Tr.reqP ([(1,AV.ptr 0 0 0 0),(4,AV.int .i64 (Int.ofNat 1))]=[(1,AV.ptr 0 0 0 0),(4,AV.int .i64 (Int.ofNat 1))]∧{ lock:=false,bs:=[(0,Blk.row Z0)] } :: H={ lock:=false,bs:=[(0,Blk.row Z0)] } :: H) (Tr.ite b (Tr.ok ((AV.tup [AV.int .i64 r,AV.int .i64 (Int.ofNat 0)],none),H)) (Tr.ok ((AV.tup [AV.int .i64 (Int.ofNat 0),AV.int .i64 (Int.ofNat 13)],none),H)))))) (Row.G [AV.slcT none (Row.M [Seg.arr .i64 t l]) 1 l false,AV.slcT none (Row.M [Seg.arr .i64 d k]) 1 k false]):=by kernel_rfl
theorem u35s (n l k:Nat) (t d:Nat→Int) (H:Heap) (e:Int):bodyT Try.prog (cd n) 100000 35 Try.f35 (KtL.kt 35) (il (tX noCt 22 [shA l t k d] (.int .i64 e)) n 0) (stopB noBT 0) noRT [(shA l t k d,none)] H =
 (fun (Z0:List AV)=>Tr.reqP (Z0=Z0) (Tr.ite (notB (eqI e (Int.ofNat 0))) (Tr.reqP (Z0=Z0) (Tr.ok ((AV.tup [AV.int .i64 (Int.ofNat 0),AV.int .i64 e],none),H))) Tr.bad)) [AV.agg (Row.G [AV.slcT none (Row.M [Seg.arr .i64 t l]) 1 l false,AV.slcT none (Row.M [Seg.arr .i64 d k]) 1 k false])]:=by kernel_rfl
theorem t31 (n l k:Nat) (t d y:Nat→Int) (h j:Int) (b:Bool) (H:Heap):execT (cxD n 31 23) (il (tX (tX noCt 48 [shA l t k d,.int .i64 j,.int .i64 (-1),.int .i64 0] (shA l t k y)) 65 [shA l t k y,.int .i64 h] (.bool b)) n 0) noBT noRT (part Try.f31 [1,1,1,0,0,0]) (hints (fr31 h j)) (lvO0 l t k d::H) =
 (fun (Z0:Row)=>((fun (Z1:List AV)=>Tr.reqP ([AV.agg Z0,AV.int .i64 j,AV.int .i64 (Int.negSucc 0),AV.int .i64 (Int.ofNat 0)]=[AV.agg Z0,AV.int .i64 j,AV.int .i64 (Int.negSucc 0),AV.int .i64 (Int.ofNat 0)]) (Tr.reqP (Z1=Z1) (Tr.ite (notB b) (Tr.ok (Ex.normal,[(1,AV.int .i64 h,none),(2,AV.ptr 0 0 0 0,none),(6,AV.int .i64 (addI .i64 j (Int.ofNat 1)),none)],{ lock:=false,bs:=[(0,Blk.row Z0)] } :: H)) (Tr.ok (Ex.exit 0,[(1,AV.int .i64 h,none),(2,AV.ptr 0 0 0 0,none),(6,AV.int .i64 j,none),(19,AV.bool false,some 1)],{ lock:=false,bs:=[(0,Blk.row Z0)] } :: H))))) [AV.agg (Row.G [AV.slcT none (Row.M [Seg.arr .i64 t l]) 1 l false,AV.slcT none (Row.M [Seg.arr .i64 y k]) 1 k false]),AV.int .i64 h])) (Row.G [AV.slcT none (Row.M [Seg.arr .i64 t l]) 1 l false,AV.slcT none (Row.M [Seg.arr .i64 d k]) 1 k false]):=by kernel_rfl
theorem u31 (n l k:Nat) (t d:Nat→Int) (h r:Int) (H:Heap):bodyT Try.prog (cd n) 100000 31 Try.f31 (KtL.kt 31) (il (tX noCt 28 [shA l t k d,.int .i64 h] (.int .i64 0)) n 0) (blkE noBT 0 (fr31 h 1) (lvO0 l t k d::H) (.ok (.normal,hints (fr31 h r++[(19,.bool false)]),lvO0 l t k d::H))) noRT [(shA l t k d,none),(.int .i64 h,none)] H =
 (fun (Z0:Row)=>Tr.reqP ([AV.agg Z0,AV.int .i64 h]=[AV.agg Z0,AV.int .i64 h]) (Tr.ite (notB (eqI (Int.ofNat 0) (Int.ofNat 0))) (Tr.reqP ([AV.agg Z0,AV.int .i64 h]=[AV.agg Z0,AV.int .i64 h]) (Tr.ok ((AV.tup [AV.int .i64 (Int.ofNat 0),AV.int .i64 (Int.ofNat 0)],none),H))) (Tr.reqP ([(1,AV.int .i64 h),(2,AV.ptr 0 0 0 0),(6,AV.int .i64 (Int.ofNat 1))]=[(1,AV.int .i64 h),(2,AV.ptr 0 0 0 0),(6,AV.int .i64 (Int.ofNat 1))]∧{ lock:=false,bs:=[(0,Blk.row Z0)] } :: H={ lock:=false,bs:=[(0,Blk.row Z0)] } :: H) (Tr.ok ((AV.tup [AV.int .i64 r,AV.int .i64 (Int.ofNat 0)],none),H))))) (Row.G [AV.slcT none (Row.M [Seg.arr .i64 t l]) 1 l false,AV.slcT none (Row.M [Seg.arr .i64 d k]) 1 k false]):=by kernel_rfl
theorem u31s (n l k:Nat) (t d:Nat→Int) (h e:Int) (H:Heap):bodyT Try.prog (cd n) 100000 31 Try.f31 (KtL.kt 31) (il (tX noCt 28 [shA l t k d,.int .i64 h] (.int .i64 e)) n 0) (stopB noBT 0) noRT [(shA l t k d,none),(.int .i64 h,none)] H =
 (fun (Z0:List AV)=>Tr.reqP (Z0=Z0) (Tr.ite (notB (eqI e (Int.ofNat 0))) (Tr.reqP (Z0=Z0) (Tr.ok ((AV.tup [AV.int .i64 (Int.ofNat 0),AV.int .i64 e],none),H))) Tr.bad)) [AV.agg (Row.G [AV.slcT none (Row.M [Seg.arr .i64 t l]) 1 l false,AV.slcT none (Row.M [Seg.arr .i64 d k]) 1 k false]),AV.int .i64 h]:=by kernel_rfl
theorem u36 (n l k:Nat) (t d g:Nat→Int) (H:Heap) (h r:Int):bodyT Try.prog (cd n) 100000 36 Try.f36 (KtL.kt 36) (il (ctE (tX noCt 61 [shA l t k d,.int .i64 h,.int .i64 0] (.tup [tbA 0 l t k d g,.int .i64 0])) 72 [tbA 0 l t k d g,.int .i64 h,.fn (.func 73) [] [.ptr 0 1 0 0]] (lv36 l t k d g::H) (.ok (.int .i64 r,lv36 l t k d g::H))) n 0) noBT noRT [(shA l t k d,none),(.int .i64 h,none)] H =
 (fun (Z0:Row)=>((fun (Z1:Row)=>((fun (Z2:Lvl)=>Tr.reqP ([AV.agg Z1,AV.int .i64 h,AV.int .i64 (Int.ofNat 0)]=[AV.agg Z1,AV.int .i64 h,AV.int .i64 (Int.ofNat 0)]) (Tr.ite (notB (eqI (Int.ofNat 0) (Int.ofNat 0))) (Tr.ok ((AV.tup [AV.int .i64 (Int.ofNat 0),AV.int .i64 (Int.ofNat 0)],none),H)) (Tr.reqP ([AV.ptrT (some 0) Z0 0,AV.int .i64 h,AV.fn (Fn.func 73) [] [AV.ptr 0 1 0 0]]=[AV.ptrT (some 0) Z0 0,AV.int .i64 h,AV.fn (Fn.func 73) [] [AV.ptr 0 1 0 0]]∧Z2::H=Z2::H) (Tr.ok ((AV.tup [AV.int .i64 r,AV.int .i64 (Int.ofNat 0)],none),H))))) { lock:=false,bs:=[(0,Blk.row Z1),(0,Blk.row (Row.G [AV.ptrT (some 0) Z0 0]))] })) (Row.G [AV.slcT none (Row.M [Seg.arr .i64 t l]) 1 l false,AV.slcT none (Row.M [Seg.arr .i64 d k]) 1 k false]))) (Row.M [Seg.one (AV.slcT none (Row.M [Seg.arr .i64 t l]) 1 l false),Seg.one (AV.slcT none (Row.M [Seg.arr .i64 d k]) 1 k false),Seg.arr .i64 g 30]):=by kernel_rfl
theorem u36s (n l k:Nat) (t d:Nat→Int) (H:Heap) (h e:Int):bodyT Try.prog (cd n) 100000 36 Try.f36 (KtL.kt 36) (il (tX noCt 61 [shA l t k d,.int .i64 h,.int .i64 0] (.tup [.nilp,.int .i64 e])) n 0) noBT noRT [(shA l t k d,none),(.int .i64 h,none)] H =
 (fun (Z0:List AV)=>Tr.reqP (Z0=Z0) (Tr.ite (notB (eqI e (Int.ofNat 0))) (Tr.ok ((AV.tup [AV.int .i64 (Int.ofNat 0),AV.int .i64 e],none),H)) Tr.bad)) [AV.agg (Row.G [AV.slcT none (Row.M [Seg.arr .i64 t l]) 1 l false,AV.slcT none (Row.M [Seg.arr .i64 d k]) 1 k false]),AV.int .i64 h,AV.int .i64 (Int.ofNat 0)]:=by kernel_rfl
theorem b48:∀ b,(0,b) ∈ blocksOf (bodyOf Try.f48)→b=.loop (part Try.f48 [1,1,0,1,0,0]):=by
 have:((blocksOf (bodyOf Try.f48)).filter fun x=>Nat.beq x.1 0)=[(0,.loop (part Try.f48 [1,1,0,1,0,0]))]:=by kernel_rfl
 intro b hb
 have hm:(0,b) ∈ ((blocksOf (bodyOf Try.f48)).filter fun x=>Nat.beq x.1 0):=List.mem_filter.2 ⟨hb,rfl⟩
 rw[this] at hm;simpa using hm
theorem b34:∀ b,(1,b) ∈ blocksOf (bodyOf Try.f34)→b=.loop (part Try.f34 [1,1,1,1,0,1,0,0]):=by
 have:((blocksOf (bodyOf Try.f34)).filter fun x=>Nat.beq x.1 1)=[(1,.loop (part Try.f34 [1,1,1,1,0,1,0,0]))]:=by kernel_rfl
 intro b hb
 have hm:(1,b) ∈ ((blocksOf (bodyOf Try.f34)).filter fun x=>Nat.beq x.1 1):=List.mem_filter.2 ⟨hb,rfl⟩
 rw[this] at hm;simpa using hm
theorem b35:∀ b,(0,b) ∈ blocksOf (bodyOf Try.f35)→b=.loop (part Try.f35 [1,1,0,1,0,0]):=by
 have:((blocksOf (bodyOf Try.f35)).filter fun x=>Nat.beq x.1 0)=[(0,.loop (part Try.f35 [1,1,0,1,0,0]))]:=by kernel_rfl
 intro b hb
 have hm:(0,b) ∈ ((blocksOf (bodyOf Try.f35)).filter fun x=>Nat.beq x.1 0):=List.mem_filter.2 ⟨hb,rfl⟩
 rw[this] at hm;simpa using hm
theorem b31:∀ b,(0,b) ∈ blocksOf (bodyOf Try.f31)→b=.loop (part Try.f31 [1,1,1,0,0,0]):=by
 have:((blocksOf (bodyOf Try.f31)).filter fun x=>Nat.beq x.1 0)=[(0,.loop (part Try.f31 [1,1,1,0,0,0]))]:=by kernel_rfl
 intro b hb
 have hm:(0,b) ∈ ((blocksOf (bodyOf Try.f31)).filter fun x=>Nat.beq x.1 0):=List.mem_filter.2 ⟨hb,rfl⟩
 rw[this] at hm;simpa using hm
def wiV (d:Nat→Int) (T c o:Int):Nat→Int:=fun i=>if (i:Int)=c then min (min (d i) T) o else min (d i) T
noncomputable def lv48 (l:Nat) (t:Nat→Int) (k:Nat) (d z:Nat→Int):Nat→Lvl
 | 0=>lv48a l t k d
 | q+1=>lv48b l t k d q (q+1) (lstO (faN z (q+1)))
def trV (l:Nat) (t:Nat→Int) (d:Nat→Int) (h:Int):Nat:=leaN (fun T=>canB l t (fun i=>min (d i) (T:Nat)) h)
section
variable (n l k:Nat) (t d:Nat→Int) (H:Heap) (h:Int)
theorem l48 (T c o:Int) (h0:0<k) (hk:k≤1000):exec (cxD n 48 42) (.block 0 (.loop (part Try.f48 [1,1,0,1,0,0]))) (fr48 T c o 0) (lv48a l t k d::H)=some (.normal,fr48 T c o (Int.ofNat k)++[(19,.bool false)],lv48 l t k d (wiV d T c o) k::H):=by
 refine forX (n:=n) (f:=48) (nt:=42) (c:=part Try.f48 [1,1,0,1,0,0]) 0 (fun j=>fr48 T c o (j:Nat)) (fun j=>lv48 l t k d (wiV d T c o) j::H) k _ (by omega) (fun j hj=>?_) ?_
 · cases j with
   | zero =>
     refine ex_all (t48a n l k t d T c o (0:Nat) H) (il_no0 n) (noBT_ok _ _) (noRT_ok _ _) ?_
     show Tr.all _ (fun x=>_∧tidy _ _ _=(fr48 T c o ((0+1:Nat):Int),lv48b l t k d 0 1 (lstO [wiV d T c o 0])::H))
     have hw:wiV d T c o 0=if ((0:Nat):Int)=c then min (min (d 0) T) o else min (d 0) T:=rfl
     rw[cs64 (j:=0) (by omega)]
     simp only[id1,minO_min]
     by_cases e:((0:Nat):Int)=c
     · rw[hw,if_pos e]
       generalize min (min (d 0) T) o=V at *
       repeat' first | (refine Tr.all_ite (fun hc=>?_) (fun hc=>?_)<;>(try simp (disch:=omega) only[nV,nW] at hc)<;>try omega) | (refine Tr.all_req ?_ ?_;· (try simp (disch:=omega) only[nV,nW]);try omega) | (refine Tr.all_reqP ?_ ?_;· first | exact trivial | rfl | exact ⟨rfl,rfl⟩ | exact ⟨rfl,rfl,rfl⟩ | (simp (disch:=omega) only[nV,nW];done) | ((try simp (disch:=omega) only[nV,nW]);omega)) | fail
       all_goals first
        | exact Tr.all_ok ⟨rfl,rfl⟩
        | fail
     · rw[hw,if_neg e]
       generalize min (d 0) T=V at *
       repeat' first | (refine Tr.all_ite (fun hc=>?_) (fun hc=>?_)<;>(try simp (disch:=omega) only[nV,nW] at hc)<;>try omega) | (refine Tr.all_req ?_ ?_;· (try simp (disch:=omega) only[nV,nW]);try omega) | (refine Tr.all_reqP ?_ ?_;· first | exact trivial | rfl | exact ⟨rfl,rfl⟩ | exact ⟨rfl,rfl,rfl⟩ | (simp (disch:=omega) only[nV,nW];done) | ((try simp (disch:=omega) only[nV,nW]);omega)) | fail
       all_goals first
        | exact Tr.all_ok ⟨rfl,rfl⟩
        | fail
   | succ j =>
     refine ex_all (t48b n l k j (j+1) t d (lstO (faN (wiV d T c o) (j+1))) T c o (j+1:Nat) H) (il_no0 n) (noBT_ok _ _) (noRT_ok _ _) ?_
     show Tr.all _ (fun x=>_∧tidy _ _ _=(fr48 T c o ((j+1+1:Nat):Int),lv48b l t k d (j+1) (j+1+1) (lstO (faN (wiV d T c o) (j+1+1)))::H))
     have hap:=faN_app (wiV d T c o) (j+1)
     have ea:addO (j+1) 1=j+1+1:=addO_eq _ _
     have hw:wiV d T c o (j+1)=if ((j+1:Nat):Int)=c then min (min (d (j+1)) T) o else min (d (j+1)) T:=rfl
     rw[cs64 (j:=j+1) (by omega)]
     simp only[id1,minO_min,ea]
     by_cases e:((j+1:Nat):Int)=c
     · rw[hw,if_pos e] at hap
       generalize min (min (d (j+1)) T) o=V at *
       generalize lstO (faN (wiV d T c o) (j+1+1))=Y2 at *
       generalize lstO (faN (wiV d T c o) (j+1))=Y at *
       rw[hap]
       repeat' first | (refine Tr.all_ite (fun hc=>?_) (fun hc=>?_)<;>(try simp (disch:=omega) only[nV,nW] at hc)<;>try omega) | (refine Tr.all_req ?_ ?_;· (try simp (disch:=omega) only[nV,nW]);try omega) | (refine Tr.all_reqP ?_ ?_;· first | exact trivial | rfl | exact ⟨rfl,rfl⟩ | exact ⟨rfl,rfl,rfl⟩ | (simp (disch:=omega) only[nV,nW];done) | ((try simp (disch:=omega) only[nV,nW]);omega)) | fail
       all_goals first
        | exact Tr.all_ok ⟨rfl,rfl⟩
        | fail
     · rw[hw,if_neg e] at hap
       generalize min (min (d (j+1)) T) o=V2 at *
       generalize min (d (j+1)) T=V at *
       generalize lstO (faN (wiV d T c o) (j+1+1))=Y2 at *
       generalize lstO (faN (wiV d T c o) (j+1))=Y at *
       rw[hap]
       repeat' first | (refine Tr.all_ite (fun hc=>?_) (fun hc=>?_)<;>(try simp (disch:=omega) only[nV,nW] at hc)<;>try omega) | (refine Tr.all_req ?_ ?_;· (try simp (disch:=omega) only[nV,nW]);try omega) | (refine Tr.all_reqP ?_ ?_;· first | exact trivial | rfl | exact ⟨rfl,rfl⟩ | exact ⟨rfl,rfl,rfl⟩ | (simp (disch:=omega) only[nV,nW];done) | ((try simp (disch:=omega) only[nV,nW]);omega)) | fail
       all_goals first
        | exact Tr.all_ok ⟨rfl,rfl⟩
        | fail
 · obtain ⟨q,rfl⟩:∃ q,k=q+1:=⟨k-1,by omega⟩
   exact ex_off (t48b n l (q+1) q (q+1) t d (lstO (faN (wiV d T c o) (q+1))) T c o (Int.ofNat (q+1)) H) (il_no0 n) (noBT_ok _ _) (noRT_ok _ _) (by first | (simp (disch:=omega) only[nV,nW];done) | (simp (disch:=omega) only[nV,nW];omega))
theorem c48 (T c o:Int) (h0:0<k) (hk:k≤1000):cd (n+1) (.fn 48) [shA l t k d,.int .i64 T,.int .i64 c,.int .i64 o] H=some (shA l t k (lstO (faN (wiV d T c o) k)),H):=by
 have hx:=l48 n l k t d H T c o h0 hk
 obtain ⟨q,rfl⟩:∃ q,k=q+1:=⟨k-1,by omega⟩
 refine fn_all (n:=n) Try.func48 rfl rfl rfl (u48 n l (q+1) q t d (lstO (faN (wiV d T c o) (q+1))) T c o H) (il_no0 _) (blkE_ok (noBT_ok _ _) b48 (fun x hy=>blk_ok hy hx)) (noRT_ok _ _) ?_
 rw[shO_zero]
 generalize lstO (faN (wiV d T c o) (q+1))=Y at *
 repeat' first | (refine Tr.all_ite (fun hc=>?_) (fun hc=>?_)<;>(try simp (disch:=omega) only[nV,nW] at hc)<;>try omega) | (refine Tr.all_req ?_ ?_;· (try simp (disch:=omega) only[nV,nW]);try omega) | (refine Tr.all_reqP ?_ ?_;· first | exact trivial | rfl | exact ⟨rfl,rfl⟩ | exact ⟨rfl,rfl,rfl⟩ | (simp (disch:=omega) only[nV,nW];done) | ((try simp (disch:=omega) only[nV,nW]);omega)) | fail
 all_goals first
  | exact Tr.all_ok ⟨rfl,rfl⟩
  | fail
theorem c61y (e:needE l k t d h=0):cd (n+11) (.fn 61) [shA l t k d,.int .i64 h,.int .i64 0] H=some (.tup [tbS 0 l t k d,.int .i64 0],H):=by
 obtain ⟨e1,e2⟩:=need_of e
 rw[c61 n l k t d H h 0 e1,if_pos rfl,if_pos e2]
theorem c61n (e:needE l k t d h≠0):cd (n+11) (.fn 61) [shA l t k d,.int .i64 h,.int .i64 0] H=some (.tup [.nilp,.int .i64 (needE l k t d h)],H):=by
 by_cases c:askE l t k d h=0
 · rw[c61 n l k t d H h 0 c,if_pos rfl]
   have:needE l k t d h=if canB l t d h=true then 0 else 13:=by unfold needE;rw[if_pos c]
   rw[this] at e ⊢
   by_cases c2:canB l t d h=true
   · rw[if_pos c2] at e;exact absurd rfl e
   · rw[if_neg c2,if_neg c2]
 · rw[c61e n l k t d H h 0 c]
   have:needE l k t d h=askE l t k d h:=by unfold needE;rw[if_neg c]
   rw[this]
theorem bd_min {l:Nat} {d:Nat→Int} (hb:Bd l d) (T:Int) (hT:0≤T):Bd l (fun i=>min (d i) T):=fun j hj=>by
 have:=hb j hj
 show -900≤min (d j) T∧min (d j) T≤900
 omega
theorem bd_fa {l k:Nat} {z:Nat→Int} (hk:k=l) (hb:Bd l z):Bd l (lstO (faN z k)):=fun j hj=>by
 subst hk;rw[faN_at _ hj];exact hb j hj
theorem can_fa {l k:Nat} {t z:Nat→Int} (h:Fw l t) (hk:k=l) (hh:Int):canB l t (lstO (faN z k)) hh=canB l t z hh :=
 can_congr h (fun j hj=>by subst hk;exact faN_at z hj) hh
noncomputable def trA:AV:=if needE l k t d h=0 then .tup [.int .i64 (trV l t d h:Nat),.int .i64 0] else .tup [.int .i64 0,.int .i64 (needE l k t d h)]
theorem c36:cd (n+12) (.fn 36) [shA l t k d,.int .i64 h] H=some (trA l k t d h,H):=by
 unfold trA
 by_cases e:needE l k t d h=0
 · rw[if_pos e]
   obtain ⟨e1,e2⟩:=need_of e
   obtain ⟨hs,h1,h2⟩:=ask_of e1
   have hl1:=hs.l1
   have hl2:=hs.l30
   have hkl:=hs.kl
   have h72:cd (n+11) (.fn 72) [tbA 0 l t k d (ldF t l),.int .i64 h,.fn (.func 73) [] [.ptr 0 1 0 0]] (lv36 l t k d (ldF t l)::H)=some (.int .i64 (trV l t d h:Nat),lv36 l t k d (ldF t l)::H):=by
    have:=c72A (n+6) 0 l k 1 t d (ldF t l) (lv36 l t k d (ldF t l)::H) h (fun T=>lstO (faN (fun i=>min (d i) (T:Nat)) k)) hs.l30 hs.kl hs.tl hs.cyc (fun T _ _=>bd_fa hs.kl (bd_min hs.bd _ (by omega))) (by omega) (fun T _ _=>c73 (n+7) H l k t d (ldF t l) _ (T:Nat) (by omega) (by omega))
    rw[lea_congr (q:=fun T=>canB l t (fun i=>min (d i) (T:Nat)) h) (fun T _ _=>can_fa hs.fw hs.kl h)] at this
    exact this
   refine fn_all (n:=n+11) Try.func36 rfl rfl rfl (u36 (n+11) l k t d (ldF t l) H h (trV l t d h:Nat)) (il_ok0 _ (n+11) (ctE_ok (tX_ok (noCt_ok _) (fun H=>c61y n l k t d H h e)) (fun x hy=>by rw[← Tr.ok_some hy];exact h72))) (noBT_ok _ _) (noRT_ok _ _) ?_
   generalize ldF t l=g at *
   repeat' first | (refine Tr.all_ite (fun hc=>?_) (fun hc=>?_)<;>(try simp (disch:=omega) only[nV,nW] at hc)<;>try omega) | (refine Tr.all_req ?_ ?_;· (try simp (disch:=omega) only[nV,nW]);try omega) | (refine Tr.all_reqP ?_ ?_;· first | exact trivial | rfl | exact ⟨rfl,rfl⟩ | exact ⟨rfl,rfl,rfl⟩ | (simp (disch:=omega) only[nV,nW];done) | ((try simp (disch:=omega) only[nV,nW]);omega)) | fail
   all_goals first
    | exact Tr.all_ok ⟨rfl,rfl⟩
    | fail
 · rw[if_neg e]
   refine fn_all (n:=n+11) Try.func36 rfl rfl rfl (u36s (n+11) l k t d H h (needE l k t d h)) (il_ok0 _ (n+11) (tX_ok (noCt_ok _) (fun H=>c61n n l k t d H h e))) (noBT_ok _ _) (noRT_ok _ _) ?_
   generalize needE l k t d h=E at *
   repeat' first | (refine Tr.all_ite (fun hc=>?_) (fun hc=>?_)<;>(try simp (disch:=omega) only[nV,nW] at hc)<;>try omega) | (refine Tr.all_req ?_ ?_;· (try simp (disch:=omega) only[nV,nW]);try omega) | (refine Tr.all_reqP ?_ ?_;· first | exact trivial | rfl | exact ⟨rfl,rfl⟩ | exact ⟨rfl,rfl,rfl⟩ | (simp (disch:=omega) only[nV,nW];done) | ((try simp (disch:=omega) only[nV,nW]);omega)) | fail
   all_goals first
    | exact Tr.all_ok ⟨rfl,rfl⟩
    | fail
theorem lea_of {p:Nat→Bool}:(exN (fun j=>p (j+1)) 39=true→(leaN p=fN (fun j=>p (j+1)) 39 0+1))∧(exN (fun j=>p (j+1)) 39=false→leaN p=40):=by
 unfold leaN
 constructor
 · intro h;rw[if_pos h]
 · intro h;rw[if_neg (by rw[h];decide)]
theorem l31 (e:needE l k t d h=0):exec (cxD (n+4) 31 23) (.block 0 (.loop (part Try.f31 [1,1,1,0,0,0]))) (fr31 h 1) (lvO0 l t k d::H)=some (.normal,fr31 h (trV l t d h:Nat)++[(19,.bool false)],lvO0 l t k d::H):=by
 obtain ⟨e1,e2⟩:=need_of e
 obtain ⟨hs,h1,h2⟩:=ask_of e1
 have hl1:=hs.l1
 have hl2:=hs.l30
 have hkl:=hs.kl
 have hw:∀ j:Nat,wiV d (j+1:Nat) (-1) 0=fun i=>min (d i) (j+1:Nat):=fun j=>by
  funext i;unfold wiV;rw[if_neg (by omega)]
 have hC:∀ j:Nat,(tX (tX noCt 48 [shA l t k d,.int .i64 ((j+1:Nat):Int),.int .i64 (-1),.int .i64 0] (shA l t k (lstO (faN (fun i=>min (d i) (j+1:Nat)) k)))) 65 [shA l t k (lstO (faN (fun i=>min (d i) (j+1:Nat)) k)),.int .i64 h] (.bool (canB l t (fun i=>min (d i) (j+1:Nat)) h))).Ok (cd (n+4)):=fun j =>
  tX_ok (tX_ok (noCt_ok _) (fun H=>by rw[← hw j];exact c48 (n+3) l k t d H _ _ _ (by omega) (by omega))) (fun H=>by
   rw[← can_fa hs.fw hs.kl]
   exact c65 (n+1) l k t _ H h hs.fw (by omega) hs.kl (bd_fa hs.kl (bd_min hs.bd _ (by omega))) (by omega))
 have hx:=forN (n:=n+4) (f:=31) (nt:=23) (c:=part Try.f31 [1,1,1,0,0,0]) 0 (fun j=>fr31 h ((j+1:Nat):Int)) (fun _=>lvO0 l t k d::H) 39 (fun j=>canB l t (fun i=>min (d i) (j+1:Nat)) h) (fun j=>(fr31 h ((j+1:Nat):Int)++[(19,.bool false)],lvO0 l t k d::H)) (fr31 h 40++[(19,.bool false)],lvO0 l t k d::H) (by omega) (fun j hj=>?_) ?_
 · obtain ⟨q1,q2⟩:=lea_of (p:=fun T=>canB l t (fun i=>min (d i) (T:Nat)) h)
   refine hx.trans ?_
   unfold trV
   cases hB:exN (fun j=>canB l t (fun i=>min (d i) ((j+1:Nat):Int)) h) 39 with
   | true=>rw[q1 hB];rfl
   | false=>rw[q2 hB];rfl
 · refine ex_all (t31 (n+4) l k t d (lstO (faN (fun i=>min (d i) (j+1:Nat)) k)) h ((j+1:Nat):Int) (canB l t (fun i=>min (d i) (j+1:Nat)) h) H) (il_ok0 _ (n+4) (hC j)) (noBT_ok _ _) (noRT_ok _ _) ?_
   show Tr.all _ (fun r=>if canB l t (fun i=>min (d i) (j+1:Nat)) h=true then _ else _)
   rw[cs64 (j:=j+1) (by omega)]
   generalize canB l t (fun i=>min (d i) (j+1:Nat)) h=B at *
   generalize lstO (faN (fun i=>min (d i) (j+1:Nat)) k)=Y at *
   cases B with
   | true =>
     simp only[if_true]
     repeat' first | (refine Tr.all_ite (fun hc=>?_) (fun hc=>?_)<;>(try simp (disch:=omega) only[nV,nW] at hc)<;>try omega) | (refine Tr.all_req ?_ ?_;· (try simp (disch:=omega) only[nV,nW]);try omega) | (refine Tr.all_reqP ?_ ?_;· first | exact trivial | rfl | exact ⟨rfl,rfl⟩ | exact ⟨rfl,rfl,rfl⟩ | (simp (disch:=omega) only[nV,nW];done) | ((try simp (disch:=omega) only[nV,nW]);omega)) | fail
     all_goals first
      | exact Tr.all_ok rfl
      | fail
   | false =>
     simp only[Bool.false_eq_true,if_false]
     repeat' first | (refine Tr.all_ite (fun hc=>?_) (fun hc=>?_)<;>(try simp (disch:=omega) only[nV,nW] at hc)<;>try omega) | (refine Tr.all_req ?_ ?_;· (try simp (disch:=omega) only[nV,nW]);try omega) | (refine Tr.all_reqP ?_ ?_;· first | exact trivial | rfl | exact ⟨rfl,rfl⟩ | exact ⟨rfl,rfl,rfl⟩ | (simp (disch:=omega) only[nV,nW];done) | ((try simp (disch:=omega) only[nV,nW]);omega)) | fail
     all_goals first
      | exact Tr.all_ok ⟨rfl,rfl⟩
      | fail
 · have hB:canB l t (fun i=>min (d i) (39+1:Nat)) h=true:=by
    rw[can_congr hs.fw (e':=d) (fun j hj=>by have:=hs.d40 j hj;show min (d j) 40=d j;omega)]
    exact e2
   obtain ⟨x,h1,rfl⟩:=ex_all (Q:=fun x=>x=(.exit 0,fr31 h 40++[(19,.bool false)],lvO0 l t k d::H)) (t31 (n+4) l k t d (lstO (faN (fun i=>min (d i) (39+1:Nat)) k)) h ((39+1:Nat):Int) (canB l t (fun i=>min (d i) (39+1:Nat)) h) H) (il_ok0 _ (n+4) (hC 39)) (noBT_ok _ _) (noRT_ok _ _) (by
    rw[hB]
    generalize lstO (faN (fun i=>min (d i) (39+1:Nat)) k)=Y at *
    repeat' first | (refine Tr.all_ite (fun hc=>?_) (fun hc=>?_)<;>(try simp (disch:=omega) only[nV,nW] at hc)<;>try omega) | (refine Tr.all_req ?_ ?_;· (try simp (disch:=omega) only[nV,nW]);try omega) | (refine Tr.all_reqP ?_ ?_;· first | exact trivial | rfl | exact ⟨rfl,rfl⟩ | exact ⟨rfl,rfl,rfl⟩ | (simp (disch:=omega) only[nV,nW];done) | ((try simp (disch:=omega) only[nV,nW]);omega)) | fail
    all_goals first
     | exact Tr.all_ok rfl
     | fail)
   exact h1
theorem c31:cd (n+5) (.fn 31) [shA l t k d,.int .i64 h] H=some (trA l k t d h,H):=by
 unfold trA
 by_cases e:needE l k t d h=0
 · rw[if_pos e]
   have hx:=l31 n l k t d H h e
   refine fn_all (n:=n+4) Try.func31 rfl rfl rfl (u31 (n+4) l k t d h (trV l t d h:Nat) H) (il_ok0 _ (n+4) (tX_ok (noCt_ok _) (fun H=>by rw[c28,e]))) (blkE_ok (noBT_ok _ _) b31 (fun x hy=>blk_ok hy hx)) (noRT_ok _ _) ?_
   repeat' first | (refine Tr.all_ite (fun hc=>?_) (fun hc=>?_)<;>(try simp (disch:=omega) only[nV,nW] at hc)<;>try omega) | (refine Tr.all_req ?_ ?_;· (try simp (disch:=omega) only[nV,nW]);try omega) | (refine Tr.all_reqP ?_ ?_;· first | exact trivial | rfl | exact ⟨rfl,rfl⟩ | exact ⟨rfl,rfl,rfl⟩ | (simp (disch:=omega) only[nV,nW];done) | ((try simp (disch:=omega) only[nV,nW]);omega)) | fail
   all_goals first
    | exact Tr.all_ok ⟨rfl,rfl⟩
    | fail
 · rw[if_neg e]
   refine fn_all (n:=n+4) Try.func31 rfl rfl rfl (u31s (n+4) l k t d h (needE l k t d h) H) (il_ok0 _ (n+4) (tX_ok (noCt_ok _) (fun H=>c28 n l k t d H h))) (stopB_ok (noBT_ok _ _) 0) (noRT_ok _ _) ?_
   generalize needE l k t d h=E at *
   repeat' first | (refine Tr.all_ite (fun hc=>?_) (fun hc=>?_)<;>(try simp (disch:=omega) only[nV,nW] at hc)<;>try omega) | (refine Tr.all_req ?_ ?_;· (try simp (disch:=omega) only[nV,nW]);try omega) | (refine Tr.all_reqP ?_ ?_;· first | exact trivial | rfl | exact ⟨rfl,rfl⟩ | exact ⟨rfl,rfl,rfl⟩ | (simp (disch:=omega) only[nV,nW];done) | ((try simp (disch:=omega) only[nV,nW]);omega)) | fail
   all_goals first
    | exact Tr.all_ok ⟨rfl,rfl⟩
    | fail
noncomputable def hdA:AV:=.tup [.int .i64 (hdV l t k d).1,.int .i64 (hdV l t k d).2]
theorem l34 (hs:Sh l t k d):exec (cxD (n+4) 34 40) (.block 1 (.loop (part Try.f34 [1,1,1,1,0,1,0,0]))) (fr34 0 l t k d (ldF t l) 1 1) (lvO0 l t k d::H)=some (.normal,fr34 0 l t k d (ldF t l) (hnF l t d 40) 41++[(24,.bool false)],lvO0 l t k d::H):=by
 have hC:∀ j:Nat,(tX noCt 71 [tbA 0 l t k d (ldF t l),sl1 k d false,.int .i64 ((j+1:Nat):Int)] (.int .i64 (crN l t d ((j+1:Nat):Int):Nat))).Ok (cd (n+4)):=fun j =>
  tX_ok (noCt_ok _) (fun H=>c71 n 0 l k k t d _ d false H _ hs.l30 hs.kl hs.tl hs.cyc hs.bd)
 refine forX (n:=n+4) (f:=34) (nt:=40) (c:=part Try.f34 [1,1,1,1,0,1,0,0]) 1 (fun j=>fr34 0 l t k d (ldF t l) (hnF l t d j) ((j+1:Nat):Int)) (fun _=>lvO0 l t k d::H) 40 _ (by omega) (fun j hj=>?_) ?_
 · refine ex_all (t34 (n+4) 0 l k t d (ldF t l) H (hnF l t d j) ((j+1:Nat):Int) (crN l t d ((j+1:Nat):Int):Nat)) (il_ok0 _ (n+4) (hC j)) (noBT_ok _ _) (noRT_ok _ _) ?_
   have hle:=cr_le l t d ((j+1:Nat):Int)
   have hl:=hs.l30
   show Tr.all _ (fun r=>_∧tidy _ _ _=(fr34 0 l t k d (ldF t l) (max (hnF l t d j) (((crN l t d ((j+1:Nat):Int):Int)+((j+1:Nat):Int)-1).tdiv ((j+1:Nat):Int))) ((j+1+1:Nat):Int),_))
   have e1:addI .i64 (crN l t d ((j+1:Nat):Int):Nat) ((j+1:Nat):Int)=(crN l t d ((j+1:Nat):Int):Int)+((j+1:Nat):Int):=ad64 (by omega) (by omega)
   have e2:subI .i64 ((crN l t d ((j+1:Nat):Int):Int)+((j+1:Nat):Int)) (Int.ofNat 1)=(crN l t d ((j+1:Nat):Int):Int)+((j+1:Nat):Int)-1:=by rw[show Int.ofNat 1=1 from rfl];exact sb64 (by omega) (by omega)
   have e3:quoI .i64 ((crN l t d ((j+1:Nat):Int):Int)+((j+1:Nat):Int)-1) ((j+1:Nat):Int)=((crN l t d ((j+1:Nat):Int):Int)+((j+1:Nat):Int)-1).tdiv ((j+1:Nat):Int):=by
    rw[quoI_eq]
    have hd:0≤((crN l t d ((j+1:Nat):Int):Int)+((j+1:Nat):Int)-1).tdiv ((j+1:Nat):Int)∧((crN l t d ((j+1:Nat):Int):Int)+((j+1:Nat):Int)-1).tdiv ((j+1:Nat):Int)≤(crN l t d ((j+1:Nat):Int):Int)+((j+1:Nat):Int)-1:=by
     rw[Int.tdiv_eq_ediv_of_nonneg (by omega)]
     exact ⟨Int.ediv_nonneg (by omega) (by omega),Int.ediv_le_self _ (by omega)⟩
    exact wr_64 (by omega) (by omega)
   rw[cs64 (j:=j+1) (by omega),e1,e2,e3,maxO_max]
   generalize max (hnF l t d j) _=M at *
   generalize crN l t d ((j+1:Nat):Int)=C at *
   generalize ldF t l=g at *
   repeat' first | (refine Tr.all_ite (fun hc=>?_) (fun hc=>?_)<;>(try simp (disch:=omega) only[nV,nW] at hc)<;>try omega) | (refine Tr.all_req ?_ ?_;· (try simp (disch:=omega) only[nV,nW]);try omega) | (refine Tr.all_reqP ?_ ?_;· first | exact trivial | rfl | exact ⟨rfl,rfl⟩ | exact ⟨rfl,rfl,rfl⟩ | (simp (disch:=omega) only[nV,nW];done) | ((try simp (disch:=omega) only[nV,nW]);omega)) | fail
   all_goals first
    | exact Tr.all_ok ⟨rfl,rfl⟩
    | fail
 · exact ex_off (t34 (n+4) 0 l k t d (ldF t l) H (hnF l t d 40) ((40+1:Nat):Int) (crN l t d ((40+1:Nat):Int):Nat)) (il_ok0 _ (n+4) (hC 40)) (noBT_ok _ _) (noRT_ok _ _) (by first | (simp (disch:=omega) only[nV,nW];done) | (simp (disch:=omega) only[nV,nW];omega))
theorem c34:cd (n+9) (.fn 34) [shA l t k d] H=some (hdA l k t d,H):=by
 unfold hdA hdV
 by_cases e:shE l t k d=0
 · have hs:=sh_of e
   rw[if_pos e]
   have h51:∀ H,cd (n+8) (.fn 51) [shA l t k d] H=some (.tup [tbA 0 l t k d (ldF t l),.int .i64 0],H):=fun H=>c51 n l k t d H hs
   have h71:∀ H,cd (n+8) (.fn 71) [tbA 0 l t k d (ldF t l),sl1 k d false,.int .i64 0] H=some (.int .i64 (crN l t d 0:Nat),H):=fun H=>c71 (n+4) 0 l k k t d _ d false H _ hs.l30 hs.kl hs.tl hs.cyc hs.bd
   by_cases c:crN l t d 0=0
   · rw[if_pos c]
     have hx:=l34 (n+4) l k t d H hs
     refine fn_all (n:=n+8) Try.func34 rfl rfl rfl (u34 (n+8) l k t d (ldF t l) H (crN l t d 0:Nat) (hnF l t d 40)) (il_ok0 _ (n+8) (tX_ok (tX_ok (noCt_ok _) h51) h71)) (blkE_ok (noBT_ok _ _) b34 (fun x hy=>blk_ok hy hx)) (noRT_ok _ _) ?_
     rw[c]
     generalize hnF l t d 40=M at *
     generalize ldF t l=g at *
     repeat' first | (refine Tr.all_ite (fun hc=>?_) (fun hc=>?_)<;>(try simp (disch:=omega) only[nV,nW] at hc)<;>try omega) | (refine Tr.all_req ?_ ?_;· (try simp (disch:=omega) only[nV,nW]);try omega) | (refine Tr.all_reqP ?_ ?_;· first | exact trivial | rfl | exact ⟨rfl,rfl⟩ | exact ⟨rfl,rfl,rfl⟩ | (simp (disch:=omega) only[nV,nW];done) | ((try simp (disch:=omega) only[nV,nW]);omega)) | fail
     all_goals first
      | exact Tr.all_ok ⟨rfl,rfl⟩
      | fail
   · rw[if_neg c]
     refine fn_all (n:=n+8) Try.func34 rfl rfl rfl (u34n (n+8) l k t d (ldF t l) H (crN l t d 0:Nat)) (il_ok0 _ (n+8) (tX_ok (tX_ok (noCt_ok _) h51) h71)) (stopB_ok (noBT_ok _ _) 1) (noRT_ok _ _) ?_
     generalize crN l t d 0=C at *
     generalize ldF t l=g at *
     repeat' first | (refine Tr.all_ite (fun hc=>?_) (fun hc=>?_)<;>(try simp (disch:=omega) only[nV,nW] at hc)<;>try omega) | (refine Tr.all_req ?_ ?_;· (try simp (disch:=omega) only[nV,nW]);try omega) | (refine Tr.all_reqP ?_ ?_;· first | exact trivial | rfl | exact ⟨rfl,rfl⟩ | exact ⟨rfl,rfl,rfl⟩ | (simp (disch:=omega) only[nV,nW];done) | ((try simp (disch:=omega) only[nV,nW]);omega)) | fail
     all_goals first
      | exact Tr.all_ok ⟨rfl,rfl⟩
      | fail
 · rw[if_neg e]
   refine fn_all (n:=n+8) Try.func34 rfl rfl rfl (u34s (n+8) l k t d H (shE l t k d)) (il_ok0 _ (n+8) (tX_ok (noCt_ok _) (fun H=>c51e n l k t d H e))) (stopB_ok (noBT_ok _ _) 1) (noRT_ok _ _) ?_
   generalize shE l t k d=E at *
   repeat' first | (refine Tr.all_ite (fun hc=>?_) (fun hc=>?_)<;>(try simp (disch:=omega) only[nV,nW] at hc)<;>try omega) | (refine Tr.all_req ?_ ?_;· (try simp (disch:=omega) only[nV,nW]);try omega) | (refine Tr.all_reqP ?_ ?_;· first | exact trivial | rfl | exact ⟨rfl,rfl⟩ | exact ⟨rfl,rfl,rfl⟩ | (simp (disch:=omega) only[nV,nW];done) | ((try simp (disch:=omega) only[nV,nW]);omega)) | fail
   all_goals first
    | exact Tr.all_ok ⟨rfl,rfl⟩
    | fail
theorem c35:cd (n+5) (.fn 35) [shA l t k d] H=some (hdA l k t d,H):=by
 unfold hdA hdV
 by_cases e:shE l t k d=0
 · have hs:=sh_of e
   have hl1:=hs.l1
   have hl2:=hs.l30
   rw[if_pos e]
   have h22:∀ H,cd (n+4) (.fn 22) [shA l t k d] H=some (.int .i64 0,H):=fun H=>by rw[c22 (n+2),e]
   have hx:=findX (n:=n+4) (f:=35) (nt:=21) (c:=part Try.f35 [1,1,0,1,0,0]) 0 (fun j=>fr35 ((j+1:Nat):Int)) (fun _=>lvO0 l t k d::H) l (fun j=>canB l t d ((j+1:Nat):Int)) (fun j=>([(2,.int .i64 ((j+1:Nat):Int)),(3,.int .i64 0)],lvO0 l t k d::H)) (fr35 (Int.ofNat (l+1))++[(14,.bool false)],lvO0 l t k d::H) (by omega) (fun j hj=>?_) ?_
   · refine fn_all (n:=n+4) Try.func35 rfl rfl rfl (u35 (n+4) l k t d H ((fN (fun j=>canB l t d ((j+1:Nat):Int)) l 0+1:Nat):Int) (exN (fun j=>canB l t d ((j+1:Nat):Int)) l)) (il_ok0 _ (n+4) (tX_ok (noCt_ok _) h22)) (blkE_ok (noBT_ok _ _) b35 (fun x hy=>blk_ite hy hx)) (noRT_ok _ _) ?_
     obtain ⟨q1,q2⟩:=hn_first (t:=t) (e:=d) hl1
     by_cases c:crN l t d 0=0
     · rw[if_pos c]
       obtain ⟨q3,q4⟩:=q1 c
       rw[q3,q4]
       generalize hnF l t d 40=M at *
       repeat' first | (refine Tr.all_ite (fun hc=>?_) (fun hc=>?_)<;>(try simp (disch:=omega) only[nV,nW] at hc)<;>try omega) | (refine Tr.all_req ?_ ?_;· (try simp (disch:=omega) only[nV,nW]);try omega) | (refine Tr.all_reqP ?_ ?_;· first | exact trivial | rfl | exact ⟨rfl,rfl⟩ | exact ⟨rfl,rfl,rfl⟩ | (simp (disch:=omega) only[nV,nW];done) | ((try simp (disch:=omega) only[nV,nW]);omega)) | fail
       all_goals first
        | exact Tr.all_ok ⟨rfl,rfl⟩
        | fail
     · rw[if_neg c,q2 c]
       generalize ((fN (fun j=>canB l t d ((j+1:Nat):Int)) l 0+1:Nat):Int)=M at *
       repeat' first | (refine Tr.all_ite (fun hc=>?_) (fun hc=>?_)<;>(try simp (disch:=omega) only[nV,nW] at hc)<;>try omega) | (refine Tr.all_req ?_ ?_;· (try simp (disch:=omega) only[nV,nW]);try omega) | (refine Tr.all_reqP ?_ ?_;· first | exact trivial | rfl | exact ⟨rfl,rfl⟩ | exact ⟨rfl,rfl,rfl⟩ | (simp (disch:=omega) only[nV,nW];done) | ((try simp (disch:=omega) only[nV,nW]);omega)) | fail
       all_goals first
        | exact Tr.all_ok ⟨rfl,rfl⟩
        | fail
   · refine ex_all (t35 (n+4) l k t d H ((j+1:Nat):Int) (canB l t d ((j+1:Nat):Int))) (il_ok0 _ (n+4) (tX_ok (noCt_ok _) (fun H=>c65 (n+1) l k t d H _ hs.fw (by omega) hs.kl hs.bd (by omega)))) (noBT_ok _ _) (noRT_ok _ _) ?_
     show Tr.all _ (fun r=>if canB l t d ((j+1:Nat):Int)=true then _ else _)
     rw[cs64 (j:=j+1) (by omega)]
     generalize canB l t d ((j+1:Nat):Int)=B at *
     cases B with
     | true =>
       simp only[if_true]
       repeat' first | (refine Tr.all_ite (fun hc=>?_) (fun hc=>?_)<;>(try simp (disch:=omega) only[nV,nW] at hc)<;>try omega) | (refine Tr.all_req ?_ ?_;· (try simp (disch:=omega) only[nV,nW]);try omega) | (refine Tr.all_reqP ?_ ?_;· first | exact trivial | rfl | exact ⟨rfl,rfl⟩ | exact ⟨rfl,rfl,rfl⟩ | (simp (disch:=omega) only[nV,nW];done) | ((try simp (disch:=omega) only[nV,nW]);omega)) | fail
       all_goals first
        | exact Tr.all_ok rfl
        | fail
     | false =>
       simp only[Bool.false_eq_true,if_false]
       repeat' first | (refine Tr.all_ite (fun hc=>?_) (fun hc=>?_)<;>(try simp (disch:=omega) only[nV,nW] at hc)<;>try omega) | (refine Tr.all_req ?_ ?_;· (try simp (disch:=omega) only[nV,nW]);try omega) | (refine Tr.all_reqP ?_ ?_;· first | exact trivial | rfl | exact ⟨rfl,rfl⟩ | exact ⟨rfl,rfl,rfl⟩ | (simp (disch:=omega) only[nV,nW];done) | ((try simp (disch:=omega) only[nV,nW]);omega)) | fail
       all_goals first
        | exact Tr.all_ok ⟨rfl,rfl⟩
        | fail
   · exact ex_off (t35x (n+4) l k t d H (Int.ofNat (l+1))) (il_ok0 _ (n+4) (tN_ok (noCt_ok _))) (noBT_ok _ _) (noRT_ok _ _) (by first | (simp (disch:=omega) only[nV,nW];done) | (simp (disch:=omega) only[nV,nW];omega))
 · rw[if_neg e]
   refine fn_all (n:=n+4) Try.func35 rfl rfl rfl (u35s (n+4) l k t d H (shE l t k d)) (il_ok0 _ (n+4) (tX_ok (noCt_ok _) (fun H=>c22 (n+2) l k t d H))) (stopB_ok (noBT_ok _ _) 0) (noRT_ok _ _) ?_
   generalize shE l t k d=E at *
   repeat' first | (refine Tr.all_ite (fun hc=>?_) (fun hc=>?_)<;>(try simp (disch:=omega) only[nV,nW] at hc)<;>try omega) | (refine Tr.all_req ?_ ?_;· (try simp (disch:=omega) only[nV,nW]);try omega) | (refine Tr.all_reqP ?_ ?_;· first | exact trivial | rfl | exact ⟨rfl,rfl⟩ | exact ⟨rfl,rfl,rfl⟩ | (simp (disch:=omega) only[nV,nW];done) | ((try simp (disch:=omega) only[nV,nW]);omega)) | fail
   all_goals first
    | exact Tr.all_ok ⟨rfl,rfl⟩
    | fail
end
end Go.Eng
