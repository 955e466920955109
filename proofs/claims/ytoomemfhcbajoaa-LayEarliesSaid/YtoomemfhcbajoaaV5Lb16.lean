/- Lay: turns, hands, early cells. -/
import Derived.Test.YtoomemfhcbajoaaV5Lb14x3
namespace Go.Eng
open Go.Proofs
set_option linter.unusedVariables false
set_option linter.unusedSimpArgs false
set_option maxRecDepth 100000
noncomputable def fr48 (T c o j:Int):Frm:=[(1,.int .i64 T),(2,.int .i64 c),(3,.int .i64 o),(4,.ptr 0 0 0 0),(8,.ptr 0 1 0 0),(9,.ptr 0 2 0 0),(10,.int .i64 j)]
noncomputable def lv48a (l:Nat) (t:Nat→Int) (k:Nat) (d:Nat→Int):Lvl:=⟨false,[bxS l t k d,(0,.row (.G [.nils,.nils])),(0,.row (.G [sl1 l t false,.nils]))]⟩
noncomputable def lv48b (l:Nat) (t:Nat→Int) (k:Nat) (d:Nat→Int) (v m:Nat) (y:Nat→Int):Lvl:=⟨false,[bxS l t k d,(0,.row (.G [.nils,.nils])),(0,.row (.G [sl1 l t false,.slc 0 3 v 0 1 m none])),(v,.row (.M [.arr .i64 y m]))]⟩
noncomputable def g56c (args:List AV) (H:Heap):Tr (AV×Heap) :=
 match args with
 | [.int .i64 lo,.int .i64 hi,.slc 0 2 0 0 1 1 (some 1)]=>match H with
   | ⟨false,[b0,b1,(0,.row (.I .i64 [x]))]⟩::r=>.ite (ltI x lo) (.ok (.bool false,H)) (.ite (ltI hi x) (.ok (.bool false,H)) (.ok (.bool true,H)))
   | _=>.bad
 | _=>.bad
noncomputable def fr40 (h c j:Int):Frm:=[(1,.int .i64 h),(2,.int .i64 c),(3,.ptr 0 0 0 0),(8,.int .i64 j)]
noncomputable def lv39 (l:Nat) (t:Nat→Int) (k:Nat) (d g:Nat→Int) (c:Int) (b2:Nat×Blk):Lvl:=⟨false,[bxS l t k d,cel c,b2,(0,.row (.G [tbA 0 l t k d g]))]⟩
theorem u56c (n:Nat) (b0 b1:Nat×Blk) (x lo hi:Int) (H:Heap):bodyT Try.prog (cd (n+5)) 100000 56 Try.f56 (KtL.kt 56) (il noCt n 5) noBT noRT [(.int .i64 lo,none),(.int .i64 hi,none),(.slc 0 2 0 0 1 1 (some 1),none)] (⟨false,[b0,b1,(0,.row (.I .i64 [x]))]⟩::H) =
 (fun (Z0:Lvl)=>Tr.ite (ltI (Int.ofNat 0) (Int.ofNat 1)) (Tr.req (inI (Int.ofNat 0) 1) (Tr.ite (ltI x lo) (Tr.ok ((AV.bool false,some 1),Z0::H)) (Tr.ite (ltI hi x) (Tr.ok ((AV.bool false,some 1),Z0::H)) (Tr.ite (ltI (Int.ofNat 1) (Int.ofNat 1)) (Tr.req (inI (Int.ofNat 1) 1) Tr.bad) (Tr.ok ((AV.bool true,some 1),Z0::H)))))) (Tr.ok ((AV.bool true,some 1),Z0::H))) { lock:=false,bs:=[b0,b1,(0,Blk.row (Row.I .i64 [x]))] }:=by kernel_rfl
theorem t48a (n l k:Nat) (t d:Nat→Int) (T c o j:Int) (H:Heap):execT (cxD n 48 42) (il noCt n 0) noBT noRT (part Try.f48 [1,1,0,1,0,0]) (hints (fr48 T c o j)) (lv48a l t k d::H) =
 (fun (Z0:Nat×Blk)=>((fun (Z1:HFrm)=>((fun (Z2:Nat×Blk)=>Tr.ite (ltI j (Int.ofNat k)) (Tr.req (inI j k) (Tr.req (ltN (idO 0 j 1) k) (Tr.ite (eqI j c) (Tr.req (roomO 0 1 8) (Tr.req (eqN 0 0) (Tr.req (leN 1 1) (Tr.ok (Ex.normal,Z1,{ lock:=false,bs:=[Z0,(0,Blk.row (Row.G [AV.nils,AV.nils])),Z2,(0,Blk.row (Row.I .i64 [minO (minO (d (idO 0 j 1)) T) o])),(0,Blk.row (Row.M [Seg.arr .i64 (lstO [minO (minO (d (idO 0 j 1)) T) o]) 1]))] } :: H))))) (Tr.req (roomO 0 1 8) (Tr.req (eqN 0 0) (Tr.req (leN 1 1) (Tr.ok (Ex.normal,Z1,{ lock:=false,bs:=[Z0,(0,Blk.row (Row.G [AV.nils,AV.nils])),Z2,(0,Blk.row (Row.I .i64 [minO (d (idO 0 j 1)) T])),(0,Blk.row (Row.M [Seg.arr .i64 (lstO [minO (d (idO 0 j 1)) T]) 1]))] } :: H)))))))) (Tr.ok (Ex.exit 0,[(1,AV.int .i64 T,none),(2,AV.int .i64 c,none),(3,AV.int .i64 o,none),(4,AV.ptr 0 0 0 0,none),(8,AV.ptr 0 1 0 0,none),(9,AV.ptr 0 2 0 0,none),(10,AV.int .i64 j,none),(19,AV.bool false,some 1)],{ lock:=false,bs:=[Z0,(0,Blk.row (Row.G [AV.nils,AV.nils])),(0,Blk.row (Row.G [AV.slcT none (Row.M [Seg.arr .i64 t l]) 1 l false,AV.nils]))] } :: H))) (0,Blk.row (Row.G [AV.slcT none (Row.M [Seg.arr .i64 t l]) 1 l false,AV.slc 0 4 0 0 1 1 none])))) [(1,AV.int .i64 T,none),(2,AV.int .i64 c,none),(3,AV.int .i64 o,none),(4,AV.ptr 0 0 0 0,none),(8,AV.ptr 0 1 0 0,none),(9,AV.ptr 0 2 0 0,none),(10,AV.int .i64 (addI .i64 j (Int.ofNat 1)),none)])) (0,Blk.row (Row.G [AV.slcT none (Row.M [Seg.arr .i64 t l]) 1 l false,AV.slcT none (Row.M [Seg.arr .i64 d k]) 1 k false])):=by kernel_rfl
theorem t48b (n l k v m:Nat) (t d y:Nat→Int) (T c o j:Int) (H:Heap):execT (cxD n 48 42) (il noCt n 0) noBT noRT (part Try.f48 [1,1,0,1,0,0]) (hints (fr48 T c o j)) (lv48b l t k d v m y::H) =
 (fun (Z0:Nat×Blk)=>((fun (Z1:HFrm)=>((fun (Z2:Nat×Blk)=>Tr.ite (ltI j (Int.ofNat k)) (Tr.req (inI j k) (Tr.req (ltN (idO 0 j 1) k) (Tr.ite (eqI j c) (Tr.req (roomO m 1 8) (Tr.req (eqN 0 0) (Tr.req (leN 1 1) (Tr.req (eqN v v) (Tr.req (eqN (addO 0 m) m) (Tr.ok (Ex.normal,Z1,{ lock:=false,bs:=[Z0,(0,Blk.row (Row.G [AV.nils,AV.nils])),Z2,(Nat.succ v,Blk.row (Row.M [Seg.arr .i64 (appO (shO y 0) m (lstO [minO (minO (d (idO 0 j 1)) T) o])) (addO m 1)])),(0,Blk.row (Row.I .i64 [minO (minO (d (idO 0 j 1)) T) o]))] } :: H))))))) (Tr.req (roomO m 1 8) (Tr.req (eqN 0 0) (Tr.req (leN 1 1) (Tr.req (eqN v v) (Tr.req (eqN (addO 0 m) m) (Tr.ok (Ex.normal,Z1,{ lock:=false,bs:=[Z0,(0,Blk.row (Row.G [AV.nils,AV.nils])),Z2,(Nat.succ v,Blk.row (Row.M [Seg.arr .i64 (appO (shO y 0) m (lstO [minO (d (idO 0 j 1)) T])) (addO m 1)])),(0,Blk.row (Row.I .i64 [minO (d (idO 0 j 1)) T]))] } :: H)))))))))) (Tr.ok (Ex.exit 0,[(1,AV.int .i64 T,none),(2,AV.int .i64 c,none),(3,AV.int .i64 o,none),(4,AV.ptr 0 0 0 0,none),(8,AV.ptr 0 1 0 0,none),(9,AV.ptr 0 2 0 0,none),(10,AV.int .i64 j,none),(19,AV.bool false,some 1)],{ lock:=false,bs:=[Z0,(0,Blk.row (Row.G [AV.nils,AV.nils])),(0,Blk.row (Row.G [AV.slcT none (Row.M [Seg.arr .i64 t l]) 1 l false,AV.slc 0 3 v 0 1 m none])),(v,Blk.row (Row.M [Seg.arr .i64 y m]))] } :: H))) (0,Blk.row (Row.G [AV.slcT none (Row.M [Seg.arr .i64 t l]) 1 l false,AV.slc 0 3 (Nat.succ v) 0 1 (addO m 1) none])))) [(1,AV.int .i64 T,none),(2,AV.int .i64 c,none),(3,AV.int .i64 o,none),(4,AV.ptr 0 0 0 0,none),(8,AV.ptr 0 1 0 0,none),(9,AV.ptr 0 2 0 0,none),(10,AV.int .i64 (addI .i64 j (Int.ofNat 1)),none)])) (0,Blk.row (Row.G [AV.slcT none (Row.M [Seg.arr .i64 t l]) 1 l false,AV.slcT none (Row.M [Seg.arr .i64 d k]) 1 k false])):=by kernel_rfl
theorem u48 (n l k q:Nat) (t d y:Nat→Int) (T c o:Int) (H:Heap):bodyT Try.prog (cd n) 100000 48 Try.f48 (KtL.kt 48) (il noCt n 0) (blkE noBT 0 (fr48 T c o 0) (lv48a l t k d::H) (.ok (.normal,hints (fr48 T c o (Int.ofNat k)++[(19,.bool false)]),lv48b l t k d q (q+1) y::H))) noRT [(shA l t k d,none),(.int .i64 T,none),(.int .i64 c,none),(.int .i64 o,none)] H =
 (fun (Z0:Lvl)=>((fun (Z1:Frm)=>Tr.reqP (Z1=Z1∧Z0::H=Z0::H) (Tr.req (eqN q q) (Tr.req (inO 0 (Nat.succ q) 0 (Nat.succ q)) (Tr.ok ((AV.agg (Row.G [AV.slcT none (Row.M [Seg.arr .i64 t l]) 1 l false,AV.slcT none (Row.M [Seg.arr .i64 (shO y 0) (Nat.succ q)]) 1 (Nat.succ q) false]),none),H))))) [(1,AV.int .i64 T),(2,AV.int .i64 c),(3,AV.int .i64 o),(4,AV.ptr 0 0 0 0),(8,AV.ptr 0 1 0 0),(9,AV.ptr 0 2 0 0),(10,AV.int .i64 (Int.ofNat 0))])) { lock:=false,bs:=[(0,Blk.row (Row.G [AV.slcT none (Row.M [Seg.arr .i64 t l]) 1 l false,AV.slcT none (Row.M [Seg.arr .i64 d k]) 1 k false])),(0,Blk.row (Row.G [AV.nils,AV.nils])),(0,Blk.row (Row.G [AV.slcT none (Row.M [Seg.arr .i64 t l]) 1 l false,AV.nils]))] }:=by kernel_rfl
theorem u39 (n l k:Nat) (t d g:Nat→Int) (H:Heap) (h c a r:Int):bodyT Try.prog (cd n) 100000 39 Try.f39 (KtL.kt 39) (il (addCt (ctE (tX noCt 61 [shA l t k d,.int .i64 h,.int .i64 a] (.tup [tbA 0 l t k d g,.int .i64 0])) 72 [tbA 0 l t k d g,.int .i64 h,.fn (.func 76) [] [.ptr 0 3 0 0,.ptr 0 1 0 0]] (lv39 l t k d g c (0,.row (.I .i64 [c]))::H) (.ok (.int .i64 r,lv39 l t k d g c (0,.row (.I .i64 [c]))::H))) 56 g56c) n 0) noBT noRT [(shA l t k d,none),(.int .i64 h,none),(.int .i64 c,none)] H =
 (fun (Z0:Lvl)=>((fun (Z1:List AV)=>((fun (Z2:Row)=>((fun (Z3:AV×Option Nat)=>((fun (Z4:AV×Option Nat)=>((fun (Z5:List AV)=>((fun (Z6:List AV)=>((fun (Z7:List AV)=>Tr.ite (ltI c (Int.ofNat 0)) (Tr.ite (notB false) (Tr.reqP (Z6=Z5) (Tr.ite (notB (eqI (Int.ofNat 0) (Int.ofNat 0))) (Tr.ok (Z3,H)) (Tr.reqP (Z1=Z1∧Z0::H=Z0::H) (Tr.ok (Z4,H))))) (Tr.reqP (Z7=Z5) (Tr.ite (notB (eqI (Int.ofNat 0) (Int.ofNat 0))) (Tr.ok (Z3,H)) (Tr.reqP (Z1=Z1∧Z0::H=Z0::H) (Tr.ok (Z4,H)))))) (Tr.ite (ltI (subI .i64 (Int.ofNat l) (Int.ofNat 1)) c) (Tr.ite (notB false) (Tr.reqP (Z6=Z5) (Tr.ite (notB (eqI (Int.ofNat 0) (Int.ofNat 0))) (Tr.ok (Z3,H)) (Tr.reqP (Z1=Z1∧Z0::H=Z0::H) (Tr.ok (Z4,H))))) (Tr.reqP (Z7=Z5) (Tr.ite (notB (eqI (Int.ofNat 0) (Int.ofNat 0))) (Tr.ok (Z3,H)) (Tr.reqP (Z1=Z1∧Z0::H=Z0::H) (Tr.ok (Z4,H)))))) (Tr.ite (notB true) (Tr.reqP (Z6=Z5) (Tr.ite (notB (eqI (Int.ofNat 0) (Int.ofNat 0))) (Tr.ok (Z3,H)) (Tr.reqP (Z1=Z1∧Z0::H=Z0::H) (Tr.ok (Z4,H))))) (Tr.reqP (Z7=Z5) (Tr.ite (notB (eqI (Int.ofNat 0) (Int.ofNat 0))) (Tr.ok (Z3,H)) (Tr.reqP (Z1=Z1∧Z0::H=Z0::H) (Tr.ok (Z4,H)))))))) [AV.agg Z2,AV.int .i64 h,AV.int .i64 (Int.ofNat 0)])) [AV.agg Z2,AV.int .i64 h,AV.int .i64 (Int.ofNat 3)])) [AV.agg Z2,AV.int .i64 h,AV.int .i64 a])) (AV.tup [AV.int .i64 r,AV.int .i64 (Int.ofNat 0)],none))) (AV.tup [AV.int .i64 (Int.ofNat 0),AV.int .i64 (Int.ofNat 0)],none))) (Row.G [AV.slcT none (Row.M [Seg.arr .i64 t l]) 1 l false,AV.slcT none (Row.M [Seg.arr .i64 d k]) 1 k false]))) [AV.ptrT (some 0) (Row.M [Seg.one (AV.slcT none (Row.M [Seg.arr .i64 t l]) 1 l false),Seg.one (AV.slcT none (Row.M [Seg.arr .i64 d k]) 1 k false),Seg.arr .i64 g 30]) 0,AV.int .i64 h,AV.fn (Fn.func 76) [] [AV.ptr 0 3 0 0,AV.ptr 0 1 0 0]])) { lock:=false,bs:=[(0,Blk.row (Row.G [AV.slcT none (Row.M [Seg.arr .i64 t l]) 1 l false,AV.slcT none (Row.M [Seg.arr .i64 d k]) 1 k false])),(0,Blk.row (Row.I .i64 [c])),(0,Blk.row (Row.I .i64 [c])),(0,Blk.row (Row.G [AV.ptrT (some 0) (Row.M [Seg.one (AV.slcT none (Row.M [Seg.arr .i64 t l]) 1 l false),Seg.one (AV.slcT none (Row.M [Seg.arr .i64 d k]) 1 k false),Seg.arr .i64 g 30]) 0]))] }:=by kernel_rfl
theorem u39s (n l k:Nat) (t d:Nat→Int) (H:Heap) (h c a e:Int):bodyT Try.prog (cd n) 100000 39 Try.f39 (KtL.kt 39) (il (addCt (tX noCt 61 [shA l t k d,.int .i64 h,.int .i64 a] (.tup [.nilp,.int .i64 e])) 56 g56c) n 0) noBT noRT [(shA l t k d,none),(.int .i64 h,none),(.int .i64 c,none)] H =
 (fun (Z0:Row)=>((fun (Z1:AV×Option Nat)=>((fun (Z2:List AV)=>((fun (Z3:List AV)=>((fun (Z4:List AV)=>Tr.ite (ltI c (Int.ofNat 0)) (Tr.ite (notB false) (Tr.reqP (Z3=Z2) (Tr.ite (notB (eqI e (Int.ofNat 0))) (Tr.ok (Z1,H)) Tr.bad)) (Tr.reqP (Z4=Z2) (Tr.ite (notB (eqI e (Int.ofNat 0))) (Tr.ok (Z1,H)) Tr.bad))) (Tr.ite (ltI (subI .i64 (Int.ofNat l) (Int.ofNat 1)) c) (Tr.ite (notB false) (Tr.reqP (Z3=Z2) (Tr.ite (notB (eqI e (Int.ofNat 0))) (Tr.ok (Z1,H)) Tr.bad)) (Tr.reqP (Z4=Z2) (Tr.ite (notB (eqI e (Int.ofNat 0))) (Tr.ok (Z1,H)) Tr.bad))) (Tr.ite (notB true) (Tr.reqP (Z3=Z2) (Tr.ite (notB (eqI e (Int.ofNat 0))) (Tr.ok (Z1,H)) Tr.bad)) (Tr.reqP (Z4=Z2) (Tr.ite (notB (eqI e (Int.ofNat 0))) (Tr.ok (Z1,H)) Tr.bad))))) [AV.agg Z0,AV.int .i64 h,AV.int .i64 (Int.ofNat 0)])) [AV.agg Z0,AV.int .i64 h,AV.int .i64 (Int.ofNat 3)])) [AV.agg Z0,AV.int .i64 h,AV.int .i64 a])) (AV.tup [AV.int .i64 (Int.ofNat 0),AV.int .i64 e],none))) (Row.G [AV.slcT none (Row.M [Seg.arr .i64 t l]) 1 l false,AV.slcT none (Row.M [Seg.arr .i64 d k]) 1 k false]):=by kernel_rfl
theorem u59 (n l k:Nat) (t d:Nat→Int) (H:Heap) (c:Int):bodyT Try.prog (cd n) 100000 59 Try.f59 (KtL.kt 59) (il noCt n 0) noBT noRT [(shA l t k d,none),(.int .i64 c,none)] H =
 Tr.ite (leI (Int.ofNat 0) c) (Tr.ok ((AV.bool (ltI c (Int.ofNat l)),none),H)) (Tr.ok ((AV.bool false,some 1),H)):=by kernel_rfl
theorem t40 (n l k:Nat) (t d y:Nat→Int) (h c j:Int) (b:Bool) (H:Heap):execT (cxD n 40 34) (il (tX (tX noCt 48 [shA l t k d,.int .i64 40,.int .i64 c,.int .i64 j] (shA l t k y)) 65 [shA l t k y,.int .i64 h] (.bool b)) n 0) noBT noRT (part Try.f40 [1,1,1,1,1,0,0,0]) (hints (fr40 h c j)) (lvO0 l t k d::H) =
 (fun (Z0:Row)=>((fun (Z1:List AV)=>Tr.reqP ([AV.agg Z0,AV.int .i64 (Int.ofNat 40),AV.int .i64 c,AV.int .i64 j]=[AV.agg Z0,AV.int .i64 (Int.ofNat 40),AV.int .i64 c,AV.int .i64 j]) (Tr.reqP (Z1=Z1) (Tr.ite (notB b) (Tr.ok (Ex.normal,[(1,AV.int .i64 h,none),(2,AV.int .i64 c,none),(3,AV.ptr 0 0 0 0,none),(8,AV.int .i64 (addI .i64 j (Int.ofNat 1)),none)],{ lock:=false,bs:=[(0,Blk.row Z0)] } :: H)) (Tr.ok (Ex.exit 0,[(1,AV.int .i64 h,none),(2,AV.int .i64 c,none),(3,AV.ptr 0 0 0 0,none),(8,AV.int .i64 j,none),(30,AV.bool false,some 1)],{ lock:=false,bs:=[(0,Blk.row Z0)] } :: H))))) [AV.agg (Row.G [AV.slcT none (Row.M [Seg.arr .i64 t l]) 1 l false,AV.slcT none (Row.M [Seg.arr .i64 y k]) 1 k false]),AV.int .i64 h])) (Row.G [AV.slcT none (Row.M [Seg.arr .i64 t l]) 1 l false,AV.slcT none (Row.M [Seg.arr .i64 d k]) 1 k false]):=by kernel_rfl
theorem u40 (n l k:Nat) (t d:Nat→Int) (h c r:Int) (H:Heap):bodyT Try.prog (cd n) 100000 40 Try.f40 (KtL.kt 40) (il (tX (tX (tX noCt 64 [shA l t k d,.int .i64 h] (.int .i64 0)) 59 [shA l t k d,.int .i64 c] (.bool true)) 65 [shA l t k d,.int .i64 h] (.bool true)) n 0) (blkE noBT 0 (fr40 h c 1) (lvO0 l t k d::H) (.ok (.normal,hints (fr40 h c r++[(30,.bool false)]),lvO0 l t k d::H))) noRT [(shA l t k d,none),(.int .i64 h,none),(.int .i64 c,none)] H =
 (fun (Z0:Row)=>((fun (Z1:Frm)=>Tr.reqP ([AV.agg Z0,AV.int .i64 h]=[AV.agg Z0,AV.int .i64 h]) (Tr.ite (notB (eqI (Int.ofNat 0) (Int.ofNat 0))) (Tr.reqP ([AV.agg Z0,AV.int .i64 h]=[AV.agg Z0,AV.int .i64 h]) (Tr.ok ((AV.tup [AV.int .i64 (Int.ofNat 0),AV.int .i64 (Int.ofNat 0)],none),H))) (Tr.reqP ([AV.agg Z0,AV.int .i64 c]=[AV.agg Z0,AV.int .i64 c]) (Tr.ite (notB true) (Tr.ok ((AV.tup [AV.int .i64 (Int.ofNat 0),AV.int .i64 (Int.ofNat 3)],none),H)) (Tr.reqP ([AV.agg Z0,AV.int .i64 h]=[AV.agg Z0,AV.int .i64 h]) (Tr.ite (notB true) (Tr.ok ((AV.tup [AV.int .i64 (Int.ofNat 0),AV.int .i64 (Int.ofNat 13)],none),H)) (Tr.reqP (Z1=Z1∧{ lock:=false,bs:=[(0,Blk.row Z0)] } :: H={ lock:=false,bs:=[(0,Blk.row Z0)] } :: H) (Tr.ok ((AV.tup [AV.int .i64 r,AV.int .i64 (Int.ofNat 0)],none),H))))))))) [(1,AV.int .i64 h),(2,AV.int .i64 c),(3,AV.ptr 0 0 0 0),(8,AV.int .i64 (Int.ofNat 1))])) (Row.G [AV.slcT none (Row.M [Seg.arr .i64 t l]) 1 l false,AV.slcT none (Row.M [Seg.arr .i64 d k]) 1 k false]):=by kernel_rfl
theorem u40s (n l k:Nat) (t d:Nat→Int) (h c e:Int) (H:Heap):bodyT Try.prog (cd n) 100000 40 Try.f40 (KtL.kt 40) (il (tX noCt 64 [shA l t k d,.int .i64 h] (.int .i64 e)) n 0) (stopB noBT 0) noRT [(shA l t k d,none),(.int .i64 h,none),(.int .i64 c,none)] H =
 (fun (Z0:List AV)=>Tr.reqP (Z0=Z0) (Tr.ite (notB (eqI e (Int.ofNat 0))) (Tr.reqP (Z0=Z0) (Tr.ok ((AV.tup [AV.int .i64 (Int.ofNat 0),AV.int .i64 e],none),H))) Tr.bad)) [AV.agg (Row.G [AV.slcT none (Row.M [Seg.arr .i64 t l]) 1 l false,AV.slcT none (Row.M [Seg.arr .i64 d k]) 1 k false]),AV.int .i64 h]:=by kernel_rfl
theorem u40r (n l k:Nat) (t d:Nat→Int) (h c:Int) (H:Heap):bodyT Try.prog (cd n) 100000 40 Try.f40 (KtL.kt 40) (il (tX (tX noCt 64 [shA l t k d,.int .i64 h] (.int .i64 0)) 59 [shA l t k d,.int .i64 c] (.bool false)) n 0) (stopB noBT 0) noRT [(shA l t k d,none),(.int .i64 h,none),(.int .i64 c,none)] H =
 (fun (Z0:Row)=>Tr.reqP ([AV.agg Z0,AV.int .i64 h]=[AV.agg Z0,AV.int .i64 h]) (Tr.ite (notB (eqI (Int.ofNat 0) (Int.ofNat 0))) (Tr.reqP ([AV.agg Z0,AV.int .i64 h]=[AV.agg Z0,AV.int .i64 h]) (Tr.ok ((AV.tup [AV.int .i64 (Int.ofNat 0),AV.int .i64 (Int.ofNat 0)],none),H))) (Tr.reqP ([AV.agg Z0,AV.int .i64 c]=[AV.agg Z0,AV.int .i64 c]) (Tr.ite (notB false) (Tr.ok ((AV.tup [AV.int .i64 (Int.ofNat 0),AV.int .i64 (Int.ofNat 3)],none),H)) Tr.bad)))) (Row.G [AV.slcT none (Row.M [Seg.arr .i64 t l]) 1 l false,AV.slcT none (Row.M [Seg.arr .i64 d k]) 1 k false]):=by kernel_rfl
theorem u40n (n l k:Nat) (t d:Nat→Int) (h c:Int) (H:Heap):bodyT Try.prog (cd n) 100000 40 Try.f40 (KtL.kt 40) (il (tX (tX (tX noCt 64 [shA l t k d,.int .i64 h] (.int .i64 0)) 59 [shA l t k d,.int .i64 c] (.bool true)) 65 [shA l t k d,.int .i64 h] (.bool false)) n 0) (stopB noBT 0) noRT [(shA l t k d,none),(.int .i64 h,none),(.int .i64 c,none)] H =
 (fun (Z0:Row)=>Tr.reqP ([AV.agg Z0,AV.int .i64 h]=[AV.agg Z0,AV.int .i64 h]) (Tr.ite (notB (eqI (Int.ofNat 0) (Int.ofNat 0))) (Tr.reqP ([AV.agg Z0,AV.int .i64 h]=[AV.agg Z0,AV.int .i64 h]) (Tr.ok ((AV.tup [AV.int .i64 (Int.ofNat 0),AV.int .i64 (Int.ofNat 0)],none),H))) (Tr.reqP ([AV.agg Z0,AV.int .i64 c]=[AV.agg Z0,AV.int .i64 c]) (Tr.ite (notB true) (Tr.ok ((AV.tup [AV.int .i64 (Int.ofNat 0),AV.int .i64 (Int.ofNat 3)],none),H)) (Tr.reqP ([AV.agg Z0,AV.int .i64 h]=[AV.agg Z0,AV.int .i64 h]) (Tr.ite (notB false) (Tr.ok ((AV.tup [AV.int .i64 (Int.ofNat 0),AV.int .i64 (Int.ofNat 13)],none),H)) Tr.bad)))))) (Row.G [AV.slcT none (Row.M [Seg.arr .i64 t l]) 1 l false,AV.slcT none (Row.M [Seg.arr .i64 d k]) 1 k false]):=by kernel_rfl
theorem b48:∀ b,(0,b) ∈ blocksOf (bodyOf Try.f48)→b=.loop (part Try.f48 [1,1,0,1,0,0]):=by
 have:((blocksOf (bodyOf Try.f48)).filter fun x=>Nat.beq x.1 0)=[(0,.loop (part Try.f48 [1,1,0,1,0,0]))]:=by kernel_rfl
 intro b hb
 have hm:(0,b) ∈ ((blocksOf (bodyOf Try.f48)).filter fun x=>Nat.beq x.1 0):=List.mem_filter.2 ⟨hb,rfl⟩
 rw[this] at hm;simpa using hm
theorem b40:∀ b,(0,b) ∈ blocksOf (bodyOf Try.f40)→b=.loop (part Try.f40 [1,1,1,1,1,0,0,0]):=by
 have:((blocksOf (bodyOf Try.f40)).filter fun x=>Nat.beq x.1 0)=[(0,.loop (part Try.f40 [1,1,1,1,1,0,0,0]))]:=by kernel_rfl
 intro b hb
 have hm:(0,b) ∈ ((blocksOf (bodyOf Try.f40)).filter fun x=>Nat.beq x.1 0):=List.mem_filter.2 ⟨hb,rfl⟩
 rw[this] at hm;simpa using hm
theorem g56c_ok {c:Nat} {t:Ctr} (ht:t.Ok (cd (c+6))):(addCt t 56 g56c).Ok (cd (c+6)):=by
 refine addCt_ok ht (fun args H x hx=>?_)
 unfold g56c at hx
 split at hx
 · split at hx
   · rename_i lo hi _ b0 b1 y r
     have hv:cd (c+6) (.fn 56) [.int .i64 lo,.int .i64 hi,.slc 0 2 0 0 1 1 (some 1)] ((⟨false,[b0,b1,(0,.row (.I .i64 [y]))]⟩:Lvl)::r)=some (.bool (!outB lo hi y),(⟨false,[b0,b1,(0,.row (.I .i64 [y]))]⟩:Lvl)::r):=by
      refine fn_all (n:=c+5) Try.func56 rfl rfl rfl (u56c c b0 b1 y lo hi r) (il_no c 5) (noBT_ok _ _) (noRT_ok _ _) ?_
      have ho:outB lo hi y=(decide (y<lo) || decide (hi<y)):=rfl
      rw[ho]
      by_cases h1:y<lo
      · rw[decide_eq_true h1]
        repeat' first | (refine Tr.all_ite (fun hc=>?_) (fun hc=>?_)<;>(try simp (disch:=omega) only[nV,nW] at hc)<;>try omega) | (refine Tr.all_req ?_ ?_;· (try simp (disch:=omega) only[nV,nW]);try omega) | (refine Tr.all_reqP ?_ ?_;· first | exact trivial | rfl | exact ⟨rfl,rfl⟩ | exact ⟨rfl,rfl,rfl⟩ | (simp (disch:=omega) only[nV,nW];done) | ((try simp (disch:=omega) only[nV,nW]);omega)) | fail
        all_goals first
         | exact Tr.all_ok ⟨rfl,rfl⟩
         | fail
      · by_cases h2:hi<y
        · rw[decide_eq_false h1,decide_eq_true h2]
          repeat' first | (refine Tr.all_ite (fun hc=>?_) (fun hc=>?_)<;>(try simp (disch:=omega) only[nV,nW] at hc)<;>try omega) | (refine Tr.all_req ?_ ?_;· (try simp (disch:=omega) only[nV,nW]);try omega) | (refine Tr.all_reqP ?_ ?_;· first | exact trivial | rfl | exact ⟨rfl,rfl⟩ | exact ⟨rfl,rfl,rfl⟩ | (simp (disch:=omega) only[nV,nW];done) | ((try simp (disch:=omega) only[nV,nW]);omega)) | fail
          all_goals first
           | exact Tr.all_ok ⟨rfl,rfl⟩
           | fail
        · rw[decide_eq_false h1,decide_eq_false h2]
          repeat' first | (refine Tr.all_ite (fun hc=>?_) (fun hc=>?_)<;>(try simp (disch:=omega) only[nV,nW] at hc)<;>try omega) | (refine Tr.all_req ?_ ?_;· (try simp (disch:=omega) only[nV,nW]);try omega) | (refine Tr.all_reqP ?_ ?_;· first | exact trivial | rfl | exact ⟨rfl,rfl⟩ | exact ⟨rfl,rfl,rfl⟩ | (simp (disch:=omega) only[nV,nW];done) | ((try simp (disch:=omega) only[nV,nW]);omega)) | fail
          all_goals first
           | exact Tr.all_ok ⟨rfl,rfl⟩
           | fail
     rw[hv]
     have ho:outB lo hi y=(decide (y<lo) || decide (hi<y)):=rfl
     rw[ho]
     rcases Tr.ite_some hx with ⟨h1,hx⟩ | ⟨h1,hx⟩
     · rw[ltI_eq] at h1;rw[← Tr.ok_some hx,h1];rfl
     · rw[ltI_eq] at h1
       rcases Tr.ite_some hx with ⟨h2,hx⟩ | ⟨h2,hx⟩
       · rw[ltI_eq] at h2;rw[← Tr.ok_some hx,h1,h2];rfl
       · rw[ltI_eq] at h2;rw[← Tr.ok_some hx,h1,h2];rfl
   · exact (Tr.bad_some hx).elim
 · exact (Tr.bad_some hx).elim
def wiV (d:Nat→Int) (T c o:Int):Nat→Int:=fun i=>if (i:Int)=c then min (min (d i) T) o else min (d i) T
noncomputable def lv48 (l:Nat) (t:Nat→Int) (k:Nat) (d z:Nat→Int):Nat→Lvl
 | 0=>lv48a l t k d
 | q+1=>lv48b l t k d q (q+1) (lstO (faN z (q+1)))
def eaV (l:Nat) (t:Nat→Int) (d:Nat→Int) (h c:Int):Nat:=leaN (fun T=>canB l t (fun i=>if (i:Int)=c then min (d i) (T:Nat) else d i) h)
def eaE (l:Nat) (t:Nat→Int) (k:Nat) (d:Nat→Int) (h c:Int):Int:=if askE l t k d h=0 then (if c<0∨(l:Int)-1<c then 3 else if canB l t d h=true then 0 else 13) else askE l t k d h
section
variable (n l k:Nat) (t d:Nat→Int) (H:Heap) (h:Int)
theorem l48 (T c o:Int) (h0:0<k) (hk:k≤1000):exec (cxD n 48 42) (.block 0 (.loop (part Try.f48 [1,1,0,1,0,0]))) (fr48 T c o 0) (lv48a l t k d::H)=some (.normal,fr48 T c o (Int.ofNat k)++[(19,.bool false)],lv48 l t k d (wiV d T c o) k::H):=by
 refine forX (n:=n) (f:=48) (nt:=42) (c:=part Try.f48 [1,1,0,1,0,0]) 0 (fun j=>fr48 T c o (j:Nat)) (fun j=>lv48 l t k d (wiV d T c o) j::H) k _ (by omega) (fun j hj=>?_) ?_
 · cases j with
   | zero =>
     refine ex_all (t48a n l k t d T c o (0:Nat) H) (il_no0 n) (noBT_ok _ _) (noRT_ok _ _) ?_
     show Tr.all _ (fun x=>_∧tidy _ _ _=(fr48 T c o ((0+1:Nat):Int),lv48b l t k d 0 1 (lstO [wiV d T c o 0])::H))
     have hw:wiV d T c o 0=if ((0:Nat):Int)=c then min (min (d 0) T) o else min (d 0) T:=rfl
     rw[cs64 (j:=0) (by omega)]
     simp only[id1,minO_min]
     by_cases e:((0:Nat):Int)=c
     · rw[hw,if_pos e]
       generalize min (min (d 0) T) o=V at *
       repeat' first | (refine Tr.all_ite (fun hc=>?_) (fun hc=>?_)<;>(try simp (disch:=omega) only[nV,nW] at hc)<;>try omega) | (refine Tr.all_req ?_ ?_;· (try simp (disch:=omega) only[nV,nW]);try omega) | (refine Tr.all_reqP ?_ ?_;· first | exact trivial | rfl | exact ⟨rfl,rfl⟩ | exact ⟨rfl,rfl,rfl⟩ | (simp (disch:=omega) only[nV,nW];done) | ((try simp (disch:=omega) only[nV,nW]);omega)) | fail
       all_goals first
        | exact Tr.all_ok ⟨rfl,rfl⟩
        | fail
     · rw[hw,if_neg e]
       generalize min (d 0) T=V at *
       repeat' first | (refine Tr.all_ite (fun hc=>?_) (fun hc=>?_)<;>(try simp (disch:=omega) only[nV,nW] at hc)<;>try omega) | (refine Tr.all_req ?_ ?_;· (try simp (disch:=omega) only[nV,nW]);try omega) | (refine Tr.all_reqP ?_ ?_;· first | exact trivial | rfl | exact ⟨rfl,rfl⟩ | exact ⟨rfl,rfl,rfl⟩ | (simp (disch:=omega) only[nV,nW];done) | ((try simp (disch:=omega) only[nV,nW]);omega)) | fail
       all_goals first
        | exact Tr.all_ok ⟨rfl,rfl⟩
        | fail
   | succ j =>
     refine ex_all (t48b n l k j (j+1) t d (lstO (faN (wiV d T c o) (j+1))) T c o (j+1:Nat) H) (il_no0 n) (noBT_ok _ _) (noRT_ok _ _) ?_
     show Tr.all _ (fun x=>_∧tidy _ _ _=(fr48 T c o ((j+1+1:Nat):Int),lv48b l t k d (j+1) (j+1+1) (lstO (faN (wiV d T c o) (j+1+1)))::H))
     have hap:=faN_app (wiV d T c o) (j+1)
     have ea:addO (j+1) 1=j+1+1:=addO_eq _ _
     have hw:wiV d T c o (j+1)=if ((j+1:Nat):Int)=c then min (min (d (j+1)) T) o else min (d (j+1)) T:=rfl
     rw[cs64 (j:=j+1) (by omega)]
     simp only[id1,minO_min,ea]
     by_cases e:((j+1:Nat):Int)=c
     · rw[hw,if_pos e] at hap
       generalize min (min (d (j+1)) T) o=V at *
       generalize lstO (faN (wiV d T c o) (j+1+1))=Y2 at *
       generalize lstO (faN (wiV d T c o) (j+1))=Y at *
       rw[hap]
       repeat' first | (refine Tr.all_ite (fun hc=>?_) (fun hc=>?_)<;>(try simp (disch:=omega) only[nV,nW] at hc)<;>try omega) | (refine Tr.all_req ?_ ?_;· (try simp (disch:=omega) only[nV,nW]);try omega) | (refine Tr.all_reqP ?_ ?_;· first | exact trivial | rfl | exact ⟨rfl,rfl⟩ | exact ⟨rfl,rfl,rfl⟩ | (simp (disch:=omega) only[nV,nW];done) | ((try simp (disch:=omega) only[nV,nW]);omega)) | fail
       all_goals first
        | exact Tr.all_ok ⟨rfl,rfl⟩
        | fail
     · rw[hw,if_neg e] at hap
       generalize min (min (d (j+1)) T) o=V2 at *
       generalize min (d (j+1)) T=V at *
       generalize lstO (faN (wiV d T c o) (j+1+1))=Y2 at *
       generalize lstO (faN (wiV d T c o) (j+1))=Y at *
       rw[hap]
       repeat' first | (refine Tr.all_ite (fun hc=>?_) (fun hc=>?_)<;>(try simp (disch:=omega) only[nV,nW] at hc)<;>try omega) | (refine Tr.all_req ?_ ?_;· (try simp (disch:=omega) only[nV,nW]);try omega) | (refine Tr.all_reqP ?_ ?_;· first | exact trivial | rfl | exact ⟨rfl,rfl⟩ | exact ⟨rfl,rfl,rfl⟩ | (simp (disch:=omega) only[nV,nW];done) | ((try simp (disch:=omega) only[nV,nW]);omega)) | fail
       all_goals first
        | exact Tr.all_ok ⟨rfl,rfl⟩
        | fail
 · obtain ⟨q,rfl⟩:∃ q,k=q+1:=⟨k-1,by omega⟩
   exact ex_off (t48b n l (q+1) q (q+1) t d (lstO (faN (wiV d T c o) (q+1))) T c o (Int.ofNat (q+1)) H) (il_no0 n) (noBT_ok _ _) (noRT_ok _ _) (by first | (simp (disch:=omega) only[nV,nW];done) | (simp (disch:=omega) only[nV,nW];omega))
theorem c48 (T c o:Int) (h0:0<k) (hk:k≤1000):cd (n+1) (.fn 48) [shA l t k d,.int .i64 T,.int .i64 c,.int .i64 o] H=some (shA l t k (lstO (faN (wiV d T c o) k)),H):=by
 have hx:=l48 n l k t d H T c o h0 hk
 obtain ⟨q,rfl⟩:∃ q,k=q+1:=⟨k-1,by omega⟩
 refine fn_all (n:=n) Try.func48 rfl rfl rfl (u48 n l (q+1) q t d (lstO (faN (wiV d T c o) (q+1))) T c o H) (il_no0 _) (blkE_ok (noBT_ok _ _) b48 (fun x hy=>blk_ok hy hx)) (noRT_ok _ _) ?_
 rw[shO_zero]
 generalize lstO (faN (wiV d T c o) (q+1))=Y at *
 repeat' first | (refine Tr.all_ite (fun hc=>?_) (fun hc=>?_)<;>(try simp (disch:=omega) only[nV,nW] at hc)<;>try omega) | (refine Tr.all_req ?_ ?_;· (try simp (disch:=omega) only[nV,nW]);try omega) | (refine Tr.all_reqP ?_ ?_;· first | exact trivial | rfl | exact ⟨rfl,rfl⟩ | exact ⟨rfl,rfl,rfl⟩ | (simp (disch:=omega) only[nV,nW];done) | ((try simp (disch:=omega) only[nV,nW]);omega)) | fail
 all_goals first
  | exact Tr.all_ok ⟨rfl,rfl⟩
  | fail
theorem c61y (e:needE l k t d h=0):cd (n+11) (.fn 61) [shA l t k d,.int .i64 h,.int .i64 0] H=some (.tup [tbS 0 l t k d,.int .i64 0],H):=by
 obtain ⟨e1,e2⟩:=need_of e
 rw[c61 n l k t d H h 0 e1,if_pos rfl,if_pos e2]
theorem c61n (e:needE l k t d h≠0):cd (n+11) (.fn 61) [shA l t k d,.int .i64 h,.int .i64 0] H=some (.tup [.nilp,.int .i64 (needE l k t d h)],H):=by
 by_cases c:askE l t k d h=0
 · rw[c61 n l k t d H h 0 c,if_pos rfl]
   have:needE l k t d h=if canB l t d h=true then 0 else 13:=by unfold needE;rw[if_pos c]
   rw[this] at e ⊢
   by_cases c2:canB l t d h=true
   · rw[if_pos c2] at e;exact absurd rfl e
   · rw[if_neg c2,if_neg c2]
 · rw[c61e n l k t d H h 0 c]
   have:needE l k t d h=askE l t k d h:=by unfold needE;rw[if_neg c]
   rw[this]
theorem bd_fa {l k:Nat} {z:Nat→Int} (hk:k=l) (hb:Bd l z):Bd l (lstO (faN z k)):=fun j hj=>by
 subst hk;rw[faN_at _ hj];exact hb j hj
theorem can_fa {l k:Nat} {t z:Nat→Int} (h:Fw l t) (hk:k=l) (hh:Int):canB l t (lstO (faN z k)) hh=canB l t z hh :=
 can_congr h (fun j hj=>by subst hk;exact faN_at z hj) hh
theorem lea_of {p:Nat→Bool}:(exN (fun j=>p (j+1)) 39=true→(leaN p=fN (fun j=>p (j+1)) 39 0+1))∧(exN (fun j=>p (j+1)) 39=false→leaN p=40):=by
 unfold leaN
 constructor
 · intro h;rw[if_pos h]
 · intro h;rw[if_neg (by rw[h];decide)]
noncomputable def eaA (c:Int):AV:=if eaE l t k d h c=0 then .tup [.int .i64 (eaV l t d h c:Nat),.int .i64 0] else .tup [.int .i64 0,.int .i64 (eaE l t k d h c)]
theorem bd_eq {l:Nat} {d:Nat→Int} (hb:Bd l d) (T:Int) (hT:0≤T) (c:Int):Bd l (fun i=>if (i:Int)=c then min (d i) T else d i):=fun j hj=>by
 have:=hb j hj
 show -900≤(if (j:Int)=c then min (d j) T else d j)∧(if (j:Int)=c then min (d j) T else d j)≤900
 split<;>omega
theorem c39 (c:Int) (hl:l≤1000):cd (n+12) (.fn 39) [shA l t k d,.int .i64 h,.int .i64 c] H=some (eaA l k t d h c,H):=by
 have e1:subI .i64 (Int.ofNat l) (Int.ofNat 1)=(l:Int)-1:=by rw[show Int.ofNat 1=1 from rfl];exact sb64 (by show _≤(l:Int)-1;omega) (by show (l:Int)-1≤_;omega)
 unfold eaA
 by_cases ha:askE l t k d h=0
 · obtain ⟨hs,h1,h2⟩:=ask_of ha
   have hl1:=hs.l1
   have hl2:=hs.l30
   have hkl:=hs.kl
   have hE:eaE l t k d h c=if c<0∨(l:Int)-1<c then 3 else if canB l t d h=true then 0 else 13:=by unfold eaE;rw[if_pos ha]
   by_cases hc:c<0∨(l:Int)-1<c
   · rw[hE,if_pos hc,if_neg (by omega)]
     have h61:∀ H,cd (n+11) (.fn 61) [shA l t k d,.int .i64 h,.int .i64 3] H=some (.tup [.nilp,.int .i64 3],H):=fun H=>by rw[c61 n l k t d H h 3 ha,if_neg (by omega)]
     refine fn_all (n:=n+11) Try.func39 rfl rfl rfl (u39s (n+11) l k t d H h c 3 3) (il_ok0 _ (n+11) (g56c_ok (c:=n+5) (tX_ok (noCt_ok _) h61))) (noBT_ok _ _) (noRT_ok _ _) ?_
     rw[e1]
     repeat' first | (refine Tr.all_ite (fun hc=>?_) (fun hc=>?_)<;>(try simp (disch:=omega) only[nV,nW] at hc)<;>try omega) | (refine Tr.all_req ?_ ?_;· (try simp (disch:=omega) only[nV,nW]);try omega) | (refine Tr.all_reqP ?_ ?_;· first | exact trivial | rfl | exact ⟨rfl,rfl⟩ | exact ⟨rfl,rfl,rfl⟩ | (simp (disch:=omega) only[nV,nW];done) | ((try simp (disch:=omega) only[nV,nW]);omega)) | fail
     all_goals first
      | exact Tr.all_ok ⟨rfl,rfl⟩
      | fail
   · by_cases hB:canB l t d h=true
     · rw[hE,if_neg hc,if_pos hB,if_pos rfl]
       have h72:cd (n+11) (.fn 72) [tbA 0 l t k d (ldF t l),.int .i64 h,.fn (.func 76) [] [.ptr 0 3 0 0,.ptr 0 1 0 0]] (lv39 l t k d (ldF t l) c (0,.row (.I .i64 [c]))::H)=some (.int .i64 (eaV l t d h c:Nat),lv39 l t k d (ldF t l) c (0,.row (.I .i64 [c]))::H):=by
        have:=c72B (n+6) 0 l k 3 1 t d (ldF t l) (lv39 l t k d (ldF t l) c (0,.row (.I .i64 [c]))::H) h (fun T=>lstO (faN (fun i=>if (i:Int)=c then min (d i) (T:Nat) else d i) k)) hs.l30 hs.kl hs.tl hs.cyc (fun T _ _=>bd_fa hs.kl (bd_eq hs.bd _ (by omega) c)) (by omega) (fun T _ _=>c76 (n+7) H l k t d (ldF t l) _ _ (T:Nat) c (by omega) (by omega))
        rw[lea_congr (q:=fun T=>canB l t (fun i=>if (i:Int)=c then min (d i) (T:Nat) else d i) h) (fun T _ _=>can_fa hs.fw hs.kl h)] at this
        exact this
       have h61:∀ H,cd (n+11) (.fn 61) [shA l t k d,.int .i64 h,.int .i64 0] H=some (.tup [tbS 0 l t k d,.int .i64 0],H):=fun H=>by rw[c61 n l k t d H h 0 ha,if_pos rfl,if_pos hB]
       refine fn_all (n:=n+11) Try.func39 rfl rfl rfl (u39 (n+11) l k t d (ldF t l) H h c 0 (eaV l t d h c:Nat)) (il_ok0 _ (n+11) (g56c_ok (c:=n+5) (ctE_ok (tX_ok (noCt_ok _) h61) (fun x hy=>by rw[← Tr.ok_some hy];exact h72)))) (noBT_ok _ _) (noRT_ok _ _) ?_
       rw[e1]
       generalize ldF t l=g at *
       repeat' first | (refine Tr.all_ite (fun hc=>?_) (fun hc=>?_)<;>(try simp (disch:=omega) only[nV,nW] at hc)<;>try omega) | (refine Tr.all_req ?_ ?_;· (try simp (disch:=omega) only[nV,nW]);try omega) | (refine Tr.all_reqP ?_ ?_;· first | exact trivial | rfl | exact ⟨rfl,rfl⟩ | exact ⟨rfl,rfl,rfl⟩ | (simp (disch:=omega) only[nV,nW];done) | ((try simp (disch:=omega) only[nV,nW]);omega)) | fail
       all_goals first
        | exact Tr.all_ok ⟨rfl,rfl⟩
        | fail
     · rw[hE,if_neg hc,if_neg hB,if_neg (by omega)]
       have h61:∀ H,cd (n+11) (.fn 61) [shA l t k d,.int .i64 h,.int .i64 0] H=some (.tup [.nilp,.int .i64 13],H):=fun H=>by rw[c61 n l k t d H h 0 ha,if_pos rfl,if_neg hB]
       refine fn_all (n:=n+11) Try.func39 rfl rfl rfl (u39s (n+11) l k t d H h c 0 13) (il_ok0 _ (n+11) (g56c_ok (c:=n+5) (tX_ok (noCt_ok _) h61))) (noBT_ok _ _) (noRT_ok _ _) ?_
       rw[e1]
       repeat' first | (refine Tr.all_ite (fun hc=>?_) (fun hc=>?_)<;>(try simp (disch:=omega) only[nV,nW] at hc)<;>try omega) | (refine Tr.all_req ?_ ?_;· (try simp (disch:=omega) only[nV,nW]);try omega) | (refine Tr.all_reqP ?_ ?_;· first | exact trivial | rfl | exact ⟨rfl,rfl⟩ | exact ⟨rfl,rfl,rfl⟩ | (simp (disch:=omega) only[nV,nW];done) | ((try simp (disch:=omega) only[nV,nW]);omega)) | fail
       all_goals first
        | exact Tr.all_ok ⟨rfl,rfl⟩
        | fail
 · have hE:eaE l t k d h c=askE l t k d h:=by unfold eaE;rw[if_neg ha]
   rw[hE,if_neg ha]
   by_cases hc:c<0∨(l:Int)-1<c
   · refine fn_all (n:=n+11) Try.func39 rfl rfl rfl (u39s (n+11) l k t d H h c 3 (askE l t k d h)) (il_ok0 _ (n+11) (g56c_ok (c:=n+5) (tX_ok (noCt_ok _) (fun H=>c61e n l k t d H h 3 ha)))) (noBT_ok _ _) (noRT_ok _ _) ?_
     rw[e1]
     generalize askE l t k d h=E at *
     repeat' first | (refine Tr.all_ite (fun hc=>?_) (fun hc=>?_)<;>(try simp (disch:=omega) only[nV,nW] at hc)<;>try omega) | (refine Tr.all_req ?_ ?_;· (try simp (disch:=omega) only[nV,nW]);try omega) | (refine Tr.all_reqP ?_ ?_;· first | exact trivial | rfl | exact ⟨rfl,rfl⟩ | exact ⟨rfl,rfl,rfl⟩ | (simp (disch:=omega) only[nV,nW];done) | ((try simp (disch:=omega) only[nV,nW]);omega)) | fail
     all_goals first
      | exact Tr.all_ok ⟨rfl,rfl⟩
      | fail
   · refine fn_all (n:=n+11) Try.func39 rfl rfl rfl (u39s (n+11) l k t d H h c 0 (askE l t k d h)) (il_ok0 _ (n+11) (g56c_ok (c:=n+5) (tX_ok (noCt_ok _) (fun H=>c61e n l k t d H h 0 ha)))) (noBT_ok _ _) (noRT_ok _ _) ?_
     rw[e1]
     generalize askE l t k d h=E at *
     repeat' first | (refine Tr.all_ite (fun hc=>?_) (fun hc=>?_)<;>(try simp (disch:=omega) only[nV,nW] at hc)<;>try omega) | (refine Tr.all_req ?_ ?_;· (try simp (disch:=omega) only[nV,nW]);try omega) | (refine Tr.all_reqP ?_ ?_;· first | exact trivial | rfl | exact ⟨rfl,rfl⟩ | exact ⟨rfl,rfl,rfl⟩ | (simp (disch:=omega) only[nV,nW];done) | ((try simp (disch:=omega) only[nV,nW]);omega)) | fail
     all_goals first
      | exact Tr.all_ok ⟨rfl,rfl⟩
      | fail
theorem c59 (c:Int):cd (n+1) (.fn 59) [shA l t k d,.int .i64 c] H=some (.bool (decide (0≤c) && decide (c<l)),H):=by
 refine fn_all (n:=n) Try.func59 rfl rfl rfl (u59 n l k t d H c) (il_no0 _) (noBT_ok _ _) (noRT_ok _ _) ?_
 rw[ltI_eq]
 by_cases e:0≤c
 · rw[decide_eq_true e,Bool.true_and]
   repeat' first | (refine Tr.all_ite (fun hc=>?_) (fun hc=>?_)<;>(try simp (disch:=omega) only[nV,nW] at hc)<;>try omega) | (refine Tr.all_req ?_ ?_;· (try simp (disch:=omega) only[nV,nW]);try omega) | (refine Tr.all_reqP ?_ ?_;· first | exact trivial | rfl | exact ⟨rfl,rfl⟩ | exact ⟨rfl,rfl,rfl⟩ | (simp (disch:=omega) only[nV,nW];done) | ((try simp (disch:=omega) only[nV,nW]);omega)) | fail
   all_goals first
    | exact Tr.all_ok ⟨rfl,rfl⟩
    | fail
 · rw[decide_eq_false e,Bool.false_and]
   repeat' first | (refine Tr.all_ite (fun hc=>?_) (fun hc=>?_)<;>(try simp (disch:=omega) only[nV,nW] at hc)<;>try omega) | (refine Tr.all_req ?_ ?_;· (try simp (disch:=omega) only[nV,nW]);try omega) | (refine Tr.all_reqP ?_ ?_;· first | exact trivial | rfl | exact ⟨rfl,rfl⟩ | exact ⟨rfl,rfl,rfl⟩ | (simp (disch:=omega) only[nV,nW];done) | ((try simp (disch:=omega) only[nV,nW]);omega)) | fail
   all_goals first
    | exact Tr.all_ok ⟨rfl,rfl⟩
    | fail
theorem l40 (c:Int) (e1:askE l t k d h=0) (e2:canB l t d h=true):exec (cxD (n+4) 40 34) (.block 0 (.loop (part Try.f40 [1,1,1,1,1,0,0,0]))) (fr40 h c 1) (lvO0 l t k d::H)=some (.normal,fr40 h c (eaV l t d h c:Nat)++[(30,.bool false)],lvO0 l t k d::H):=by
 obtain ⟨hs,h1,h2⟩:=ask_of e1
 have hl1:=hs.l1
 have hl2:=hs.l30
 have hkl:=hs.kl
 have hw:∀ (j:Nat) i,i<l→wiV d 40 c (j+1:Nat) i=if (i:Int)=c then min (d i) (j+1:Nat) else d i:=fun j i hi=>by
  have:=hs.d40 i hi
  have e:min (d i) 40=d i:=by omega
  unfold wiV;rw[e]
 have hb:∀ j:Nat,Bd l (wiV d 40 c (j+1:Nat)):=fun j i hi=>by
  rw[hw j i hi]
  have:=hs.bd i hi
  split<;>omega
 have hC:∀ j:Nat,(tX (tX noCt 48 [shA l t k d,.int .i64 40,.int .i64 c,.int .i64 ((j+1:Nat):Int)] (shA l t k (lstO (faN (wiV d 40 c (j+1:Nat)) k)))) 65 [shA l t k (lstO (faN (wiV d 40 c (j+1:Nat)) k)),.int .i64 h] (.bool (canB l t (fun i=>if (i:Int)=c then min (d i) (j+1:Nat) else d i) h))).Ok (cd (n+4)):=fun j =>
  tX_ok (tX_ok (noCt_ok _) (fun H=>c48 (n+3) l k t d H _ _ _ (by omega) (by omega))) (fun H=>by
   rw[← can_congr hs.fw (hw j),← can_fa hs.fw hs.kl]
   exact c65 (n+1) l k t _ H h hs.fw (by omega) hs.kl (bd_fa hs.kl (hb j)) (by omega))
 have hx:=forN (n:=n+4) (f:=40) (nt:=34) (c:=part Try.f40 [1,1,1,1,1,0,0,0]) 0 (fun j=>fr40 h c ((j+1:Nat):Int)) (fun _=>lvO0 l t k d::H) 39 (fun j=>canB l t (fun i=>if (i:Int)=c then min (d i) (j+1:Nat) else d i) h) (fun j=>(fr40 h c ((j+1:Nat):Int)++[(30,.bool false)],lvO0 l t k d::H)) (fr40 h c 40++[(30,.bool false)],lvO0 l t k d::H) (by omega) (fun j hj=>?_) ?_
 · obtain ⟨q1,q2⟩:=lea_of (p:=fun T=>canB l t (fun i=>if (i:Int)=c then min (d i) (T:Nat) else d i) h)
   refine hx.trans ?_
   unfold eaV
   cases hB:exN (fun j=>canB l t (fun i=>if (i:Int)=c then min (d i) ((j+1:Nat):Int) else d i) h) 39 with
   | true=>rw[q1 hB];rfl
   | false=>rw[q2 hB];rfl
 · refine ex_all (t40 (n+4) l k t d (lstO (faN (wiV d 40 c (j+1:Nat)) k)) h c ((j+1:Nat):Int) (canB l t (fun i=>if (i:Int)=c then min (d i) (j+1:Nat) else d i) h) H) (il_ok0 _ (n+4) (hC j)) (noBT_ok _ _) (noRT_ok _ _) ?_
   show Tr.all _ (fun r=>if canB l t (fun i=>if (i:Int)=c then min (d i) (j+1:Nat) else d i) h=true then _ else _)
   rw[cs64 (j:=j+1) (by omega)]
   generalize canB l t (fun i=>if (i:Int)=c then min (d i) (j+1:Nat) else d i) h=B at *
   generalize lstO (faN (wiV d 40 c (j+1:Nat)) k)=Y at *
   cases B with
   | true =>
     simp only[if_true]
     repeat' first | (refine Tr.all_ite (fun hc=>?_) (fun hc=>?_)<;>(try simp (disch:=omega) only[nV,nW] at hc)<;>try omega) | (refine Tr.all_req ?_ ?_;· (try simp (disch:=omega) only[nV,nW]);try omega) | (refine Tr.all_reqP ?_ ?_;· first | exact trivial | rfl | exact ⟨rfl,rfl⟩ | exact ⟨rfl,rfl,rfl⟩ | (simp (disch:=omega) only[nV,nW];done) | ((try simp (disch:=omega) only[nV,nW]);omega)) | fail
     all_goals first
      | exact Tr.all_ok rfl
      | fail
   | false =>
     simp only[Bool.false_eq_true,if_false]
     repeat' first | (refine Tr.all_ite (fun hc=>?_) (fun hc=>?_)<;>(try simp (disch:=omega) only[nV,nW] at hc)<;>try omega) | (refine Tr.all_req ?_ ?_;· (try simp (disch:=omega) only[nV,nW]);try omega) | (refine Tr.all_reqP ?_ ?_;· first | exact trivial | rfl | exact ⟨rfl,rfl⟩ | exact ⟨rfl,rfl,rfl⟩ | (simp (disch:=omega) only[nV,nW];done) | ((try simp (disch:=omega) only[nV,nW]);omega)) | fail
     all_goals first
      | exact Tr.all_ok ⟨rfl,rfl⟩
      | fail
 · have hB:canB l t (fun i=>if (i:Int)=c then min (d i) (39+1:Nat) else d i) h=true:=by
    rw[can_congr hs.fw (e':=d) (fun j hj=>by
     have:=hs.d40 j hj
     have e:min (d j) 40=d j:=by omega
     show (if (j:Int)=c then min (d j) 40 else d j)=d j
     rw[e];simp)]
    exact e2
   obtain ⟨x,h1,rfl⟩:=ex_all (Q:=fun x=>x=(.exit 0,fr40 h c 40++[(30,.bool false)],lvO0 l t k d::H)) (t40 (n+4) l k t d (lstO (faN (wiV d 40 c (39+1:Nat)) k)) h c ((39+1:Nat):Int) (canB l t (fun i=>if (i:Int)=c then min (d i) (39+1:Nat) else d i) h) H) (il_ok0 _ (n+4) (hC 39)) (noBT_ok _ _) (noRT_ok _ _) (by
    rw[hB]
    generalize lstO (faN (wiV d 40 c (39+1:Nat)) k)=Y at *
    repeat' first | (refine Tr.all_ite (fun hc=>?_) (fun hc=>?_)<;>(try simp (disch:=omega) only[nV,nW] at hc)<;>try omega) | (refine Tr.all_req ?_ ?_;· (try simp (disch:=omega) only[nV,nW]);try omega) | (refine Tr.all_reqP ?_ ?_;· first | exact trivial | rfl | exact ⟨rfl,rfl⟩ | exact ⟨rfl,rfl,rfl⟩ | (simp (disch:=omega) only[nV,nW];done) | ((try simp (disch:=omega) only[nV,nW]);omega)) | fail
    all_goals first
     | exact Tr.all_ok rfl
     | fail)
   exact h1
theorem c40 (c:Int):cd (n+5) (.fn 40) [shA l t k d,.int .i64 h,.int .i64 c] H=some (eaA l k t d h c,H):=by
 unfold eaA
 by_cases ha:askE l t k d h=0
 · obtain ⟨hs,h1,h2⟩:=ask_of ha
   have hl1:=hs.l1
   have hE:eaE l t k d h c=if c<0∨(l:Int)-1<c then 3 else if canB l t d h=true then 0 else 13:=by unfold eaE;rw[if_pos ha]
   have h64:∀ H,cd (n+4) (.fn 64) [shA l t k d,.int .i64 h] H=some (.int .i64 0,H):=fun H=>by rw[c64 (n+1),ha]
   by_cases hc:c<0∨(l:Int)-1<c
   · rw[hE,if_pos hc,if_neg (by omega)]
     refine fn_all (n:=n+4) Try.func40 rfl rfl rfl (u40r (n+4) l k t d h c H) (il_ok0 _ (n+4) (tX_ok (tX_ok (noCt_ok _) h64) (fun H=>by
      rw[c59 (n+3)]
      by_cases e:0≤c
      · rw[decide_eq_false (show ¬ c<l by omega),Bool.and_false]
      · rw[decide_eq_false e,Bool.false_and]))) (stopB_ok (noBT_ok _ _) 0) (noRT_ok _ _) ?_
     repeat' first | (refine Tr.all_ite (fun hc=>?_) (fun hc=>?_)<;>(try simp (disch:=omega) only[nV,nW] at hc)<;>try omega) | (refine Tr.all_req ?_ ?_;· (try simp (disch:=omega) only[nV,nW]);try omega) | (refine Tr.all_reqP ?_ ?_;· first | exact trivial | rfl | exact ⟨rfl,rfl⟩ | exact ⟨rfl,rfl,rfl⟩ | (simp (disch:=omega) only[nV,nW];done) | ((try simp (disch:=omega) only[nV,nW]);omega)) | fail
     all_goals first
      | exact Tr.all_ok ⟨rfl,rfl⟩
      | fail
   · have h59:∀ H,cd (n+4) (.fn 59) [shA l t k d,.int .i64 c] H=some (.bool true,H):=fun H=>by
      rw[c59 (n+3),decide_eq_true (show 0≤c by omega),decide_eq_true (show c<l by omega)];rfl
     by_cases hB:canB l t d h=true
     · rw[hE,if_neg hc,if_pos hB,if_pos rfl]
       have hx:=l40 n l k t d H h c ha hB
       refine fn_all (n:=n+4) Try.func40 rfl rfl rfl (u40 (n+4) l k t d h c (eaV l t d h c:Nat) H) (il_ok0 _ (n+4) (tX_ok (tX_ok (tX_ok (noCt_ok _) h64) h59) (fun H=>by rw[← hB];exact c65 (n+1) l k t d H h hs.fw (by omega) hs.kl hs.bd (by omega)))) (blkE_ok (noBT_ok _ _) b40 (fun x hy=>blk_ok hy hx)) (noRT_ok _ _) ?_
       repeat' first | (refine Tr.all_ite (fun hc=>?_) (fun hc=>?_)<;>(try simp (disch:=omega) only[nV,nW] at hc)<;>try omega) | (refine Tr.all_req ?_ ?_;· (try simp (disch:=omega) only[nV,nW]);try omega) | (refine Tr.all_reqP ?_ ?_;· first | exact trivial | rfl | exact ⟨rfl,rfl⟩ | exact ⟨rfl,rfl,rfl⟩ | (simp (disch:=omega) only[nV,nW];done) | ((try simp (disch:=omega) only[nV,nW]);omega)) | fail
       all_goals first
        | exact Tr.all_ok ⟨rfl,rfl⟩
        | fail
     · rw[hE,if_neg hc,if_neg hB,if_neg (by omega)]
       have hB':canB l t d h=false:=by cases e:canB l t d h with
        | true=>exact absurd e hB
        | false=>rfl
       refine fn_all (n:=n+4) Try.func40 rfl rfl rfl (u40n (n+4) l k t d h c H) (il_ok0 _ (n+4) (tX_ok (tX_ok (tX_ok (noCt_ok _) h64) h59) (fun H=>by rw[← hB'];exact c65 (n+1) l k t d H h hs.fw (by omega) hs.kl hs.bd (by omega)))) (stopB_ok (noBT_ok _ _) 0) (noRT_ok _ _) ?_
       repeat' first | (refine Tr.all_ite (fun hc=>?_) (fun hc=>?_)<;>(try simp (disch:=omega) only[nV,nW] at hc)<;>try omega) | (refine Tr.all_req ?_ ?_;· (try simp (disch:=omega) only[nV,nW]);try omega) | (refine Tr.all_reqP ?_ ?_;· first | exact trivial | rfl | exact ⟨rfl,rfl⟩ | exact ⟨rfl,rfl,rfl⟩ | (simp (disch:=omega) only[nV,nW];done) | ((try simp (disch:=omega) only[nV,nW]);omega)) | fail
       all_goals first
        | exact Tr.all_ok ⟨rfl,rfl⟩
        | fail
 · have hE:eaE l t k d h c=askE l t k d h:=by unfold eaE;rw[if_neg ha]
   rw[hE,if_neg ha]
   refine fn_all (n:=n+4) Try.func40 rfl rfl rfl (u40s (n+4) l k t d h c (askE l t k d h) H) (il_ok0 _ (n+4) (tX_ok (noCt_ok _) (fun H=>c64 (n+1) l k t d H h))) (stopB_ok (noBT_ok _ _) 0) (noRT_ok _ _) ?_
   generalize askE l t k d h=E at *
   repeat' first | (refine Tr.all_ite (fun hc=>?_) (fun hc=>?_)<;>(try simp (disch:=omega) only[nV,nW] at hc)<;>try omega) | (refine Tr.all_req ?_ ?_;· (try simp (disch:=omega) only[nV,nW]);try omega) | (refine Tr.all_reqP ?_ ?_;· first | exact trivial | rfl | exact ⟨rfl,rfl⟩ | exact ⟨rfl,rfl,rfl⟩ | (simp (disch:=omega) only[nV,nW];done) | ((try simp (disch:=omega) only[nV,nW]);omega)) | fail
   all_goals first
    | exact Tr.all_ok ⟨rfl,rfl⟩
    | fail
end
end Go.Eng
