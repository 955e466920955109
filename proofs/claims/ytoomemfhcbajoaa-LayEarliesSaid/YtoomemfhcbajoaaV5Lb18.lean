/- Lay: turns of rest. -/
import Derived.Test.YtoomemfhcbajoaaV5Lb16
namespace Go.Eng
open Go.Proofs
set_option linter.unusedVariables false
set_option linter.unusedSimpArgs false
set_option maxRecDepth 100000
noncomputable def fr78 (k:Nat) (d:Nat→Int) (x j:Int):Frm:=[(0,sl1 k d false),(3,.int .i64 x),(4,.int .i64 j)]
noncomputable def fr42g (h g j:Int):Frm:=[(1,.int .i64 h),(2,.ptr 0 0 0 0),(6,.int .i64 g),(7,.int .i64 j)]
noncomputable def fr42 (h g:Int) (o:AV) (T:Int):Frm:=[(1,.int .i64 h),(2,.ptr 0 0 0 0),(6,.int .i64 g),(8,o),(9,.int .i64 T)]
noncomputable def fr42i (h g:Int) (o:AV) (T:Int) (c:Nat) (j:Int):Frm:=[(1,.int .i64 h),(2,.ptr 0 0 0 0),(6,.int .i64 g),(8,o),(9,.int .i64 T),(10,.ptr 0 c 0 0),(11,.int .i64 j)]
noncomputable def fr41 (l:Nat) (t:Nat→Int) (k:Nat) (d g:Nat→Int) (h:Int) (o:AV) (c:Nat):Frm:=[(1,.int .i64 h),(2,.ptr 0 0 0 0),(6,tbA 0 l t k d g),(8,o),(9,.ptr 0 c 0 0)]
noncomputable def lv41a (l:Nat) (t:Nat→Int) (k:Nat) (d:Nat→Int) (T:Int):Lvl:=⟨false,[bxS l t k d,cel T]⟩
noncomputable def lv41b (l:Nat) (t:Nat→Int) (k:Nat) (d:Nat→Int) (x T:Int):Lvl:=⟨false,[bxS l t k d,cel x,cel T]⟩
noncomputable def lv41c (l:Nat) (t:Nat→Int) (k:Nat) (d:Nat→Int) (x T:Int) (v m:Nat) (y:Nat→Int):Lvl:=⟨false,[bxS l t k d,cel x,cel T,(v,.row (.M [.arr .i64 y m]))]⟩
theorem t78 (n k:Nat) (d:Nat→Int) (x j:Int) (H:Heap):execT (cxD n 78 25) (il noCt n 0) noBT noRT (part Try.f78 [1,1,1,0,1,0,0]) (hints (fr78 k d x j)) (lvE::H) =
 Tr.ite (ltI j (Int.ofNat k)) (Tr.req (inI j k) (Tr.req (ltN (idO 0 j 1) k) (Tr.ok (Ex.normal,[(0,AV.slcT none (Row.M [Seg.arr .i64 d k]) 1 k false,none),(3,AV.int .i64 (maxO x (d (idO 0 j 1))),none),(4,AV.int .i64 (addI .i64 j (Int.ofNat 1)),none)],lvE::H)))) (Tr.ok (Ex.exit 0,[(0,AV.slcT none (Row.M [Seg.arr .i64 d k]) 1 k false,none),(3,AV.int .i64 x,none),(4,AV.int .i64 j,none),(15,AV.bool false,some 1)],lvE::H)):=by kernel_rfl
theorem u78 (n k:Nat) (d:Nat→Int) (x:Int) (H:Heap):bodyT Try.prog (cd n) 100000 78 Try.f78 (KtL.kt 78) (il noCt n 0) (blkE noBT 0 (fr78 k d (d 0) 1) (lvE::H) (.ok (.normal,hints (fr78 k d x (Int.ofNat k)++[(15,.bool false)]),lvE::H))) noRT [(sl1 k d false,none)] H =
 (fun (Z0:Frm)=>Tr.ite (ltI (Int.ofNat k) (Int.ofNat 1)) Tr.bad (Tr.req (inI (Int.ofNat 0) k) (Tr.req (ltN 0 k) (Tr.reqP (Z0=Z0∧lvE::H=lvE::H) (Tr.ok ((AV.int .i64 x,none),H)))))) [(0,AV.slcT none (Row.M [Seg.arr .i64 d k]) 1 k false),(3,AV.int .i64 (d 0)),(4,AV.int .i64 (Int.ofNat 1))]:=by kernel_rfl
theorem u79c (n:Nat) (i e T:Int) (L:Lvl) (b0 b1:Nat×Blk) (bs:List (Nat×Blk)) (H:Heap):bodyT Try.prog (cd n) 100000 79 Try.f79 (KtL.kt 79) (il noCt n 0) noBT noRT [(.int .i64 i,none),(.int .i64 e,none),(.ptr 1 2 0 0,none)] (L::⟨false,b0::b1::cel T::bs⟩::H) =
 Tr.ite (leI T e) (Tr.ok ((AV.int .i64 (subI .i64 e (Int.ofNat 1)),none),L::{ lock:=false,bs:=b0::b1::(0,Blk.row (Row.I .i64 [T]))::bs } :: H)) (Tr.ok ((AV.int .i64 e,none),L::{ lock:=false,bs:=b0::b1::(0,Blk.row (Row.I .i64 [T]))::bs } :: H)):=by kernel_rfl
theorem t41a (n l k:Nat) (t d g y:Nat→Int) (h T M c:Int) (H:Heap):execT (cxD n 41 41) (il (tX (ctE (tX noCt 78 [sl1 k d false] (.int .i64 M)) 74 [tbA 0 l t k d g,.fn (.func 79) [] [.ptr 0 1 0 0]] (lv41a l t k d T::H) (.ok (sl1 k y false,lv41a l t k d T::H))) 69 [tbA 0 l t k d g,sl1 k y false,.int .i64 h] (.int .i64 c)) n 0) noBT noRT (part Try.f41 [1,1,1,1,0,1,0,0]) (hints (fr41 l t k d g h .nils 1)) (lv41a l t k d T::H) =
 (fun (Z0:Row)=>((fun (Z1:Nat×Blk)=>((fun (Z2:Lvl)=>((fun (Z3:List AV)=>Tr.reqP ([AV.slcT none (Row.M [Seg.arr .i64 d k]) 1 k false]=[AV.slcT none (Row.M [Seg.arr .i64 d k]) 1 k false]) (Tr.ite (leI T M) (Tr.reqP ([AV.ptrT (some 0) Z0 0,AV.fn (Fn.func 79) [] [AV.ptr 0 1 0 0]]=[AV.ptrT (some 0) Z0 0,AV.fn (Fn.func 79) [] [AV.ptr 0 1 0 0]]∧Z2::H=Z2::H) (Tr.reqP (Z3=Z3) (Tr.ite (ltI c (Int.ofNat 0)) (Tr.req (roomO 0 1 8) (Tr.req (eqN 0 0) (Tr.req (leN 1 1) (Tr.ok (Ex.normal,[(1,AV.int .i64 h,none),(2,AV.ptr 0 0 0 0,none),(6,AV.ptrT (some 0) Z0 0,none),(8,AV.slc 0 3 0 0 1 1 none,none),(9,AV.ptr 0 4 0 0,none)],{ lock:=false,bs:=[Z1,(0,Blk.row (Row.I .i64 [T])),(0,Blk.row (Row.I .i64 [T])),(0,Blk.row (Row.M [Seg.arr .i64 (lstO [T]) 1])),(0,Blk.row (Row.I .i64 [addI .i64 T (Int.ofNat 1)]))] } :: H))))) (Tr.ok (Ex.normal,[(1,AV.int .i64 h,none),(2,AV.ptr 0 0 0 0,none),(6,AV.ptrT (some 0) Z0 0,none),(8,AV.nils,none),(9,AV.ptr 0 2 0 0,none)],{ lock:=false,bs:=[Z1,(0,Blk.row (Row.I .i64 [T])),(0,Blk.row (Row.I .i64 [addI .i64 T (Int.ofNat 1)]))] } :: H))))) (Tr.ok (Ex.exit 0,[(1,AV.int .i64 h,none),(2,AV.ptr 0 0 0 0,none),(6,AV.ptrT (some 0) Z0 0,none),(8,AV.nils,none),(9,AV.ptr 0 1 0 0,none),(24,AV.bool false,some 1)],Z2::H)))) [AV.ptrT (some 0) Z0 0,AV.slcT none (Row.M [Seg.arr .i64 y k]) 1 k false,AV.int .i64 h])) { lock:=false,bs:=[Z1,(0,Blk.row (Row.I .i64 [T]))] })) (0,Blk.row (Row.G [AV.slcT none (Row.M [Seg.arr .i64 t l]) 1 l false,AV.slcT none (Row.M [Seg.arr .i64 d k]) 1 k false])))) (Row.M [Seg.one (AV.slcT none (Row.M [Seg.arr .i64 t l]) 1 l false),Seg.one (AV.slcT none (Row.M [Seg.arr .i64 d k]) 1 k false),Seg.arr .i64 g 30]):=by kernel_rfl
theorem t41b (n l k:Nat) (t d g y:Nat→Int) (x:Int) (h T M c:Int) (H:Heap):execT (cxD n 41 41) (il (tX (ctE (tX noCt 78 [sl1 k d false] (.int .i64 M)) 74 [tbA 0 l t k d g,.fn (.func 79) [] [.ptr 0 2 0 0]] (lv41b l t k d x T::H) (.ok (sl1 k y false,lv41b l t k d x T::H))) 69 [tbA 0 l t k d g,sl1 k y false,.int .i64 h] (.int .i64 c)) n 0) noBT noRT (part Try.f41 [1,1,1,1,0,1,0,0]) (hints (fr41 l t k d g h .nils 2)) (lv41b l t k d x T::H) =
 (fun (Z0:Row)=>((fun (Z1:Nat×Blk)=>((fun (Z2:Lvl)=>((fun (Z3:List AV)=>Tr.reqP ([AV.slcT none (Row.M [Seg.arr .i64 d k]) 1 k false]=[AV.slcT none (Row.M [Seg.arr .i64 d k]) 1 k false]) (Tr.ite (leI T M) (Tr.reqP ([AV.ptrT (some 0) Z0 0,AV.fn (Fn.func 79) [] [AV.ptr 0 2 0 0]]=[AV.ptrT (some 0) Z0 0,AV.fn (Fn.func 79) [] [AV.ptr 0 2 0 0]]∧Z2::H=Z2::H) (Tr.reqP (Z3=Z3) (Tr.ite (ltI c (Int.ofNat 0)) (Tr.req (roomO 0 1 8) (Tr.req (eqN 0 0) (Tr.req (leN 1 1) (Tr.ok (Ex.normal,[(1,AV.int .i64 h,none),(2,AV.ptr 0 0 0 0,none),(6,AV.ptrT (some 0) Z0 0,none),(8,AV.slc 0 4 0 0 1 1 none,none),(9,AV.ptr 0 5 0 0,none)],{ lock:=false,bs:=[Z1,(0,Blk.row (Row.I .i64 [x])),(0,Blk.row (Row.I .i64 [T])),(0,Blk.row (Row.I .i64 [T])),(0,Blk.row (Row.M [Seg.arr .i64 (lstO [T]) 1])),(0,Blk.row (Row.I .i64 [addI .i64 T (Int.ofNat 1)]))] } :: H))))) (Tr.ok (Ex.normal,[(1,AV.int .i64 h,none),(2,AV.ptr 0 0 0 0,none),(6,AV.ptrT (some 0) Z0 0,none),(8,AV.nils,none),(9,AV.ptr 0 3 0 0,none)],{ lock:=false,bs:=[Z1,(0,Blk.row (Row.I .i64 [x])),(0,Blk.row (Row.I .i64 [T])),(0,Blk.row (Row.I .i64 [addI .i64 T (Int.ofNat 1)]))] } :: H))))) (Tr.ok (Ex.exit 0,[(1,AV.int .i64 h,none),(2,AV.ptr 0 0 0 0,none),(6,AV.ptrT (some 0) Z0 0,none),(8,AV.nils,none),(9,AV.ptr 0 2 0 0,none),(24,AV.bool false,some 1)],Z2::H)))) [AV.ptrT (some 0) Z0 0,AV.slcT none (Row.M [Seg.arr .i64 y k]) 1 k false,AV.int .i64 h])) { lock:=false,bs:=[Z1,(0,Blk.row (Row.I .i64 [x])),(0,Blk.row (Row.I .i64 [T]))] })) (0,Blk.row (Row.G [AV.slcT none (Row.M [Seg.arr .i64 t l]) 1 l false,AV.slcT none (Row.M [Seg.arr .i64 d k]) 1 k false])))) (Row.M [Seg.one (AV.slcT none (Row.M [Seg.arr .i64 t l]) 1 l false),Seg.one (AV.slcT none (Row.M [Seg.arr .i64 d k]) 1 k false),Seg.arr .i64 g 30]):=by kernel_rfl
theorem t41xb (n l k:Nat) (t d g:Nat→Int) (x:Int) (h T M:Int) (H:Heap):execT (cxD n 41 41) (il (tN (tX noCt 78 [sl1 k d false] (.int .i64 M)) 74) n 0) noBT noRT (part Try.f41 [1,1,1,1,0,1,0,0]) (hints (fr41 l t k d g h .nils 2)) (lv41b l t k d x T::H) =
 Tr.reqP ([AV.slcT none (Row.M [Seg.arr .i64 d k]) 1 k false]=[AV.slcT none (Row.M [Seg.arr .i64 d k]) 1 k false]) (Tr.ite (leI T M) Tr.bad (Tr.ok (Ex.exit 0,[(1,AV.int .i64 h,none),(2,AV.ptr 0 0 0 0,none),(6,AV.ptrT (some 0) (Row.M [Seg.one (AV.slcT none (Row.M [Seg.arr .i64 t l]) 1 l false),Seg.one (AV.slcT none (Row.M [Seg.arr .i64 d k]) 1 k false),Seg.arr .i64 g 30]) 0,none),(8,AV.nils,none),(9,AV.ptr 0 2 0 0,none),(24,AV.bool false,some 1)],{ lock:=false,bs:=[(0,Blk.row (Row.G [AV.slcT none (Row.M [Seg.arr .i64 t l]) 1 l false,AV.slcT none (Row.M [Seg.arr .i64 d k]) 1 k false])),(0,Blk.row (Row.I .i64 [x])),(0,Blk.row (Row.I .i64 [T]))] } :: H))):=by kernel_rfl
theorem u41b (n l k:Nat) (t d g:Nat→Int) (x:Int) (h T:Int) (H:Heap):bodyT Try.prog (cd n) 100000 41 Try.f41 (KtL.kt 41) (il (tX noCt 61 [shA l t k d,.int .i64 h,.int .i64 0] (.tup [tbA 0 l t k d g,.int .i64 0])) n 0) (blkE noBT 0 (fr41 l t k d g h .nils 1) (lv41a l t k d 1::H) (.ok (.normal,hints (fr41 l t k d g h .nils 2++[(24,.bool false)]),lv41b l t k d x T::H))) noRT [(shA l t k d,none),(.int .i64 h,none)] H =
 (fun (Z0:Row)=>((fun (Z1:Frm)=>((fun (Z2:Lvl)=>Tr.reqP ([AV.agg Z0,AV.int .i64 h,AV.int .i64 (Int.ofNat 0)]=[AV.agg Z0,AV.int .i64 h,AV.int .i64 (Int.ofNat 0)]) (Tr.ite (notB (eqI (Int.ofNat 0) (Int.ofNat 0))) (Tr.ok ((AV.tup [AV.nils,AV.int .i64 (Int.ofNat 0)],none),H)) (Tr.reqP (Z1=Z1∧Z2::H=Z2::H) (Tr.ok ((AV.tup [AV.nils,AV.int .i64 (Int.ofNat 0)],none),H))))) { lock:=false,bs:=[(0,Blk.row Z0),(0,Blk.row (Row.I .i64 [Int.ofNat 1]))] })) [(1,AV.int .i64 h),(2,AV.ptr 0 0 0 0),(6,AV.ptrT (some 0) (Row.M [Seg.one (AV.slcT none (Row.M [Seg.arr .i64 t l]) 1 l false),Seg.one (AV.slcT none (Row.M [Seg.arr .i64 d k]) 1 k false),Seg.arr .i64 g 30]) 0),(8,AV.nils),(9,AV.ptr 0 1 0 0)])) (Row.G [AV.slcT none (Row.M [Seg.arr .i64 t l]) 1 l false,AV.slcT none (Row.M [Seg.arr .i64 d k]) 1 k false]):=by kernel_rfl
theorem t41c (n l k:Nat) (t d g y:Nat→Int) (x:Int) (v m:Nat) (z:Nat→Int) (h T M c:Int) (H:Heap):execT (cxD n 41 41) (il (tX (ctE (tX noCt 78 [sl1 k d false] (.int .i64 M)) 74 [tbA 0 l t k d g,.fn (.func 79) [] [.ptr 0 2 0 0]] (lv41c l t k d x T v m z::H) (.ok (sl1 k y false,lv41c l t k d x T v m z::H))) 69 [tbA 0 l t k d g,sl1 k y false,.int .i64 h] (.int .i64 c)) n 0) noBT noRT (part Try.f41 [1,1,1,1,0,1,0,0]) (hints (fr41 l t k d g h (.slc 0 3 v 0 1 m none) 2)) (lv41c l t k d x T v m z::H) =
 (fun (Z0:Row)=>((fun (Z1:Lvl)=>((fun (Z2:Nat×Blk)=>((fun (Z3:List AV)=>Tr.reqP ([AV.slcT none (Row.M [Seg.arr .i64 d k]) 1 k false]=[AV.slcT none (Row.M [Seg.arr .i64 d k]) 1 k false]) (Tr.ite (leI T M) (Tr.reqP ([AV.ptrT (some 0) Z0 0,AV.fn (Fn.func 79) [] [AV.ptr 0 2 0 0]]=[AV.ptrT (some 0) Z0 0,AV.fn (Fn.func 79) [] [AV.ptr 0 2 0 0]]∧Z1::H=Z1::H) (Tr.reqP (Z3=Z3) (Tr.ite (ltI c (Int.ofNat 0)) (Tr.req (roomO m 1 8) (Tr.req (eqN 0 0) (Tr.req (leN 1 1) (Tr.req (eqN v v) (Tr.req (eqN (addO 0 m) m) (Tr.ok (Ex.normal,[(1,AV.int .i64 h,none),(2,AV.ptr 0 0 0 0,none),(6,AV.ptrT (some 0) Z0 0,none),(8,AV.slc 0 3 (Nat.succ v) 0 1 (addO m 1) none,none),(9,AV.ptr 0 5 0 0,none)],{ lock:=false,bs:=[Z2,(0,Blk.row (Row.I .i64 [x])),(0,Blk.row (Row.I .i64 [T])),(Nat.succ v,Blk.row (Row.M [Seg.arr .i64 (appO (shO z 0) m (lstO [T])) (addO m 1)])),(0,Blk.row (Row.I .i64 [T])),(0,Blk.row (Row.I .i64 [addI .i64 T (Int.ofNat 1)]))] } :: H))))))) (Tr.ok (Ex.normal,[(1,AV.int .i64 h,none),(2,AV.ptr 0 0 0 0,none),(6,AV.ptrT (some 0) Z0 0,none),(8,AV.slc 0 3 v 0 1 m none,none),(9,AV.ptr 0 4 0 0,none)],{ lock:=false,bs:=[Z2,(0,Blk.row (Row.I .i64 [x])),(0,Blk.row (Row.I .i64 [T])),(v,Blk.row (Row.M [Seg.arr .i64 z m])),(0,Blk.row (Row.I .i64 [addI .i64 T (Int.ofNat 1)]))] } :: H))))) (Tr.ok (Ex.exit 0,[(1,AV.int .i64 h,none),(2,AV.ptr 0 0 0 0,none),(6,AV.ptrT (some 0) Z0 0,none),(8,AV.slc 0 3 v 0 1 m none,none),(9,AV.ptr 0 2 0 0,none),(24,AV.bool false,some 1)],Z1::H)))) [AV.ptrT (some 0) Z0 0,AV.slcT none (Row.M [Seg.arr .i64 y k]) 1 k false,AV.int .i64 h])) (0,Blk.row (Row.G [AV.slcT none (Row.M [Seg.arr .i64 t l]) 1 l false,AV.slcT none (Row.M [Seg.arr .i64 d k]) 1 k false])))) { lock:=false,bs:=[(0,Blk.row (Row.G [AV.slcT none (Row.M [Seg.arr .i64 t l]) 1 l false,AV.slcT none (Row.M [Seg.arr .i64 d k]) 1 k false])),(0,Blk.row (Row.I .i64 [x])),(0,Blk.row (Row.I .i64 [T])),(v,Blk.row (Row.M [Seg.arr .i64 z m]))] })) (Row.M [Seg.one (AV.slcT none (Row.M [Seg.arr .i64 t l]) 1 l false),Seg.one (AV.slcT none (Row.M [Seg.arr .i64 d k]) 1 k false),Seg.arr .i64 g 30]):=by kernel_rfl
theorem t41xc (n l k:Nat) (t d g:Nat→Int) (x:Int) (v m:Nat) (z:Nat→Int) (h T M:Int) (H:Heap):execT (cxD n 41 41) (il (tN (tX noCt 78 [sl1 k d false] (.int .i64 M)) 74) n 0) noBT noRT (part Try.f41 [1,1,1,1,0,1,0,0]) (hints (fr41 l t k d g h (.slc 0 3 v 0 1 m none) 2)) (lv41c l t k d x T v m z::H) =
 Tr.reqP ([AV.slcT none (Row.M [Seg.arr .i64 d k]) 1 k false]=[AV.slcT none (Row.M [Seg.arr .i64 d k]) 1 k false]) (Tr.ite (leI T M) Tr.bad (Tr.ok (Ex.exit 0,[(1,AV.int .i64 h,none),(2,AV.ptr 0 0 0 0,none),(6,AV.ptrT (some 0) (Row.M [Seg.one (AV.slcT none (Row.M [Seg.arr .i64 t l]) 1 l false),Seg.one (AV.slcT none (Row.M [Seg.arr .i64 d k]) 1 k false),Seg.arr .i64 g 30]) 0,none),(8,AV.slc 0 3 v 0 1 m none,none),(9,AV.ptr 0 2 0 0,none),(24,AV.bool false,some 1)],{ lock:=false,bs:=[(0,Blk.row (Row.G [AV.slcT none (Row.M [Seg.arr .i64 t l]) 1 l false,AV.slcT none (Row.M [Seg.arr .i64 d k]) 1 k false])),(0,Blk.row (Row.I .i64 [x])),(0,Blk.row (Row.I .i64 [T])),(v,Blk.row (Row.M [Seg.arr .i64 z m]))] } :: H))):=by kernel_rfl
theorem u41c (n l k:Nat) (t d g:Nat→Int) (x:Int) (v m:Nat) (z:Nat→Int) (h T:Int) (H:Heap):bodyT Try.prog (cd n) 100000 41 Try.f41 (KtL.kt 41) (il (tX noCt 61 [shA l t k d,.int .i64 h,.int .i64 0] (.tup [tbA 0 l t k d g,.int .i64 0])) n 0) (blkE noBT 0 (fr41 l t k d g h .nils 1) (lv41a l t k d 1::H) (.ok (.normal,hints (fr41 l t k d g h (.slc 0 3 v 0 1 m none) 2++[(24,.bool false)]),lv41c l t k d x T v m z::H))) noRT [(shA l t k d,none),(.int .i64 h,none)] H =
 (fun (Z0:Row)=>((fun (Z1:Frm)=>((fun (Z2:Lvl)=>Tr.reqP ([AV.agg Z0,AV.int .i64 h,AV.int .i64 (Int.ofNat 0)]=[AV.agg Z0,AV.int .i64 h,AV.int .i64 (Int.ofNat 0)]) (Tr.ite (notB (eqI (Int.ofNat 0) (Int.ofNat 0))) (Tr.ok ((AV.tup [AV.nils,AV.int .i64 (Int.ofNat 0)],none),H)) (Tr.reqP (Z1=Z1∧Z2::H=Z2::H) (Tr.req (eqN v v) (Tr.req (inO 0 m 0 m) (Tr.ok ((AV.tup [AV.slcT none (Row.M [Seg.arr .i64 (shO z 0) m]) 1 m false,AV.int .i64 (Int.ofNat 0)],none),H))))))) { lock:=false,bs:=[(0,Blk.row Z0),(0,Blk.row (Row.I .i64 [Int.ofNat 1]))] })) [(1,AV.int .i64 h),(2,AV.ptr 0 0 0 0),(6,AV.ptrT (some 0) (Row.M [Seg.one (AV.slcT none (Row.M [Seg.arr .i64 t l]) 1 l false),Seg.one (AV.slcT none (Row.M [Seg.arr .i64 d k]) 1 k false),Seg.arr .i64 g 30]) 0),(8,AV.nils),(9,AV.ptr 0 1 0 0)])) (Row.G [AV.slcT none (Row.M [Seg.arr .i64 t l]) 1 l false,AV.slcT none (Row.M [Seg.arr .i64 d k]) 1 k false]):=by kernel_rfl
theorem u41s (n l k:Nat) (t d:Nat→Int) (h e:Int) (H:Heap):bodyT Try.prog (cd n) 100000 41 Try.f41 (KtL.kt 41) (il (tX noCt 61 [shA l t k d,.int .i64 h,.int .i64 0] (.tup [.nilp,.int .i64 e])) n 0) (stopB noBT 0) noRT [(shA l t k d,none),(.int .i64 h,none)] H =
 (fun (Z0:List AV)=>Tr.reqP (Z0=Z0) (Tr.ite (notB (eqI e (Int.ofNat 0))) (Tr.ok ((AV.tup [AV.nils,AV.int .i64 e],none),H)) Tr.bad)) [AV.agg (Row.G [AV.slcT none (Row.M [Seg.arr .i64 t l]) 1 l false,AV.slcT none (Row.M [Seg.arr .i64 d k]) 1 k false]),AV.int .i64 h,AV.int .i64 (Int.ofNat 0)]:=by kernel_rfl
theorem t42g (n l k:Nat) (t d:Nat→Int) (h g j:Int) (H:Heap):execT (cxD n 42 73) (il noCt n 0) noBT noRT (part Try.f42 [1,1,1,0,1,0,0]) (hints (fr42g h g j)) (lvO0 l t k d::H) =
 (fun (Z0:Lvl)=>Tr.ite (ltI j (Int.ofNat k)) (Tr.req (inI j k) (Tr.req (ltN (idO 0 j 1) k) (Tr.ok (Ex.normal,[(1,AV.int .i64 h,none),(2,AV.ptr 0 0 0 0,none),(6,AV.int .i64 (maxO g (d (idO 0 j 1))),none),(7,AV.int .i64 (addI .i64 j (Int.ofNat 1)),none)],Z0::H)))) (Tr.ok (Ex.exit 0,[(1,AV.int .i64 h,none),(2,AV.ptr 0 0 0 0,none),(6,AV.int .i64 g,none),(7,AV.int .i64 j,none),(24,AV.bool false,some 1)],Z0::H))) { lock:=false,bs:=[(0,Blk.row (Row.G [AV.slcT none (Row.M [Seg.arr .i64 t l]) 1 l false,AV.slcT none (Row.M [Seg.arr .i64 d k]) 1 k false]))] }:=by kernel_rfl
theorem u42s (n l k:Nat) (t d:Nat→Int) (h e:Int) (H:Heap):bodyT Try.prog (cd n) 100000 42 Try.f42 (KtL.kt 42) (il (tX noCt 28 [shA l t k d,.int .i64 h] (.int .i64 e)) n 0) (stopB noBT 0) noRT [(shA l t k d,none),(.int .i64 h,none)] H =
 (fun (Z0:List AV)=>Tr.reqP (Z0=Z0) (Tr.ite (notB (eqI e (Int.ofNat 0))) (Tr.reqP (Z0=Z0) (Tr.ok ((AV.tup [AV.nils,AV.int .i64 e],none),H))) Tr.bad)) [AV.agg (Row.G [AV.slcT none (Row.M [Seg.arr .i64 t l]) 1 l false,AV.slcT none (Row.M [Seg.arr .i64 d k]) 1 k false]),AV.int .i64 h]:=by kernel_rfl
theorem t42iaa (n l k:Nat) (t d:Nat→Int) (h g T j:Int) (H:Heap):execT (cxD n 42 73) (il noCt n 0) noBT noRT (part Try.f42 [1,1,1,1,1,0,1,0,0,1,0,0,1,0,1,0,0]) (hints (fr42i h g .nils T 1 j)) (⟨false,[bxS l t k d,(0,.row (.G [sl1 l t false,.nils]))]⟩::H) =
 (fun (Z0:Nat×Blk)=>((fun (Z1:HFrm)=>((fun (Z2:Nat×Blk)=>Tr.ite (ltI j (Int.ofNat k)) (Tr.req (inI j k) (Tr.req (ltN (idO 0 j 1) k) (Tr.ite (leI T (d (idO 0 j 1))) (Tr.req (roomO 0 1 8) (Tr.req (eqN 0 0) (Tr.req (leN 1 1) (Tr.ok (Ex.normal,Z1,{ lock:=false,bs:=[Z0,Z2,(0,Blk.row (Row.I .i64 [subI .i64 (d (idO 0 j 1)) (Int.ofNat 1)])),(0,Blk.row (Row.M [Seg.arr .i64 (lstO [subI .i64 (d (idO 0 j 1)) (Int.ofNat 1)]) 1]))] } :: H))))) (Tr.req (roomO 0 1 8) (Tr.req (eqN 0 0) (Tr.req (leN 1 1) (Tr.ok (Ex.normal,Z1,{ lock:=false,bs:=[Z0,Z2,(0,Blk.row (Row.I .i64 [d (idO 0 j 1)])),(0,Blk.row (Row.M [Seg.arr .i64 (lstO [d (idO 0 j 1)]) 1]))] } :: H)))))))) (Tr.ok (Ex.exit 4,[(1,AV.int .i64 h,none),(2,AV.ptr 0 0 0 0,none),(6,AV.int .i64 g,none),(8,AV.nils,none),(9,AV.int .i64 T,none),(10,AV.ptr 0 1 0 0,none),(11,AV.int .i64 j,none),(46,AV.bool false,some 1)],{ lock:=false,bs:=[Z0,(0,Blk.row (Row.G [AV.slcT none (Row.M [Seg.arr .i64 t l]) 1 l false,AV.nils]))] } :: H))) (0,Blk.row (Row.G [AV.slcT none (Row.M [Seg.arr .i64 t l]) 1 l false,AV.slc 0 3 0 0 1 1 none])))) [(1,AV.int .i64 h,none),(2,AV.ptr 0 0 0 0,none),(6,AV.int .i64 g,none),(8,AV.nils,none),(9,AV.int .i64 T,none),(10,AV.ptr 0 1 0 0,none),(11,AV.int .i64 (addI .i64 j (Int.ofNat 1)),none)])) (0,Blk.row (Row.G [AV.slcT none (Row.M [Seg.arr .i64 t l]) 1 l false,AV.slcT none (Row.M [Seg.arr .i64 d k]) 1 k false])):=by kernel_rfl
theorem t42iab (n l k:Nat) (t d:Nat→Int) (w q:Nat) (z:Nat→Int) (h g T j:Int) (H:Heap):execT (cxD n 42 73) (il noCt n 0) noBT noRT (part Try.f42 [1,1,1,1,1,0,1,0,0,1,0,0,1,0,1,0,0]) (hints (fr42i h g .nils T 1 j)) (⟨false,[bxS l t k d,(0,.row (.G [sl1 l t false,.slc 0 2 w 0 1 q none])),(w,.row (.M [.arr .i64 z q]))]⟩::H) =
 (fun (Z0:Nat×Blk)=>((fun (Z1:HFrm)=>((fun (Z2:Nat×Blk)=>Tr.ite (ltI j (Int.ofNat k)) (Tr.req (inI j k) (Tr.req (ltN (idO 0 j 1) k) (Tr.ite (leI T (d (idO 0 j 1))) (Tr.req (roomO q 1 8) (Tr.req (eqN 0 0) (Tr.req (leN 1 1) (Tr.req (eqN w w) (Tr.req (eqN (addO 0 q) q) (Tr.ok (Ex.normal,Z1,{ lock:=false,bs:=[Z0,Z2,(Nat.succ w,Blk.row (Row.M [Seg.arr .i64 (appO (shO z 0) q (lstO [subI .i64 (d (idO 0 j 1)) (Int.ofNat 1)])) (addO q 1)])),(0,Blk.row (Row.I .i64 [subI .i64 (d (idO 0 j 1)) (Int.ofNat 1)]))] } :: H))))))) (Tr.req (roomO q 1 8) (Tr.req (eqN 0 0) (Tr.req (leN 1 1) (Tr.req (eqN w w) (Tr.req (eqN (addO 0 q) q) (Tr.ok (Ex.normal,Z1,{ lock:=false,bs:=[Z0,Z2,(Nat.succ w,Blk.row (Row.M [Seg.arr .i64 (appO (shO z 0) q (lstO [d (idO 0 j 1)])) (addO q 1)])),(0,Blk.row (Row.I .i64 [d (idO 0 j 1)]))] } :: H)))))))))) (Tr.req (eqN w w) (Tr.req (inO 0 q 0 q) (Tr.ok (Ex.exit 4,[(1,AV.int .i64 h,none),(2,AV.ptr 0 0 0 0,none),(6,AV.int .i64 g,none),(8,AV.nils,none),(9,AV.int .i64 T,none),(10,AV.ptr 0 1 0 0,none),(11,AV.int .i64 j,none),(46,AV.bool false,some 1)],{ lock:=false,bs:=[Z0,(0,Blk.row (Row.G [AV.slcT none (Row.M [Seg.arr .i64 t l]) 1 l false,AV.slcT none (Row.M [Seg.arr .i64 (shO z 0) q]) 1 q false])),(w,Blk.dead)] } :: H))))) (0,Blk.row (Row.G [AV.slcT none (Row.M [Seg.arr .i64 t l]) 1 l false,AV.slc 0 2 (Nat.succ w) 0 1 (addO q 1) none])))) [(1,AV.int .i64 h,none),(2,AV.ptr 0 0 0 0,none),(6,AV.int .i64 g,none),(8,AV.nils,none),(9,AV.int .i64 T,none),(10,AV.ptr 0 1 0 0,none),(11,AV.int .i64 (addI .i64 j (Int.ofNat 1)),none)])) (0,Blk.row (Row.G [AV.slcT none (Row.M [Seg.arr .i64 t l]) 1 l false,AV.slcT none (Row.M [Seg.arr .i64 d k]) 1 k false])):=by kernel_rfl
theorem t42a (n l k:Nat) (t d:Nat→Int) (q:Nat) (z:Nat→Int) (h g T:Int) (B:Bool) (H:Heap):execT (cxD n 42 73) (il (tX noCt 65 [shA l t (q+1) z,.int .i64 h] (.bool B)) n 0) (blkE noBT 4 (fr42i h g .nils T 1 0) (⟨false,[bxS l t k d,(0,.row (.G [sl1 l t false,.nils]))]⟩::H) (.ok (.normal,hints (fr42i h g .nils T 1 (Int.ofNat k)++[(46,.bool false)]),⟨false,[bxS l t k d,(0,.row (.G [sl1 l t false,sl1 (q+1) z false])),(q,.dead)]⟩::H))) noRT (part Try.f42 [1,1,1,1,1,0,1,0,0]) (hints (fr42 h g .nils T)) (⟨false,[bxS l t k d]⟩::H) =
 (fun (Z0:Nat×Blk)=>((fun (Z1:Row)=>((fun (Z2:Frm)=>((fun (Z3:Lvl)=>Tr.ite (leI T g) (Tr.reqP (Z2=Z2∧Z3::H=Z3::H) (Tr.reqP ([AV.agg Z1,AV.int .i64 h]=[AV.agg Z1,AV.int .i64 h]) (Tr.ite B (Tr.req (roomO 0 1 8) (Tr.req (eqN 0 0) (Tr.req (leN 1 1) (Tr.ok (Ex.normal,[(1,AV.int .i64 h,none),(2,AV.ptr 0 0 0 0,none),(6,AV.int .i64 g,none),(8,AV.slc 0 4 0 0 1 1 none,none),(9,AV.int .i64 (addI .i64 T (Int.ofNat 1)),none)],{ lock:=false,bs:=[Z0,(0,Blk.row Z1),(q,Blk.dead),(0,Blk.row (Row.I .i64 [T])),(0,Blk.row (Row.M [Seg.arr .i64 (lstO [T]) 1]))] } :: H))))) (Tr.ok (Ex.normal,[(1,AV.int .i64 h,none),(2,AV.ptr 0 0 0 0,none),(6,AV.int .i64 g,none),(8,AV.nils,none),(9,AV.int .i64 (addI .i64 T (Int.ofNat 1)),none)],{ lock:=false,bs:=[Z0,(0,Blk.row Z1),(q,Blk.dead)] } :: H))))) (Tr.ok (Ex.exit 2,[(1,AV.int .i64 h,none),(2,AV.ptr 0 0 0 0,none),(6,AV.int .i64 g,none),(8,AV.nils,none),(9,AV.int .i64 T,none),(36,AV.bool false,some 1)],{ lock:=false,bs:=[Z0] } :: H))) { lock:=false,bs:=[Z0,(0,Blk.row (Row.G [AV.slcT none (Row.M [Seg.arr .i64 t l]) 1 l false,AV.nils]))] })) [(1,AV.int .i64 h),(2,AV.ptr 0 0 0 0),(6,AV.int .i64 g),(8,AV.nils),(9,AV.int .i64 T),(10,AV.ptr 0 1 0 0),(11,AV.int .i64 (Int.ofNat 0))])) (Row.G [AV.slcT none (Row.M [Seg.arr .i64 t l]) 1 l false,AV.slcT none (Row.M [Seg.arr .i64 z (Nat.succ q)]) 1 (Nat.succ q) false]))) (0,Blk.row (Row.G [AV.slcT none (Row.M [Seg.arr .i64 t l]) 1 l false,AV.slcT none (Row.M [Seg.arr .i64 d k]) 1 k false])):=by kernel_rfl
theorem t42xa (n l k:Nat) (t d:Nat→Int) (h g T:Int) (H:Heap):execT (cxD n 42 73) (il noCt n 0) (stopB noBT 4) noRT (part Try.f42 [1,1,1,1,1,0,1,0,0]) (hints (fr42 h g .nils T)) (⟨false,[bxS l t k d]⟩::H) =
 Tr.ite (leI T g) Tr.bad (Tr.ok (Ex.exit 2,[(1,AV.int .i64 h,none),(2,AV.ptr 0 0 0 0,none),(6,AV.int .i64 g,none),(8,AV.nils,none),(9,AV.int .i64 T,none),(36,AV.bool false,some 1)],{ lock:=false,bs:=[(0,Blk.row (Row.G [AV.slcT none (Row.M [Seg.arr .i64 t l]) 1 l false,AV.slcT none (Row.M [Seg.arr .i64 d k]) 1 k false]))] } :: H)):=by kernel_rfl
theorem u42a (n l k:Nat) (t d:Nat→Int) (h g T:Int) (H:Heap):bodyT Try.prog (cd n) 100000 42 Try.f42 (KtL.kt 42) (il (tX noCt 28 [shA l t k d,.int .i64 h] (.int .i64 0)) n 0) (blkE (blkE noBT 2 (fr42 h g .nils 1) (lvO0 l t k d::H) (.ok (.normal,hints (fr42 h g .nils T++[(36,.bool false)]),⟨false,[bxS l t k d]⟩::H))) 0 (fr42g h 0 0) (lvO0 l t k d::H) (.ok (.normal,hints (fr42g h g (Int.ofNat k)++[(24,.bool false)]),lvO0 l t k d::H))) noRT [(shA l t k d,none),(.int .i64 h,none)] H =
 (fun (Z0:Row)=>((fun (Z1:Lvl)=>((fun (Z2:Frm)=>((fun (Z3:Frm)=>Tr.reqP ([AV.agg Z0,AV.int .i64 h]=[AV.agg Z0,AV.int .i64 h]) (Tr.ite (notB (eqI (Int.ofNat 0) (Int.ofNat 0))) (Tr.reqP ([AV.agg Z0,AV.int .i64 h]=[AV.agg Z0,AV.int .i64 h]) (Tr.ok ((AV.tup [AV.nils,AV.int .i64 (Int.ofNat 0)],none),H))) (Tr.reqP (Z3=Z3∧Z1::H=Z1::H) (Tr.reqP (Z2=Z2∧Z1::H=Z1::H) (Tr.ok ((AV.tup [AV.nils,AV.int .i64 (Int.ofNat 0)],none),H)))))) [(1,AV.int .i64 h),(2,AV.ptr 0 0 0 0),(6,AV.int .i64 (Int.ofNat 0)),(7,AV.int .i64 (Int.ofNat 0))])) [(1,AV.int .i64 h),(2,AV.ptr 0 0 0 0),(6,AV.int .i64 g),(8,AV.nils),(9,AV.int .i64 (Int.ofNat 1))])) { lock:=false,bs:=[(0,Blk.row Z0)] })) (Row.G [AV.slcT none (Row.M [Seg.arr .i64 t l]) 1 l false,AV.slcT none (Row.M [Seg.arr .i64 d k]) 1 k false]):=by kernel_rfl
theorem t42iba (n l k:Nat) (t d:Nat→Int) (v m:Nat) (y:Nat→Int) (h g T j:Int) (H:Heap):execT (cxD n 42 73) (il noCt n 0) noBT noRT (part Try.f42 [1,1,1,1,1,0,1,0,0,1,0,0,1,0,1,0,0]) (hints (fr42i h g (.slc 0 1 v 0 1 m none) T 2 j)) (⟨false,[bxS l t k d,(v,.row (.M [.arr .i64 y m])),(0,.row (.G [sl1 l t false,.nils]))]⟩::H) =
 (fun (Z0:Nat×Blk)=>((fun (Z1:HFrm)=>((fun (Z2:Nat×Blk)=>Tr.ite (ltI j (Int.ofNat k)) (Tr.req (inI j k) (Tr.req (ltN (idO 0 j 1) k) (Tr.ite (leI T (d (idO 0 j 1))) (Tr.req (roomO 0 1 8) (Tr.req (eqN 0 0) (Tr.req (leN 1 1) (Tr.ok (Ex.normal,Z1,{ lock:=false,bs:=[Z0,(v,Blk.row (Row.M [Seg.arr .i64 y m])),Z2,(0,Blk.row (Row.I .i64 [subI .i64 (d (idO 0 j 1)) (Int.ofNat 1)])),(0,Blk.row (Row.M [Seg.arr .i64 (lstO [subI .i64 (d (idO 0 j 1)) (Int.ofNat 1)]) 1]))] } :: H))))) (Tr.req (roomO 0 1 8) (Tr.req (eqN 0 0) (Tr.req (leN 1 1) (Tr.ok (Ex.normal,Z1,{ lock:=false,bs:=[Z0,(v,Blk.row (Row.M [Seg.arr .i64 y m])),Z2,(0,Blk.row (Row.I .i64 [d (idO 0 j 1)])),(0,Blk.row (Row.M [Seg.arr .i64 (lstO [d (idO 0 j 1)]) 1]))] } :: H)))))))) (Tr.ok (Ex.exit 4,[(1,AV.int .i64 h,none),(2,AV.ptr 0 0 0 0,none),(6,AV.int .i64 g,none),(8,AV.slc 0 1 v 0 1 m none,none),(9,AV.int .i64 T,none),(10,AV.ptr 0 2 0 0,none),(11,AV.int .i64 j,none),(46,AV.bool false,some 1)],{ lock:=false,bs:=[Z0,(v,Blk.row (Row.M [Seg.arr .i64 y m])),(0,Blk.row (Row.G [AV.slcT none (Row.M [Seg.arr .i64 t l]) 1 l false,AV.nils]))] } :: H))) (0,Blk.row (Row.G [AV.slcT none (Row.M [Seg.arr .i64 t l]) 1 l false,AV.slc 0 4 0 0 1 1 none])))) [(1,AV.int .i64 h,none),(2,AV.ptr 0 0 0 0,none),(6,AV.int .i64 g,none),(8,AV.slc 0 1 v 0 1 m none,none),(9,AV.int .i64 T,none),(10,AV.ptr 0 2 0 0,none),(11,AV.int .i64 (addI .i64 j (Int.ofNat 1)),none)])) (0,Blk.row (Row.G [AV.slcT none (Row.M [Seg.arr .i64 t l]) 1 l false,AV.slcT none (Row.M [Seg.arr .i64 d k]) 1 k false])):=by kernel_rfl
theorem t42ibb (n l k:Nat) (t d:Nat→Int) (v m:Nat) (y:Nat→Int) (w q:Nat) (z:Nat→Int) (h g T j:Int) (H:Heap):execT (cxD n 42 73) (il noCt n 0) noBT noRT (part Try.f42 [1,1,1,1,1,0,1,0,0,1,0,0,1,0,1,0,0]) (hints (fr42i h g (.slc 0 1 v 0 1 m none) T 2 j)) (⟨false,[bxS l t k d,(v,.row (.M [.arr .i64 y m])),(0,.row (.G [sl1 l t false,.slc 0 3 w 0 1 q none])),(w,.row (.M [.arr .i64 z q]))]⟩::H) =
 (fun (Z0:Nat×Blk)=>((fun (Z1:HFrm)=>((fun (Z2:Nat×Blk)=>Tr.ite (ltI j (Int.ofNat k)) (Tr.req (inI j k) (Tr.req (ltN (idO 0 j 1) k) (Tr.ite (leI T (d (idO 0 j 1))) (Tr.req (roomO q 1 8) (Tr.req (eqN 0 0) (Tr.req (leN 1 1) (Tr.req (eqN w w) (Tr.req (eqN (addO 0 q) q) (Tr.ok (Ex.normal,Z1,{ lock:=false,bs:=[Z0,(v,Blk.row (Row.M [Seg.arr .i64 y m])),Z2,(Nat.succ w,Blk.row (Row.M [Seg.arr .i64 (appO (shO z 0) q (lstO [subI .i64 (d (idO 0 j 1)) (Int.ofNat 1)])) (addO q 1)])),(0,Blk.row (Row.I .i64 [subI .i64 (d (idO 0 j 1)) (Int.ofNat 1)]))] } :: H))))))) (Tr.req (roomO q 1 8) (Tr.req (eqN 0 0) (Tr.req (leN 1 1) (Tr.req (eqN w w) (Tr.req (eqN (addO 0 q) q) (Tr.ok (Ex.normal,Z1,{ lock:=false,bs:=[Z0,(v,Blk.row (Row.M [Seg.arr .i64 y m])),Z2,(Nat.succ w,Blk.row (Row.M [Seg.arr .i64 (appO (shO z 0) q (lstO [d (idO 0 j 1)])) (addO q 1)])),(0,Blk.row (Row.I .i64 [d (idO 0 j 1)]))] } :: H)))))))))) (Tr.req (eqN w w) (Tr.req (inO 0 q 0 q) (Tr.ok (Ex.exit 4,[(1,AV.int .i64 h,none),(2,AV.ptr 0 0 0 0,none),(6,AV.int .i64 g,none),(8,AV.slc 0 1 v 0 1 m none,none),(9,AV.int .i64 T,none),(10,AV.ptr 0 2 0 0,none),(11,AV.int .i64 j,none),(46,AV.bool false,some 1)],{ lock:=false,bs:=[Z0,(v,Blk.row (Row.M [Seg.arr .i64 y m])),(0,Blk.row (Row.G [AV.slcT none (Row.M [Seg.arr .i64 t l]) 1 l false,AV.slcT none (Row.M [Seg.arr .i64 (shO z 0) q]) 1 q false])),(w,Blk.dead)] } :: H))))) (0,Blk.row (Row.G [AV.slcT none (Row.M [Seg.arr .i64 t l]) 1 l false,AV.slc 0 3 (Nat.succ w) 0 1 (addO q 1) none])))) [(1,AV.int .i64 h,none),(2,AV.ptr 0 0 0 0,none),(6,AV.int .i64 g,none),(8,AV.slc 0 1 v 0 1 m none,none),(9,AV.int .i64 T,none),(10,AV.ptr 0 2 0 0,none),(11,AV.int .i64 (addI .i64 j (Int.ofNat 1)),none)])) (0,Blk.row (Row.G [AV.slcT none (Row.M [Seg.arr .i64 t l]) 1 l false,AV.slcT none (Row.M [Seg.arr .i64 d k]) 1 k false])):=by kernel_rfl
theorem t42b (n l k:Nat) (t d:Nat→Int) (v m:Nat) (y:Nat→Int) (q:Nat) (z:Nat→Int) (h g T:Int) (B:Bool) (H:Heap):execT (cxD n 42 73) (il (tX noCt 65 [shA l t (q+1) z,.int .i64 h] (.bool B)) n 0) (blkE noBT 4 (fr42i h g (.slc 0 1 v 0 1 m none) T 2 0) (⟨false,[bxS l t k d,(v,.row (.M [.arr .i64 y m])),(0,.row (.G [sl1 l t false,.nils]))]⟩::H) (.ok (.normal,hints (fr42i h g (.slc 0 1 v 0 1 m none) T 2 (Int.ofNat k)++[(46,.bool false)]),⟨false,[bxS l t k d,(v,.row (.M [.arr .i64 y m])),(0,.row (.G [sl1 l t false,sl1 (q+1) z false])),(q,.dead)]⟩::H))) noRT (part Try.f42 [1,1,1,1,1,0,1,0,0]) (hints (fr42 h g (.slc 0 1 v 0 1 m none) T)) (⟨false,[bxS l t k d,(v,.row (.M [.arr .i64 y m]))]⟩::H) =
 (fun (Z0:Nat×Blk)=>((fun (Z1:Row)=>((fun (Z2:Frm)=>((fun (Z3:Lvl)=>Tr.ite (leI T g) (Tr.reqP (Z2=Z2∧Z3::H=Z3::H) (Tr.reqP ([AV.agg Z1,AV.int .i64 h]=[AV.agg Z1,AV.int .i64 h]) (Tr.ite B (Tr.req (roomO m 1 8) (Tr.req (eqN 0 0) (Tr.req (leN 1 1) (Tr.req (eqN v v) (Tr.req (eqN (addO 0 m) m) (Tr.ok (Ex.normal,[(1,AV.int .i64 h,none),(2,AV.ptr 0 0 0 0,none),(6,AV.int .i64 g,none),(8,AV.slc 0 1 (Nat.succ v) 0 1 (addO m 1) none,none),(9,AV.int .i64 (addI .i64 T (Int.ofNat 1)),none)],{ lock:=false,bs:=[Z0,(Nat.succ v,Blk.row (Row.M [Seg.arr .i64 (appO (shO y 0) m (lstO [T])) (addO m 1)])),(0,Blk.row Z1),(q,Blk.dead),(0,Blk.row (Row.I .i64 [T]))] } :: H))))))) (Tr.ok (Ex.normal,[(1,AV.int .i64 h,none),(2,AV.ptr 0 0 0 0,none),(6,AV.int .i64 g,none),(8,AV.slc 0 1 v 0 1 m none,none),(9,AV.int .i64 (addI .i64 T (Int.ofNat 1)),none)],{ lock:=false,bs:=[Z0,(v,Blk.row (Row.M [Seg.arr .i64 y m])),(0,Blk.row Z1),(q,Blk.dead)] } :: H))))) (Tr.ok (Ex.exit 2,[(1,AV.int .i64 h,none),(2,AV.ptr 0 0 0 0,none),(6,AV.int .i64 g,none),(8,AV.slc 0 1 v 0 1 m none,none),(9,AV.int .i64 T,none),(36,AV.bool false,some 1)],{ lock:=false,bs:=[Z0,(v,Blk.row (Row.M [Seg.arr .i64 y m]))] } :: H))) { lock:=false,bs:=[Z0,(v,Blk.row (Row.M [Seg.arr .i64 y m])),(0,Blk.row (Row.G [AV.slcT none (Row.M [Seg.arr .i64 t l]) 1 l false,AV.nils]))] })) [(1,AV.int .i64 h),(2,AV.ptr 0 0 0 0),(6,AV.int .i64 g),(8,AV.slc 0 1 v 0 1 m none),(9,AV.int .i64 T),(10,AV.ptr 0 2 0 0),(11,AV.int .i64 (Int.ofNat 0))])) (Row.G [AV.slcT none (Row.M [Seg.arr .i64 t l]) 1 l false,AV.slcT none (Row.M [Seg.arr .i64 z (Nat.succ q)]) 1 (Nat.succ q) false]))) (0,Blk.row (Row.G [AV.slcT none (Row.M [Seg.arr .i64 t l]) 1 l false,AV.slcT none (Row.M [Seg.arr .i64 d k]) 1 k false])):=by kernel_rfl
theorem t42xb (n l k:Nat) (t d:Nat→Int) (v m:Nat) (y:Nat→Int) (h g T:Int) (H:Heap):execT (cxD n 42 73) (il noCt n 0) (stopB noBT 4) noRT (part Try.f42 [1,1,1,1,1,0,1,0,0]) (hints (fr42 h g (.slc 0 1 v 0 1 m none) T)) (⟨false,[bxS l t k d,(v,.row (.M [.arr .i64 y m]))]⟩::H) =
 Tr.ite (leI T g) Tr.bad (Tr.ok (Ex.exit 2,[(1,AV.int .i64 h,none),(2,AV.ptr 0 0 0 0,none),(6,AV.int .i64 g,none),(8,AV.slc 0 1 v 0 1 m none,none),(9,AV.int .i64 T,none),(36,AV.bool false,some 1)],{ lock:=false,bs:=[(0,Blk.row (Row.G [AV.slcT none (Row.M [Seg.arr .i64 t l]) 1 l false,AV.slcT none (Row.M [Seg.arr .i64 d k]) 1 k false])),(v,Blk.row (Row.M [Seg.arr .i64 y m]))] } :: H)):=by kernel_rfl
theorem u42b (n l k:Nat) (t d:Nat→Int) (v m:Nat) (y:Nat→Int) (h g T:Int) (H:Heap):bodyT Try.prog (cd n) 100000 42 Try.f42 (KtL.kt 42) (il (tX noCt 28 [shA l t k d,.int .i64 h] (.int .i64 0)) n 0) (blkE (blkE noBT 2 (fr42 h g .nils 1) (lvO0 l t k d::H) (.ok (.normal,hints (fr42 h g (.slc 0 1 v 0 1 m none) T++[(36,.bool false)]),⟨false,[bxS l t k d,(v,.row (.M [.arr .i64 y m]))]⟩::H))) 0 (fr42g h 0 0) (lvO0 l t k d::H) (.ok (.normal,hints (fr42g h g (Int.ofNat k)++[(24,.bool false)]),lvO0 l t k d::H))) noRT [(shA l t k d,none),(.int .i64 h,none)] H =
 (fun (Z0:Row)=>((fun (Z1:Lvl)=>((fun (Z2:Frm)=>((fun (Z3:Frm)=>Tr.reqP ([AV.agg Z0,AV.int .i64 h]=[AV.agg Z0,AV.int .i64 h]) (Tr.ite (notB (eqI (Int.ofNat 0) (Int.ofNat 0))) (Tr.reqP ([AV.agg Z0,AV.int .i64 h]=[AV.agg Z0,AV.int .i64 h]) (Tr.ok ((AV.tup [AV.nils,AV.int .i64 (Int.ofNat 0)],none),H))) (Tr.reqP (Z3=Z3∧Z1::H=Z1::H) (Tr.reqP (Z2=Z2∧Z1::H=Z1::H) (Tr.req (eqN v v) (Tr.req (inO 0 m 0 m) (Tr.ok ((AV.tup [AV.slcT none (Row.M [Seg.arr .i64 (shO y 0) m]) 1 m false,AV.int .i64 (Int.ofNat 0)],none),H)))))))) [(1,AV.int .i64 h),(2,AV.ptr 0 0 0 0),(6,AV.int .i64 (Int.ofNat 0)),(7,AV.int .i64 (Int.ofNat 0))])) [(1,AV.int .i64 h),(2,AV.ptr 0 0 0 0),(6,AV.int .i64 g),(8,AV.nils),(9,AV.int .i64 (Int.ofNat 1))])) { lock:=false,bs:=[(0,Blk.row Z0)] })) (Row.G [AV.slcT none (Row.M [Seg.arr .i64 t l]) 1 l false,AV.slcT none (Row.M [Seg.arr .i64 d k]) 1 k false]):=by kernel_rfl
theorem b78:∀ b,(0,b) ∈ blocksOf (bodyOf Try.f78)→b=.loop (part Try.f78 [1,1,1,0,1,0,0]):=by
 have:((blocksOf (bodyOf Try.f78)).filter fun x=>Nat.beq x.1 0)=[(0,.loop (part Try.f78 [1,1,1,0,1,0,0]))]:=by kernel_rfl
 intro b hb
 have hm:(0,b) ∈ ((blocksOf (bodyOf Try.f78)).filter fun x=>Nat.beq x.1 0):=List.mem_filter.2 ⟨hb,rfl⟩
 rw[this] at hm;simpa using hm
theorem b41:∀ b,(0,b) ∈ blocksOf (bodyOf Try.f41)→b=.loop (part Try.f41 [1,1,1,1,0,1,0,0]):=by
 have:((blocksOf (bodyOf Try.f41)).filter fun x=>Nat.beq x.1 0)=[(0,.loop (part Try.f41 [1,1,1,1,0,1,0,0]))]:=by kernel_rfl
 intro b hb
 have hm:(0,b) ∈ ((blocksOf (bodyOf Try.f41)).filter fun x=>Nat.beq x.1 0):=List.mem_filter.2 ⟨hb,rfl⟩
 rw[this] at hm;simpa using hm
theorem b42g:∀ b,(0,b) ∈ blocksOf (bodyOf Try.f42)→b=.loop (part Try.f42 [1,1,1,0,1,0,0]):=by
 have:((blocksOf (bodyOf Try.f42)).filter fun x=>Nat.beq x.1 0)=[(0,.loop (part Try.f42 [1,1,1,0,1,0,0]))]:=by kernel_rfl
 intro b hb
 have hm:(0,b) ∈ ((blocksOf (bodyOf Try.f42)).filter fun x=>Nat.beq x.1 0):=List.mem_filter.2 ⟨hb,rfl⟩
 rw[this] at hm;simpa using hm
theorem b42:∀ b,(2,b) ∈ blocksOf (bodyOf Try.f42)→b=.loop (part Try.f42 [1,1,1,1,1,0,1,0,0]):=by
 have:((blocksOf (bodyOf Try.f42)).filter fun x=>Nat.beq x.1 2)=[(2,.loop (part Try.f42 [1,1,1,1,1,0,1,0,0]))]:=by kernel_rfl
 intro b hb
 have hm:(2,b) ∈ ((blocksOf (bodyOf Try.f42)).filter fun x=>Nat.beq x.1 2):=List.mem_filter.2 ⟨hb,rfl⟩
 rw[this] at hm;simpa using hm
theorem b42i:∀ b,(4,b) ∈ blocksOf (part Try.f42 [1,1,1,1,1,0,1,0,0])→b=.loop (part Try.f42 [1,1,1,1,1,0,1,0,0,1,0,0,1,0,1,0,0]):=by
 have:((blocksOf (part Try.f42 [1,1,1,1,1,0,1,0,0])).filter fun x=>Nat.beq x.1 4)=[(4,.loop (part Try.f42 [1,1,1,1,1,0,1,0,0,1,0,0,1,0,1,0,0]))]:=by kernel_rfl
 intro b hb
 have hm:(4,b) ∈ ((blocksOf (part Try.f42 [1,1,1,1,1,0,1,0,0])).filter fun x=>Nat.beq x.1 4):=List.mem_filter.2 ⟨hb,rfl⟩
 rw[this] at hm;simpa using hm
def rsV (d:Nat→Int) (T:Int):Nat→Int:=fun i=>if T≤d i then d i-1 else d i
def rsB (l:Nat) (t d:Nat→Int) (h:Int) (T:Nat):Bool:=canB l t (rsV d (T:Nat)) h
def rsL (p:Nat→Bool):Nat→List Int
 | 0=>[]
 | j+1=>if p (j+1)=true then rsL p j++[((j+1:Nat):Int)] else rsL p j
theorem rsL_len (p:Nat→Bool):∀ j,(rsL p j).length≤j
 | 0=>Nat.le_refl _
 | j+1=>by
   have:=rsL_len p j
   unfold rsL
   split
   · simp;omega
   · omega
def mxF (d:Nat→Int):Nat→Int
 | 0=>d 0
 | j+1=>max (mxF d j) (d (j+1))
def mx0 (d:Nat→Int):Nat→Int
 | 0=>0
 | j+1=>max (mx0 d j) (d j)
theorem mx0_eq (d:Nat→Int) (h:0≤d 0):∀ j,mx0 d (j+1)=mxF d j
 | 0=>by show max 0 (d 0)=d 0;omega
 | j+1=>by show max (mx0 d (j+1)) (d (j+1))=max (mxF d j) (d (j+1));rw[mx0_eq d h j]
theorem mxF_le (d:Nat→Int) (M:Int):∀ j,(∀ i,i≤j→d i≤M)→mxF d j≤M
 | 0,h=>h 0 (Nat.le_refl _)
 | j+1,h=>by
   have:=mxF_le d M j (fun i hi=>h i (by omega))
   have:=h (j+1) (Nat.le_refl _)
   show max (mxF d j) (d (j+1))≤M
   omega
theorem mxF_ge (d:Nat→Int):∀ j i,i≤j→d i≤mxF d j
 | 0,i,h=>by
   obtain rfl:i=0:=by omega
   exact Int.le_refl _
 | j+1,i,h=>by
   show d i≤max (mxF d j) (d (j+1))
   by_cases e:i=j+1
   · subst e;omega
   · have:=mxF_ge d j i (by omega);omega
noncomputable def oQ:List Int→AV
 | []=>.nils
 | a::r=>.slc 0 1 r.length 0 1 (r.length+1) none
noncomputable def lvQ (l:Nat) (t:Nat→Int) (k:Nat) (d:Nat→Int):List Int→Lvl
 | []=>⟨false,[bxS l t k d]⟩
 | a::r=>⟨false,[bxS l t k d,(r.length,.row (.M [.arr .i64 (lstO (a::r)) (r.length+1)]))]⟩
noncomputable def oR:List Int→AV
 | []=>.nils
 | a::r=>.slc 0 3 r.length 0 1 (r.length+1) none
noncomputable def lvR (l:Nat) (t:Nat→Int) (k:Nat) (d:Nat→Int) (x T:Int):List Int→Lvl
 | []=>lv41b l t k d x T
 | a::r=>lv41c l t k d x T r.length (r.length+1) (lstO (a::r))
theorem app_cons (a:Int) (r:List Int) (T:Int):appO (shO (lstO (a::r)) 0) (r.length+1) (lstO [T])=lstO (a::(r++[T])):=by
 have:=lst_app (a::r) T
 simpa using this
section
variable (n l k:Nat) (t d:Nat→Int) (H:Heap) (h:Int)
theorem c79u (i e T:Int) (L:Lvl) (b0:Nat×Blk) (bs:List (Nat×Blk)):cd (n+1) (.fn 79) [.int .i64 i,.int .i64 e,.ptr 1 1 0 0] (L::⟨false,b0::cel T::bs⟩::H)=some (.int .i64 (if T≤e then subI .i64 e (Int.ofNat 1) else e),L::⟨false,b0::cel T::bs⟩::H):=by
 refine fn_all (n:=n) Try.func79 rfl rfl rfl (u79 n i e T L b0 bs H) (il_no0 _) (noBT_ok _ _) (noRT_ok _ _) ?_
 by_cases c:T≤e
 · rw[if_pos c]
   repeat' first | (refine Tr.all_ite (fun hc=>?_) (fun hc=>?_)<;>(try simp (disch:=omega) only[nV,nW] at hc)<;>try omega) | (refine Tr.all_req ?_ ?_;· (try simp (disch:=omega) only[nV,nW]);try omega) | (refine Tr.all_reqP ?_ ?_;· first | exact trivial | rfl | exact ⟨rfl,rfl⟩ | exact ⟨rfl,rfl,rfl⟩ | (simp (disch:=omega) only[nV,nW];done) | ((try simp (disch:=omega) only[nV,nW]);omega)) | fail
   all_goals first
    | exact Tr.all_ok ⟨rfl,rfl⟩
    | fail
 · rw[if_neg c]
   repeat' first | (refine Tr.all_ite (fun hc=>?_) (fun hc=>?_)<;>(try simp (disch:=omega) only[nV,nW] at hc)<;>try omega) | (refine Tr.all_req ?_ ?_;· (try simp (disch:=omega) only[nV,nW]);try omega) | (refine Tr.all_reqP ?_ ?_;· first | exact trivial | rfl | exact ⟨rfl,rfl⟩ | exact ⟨rfl,rfl,rfl⟩ | (simp (disch:=omega) only[nV,nW];done) | ((try simp (disch:=omega) only[nV,nW]);omega)) | fail
   all_goals first
    | exact Tr.all_ok ⟨rfl,rfl⟩
    | fail
theorem c79c (i e T:Int) (L:Lvl) (b0 b1:Nat×Blk) (bs:List (Nat×Blk)):cd (n+1) (.fn 79) [.int .i64 i,.int .i64 e,.ptr 1 2 0 0] (L::⟨false,b0::b1::cel T::bs⟩::H)=some (.int .i64 (if T≤e then subI .i64 e (Int.ofNat 1) else e),L::⟨false,b0::b1::cel T::bs⟩::H):=by
 refine fn_all (n:=n) Try.func79 rfl rfl rfl (u79c n i e T L b0 b1 bs H) (il_no0 _) (noBT_ok _ _) (noRT_ok _ _) ?_
 by_cases c:T≤e
 · rw[if_pos c]
   repeat' first | (refine Tr.all_ite (fun hc=>?_) (fun hc=>?_)<;>(try simp (disch:=omega) only[nV,nW] at hc)<;>try omega) | (refine Tr.all_req ?_ ?_;· (try simp (disch:=omega) only[nV,nW]);try omega) | (refine Tr.all_reqP ?_ ?_;· first | exact trivial | rfl | exact ⟨rfl,rfl⟩ | exact ⟨rfl,rfl,rfl⟩ | (simp (disch:=omega) only[nV,nW];done) | ((try simp (disch:=omega) only[nV,nW]);omega)) | fail
   all_goals first
    | exact Tr.all_ok ⟨rfl,rfl⟩
    | fail
 · rw[if_neg c]
   repeat' first | (refine Tr.all_ite (fun hc=>?_) (fun hc=>?_)<;>(try simp (disch:=omega) only[nV,nW] at hc)<;>try omega) | (refine Tr.all_req ?_ ?_;· (try simp (disch:=omega) only[nV,nW]);try omega) | (refine Tr.all_reqP ?_ ?_;· first | exact trivial | rfl | exact ⟨rfl,rfl⟩ | exact ⟨rfl,rfl,rfl⟩ | (simp (disch:=omega) only[nV,nW];done) | ((try simp (disch:=omega) only[nV,nW]);omega)) | fail
   all_goals first
    | exact Tr.all_ok ⟨rfl,rfl⟩
    | fail
theorem faN_congr {z z':Nat→Int} {k:Nat} (he:∀ i,i<k→z i=z' i):faN z k=faN z' k:=by
 unfold faN
 exact List.map_congr_left (fun i hi=>he i (by simpa using hi))
theorem c74R (s c:Nat) (e:Nat→Int) (T:Int) (h0:0<k) (hk:k≤1000) (hd:Bd k d) (hP:∀ i e L,cd n (.fn 79) [.int .i64 i,.int .i64 e,.ptr 1 c 0 0] (L::H)=some (.int .i64 (if T≤e then subI .i64 e (Int.ofNat 1) else e),L::H)):cd (n+1) (.fn 74) [tbA s l t k d e,.fn (.func 79) [] [.ptr 0 c 0 0]] H=some (sl1 k (lstO (faN (rsV d T) k)) false,H):=by
 rw[c74C n s l k c t d e (fun i e=>if T≤e then subI .i64 e (Int.ofNat 1) else e) H h0 hk hP,faN_congr (z':=rsV d T) (fun i hi=>by
  have:=hd i hi
  show (if T≤d i then subI .i64 (d i) (Int.ofNat 1) else d i)=if T≤d i then d i-1 else d i
  rw[show subI .i64 (d i) (Int.ofNat 1)=d i-1 from sb64 (by show _≤d i-1;omega) (by show d i-1≤_;omega)])]
theorem ex_offP {n f nt:Nat} {c:Code} {callR:CallTr} {bl:BlkT} {rg:RgT} {fr:Frm} {H:Heap} {p:Prop} {b:Bool} {A:Tr Res} {y:Res} (e:execT (cxD n f nt) callR bl rg c (hints fr) H=.reqP p (.ite b A (.ok y))) (hC:callR.Ok (cd n)) (hB:bl.Ok (cxD n f nt) c) (hR:rg.Ok (cxD n f nt) c) (hp:p) (hb:b=false):exec (cxD n f nt) c fr H=some y.st:=by
 obtain ⟨x,h1,rfl⟩:=ex_all (Q:=fun x=>x=y.st) e hC hB hR (Tr.all_reqP hp (Tr.all_ite (fun h=>by rw[hb] at h;cases h) (fun _=>Tr.all_ok rfl)))
 exact h1
theorem c78 (h0:0<k) (hk:k≤1000):cd (n+1) (.fn 78) [sl1 k d false] H=some (.int .i64 (mxF d (k-1)),H):=by
 obtain ⟨q,rfl⟩:∃ q,k=q+1:=⟨k-1,by omega⟩
 have hx:=forX (n:=n) (f:=78) (nt:=25) (c:=part Try.f78 [1,1,1,0,1,0,0]) 0 (fun j=>fr78 (q+1) d (mxF d j) ((j+1:Nat):Int)) (fun _=>lvE::H) q (fr78 (q+1) d (mxF d q) (Int.ofNat (q+1))++[(15,.bool false)],lvE::H) (by omega) (fun j hj=>?_) ?_
 · refine fn_all (n:=n) Try.func78 rfl rfl rfl (u78 n (q+1) d (mxF d q) H) (il_no0 _) (blkE_ok (noBT_ok _ _) b78 (fun x hy=>blk_ok hy hx)) (noRT_ok _ _) ?_
   rw[show q+1-1=q from rfl]
   generalize mxF d q=M at *
   repeat' first | (refine Tr.all_ite (fun hc=>?_) (fun hc=>?_)<;>(try simp (disch:=omega) only[nV,nW] at hc)<;>try omega) | (refine Tr.all_req ?_ ?_;· (try simp (disch:=omega) only[nV,nW]);try omega) | (refine Tr.all_reqP ?_ ?_;· first | exact trivial | rfl | exact ⟨rfl,rfl⟩ | exact ⟨rfl,rfl,rfl⟩ | (simp (disch:=omega) only[nV,nW];done) | ((try simp (disch:=omega) only[nV,nW]);omega)) | fail
   all_goals first
    | exact Tr.all_ok ⟨rfl,rfl⟩
    | fail
 · refine ex_all (t78 n (q+1) d (mxF d j) ((j+1:Nat):Int) H) (il_no0 n) (noBT_ok _ _) (noRT_ok _ _) ?_
   show Tr.all _ (fun r=>_∧tidy _ _ _=(fr78 (q+1) d (max (mxF d j) (d (j+1))) ((j+1+1:Nat):Int),_))
   rw[cs64 (j:=j+1) (by omega),maxO_max]
   simp only[id1]
   generalize max (mxF d j) (d (j+1))=M at *
   repeat' first | (refine Tr.all_ite (fun hc=>?_) (fun hc=>?_)<;>(try simp (disch:=omega) only[nV,nW] at hc)<;>try omega) | (refine Tr.all_req ?_ ?_;· (try simp (disch:=omega) only[nV,nW]);try omega) | (refine Tr.all_reqP ?_ ?_;· first | exact trivial | rfl | exact ⟨rfl,rfl⟩ | exact ⟨rfl,rfl,rfl⟩ | (simp (disch:=omega) only[nV,nW];done) | ((try simp (disch:=omega) only[nV,nW]);omega)) | fail
   all_goals first
    | exact Tr.all_ok ⟨rfl,rfl⟩
    | fail
 · exact ex_off (t78 n (q+1) d (mxF d q) (Int.ofNat (q+1)) H) (il_no0 n) (noBT_ok _ _) (noRT_ok _ _) (by first | (simp (disch:=omega) only[nV,nW];done) | (simp (disch:=omega) only[nV,nW];omega))
theorem l42ia (g T:Int) (h0:0<k) (hk:k≤1000) (hb:Bd k d):exec (cxD n 42 73) (.block 4 (.loop (part Try.f42 [1,1,1,1,1,0,1,0,0,1,0,0,1,0,1,0,0]))) (fr42i h g .nils T 1 0) (⟨false,[bxS l t k d,(0,.row (.G [sl1 l t false,.nils]))]⟩::H)=some (.normal,fr42i h g .nils T 1 (Int.ofNat k)++[(46,.bool false)],⟨false,[bxS l t k d,(0,.row (.G [sl1 l t false,sl1 k (lstO (faN (rsV d T) k)) false])),(k-1,.dead)]⟩::H):=by
 refine forX (n:=n) (f:=42) (nt:=73) (c:=part Try.f42 [1,1,1,1,1,0,1,0,0,1,0,0,1,0,1,0,0]) 4 (fun j=>fr42i h g .nils T 1 (j:Nat)) (fun j=>(match j with
  | 0=>⟨false,[bxS l t k d,(0,.row (.G [sl1 l t false,.nils]))]⟩
  | q+1=>⟨false,[bxS l t k d,(0,.row (.G [sl1 l t false,.slc 0 2 q 0 1 (q+1) none])),(q,.row (.M [.arr .i64 (lstO (faN (rsV d T) (q+1))) (q+1)]))]⟩:Lvl)::H) k _ (by omega) (fun j hj=>?_) ?_
 · have hd:=hb j hj
   have e1:subI .i64 (d j) (Int.ofNat 1)=d j-1:=sb64 (by show _≤d j-1;omega) (by show d j-1≤_;omega)
   have hw:rsV d T j=if T≤d j then d j-1 else d j:=rfl
   cases j with
   | zero =>
     refine ex_all (t42iaa n l k t d h g T (0:Nat) H) (il_no0 n) (noBT_ok _ _) (noRT_ok _ _) ?_
     show Tr.all _ (fun x=>_∧tidy _ _ _=(fr42i h g .nils T 1 ((0+1:Nat):Int),(⟨false,[bxS l t k d,(0,.row (.G [sl1 l t false,.slc 0 2 0 0 1 1 none])),(0,.row (.M [.arr .i64 (lstO [rsV d T 0]) 1]))]⟩:Lvl)::H))
     rw[cs64 (j:=0) (by omega)]
     simp only[id1,e1]
     rw[hw]
     by_cases e:T≤d 0
     · rw[if_pos e]
       generalize d 0-1=V at *
       repeat' first | (refine Tr.all_ite (fun hc=>?_) (fun hc=>?_)<;>(try simp (disch:=omega) only[nV,nW] at hc)<;>try omega) | (refine Tr.all_req ?_ ?_;· (try simp (disch:=omega) only[nV,nW]);try omega) | (refine Tr.all_reqP ?_ ?_;· first | exact trivial | rfl | exact ⟨rfl,rfl⟩ | exact ⟨rfl,rfl,rfl⟩ | (simp (disch:=omega) only[nV,nW];done) | ((try simp (disch:=omega) only[nV,nW]);omega)) | fail
       all_goals first
        | exact Tr.all_ok ⟨rfl,rfl⟩
        | fail
     · rw[if_neg e]
       generalize d 0-1=V2 at *
       repeat' first | (refine Tr.all_ite (fun hc=>?_) (fun hc=>?_)<;>(try simp (disch:=omega) only[nV,nW] at hc)<;>try omega) | (refine Tr.all_req ?_ ?_;· (try simp (disch:=omega) only[nV,nW]);try omega) | (refine Tr.all_reqP ?_ ?_;· first | exact trivial | rfl | exact ⟨rfl,rfl⟩ | exact ⟨rfl,rfl,rfl⟩ | (simp (disch:=omega) only[nV,nW];done) | ((try simp (disch:=omega) only[nV,nW]);omega)) | fail
       all_goals first
        | exact Tr.all_ok ⟨rfl,rfl⟩
        | fail
   | succ j =>
     refine ex_all (t42iab n l k t d j (j+1) (lstO (faN (rsV d T) (j+1))) h g T (j+1:Nat) H) (il_no0 n) (noBT_ok _ _) (noRT_ok _ _) ?_
     show Tr.all _ (fun x=>_∧tidy _ _ _=(fr42i h g .nils T 1 ((j+1+1:Nat):Int),(⟨false,[bxS l t k d,(0,.row (.G [sl1 l t false,.slc 0 2 (j+1) 0 1 (j+1+1) none])),(j+1,.row (.M [.arr .i64 (lstO (faN (rsV d T) (j+1+1))) (j+1+1)]))]⟩:Lvl)::H))
     have hap:=faN_app (rsV d T) (j+1)
     have ea:addO (j+1) 1=j+1+1:=addO_eq _ _
     rw[cs64 (j:=j+1) (by omega)]
     simp only[id1,e1,ea]
     rw[hw] at hap
     by_cases e:T≤d (j+1)
     · rw[if_pos e] at hap
       generalize d (j+1)-1=V at *
       generalize lstO (faN (rsV d T) (j+1+1))=Y2 at *
       generalize lstO (faN (rsV d T) (j+1))=Y at *
       rw[hap]
       repeat' first | (refine Tr.all_ite (fun hc=>?_) (fun hc=>?_)<;>(try simp (disch:=omega) only[nV,nW] at hc)<;>try omega) | (refine Tr.all_req ?_ ?_;· (try simp (disch:=omega) only[nV,nW]);try omega) | (refine Tr.all_reqP ?_ ?_;· first | exact trivial | rfl | exact ⟨rfl,rfl⟩ | exact ⟨rfl,rfl,rfl⟩ | (simp (disch:=omega) only[nV,nW];done) | ((try simp (disch:=omega) only[nV,nW]);omega)) | fail
       all_goals first
        | exact Tr.all_ok ⟨rfl,rfl⟩
        | fail
     · rw[if_neg e] at hap
       generalize d (j+1)-1=V at *
       generalize lstO (faN (rsV d T) (j+1+1))=Y2 at *
       generalize lstO (faN (rsV d T) (j+1))=Y at *
       rw[hap]
       repeat' first | (refine Tr.all_ite (fun hc=>?_) (fun hc=>?_)<;>(try simp (disch:=omega) only[nV,nW] at hc)<;>try omega) | (refine Tr.all_req ?_ ?_;· (try simp (disch:=omega) only[nV,nW]);try omega) | (refine Tr.all_reqP ?_ ?_;· first | exact trivial | rfl | exact ⟨rfl,rfl⟩ | exact ⟨rfl,rfl,rfl⟩ | (simp (disch:=omega) only[nV,nW];done) | ((try simp (disch:=omega) only[nV,nW]);omega)) | fail
       all_goals first
        | exact Tr.all_ok ⟨rfl,rfl⟩
        | fail
 · obtain ⟨q,rfl⟩:∃ q,k=q+1:=⟨k-1,by omega⟩
   obtain ⟨x,h1,rfl⟩:=ex_all (Q:=fun x=>x=(.exit 4,fr42i h g .nils T 1 (Int.ofNat (q+1))++[(46,.bool false)],(⟨false,[bxS l t (q+1) d,(0,.row (.G [sl1 l t false,sl1 (q+1) (lstO (faN (rsV d T) (q+1))) false])),(q+1-1,.dead)]⟩:Lvl)::H)) (t42iab n l (q+1) t d q (q+1) (lstO (faN (rsV d T) (q+1))) h g T (Int.ofNat (q+1)) H) (il_no0 n) (noBT_ok _ _) (noRT_ok _ _) (by
    rw[shO_zero]
    refine Tr.all_ite (fun hc=>?_) (fun hc=>?_)
    · simp (disch:=omega) only[nV,nW] at hc;omega
    repeat' first | (refine Tr.all_ite (fun hc=>?_) (fun hc=>?_)<;>(try simp (disch:=omega) only[nV,nW] at hc)<;>try omega) | (refine Tr.all_req ?_ ?_;· (try simp (disch:=omega) only[nV,nW]);try omega) | (refine Tr.all_reqP ?_ ?_;· first | exact trivial | rfl | exact ⟨rfl,rfl⟩ | exact ⟨rfl,rfl,rfl⟩ | (simp (disch:=omega) only[nV,nW];done) | ((try simp (disch:=omega) only[nV,nW]);omega)) | fail
    all_goals first
     | exact Tr.all_ok rfl
     | fail)
   exact h1
theorem l42ib (v m:Nat) (y:Nat→Int) (g T:Int) (h0:0<k) (hk:k≤1000) (hb:Bd k d):exec (cxD n 42 73) (.block 4 (.loop (part Try.f42 [1,1,1,1,1,0,1,0,0,1,0,0,1,0,1,0,0]))) (fr42i h g (.slc 0 1 v 0 1 m none) T 2 0) (⟨false,[bxS l t k d,(v,.row (.M [.arr .i64 y m])),(0,.row (.G [sl1 l t false,.nils]))]⟩::H)=some (.normal,fr42i h g (.slc 0 1 v 0 1 m none) T 2 (Int.ofNat k)++[(46,.bool false)],⟨false,[bxS l t k d,(v,.row (.M [.arr .i64 y m])),(0,.row (.G [sl1 l t false,sl1 k (lstO (faN (rsV d T) k)) false])),(k-1,.dead)]⟩::H):=by
 refine forX (n:=n) (f:=42) (nt:=73) (c:=part Try.f42 [1,1,1,1,1,0,1,0,0,1,0,0,1,0,1,0,0]) 4 (fun j=>fr42i h g (.slc 0 1 v 0 1 m none) T 2 (j:Nat)) (fun j=>(match j with
  | 0=>⟨false,[bxS l t k d,(v,.row (.M [.arr .i64 y m])),(0,.row (.G [sl1 l t false,.nils]))]⟩
  | q+1=>⟨false,[bxS l t k d,(v,.row (.M [.arr .i64 y m])),(0,.row (.G [sl1 l t false,.slc 0 3 q 0 1 (q+1) none])),(q,.row (.M [.arr .i64 (lstO (faN (rsV d T) (q+1))) (q+1)]))]⟩:Lvl)::H) k _ (by omega) (fun j hj=>?_) ?_
 · have hd:=hb j hj
   have e1:subI .i64 (d j) (Int.ofNat 1)=d j-1:=sb64 (by show _≤d j-1;omega) (by show d j-1≤_;omega)
   have hw:rsV d T j=if T≤d j then d j-1 else d j:=rfl
   cases j with
   | zero =>
     refine ex_all (t42iba n l k t d v m y h g T (0:Nat) H) (il_no0 n) (noBT_ok _ _) (noRT_ok _ _) ?_
     show Tr.all _ (fun x=>_∧tidy _ _ _=(fr42i h g (.slc 0 1 v 0 1 m none) T 2 ((0+1:Nat):Int),(⟨false,[bxS l t k d,(v,.row (.M [.arr .i64 y m])),(0,.row (.G [sl1 l t false,.slc 0 3 0 0 1 1 none])),(0,.row (.M [.arr .i64 (lstO [rsV d T 0]) 1]))]⟩:Lvl)::H))
     rw[cs64 (j:=0) (by omega)]
     simp only[id1,e1]
     rw[hw]
     by_cases e:T≤d 0
     · rw[if_pos e]
       generalize d 0-1=V at *
       repeat' first | (refine Tr.all_ite (fun hc=>?_) (fun hc=>?_)<;>(try simp (disch:=omega) only[nV,nW] at hc)<;>try omega) | (refine Tr.all_req ?_ ?_;· (try simp (disch:=omega) only[nV,nW]);try omega) | (refine Tr.all_reqP ?_ ?_;· first | exact trivial | rfl | exact ⟨rfl,rfl⟩ | exact ⟨rfl,rfl,rfl⟩ | (simp (disch:=omega) only[nV,nW];done) | ((try simp (disch:=omega) only[nV,nW]);omega)) | fail
       all_goals first
        | exact Tr.all_ok ⟨rfl,rfl⟩
        | fail
     · rw[if_neg e]
       generalize d 0-1=V2 at *
       repeat' first | (refine Tr.all_ite (fun hc=>?_) (fun hc=>?_)<;>(try simp (disch:=omega) only[nV,nW] at hc)<;>try omega) | (refine Tr.all_req ?_ ?_;· (try simp (disch:=omega) only[nV,nW]);try omega) | (refine Tr.all_reqP ?_ ?_;· first | exact trivial | rfl | exact ⟨rfl,rfl⟩ | exact ⟨rfl,rfl,rfl⟩ | (simp (disch:=omega) only[nV,nW];done) | ((try simp (disch:=omega) only[nV,nW]);omega)) | fail
       all_goals first
        | exact Tr.all_ok ⟨rfl,rfl⟩
        | fail
   | succ j =>
     refine ex_all (t42ibb n l k t d v m y j (j+1) (lstO (faN (rsV d T) (j+1))) h g T (j+1:Nat) H) (il_no0 n) (noBT_ok _ _) (noRT_ok _ _) ?_
     show Tr.all _ (fun x=>_∧tidy _ _ _=(fr42i h g (.slc 0 1 v 0 1 m none) T 2 ((j+1+1:Nat):Int),(⟨false,[bxS l t k d,(v,.row (.M [.arr .i64 y m])),(0,.row (.G [sl1 l t false,.slc 0 3 (j+1) 0 1 (j+1+1) none])),(j+1,.row (.M [.arr .i64 (lstO (faN (rsV d T) (j+1+1))) (j+1+1)]))]⟩:Lvl)::H))
     have hap:=faN_app (rsV d T) (j+1)
     have ea:addO (j+1) 1=j+1+1:=addO_eq _ _
     rw[cs64 (j:=j+1) (by omega)]
     simp only[id1,e1,ea]
     rw[hw] at hap
     by_cases e:T≤d (j+1)
     · rw[if_pos e] at hap
       generalize d (j+1)-1=V at *
       generalize lstO (faN (rsV d T) (j+1+1))=Y2 at *
       generalize lstO (faN (rsV d T) (j+1))=Y at *
       rw[hap]
       repeat' first | (refine Tr.all_ite (fun hc=>?_) (fun hc=>?_)<;>(try simp (disch:=omega) only[nV,nW] at hc)<;>try omega) | (refine Tr.all_req ?_ ?_;· (try simp (disch:=omega) only[nV,nW]);try omega) | (refine Tr.all_reqP ?_ ?_;· first | exact trivial | rfl | exact ⟨rfl,rfl⟩ | exact ⟨rfl,rfl,rfl⟩ | (simp (disch:=omega) only[nV,nW];done) | ((try simp (disch:=omega) only[nV,nW]);omega)) | fail
       all_goals first
        | exact Tr.all_ok ⟨rfl,rfl⟩
        | fail
     · rw[if_neg e] at hap
       generalize d (j+1)-1=V at *
       generalize lstO (faN (rsV d T) (j+1+1))=Y2 at *
       generalize lstO (faN (rsV d T) (j+1))=Y at *
       rw[hap]
       repeat' first | (refine Tr.all_ite (fun hc=>?_) (fun hc=>?_)<;>(try simp (disch:=omega) only[nV,nW] at hc)<;>try omega) | (refine Tr.all_req ?_ ?_;· (try simp (disch:=omega) only[nV,nW]);try omega) | (refine Tr.all_reqP ?_ ?_;· first | exact trivial | rfl | exact ⟨rfl,rfl⟩ | exact ⟨rfl,rfl,rfl⟩ | (simp (disch:=omega) only[nV,nW];done) | ((try simp (disch:=omega) only[nV,nW]);omega)) | fail
       all_goals first
        | exact Tr.all_ok ⟨rfl,rfl⟩
        | fail
 · obtain ⟨q,rfl⟩:∃ q,k=q+1:=⟨k-1,by omega⟩
   obtain ⟨x,h1,rfl⟩:=ex_all (Q:=fun x=>x=(.exit 4,fr42i h g (.slc 0 1 v 0 1 m none) T 2 (Int.ofNat (q+1))++[(46,.bool false)],(⟨false,[bxS l t (q+1) d,(v,.row (.M [.arr .i64 y m])),(0,.row (.G [sl1 l t false,sl1 (q+1) (lstO (faN (rsV d T) (q+1))) false])),(q+1-1,.dead)]⟩:Lvl)::H)) (t42ibb n l (q+1) t d v m y q (q+1) (lstO (faN (rsV d T) (q+1))) h g T (Int.ofNat (q+1)) H) (il_no0 n) (noBT_ok _ _) (noRT_ok _ _) (by
    rw[shO_zero]
    refine Tr.all_ite (fun hc=>?_) (fun hc=>?_)
    · simp (disch:=omega) only[nV,nW] at hc;omega
    repeat' first | (refine Tr.all_ite (fun hc=>?_) (fun hc=>?_)<;>(try simp (disch:=omega) only[nV,nW] at hc)<;>try omega) | (refine Tr.all_req ?_ ?_;· (try simp (disch:=omega) only[nV,nW]);try omega) | (refine Tr.all_reqP ?_ ?_;· first | exact trivial | rfl | exact ⟨rfl,rfl⟩ | exact ⟨rfl,rfl,rfl⟩ | (simp (disch:=omega) only[nV,nW];done) | ((try simp (disch:=omega) only[nV,nW]);omega)) | fail
    all_goals first
     | exact Tr.all_ok rfl
     | fail)
   exact h1
theorem bd_rs {l:Nat} {d:Nat→Int} (hb:∀ j,j<l→-800≤d j∧d j≤900) (T:Int):Bd l (rsV d T):=fun j hj=>by
 have:=hb j hj
 show -900≤(if T≤d j then d j-1 else d j)∧(if T≤d j then d j-1 else d j)≤900
 split<;>omega
theorem Sh.bd8 {l k:Nat} {t d:Nat→Int} (h:Sh l t k d):∀ j,j<l→-800≤d j∧d j≤900:=fun j hj=>by
 have:=h.d1 j hj
 have:=h.d40 j hj
 omega
theorem l42g (hk:k≤1000):exec (cxD n 42 73) (.block 0 (.loop (part Try.f42 [1,1,1,0,1,0,0]))) (fr42g h 0 0) (lvO0 l t k d::H)=some (.normal,fr42g h (mx0 d k) (Int.ofNat k)++[(24,.bool false)],lvO0 l t k d::H):=by
 refine forX (n:=n) (f:=42) (nt:=73) (c:=part Try.f42 [1,1,1,0,1,0,0]) 0 (fun j=>fr42g h (mx0 d j) (j:Nat)) (fun _=>lvO0 l t k d::H) k _ (by omega) (fun j hj=>?_) ?_
 · refine ex_all (t42g n l k t d h (mx0 d j) (j:Nat) H) (il_no0 n) (noBT_ok _ _) (noRT_ok _ _) ?_
   show Tr.all _ (fun r=>_∧tidy _ _ _=(fr42g h (max (mx0 d j) (d j)) ((j+1:Nat):Int),_))
   rw[cs64 (j:=j) (by omega),maxO_max]
   simp only[id1]
   generalize max (mx0 d j) (d j)=M at *
   repeat' first | (refine Tr.all_ite (fun hc=>?_) (fun hc=>?_)<;>(try simp (disch:=omega) only[nV,nW] at hc)<;>try omega) | (refine Tr.all_req ?_ ?_;· (try simp (disch:=omega) only[nV,nW]);try omega) | (refine Tr.all_reqP ?_ ?_;· first | exact trivial | rfl | exact ⟨rfl,rfl⟩ | exact ⟨rfl,rfl,rfl⟩ | (simp (disch:=omega) only[nV,nW];done) | ((try simp (disch:=omega) only[nV,nW]);omega)) | fail
   all_goals first
    | exact Tr.all_ok ⟨rfl,rfl⟩
    | fail
 · exact ex_off (t42g n l k t d h (mx0 d k) (Int.ofNat k) H) (il_no0 n) (noBT_ok _ _) (noRT_ok _ _) (by first | (simp (disch:=omega) only[nV,nW];done) | (simp (disch:=omega) only[nV,nW];omega))
theorem hC65 (hs:Sh l t k d) (hh:0≤h∧h≤1000) (T:Nat):∀ H,cd (n+3) (.fn 65) [shA l t k (lstO (faN (rsV d (T:Nat)) k)),.int .i64 h] H=some (.bool (rsB l t d h T),H):=fun H=>by
 have:=hs.l1
 unfold rsB
 rw[← can_fa hs.fw hs.kl]
 exact c65 n l k t _ H h hs.fw (by omega) hs.kl (bd_fa hs.kl (bd_rs hs.bd8 _)) hh
theorem l42 (g:Nat) (hs:Sh l t k d) (hh:0≤h∧h≤1000) (hg:g≤40):exec (cxD (n+3) 42 73) (.block 2 (.loop (part Try.f42 [1,1,1,1,1,0,1,0,0]))) (fr42 h (g:Nat) .nils 1) (lvO0 l t k d::H)=some (.normal,fr42 h (g:Nat) (oQ (rsL (rsB l t d h) g)) ((g+1:Nat):Int)++[(36,.bool false)],lvQ l t k d (rsL (rsB l t d h) g)::H):=by
 have h1:=hs.l1
 have h2:=hs.l30
 have hkl:=hs.kl
 refine forX (n:=n+3) (f:=42) (nt:=73) (c:=part Try.f42 [1,1,1,1,1,0,1,0,0]) 2 (fun j=>fr42 h (g:Nat) (oQ (rsL (rsB l t d h) j)) ((j+1:Nat):Int)) (fun j=>lvQ l t k d (rsL (rsB l t d h) j)::H) g _ (by omega) (fun j hj=>?_) ?_
 · have hC:=hC65 n l k t d h hs hh (j+1)
   have hll:=rsL_len (rsB l t d h) j
   have hr:rsL (rsB l t d h) (j+1)=if rsB l t d h (j+1)=true then rsL (rsB l t d h) j++[((j+1:Nat):Int)] else rsL (rsB l t d h) j:=rfl
   obtain ⟨q,rfl⟩:∃ q,k=q+1:=⟨k-1,by omega⟩
   try dsimp only
   rw[hr]
   generalize rsL (rsB l t d h) j=L at *
   cases L with
   | nil =>
     have hx:=l42ia (n+3) l (q+1) t d H h (g:Nat) ((j+1:Nat):Int) (by omega) (by omega) (by rw[hkl];exact hs.bd)
     refine ex_all (t42a (n+3) l (q+1) t d q (lstO (faN (rsV d ((j+1:Nat):Int)) (q+1))) h (g:Nat) ((j+1:Nat):Int) (rsB l t d h (j+1)) H) (il_ok0 _ (n+3) (tX_ok (noCt_ok _) hC)) (blkE_ok (noBT_ok _ _) b42i (fun x hy=>blk_ok hy hx)) (noRT_ok _ _) ?_
     show Tr.all _ (fun x=>_∧tidy 1 _ _=_)
     rw[cs64 (j:=j+1) (by omega)]
     generalize lstO (faN (rsV d ((j+1:Nat):Int)) (q+1))=Y at *
     generalize rsB l t d h (j+1)=B at *
     cases B with
     | true =>
       simp only[if_true]
       show Tr.all _ (fun x=>_∧tidy 1 _ _=(fr42 h (g:Nat) (.slc 0 1 0 0 1 1 none) ((j+1+1:Nat):Int),(⟨false,[bxS l t (q+1) d,(0,.row (.M [.arr .i64 (lstO [((j+1:Nat):Int)]) 1]))]⟩:Lvl)::H))
       repeat' first | (refine Tr.all_ite (fun hc=>?_) (fun hc=>?_)<;>(try simp (disch:=omega) only[nV,nW] at hc)<;>try omega) | (refine Tr.all_req ?_ ?_;· (try simp (disch:=omega) only[nV,nW]);try omega) | (refine Tr.all_reqP ?_ ?_;· first | exact trivial | rfl | exact ⟨rfl,rfl⟩ | exact ⟨rfl,rfl,rfl⟩ | (simp (disch:=omega) only[nV,nW];done) | ((try simp (disch:=omega) only[nV,nW]);omega)) | fail
       all_goals first
        | exact Tr.all_ok ⟨rfl,rfl⟩
        | fail
     | false =>
       simp only[Bool.false_eq_true,if_false]
       show Tr.all _ (fun x=>_∧tidy 1 _ _=(fr42 h (g:Nat) .nils ((j+1+1:Nat):Int),(⟨false,[bxS l t (q+1) d]⟩:Lvl)::H))
       repeat' first | (refine Tr.all_ite (fun hc=>?_) (fun hc=>?_)<;>(try simp (disch:=omega) only[nV,nW] at hc)<;>try omega) | (refine Tr.all_req ?_ ?_;· (try simp (disch:=omega) only[nV,nW]);try omega) | (refine Tr.all_reqP ?_ ?_;· first | exact trivial | rfl | exact ⟨rfl,rfl⟩ | exact ⟨rfl,rfl,rfl⟩ | (simp (disch:=omega) only[nV,nW];done) | ((try simp (disch:=omega) only[nV,nW]);omega)) | fail
       all_goals first
        | exact Tr.all_ok ⟨rfl,rfl⟩
        | fail
   | cons a r =>
     simp only[List.length_cons] at hll
     have hx:=l42ib (n+3) l (q+1) t d H h r.length (r.length+1) (lstO (a::r)) (g:Nat) ((j+1:Nat):Int) (by omega) (by omega) (by rw[hkl];exact hs.bd)
     refine ex_all (t42b (n+3) l (q+1) t d r.length (r.length+1) (lstO (a::r)) q (lstO (faN (rsV d ((j+1:Nat):Int)) (q+1))) h (g:Nat) ((j+1:Nat):Int) (rsB l t d h (j+1)) H) (il_ok0 _ (n+3) (tX_ok (noCt_ok _) hC)) (blkE_ok (noBT_ok _ _) b42i (fun x hy=>blk_ok hy hx)) (noRT_ok _ _) ?_
     show Tr.all _ (fun x=>_∧tidy 1 _ _=_)
     have hap:=app_cons a r ((j+1:Nat):Int)
     have ea:addO (r.length+1) 1=r.length+1+1:=addO_eq _ _
     rw[cs64 (j:=j+1) (by omega),hap,ea]
     generalize lstO (faN (rsV d ((j+1:Nat):Int)) (q+1))=Y at *
     generalize rsB l t d h (j+1)=B at *
     cases B with
     | true =>
       simp only[if_true,List.cons_append]
       have el:(r++[((j+1:Nat):Int)]).length=r.length+1:=by simp
       show Tr.all _ (fun x=>_∧tidy 1 _ _=(fr42 h (g:Nat) (.slc 0 1 (r++[((j+1:Nat):Int)]).length 0 1 ((r++[((j+1:Nat):Int)]).length+1) none) ((j+1+1:Nat):Int),(⟨false,[bxS l t (q+1) d,((r++[((j+1:Nat):Int)]).length,.row (.M [.arr .i64 (lstO (a::(r++[((j+1:Nat):Int)]))) ((r++[((j+1:Nat):Int)]).length+1)]))]⟩:Lvl)::H))
       rw[el]
       generalize lstO (a::(r++[((j+1:Nat):Int)]))=Z2 at *
       generalize lstO (a::r)=Z at *
       generalize r.length=m at *
       repeat' first | (refine Tr.all_ite (fun hc=>?_) (fun hc=>?_)<;>(try simp (disch:=omega) only[nV,nW] at hc)<;>try omega) | (refine Tr.all_req ?_ ?_;· (try simp (disch:=omega) only[nV,nW]);try omega) | (refine Tr.all_reqP ?_ ?_;· first | exact trivial | rfl | exact ⟨rfl,rfl⟩ | exact ⟨rfl,rfl,rfl⟩ | (simp (disch:=omega) only[nV,nW];done) | ((try simp (disch:=omega) only[nV,nW]);omega)) | fail
       all_goals first
        | exact Tr.all_ok ⟨rfl,rfl⟩
        | fail
     | false =>
       simp only[Bool.false_eq_true,if_false]
       show Tr.all _ (fun x=>_∧tidy 1 _ _=(fr42 h (g:Nat) (.slc 0 1 r.length 0 1 (r.length+1) none) ((j+1+1:Nat):Int),(⟨false,[bxS l t (q+1) d,(r.length,.row (.M [.arr .i64 (lstO (a::r)) (r.length+1)]))]⟩:Lvl)::H))
       generalize lstO (a::(r++[((j+1:Nat):Int)]))=Z2 at *
       generalize lstO (a::r)=Z at *
       generalize r.length=m at *
       repeat' first | (refine Tr.all_ite (fun hc=>?_) (fun hc=>?_)<;>(try simp (disch:=omega) only[nV,nW] at hc)<;>try omega) | (refine Tr.all_req ?_ ?_;· (try simp (disch:=omega) only[nV,nW]);try omega) | (refine Tr.all_reqP ?_ ?_;· first | exact trivial | rfl | exact ⟨rfl,rfl⟩ | exact ⟨rfl,rfl,rfl⟩ | (simp (disch:=omega) only[nV,nW];done) | ((try simp (disch:=omega) only[nV,nW]);omega)) | fail
       all_goals first
        | exact Tr.all_ok ⟨rfl,rfl⟩
        | fail
 · generalize rsL (rsB l t d h) g=L at *
   cases L with
   | nil=>exact ex_off (t42xa (n+3) l k t d h (g:Nat) ((g+1:Nat):Int) H) (il_no0 (n+3)) (stopB_ok (noBT_ok _ _) 4) (noRT_ok _ _) (by first | (simp (disch:=omega) only[nV,nW];done) | (simp (disch:=omega) only[nV,nW];omega))
   | cons a r=>exact ex_off (t42xb (n+3) l k t d r.length (r.length+1) (lstO (a::r)) h (g:Nat) ((g+1:Nat):Int) H) (il_no0 (n+3)) (stopB_ok (noBT_ok _ _) 4) (noRT_ok _ _) (by first | (simp (disch:=omega) only[nV,nW];done) | (simp (disch:=omega) only[nV,nW];omega))
noncomputable def rsA:AV:=if needE l k t d h=0 then .tup [dA (rsL (rsB l t d h) (mxF d (k-1)).toNat),.int .i64 0] else .tup [.nils,.int .i64 (needE l k t d h)]
theorem mx_bd {l k:Nat} {t d:Nat→Int} (hs:Sh l t k d):1≤mxF d (k-1)∧mxF d (k-1)≤40∧mx0 d k=mxF d (k-1):=by
 have h1:=hs.l1
 have hk:=hs.kl
 refine ⟨?_,mxF_le _ _ _ (fun i hi=>hs.d40 i (by omega)),?_⟩
 · have:=mxF_ge d (k-1) 0 (Nat.zero_le _)
   have:=hs.d1 0 (by omega)
   omega
 · obtain ⟨q,rfl⟩:∃ q,k=q+1:=⟨k-1,by omega⟩
   exact mx0_eq d (by have:=hs.d1 0 (by omega);omega) q
theorem c42:cd (n+5) (.fn 42) [shA l t k d,.int .i64 h] H=some (rsA l k t d h,H):=by
 unfold rsA
 by_cases e:needE l k t d h=0
 · rw [if_pos e]
   obtain ⟨e1,e2⟩:=need_of e
   obtain ⟨hs,h1,h2⟩:=ask_of e1
   obtain ⟨m1,m2,m3⟩:=mx_bd hs
   have hkl:=hs.kl
   have hl2:=hs.l30
   have hg:=l42g (n+4) l k t d H h (by omega)
   have hx:=l42 (n+1) l k t d H h (mxF d (k-1)).toNat hs (by omega) (by omega)
   rw[Int.toNat_of_nonneg (by omega)] at hx
   rw[m3] at hg
   have h28:∀ H,cd (n+4) (.fn 28) [shA l t k d,.int .i64 h] H=some (.int .i64 0,H):=fun H=>by rw[c28,e]
   generalize mxF d (k-1)=M at *
   generalize rsL (rsB l t d h) M.toNat=L at *
   cases L with
   | nil =>
     refine fn_all (n:=n+4) Try.func42 rfl rfl rfl (u42a (n+4) l k t d h M ((M.toNat+1:Nat):Int) H) (il_ok0 _ (n+4) (tX_ok (noCt_ok _) h28)) (blkE_ok (blkE_ok (noBT_ok _ _) b42 (fun x hy=>blk_ok hy hx)) b42g (fun x hy=>blk_ok hy hg)) (noRT_ok _ _) ?_
     repeat' first | (refine Tr.all_ite (fun hc=>?_) (fun hc=>?_)<;>(try simp (disch:=omega) only[nV,nW] at hc)<;>try omega) | (refine Tr.all_req ?_ ?_;· (try simp (disch:=omega) only[nV,nW]);try omega) | (refine Tr.all_reqP ?_ ?_;· first | exact trivial | rfl | exact ⟨rfl,rfl⟩ | exact ⟨rfl,rfl,rfl⟩ | (simp (disch:=omega) only[nV,nW];done) | ((try simp (disch:=omega) only[nV,nW]);omega)) | fail
     all_goals first
      | exact Tr.all_ok ⟨rfl,rfl⟩
      | fail
   | cons a r =>
     rw[show dA (a::r)=AV.slcT none (.M [.arr .i64 (lstO (a::r)) (r.length+1)]) 1 (r.length+1) false from rfl]
     refine fn_all (n:=n+4) Try.func42 rfl rfl rfl (u42b (n+4) l k t d r.length (r.length+1) (lstO (a::r)) h M ((M.toNat+1:Nat):Int) H) (il_ok0 _ (n+4) (tX_ok (noCt_ok _) h28)) (blkE_ok (blkE_ok (noBT_ok _ _) b42 (fun x hy=>blk_ok hy hx)) b42g (fun x hy=>blk_ok hy hg)) (noRT_ok _ _) ?_
     rw[shO_zero]
     generalize lstO (a::r)=Z at *
     generalize r.length=m at *
     repeat' first | (refine Tr.all_ite (fun hc=>?_) (fun hc=>?_)<;>(try simp (disch:=omega) only[nV,nW] at hc)<;>try omega) | (refine Tr.all_req ?_ ?_;· (try simp (disch:=omega) only[nV,nW]);try omega) | (refine Tr.all_reqP ?_ ?_;· first | exact trivial | rfl | exact ⟨rfl,rfl⟩ | exact ⟨rfl,rfl,rfl⟩ | (simp (disch:=omega) only[nV,nW];done) | ((try simp (disch:=omega) only[nV,nW]);omega)) | fail
     all_goals first
      | exact Tr.all_ok ⟨rfl,rfl⟩
      | fail
 · rw[if_neg e]
   refine fn_all (n:=n+4) Try.func42 rfl rfl rfl (u42s (n+4) l k t d h (needE l k t d h) H) (il_ok0 _ (n+4) (tX_ok (noCt_ok _) (fun H=>c28 n l k t d H h))) (stopB_ok (noBT_ok _ _) 0) (noRT_ok _ _) ?_
   generalize needE l k t d h=E at *
   repeat' first | (refine Tr.all_ite (fun hc=>?_) (fun hc=>?_)<;>(try simp (disch:=omega) only[nV,nW] at hc)<;>try omega) | (refine Tr.all_req ?_ ?_;· (try simp (disch:=omega) only[nV,nW]);try omega) | (refine Tr.all_reqP ?_ ?_;· first | exact trivial | rfl | exact ⟨rfl,rfl⟩ | exact ⟨rfl,rfl,rfl⟩ | (simp (disch:=omega) only[nV,nW];done) | ((try simp (disch:=omega) only[nV,nW]);omega)) | fail
   all_goals first
    | exact Tr.all_ok ⟨rfl,rfl⟩
    | fail
noncomputable def fr41J (l:Nat) (t:Nat→Int) (k:Nat) (d g:Nat→Int) (h:Int) (L:List Int):Nat→Frm
 | 0=>fr41 l t k d g h .nils 1
 | j+1=>fr41 l t k d g h (oR L) 2
noncomputable def lv41J (l:Nat) (t:Nat→Int) (k:Nat) (d:Nat→Int) (L:List Int):Nat→Lvl
 | 0=>lv41a l t k d 1
 | j+1=>lvR l t k d 1 ((j+2:Nat):Int) L
theorem c69r (hs:Sh l t k d) (hh:0≤h∧h≤1000) (T:Int) (g:Nat→Int):∀ H,cd (n+4) (.fn 69) [tbA 0 l t k d g,sl1 k (lstO (faN (rsV d T) k)) false,.int .i64 h] H=some (.int .i64 (crT l t (lstO (faN (rsV d T) k)) h),H):=fun H =>
 c69 n 0 l k k t d g _ false H h hs.l30 hs.kl hs.tl hs.cyc (bd_fa hs.kl (bd_rs hs.bd8 _)) hh
theorem l41 (g:Nat→Int) (M:Nat) (hs:Sh l t k d) (hh:0≤h∧h≤1000) (hM:mxF d (k-1)=(M:Nat)) (hM1:1≤M∧M≤40):exec (cxD (n+4) 41 41) (.block 0 (.loop (part Try.f41 [1,1,1,1,0,1,0,0]))) (fr41 l t k d g h .nils 1) (lv41a l t k d 1::H)=some (.normal,fr41 l t k d g h (oR (rsL (rsB l t d h) M)) 2++[(24,.bool false)],lvR l t k d 1 ((M+1:Nat):Int) (rsL (rsB l t d h) M)::H):=by
 have h1:=hs.l1
 have h2:=hs.l30
 have hkl:=hs.kl
 have h78:∀ H,cd (n+4) (.fn 78) [sl1 k d false] H=some (.int .i64 (M:Nat),H):=fun H=>by rw[c78 (n+3) k d H (by omega) (by omega),hM]
 have hcr:∀ T:Nat,crT l t (lstO (faN (rsV d (T:Nat)) k)) h<0↔rsB l t d h T=true:=fun T=>by
  unfold rsB
  rw[← can_fa hs.fw hs.kl]
  exact (crT_can _ _ _ _).1
 refine forX (n:=n+4) (f:=41) (nt:=41) (c:=part Try.f41 [1,1,1,1,0,1,0,0]) 0 (fun j=>fr41J l t k d g h (rsL (rsB l t d h) j) j) (fun j=>lv41J l t k d (rsL (rsB l t d h) j) j::H) M _ (by omega) (fun j hj=>?_) ?_
 · have hr:rsL (rsB l t d h) (j+1)=if rsB l t d h (j+1)=true then rsL (rsB l t d h) j++[((j+1:Nat):Int)] else rsL (rsB l t d h) j:=rfl
   have hll:=rsL_len (rsB l t d h) j
   have hq:=hcr (j+1)
   have h69:=c69r n l k t d h hs hh ((j+1:Nat):Int) g
   have hB:Bd k d:=by rw[hkl];exact hs.bd
   cases j with
   | zero =>
     try dsimp only
     rw[hr]
     have h74:cd (n+4) (.fn 74) [tbA 0 l t k d g,.fn (.func 79) [] [.ptr 0 1 0 0]] (lv41a l t k d 1::H)=some (sl1 k (lstO (faN (rsV d ((0+1:Nat):Int)) k)) false,lv41a l t k d 1::H) :=
      c74R (n+3) l k t d _ 0 1 g 1 (by omega) (by omega) hB (fun i e L=>c79u (n+2) H i e 1 L _ [])
     refine ex_all (t41a (n+4) l k t d g (lstO (faN (rsV d ((0+1:Nat):Int)) k)) h 1 (M:Nat) (crT l t (lstO (faN (rsV d ((0+1:Nat):Int)) k)) h) H) (il_ok0 _ (n+4) (tX_ok (ctE_ok (tX_ok (noCt_ok _) h78) (fun x hy=>by rw[← Tr.ok_some hy];exact h74)) h69)) (noBT_ok _ _) (noRT_ok _ _) ?_
     show Tr.all _ (fun x=>_∧tidy 2 _ _=_)
     rw[show addI .i64 1 (Int.ofNat 1)=((2:Nat):Int) from cs64 (j:=1) (by omega)]
     generalize crT l t (lstO (faN (rsV d ((0+1:Nat):Int)) k)) h=C at *
     generalize lstO (faN (rsV d ((0+1:Nat):Int)) k)=Y at *
     generalize rsB l t d h (0+1)=B at *
     cases B with
     | true =>
       have:=hq.2 rfl
       simp only[if_true]
       show Tr.all _ (fun x=>_∧tidy 2 _ _=(fr41 l t k d g h (.slc 0 3 0 0 1 1 none) 2,lv41c l t k d 1 ((2:Nat):Int) 0 1 (lstO [((0+1:Nat):Int)])::H))
       repeat' first | (refine Tr.all_ite (fun hc=>?_) (fun hc=>?_)<;>(try simp (disch:=omega) only[nV,nW] at hc)<;>try omega) | (refine Tr.all_req ?_ ?_;· (try simp (disch:=omega) only[nV,nW]);try omega) | (refine Tr.all_reqP ?_ ?_;· first | exact trivial | rfl | exact ⟨rfl,rfl⟩ | exact ⟨rfl,rfl,rfl⟩ | (simp (disch:=omega) only[nV,nW];done) | ((try simp (disch:=omega) only[nV,nW]);omega)) | fail
       all_goals first
        | exact Tr.all_ok ⟨rfl,rfl⟩
        | fail
     | false =>
       have:¬ C<0:=fun c=>by have:=hq.1 c;cases this
       simp only[Bool.false_eq_true,if_false]
       show Tr.all _ (fun x=>_∧tidy 2 _ _=(fr41 l t k d g h .nils 2,lv41b l t k d 1 ((2:Nat):Int)::H))
       repeat' first | (refine Tr.all_ite (fun hc=>?_) (fun hc=>?_)<;>(try simp (disch:=omega) only[nV,nW] at hc)<;>try omega) | (refine Tr.all_req ?_ ?_;· (try simp (disch:=omega) only[nV,nW]);try omega) | (refine Tr.all_reqP ?_ ?_;· first | exact trivial | rfl | exact ⟨rfl,rfl⟩ | exact ⟨rfl,rfl,rfl⟩ | (simp (disch:=omega) only[nV,nW];done) | ((try simp (disch:=omega) only[nV,nW]);omega)) | fail
       all_goals first
        | exact Tr.all_ok ⟨rfl,rfl⟩
        | fail
   | succ j =>
     try dsimp only
     rw[hr]
     have e2:((j+1+1:Nat):Int)=((j+2:Nat):Int):=rfl
     generalize rsL (rsB l t d h) (j+1)=L at *
     cases L with
     | nil =>
       have h74:cd (n+4) (.fn 74) [tbA 0 l t k d g,.fn (.func 79) [] [.ptr 0 2 0 0]] (lv41b l t k d 1 ((j+2:Nat):Int)::H)=some (sl1 k (lstO (faN (rsV d ((j+1+1:Nat):Int)) k)) false,lv41b l t k d 1 ((j+2:Nat):Int)::H) :=
        c74R (n+3) l k t d _ 0 2 g ((j+2:Nat):Int) (by omega) (by omega) hB (fun i e L=>c79c (n+2) H i e ((j+2:Nat):Int) L _ _ [])
       refine ex_all (t41b (n+4) l k t d g (lstO (faN (rsV d ((j+1+1:Nat):Int)) k)) 1 h ((j+2:Nat):Int) (M:Nat) (crT l t (lstO (faN (rsV d ((j+1+1:Nat):Int)) k)) h) H) (il_ok0 _ (n+4) (tX_ok (ctE_ok (tX_ok (noCt_ok _) h78) (fun x hy=>by rw[← Tr.ok_some hy];exact h74)) h69)) (noBT_ok _ _) (noRT_ok _ _) ?_
       show Tr.all _ (fun x=>_∧tidy 2 _ _=_)
       rw[cs64 (j:=j+2) (by omega)]
       generalize crT l t (lstO (faN (rsV d ((j+1+1:Nat):Int)) k)) h=C at *
       generalize lstO (faN (rsV d ((j+1+1:Nat):Int)) k)=Y at *
       generalize rsB l t d h (j+1+1)=B at *
       cases B with
       | true =>
         have:=hq.2 rfl
         simp only[if_true]
         show Tr.all _ (fun x=>_∧tidy 2 _ _=(fr41 l t k d g h (.slc 0 3 0 0 1 1 none) 2,lv41c l t k d 1 ((j+2+1:Nat):Int) 0 1 (lstO [((j+2:Nat):Int)])::H))
         repeat' first | (refine Tr.all_ite (fun hc=>?_) (fun hc=>?_)<;>(try simp (disch:=omega) only[nV,nW] at hc)<;>try omega) | (refine Tr.all_req ?_ ?_;· (try simp (disch:=omega) only[nV,nW]);try omega) | (refine Tr.all_reqP ?_ ?_;· first | exact trivial | rfl | exact ⟨rfl,rfl⟩ | exact ⟨rfl,rfl,rfl⟩ | (simp (disch:=omega) only[nV,nW];done) | ((try simp (disch:=omega) only[nV,nW]);omega)) | fail
         all_goals first
          | exact Tr.all_ok ⟨rfl,rfl⟩
          | fail
       | false =>
         have:¬ C<0:=fun c=>by have:=hq.1 c;cases this
         simp only[Bool.false_eq_true,if_false]
         show Tr.all _ (fun x=>_∧tidy 2 _ _=(fr41 l t k d g h .nils 2,lv41b l t k d 1 ((j+2+1:Nat):Int)::H))
         repeat' first | (refine Tr.all_ite (fun hc=>?_) (fun hc=>?_)<;>(try simp (disch:=omega) only[nV,nW] at hc)<;>try omega) | (refine Tr.all_req ?_ ?_;· (try simp (disch:=omega) only[nV,nW]);try omega) | (refine Tr.all_reqP ?_ ?_;· first | exact trivial | rfl | exact ⟨rfl,rfl⟩ | exact ⟨rfl,rfl,rfl⟩ | (simp (disch:=omega) only[nV,nW];done) | ((try simp (disch:=omega) only[nV,nW]);omega)) | fail
         all_goals first
          | exact Tr.all_ok ⟨rfl,rfl⟩
          | fail
     | cons a r =>
       simp only[List.length_cons] at hll
       have h74:cd (n+4) (.fn 74) [tbA 0 l t k d g,.fn (.func 79) [] [.ptr 0 2 0 0]] (lv41c l t k d 1 ((j+2:Nat):Int) r.length (r.length+1) (lstO (a::r))::H)=some (sl1 k (lstO (faN (rsV d ((j+1+1:Nat):Int)) k)) false,lv41c l t k d 1 ((j+2:Nat):Int) r.length (r.length+1) (lstO (a::r))::H) :=
        c74R (n+3) l k t d _ 0 2 g ((j+2:Nat):Int) (by omega) (by omega) hB (fun i e L=>c79c (n+2) H i e ((j+2:Nat):Int) L _ _ _)
       refine ex_all (t41c (n+4) l k t d g (lstO (faN (rsV d ((j+1+1:Nat):Int)) k)) 1 r.length (r.length+1) (lstO (a::r)) h ((j+2:Nat):Int) (M:Nat) (crT l t (lstO (faN (rsV d ((j+1+1:Nat):Int)) k)) h) H) (il_ok0 _ (n+4) (tX_ok (ctE_ok (tX_ok (noCt_ok _) h78) (fun x hy=>by rw[← Tr.ok_some hy];exact h74)) h69)) (noBT_ok _ _) (noRT_ok _ _) ?_
       show Tr.all _ (fun x=>_∧tidy 2 _ _=_)
       have hap:=app_cons a r ((j+2:Nat):Int)
       have ea:addO (r.length+1) 1=r.length+1+1:=addO_eq _ _
       rw[cs64 (j:=j+2) (by omega),hap,ea]
       generalize crT l t (lstO (faN (rsV d ((j+1+1:Nat):Int)) k)) h=C at *
       generalize lstO (faN (rsV d ((j+1+1:Nat):Int)) k)=Y at *
       generalize rsB l t d h (j+1+1)=B at *
       cases B with
       | true =>
         have:=hq.2 rfl
         simp only[if_true,List.cons_append]
         have el:(r++[((j+2:Nat):Int)]).length=r.length+1:=by simp
         show Tr.all _ (fun x=>_∧tidy 2 _ _=(fr41 l t k d g h (.slc 0 3 (r++[((j+2:Nat):Int)]).length 0 1 ((r++[((j+2:Nat):Int)]).length+1) none) 2,lv41c l t k d 1 ((j+2+1:Nat):Int) (r++[((j+2:Nat):Int)]).length ((r++[((j+2:Nat):Int)]).length+1) (lstO (a::(r++[((j+2:Nat):Int)])))::H))
         rw[el]
         generalize lstO (a::(r++[((j+2:Nat):Int)]))=Z2 at *
         generalize lstO (a::r)=Z at *
         generalize r.length=m at *
         repeat' first | (refine Tr.all_ite (fun hc=>?_) (fun hc=>?_)<;>(try simp (disch:=omega) only[nV,nW] at hc)<;>try omega) | (refine Tr.all_req ?_ ?_;· (try simp (disch:=omega) only[nV,nW]);try omega) | (refine Tr.all_reqP ?_ ?_;· first | exact trivial | rfl | exact ⟨rfl,rfl⟩ | exact ⟨rfl,rfl,rfl⟩ | (simp (disch:=omega) only[nV,nW];done) | ((try simp (disch:=omega) only[nV,nW]);omega)) | fail
         all_goals first
          | exact Tr.all_ok ⟨rfl,rfl⟩
          | fail
       | false =>
         have:¬ C<0:=fun c=>by have:=hq.1 c;cases this
         simp only[Bool.false_eq_true,if_false]
         show Tr.all _ (fun x=>_∧tidy 2 _ _=(fr41 l t k d g h (.slc 0 3 r.length 0 1 (r.length+1) none) 2,lv41c l t k d 1 ((j+2+1:Nat):Int) r.length (r.length+1) (lstO (a::r))::H))
         generalize lstO (a::(r++[((j+2:Nat):Int)]))=Z2 at *
         generalize lstO (a::r)=Z at *
         generalize r.length=m at *
         repeat' first | (refine Tr.all_ite (fun hc=>?_) (fun hc=>?_)<;>(try simp (disch:=omega) only[nV,nW] at hc)<;>try omega) | (refine Tr.all_req ?_ ?_;· (try simp (disch:=omega) only[nV,nW]);try omega) | (refine Tr.all_reqP ?_ ?_;· first | exact trivial | rfl | exact ⟨rfl,rfl⟩ | exact ⟨rfl,rfl,rfl⟩ | (simp (disch:=omega) only[nV,nW];done) | ((try simp (disch:=omega) only[nV,nW]);omega)) | fail
         all_goals first
          | exact Tr.all_ok ⟨rfl,rfl⟩
          | fail
 · obtain ⟨j,rfl⟩:∃ j,M=j+1:=⟨M-1,by omega⟩
   try dsimp only
   generalize rsL (rsB l t d h) (j+1)=L at *
   cases L with
   | nil=>exact ex_offP (t41xb (n+4) l k t d g 1 h ((j+2:Nat):Int) ((j+1:Nat):Int) H) (il_ok0 _ (n+4) (tN_ok (tX_ok (noCt_ok _) h78))) (noBT_ok _ _) (noRT_ok _ _) rfl (by first | (simp (disch:=omega) only[nV,nW];done) | (simp (disch:=omega) only[nV,nW];omega))
   | cons a r=>exact ex_offP (t41xc (n+4) l k t d g 1 r.length (r.length+1) (lstO (a::r)) h ((j+2:Nat):Int) ((j+1:Nat):Int) H) (il_ok0 _ (n+4) (tN_ok (tX_ok (noCt_ok _) h78))) (noBT_ok _ _) (noRT_ok _ _) rfl (by first | (simp (disch:=omega) only[nV,nW];done) | (simp (disch:=omega) only[nV,nW];omega))
theorem c41:cd (n+12) (.fn 41) [shA l t k d,.int .i64 h] H=some (rsA l k t d h,H):=by
 unfold rsA
 by_cases e:needE l k t d h=0
 · rw [if_pos e]
   obtain ⟨e1,e2⟩:=need_of e
   obtain ⟨hs,h1,h2⟩:=ask_of e1
   obtain ⟨m1,m2,m3⟩:=mx_bd hs
   have hx:=l41 (n+7) l k t d H h (ldF t l) (mxF d (k-1)).toNat hs (by omega) (by omega) (by omega)
   have h61:∀ H,cd (n+11) (.fn 61) [shA l t k d,.int .i64 h,.int .i64 0] H=some (.tup [tbA 0 l t k d (ldF t l),.int .i64 0],H):=fun H=>c61y n l k t d H h e
   generalize mxF d (k-1)=M at *
   generalize rsL (rsB l t d h) M.toNat=L at *
   generalize ldF t l=g at *
   cases L with
   | nil =>
     refine fn_all (n:=n+11) Try.func41 rfl rfl rfl (u41b (n+11) l k t d g 1 h ((M.toNat+1:Nat):Int) H) (il_ok0 _ (n+11) (tX_ok (noCt_ok _) h61)) (blkE_ok (noBT_ok _ _) b41 (fun x hy=>blk_ok hy hx)) (noRT_ok _ _) ?_
     repeat' first | (refine Tr.all_ite (fun hc=>?_) (fun hc=>?_)<;>(try simp (disch:=omega) only[nV,nW] at hc)<;>try omega) | (refine Tr.all_req ?_ ?_;· (try simp (disch:=omega) only[nV,nW]);try omega) | (refine Tr.all_reqP ?_ ?_;· first | exact trivial | rfl | exact ⟨rfl,rfl⟩ | exact ⟨rfl,rfl,rfl⟩ | (simp (disch:=omega) only[nV,nW];done) | ((try simp (disch:=omega) only[nV,nW]);omega)) | fail
     all_goals first
      | exact Tr.all_ok ⟨rfl,rfl⟩
      | fail
   | cons a r =>
     rw[show dA (a::r)=AV.slcT none (.M [.arr .i64 (lstO (a::r)) (r.length+1)]) 1 (r.length+1) false from rfl]
     refine fn_all (n:=n+11) Try.func41 rfl rfl rfl (u41c (n+11) l k t d g 1 r.length (r.length+1) (lstO (a::r)) h ((M.toNat+1:Nat):Int) H) (il_ok0 _ (n+11) (tX_ok (noCt_ok _) h61)) (blkE_ok (noBT_ok _ _) b41 (fun x hy=>blk_ok hy hx)) (noRT_ok _ _) ?_
     rw[shO_zero]
     generalize lstO (a::r)=Z at *
     generalize r.length=m at *
     repeat' first | (refine Tr.all_ite (fun hc=>?_) (fun hc=>?_)<;>(try simp (disch:=omega) only[nV,nW] at hc)<;>try omega) | (refine Tr.all_req ?_ ?_;· (try simp (disch:=omega) only[nV,nW]);try omega) | (refine Tr.all_reqP ?_ ?_;· first | exact trivial | rfl | exact ⟨rfl,rfl⟩ | exact ⟨rfl,rfl,rfl⟩ | (simp (disch:=omega) only[nV,nW];done) | ((try simp (disch:=omega) only[nV,nW]);omega)) | fail
     all_goals first
      | exact Tr.all_ok ⟨rfl,rfl⟩
      | fail
 · rw[if_neg e]
   refine fn_all (n:=n+11) Try.func41 rfl rfl rfl (u41s (n+11) l k t d h (needE l k t d h) H) (il_ok0 _ (n+11) (tX_ok (noCt_ok _) (fun H=>c61n n l k t d H h e))) (stopB_ok (noBT_ok _ _) 0) (noRT_ok _ _) ?_
   generalize needE l k t d h=E at *
   repeat' first | (refine Tr.all_ite (fun hc=>?_) (fun hc=>?_)<;>(try simp (disch:=omega) only[nV,nW] at hc)<;>try omega) | (refine Tr.all_req ?_ ?_;· (try simp (disch:=omega) only[nV,nW]);try omega) | (refine Tr.all_reqP ?_ ?_;· first | exact trivial | rfl | exact ⟨rfl,rfl⟩ | exact ⟨rfl,rfl,rfl⟩ | (simp (disch:=omega) only[nV,nW];done) | ((try simp (disch:=omega) only[nV,nW]);omega)) | fail
   all_goals first
    | exact Tr.all_ok ⟨rfl,rfl⟩
    | fail
end
end Go.Eng
