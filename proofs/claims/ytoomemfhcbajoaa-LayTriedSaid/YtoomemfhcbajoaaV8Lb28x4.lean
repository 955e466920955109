/- Lay: plan: a turn. -/
import Derived.Test.YtoomemfhcbajoaaV8Lb26x2
set_option linter.unusedVariables false
set_option linter.unusedSimpArgs false
set_option maxRecDepth 100000
section
namespace Go.Eng
open Go.Proofs
theorem JM (n s l k:Nat) (t d g z f f2:Nat→Int) (hs hs1 hs2:List Int→Bool) (gs gs1 gs2:List Int→Int) (c c1 c2:Nat) (h T:Int) (v m:Nat) (o:Nat→Int) (G G2:aa) (b:Bool):aN (bA n 85 118) (JF (il aQ n 0) 1 2 [dc m (ep o 0) false] (eg (s+1) l t k d g T z f2 hs2 gs2 c2 (v,.dead)::G) (.ok (.bool b,eg (s+1) l t k d g T z f2 hs2 gs2 c2 (v,.dead)::G2))) (dp (dp aT 6 (fE 2 s l t k d g h m (ep o 0) 0) (eg (s+1) l t k d g T z f hs1 gs1 c1 (v,.dead)::G) (.ok (.normal,hints (fE 2 s l t k d g h m (ep o 0) (Int.ofNat m)++[(79,.bool false)]),eg (s+1) l t k d g T z f2 hs2 gs2 c2 (v,.dead)::G))) 4 (dZ 2 s l t k d g h .nils) (bM (s+1) l t k d g T z f hs gs c::G) (.ok (.normal,hints (dZ 2 s l t k d g h (.slc 0 5 v 0 1 m none)++[(60,.bool false)]),eg (s+1) l t k d g T z f hs1 gs1 c1 (v,.row (.M [.arr .i64 o m]))::G))) aU (part Try.f85 [1,1,1,1,1,1,1,0,0]) (hints (fD 2 s l t k d g h)) (bM (s+1) l t k d g T z f hs gs c::G) =
 (fun (Z0:Row)=>((fun (Z1:aV)=>((fun (Z2:aV)=>((fun (Z3:aq)=>((fun (Z4:aV)=>((fun (Z5:aq)=>((fun (Z6:Nat×AV×Option Nat)=>Tr.ite (cF (Int.ofNat 0) (Int.ofNat c)) (Tr.reqP (Z5=Z5∧Z2::G=Z2::G) (Tr.req (cT v v) (Tr.req (kH 0 m 0 m) (Tr.req (cT v v) (Tr.req (kH 0 m 0 m) (Tr.reqP (Z3=Z3∧Z4::G=Z4::G) (Tr.reqP ([AV.slcT none (Row.M [ah.arr .i64 (ep o 0) m]) 1 m false]=[AV.slcT none (Row.M [ah.arr .i64 (ep o 0) m]) 1 m false]∧Z1::G=Z1::G) (Tr.ite (bx b) (Tr.ok (Ex.ret,[(0,AV.yld 1 2,none),Z6,(2,AV.ptrT none (Row.I .i64 [h]) 0,none),(6,AV.ptr 0 2 0 0,none),(7,AV.ptr 0 3 0 0,none),(8,AV.map 0 4,none),(10,AV.fn (Fn.func 89) [] [],none),(117,AV.bool true,some 1)],Z1::G2)) (Tr.ok (Ex.normal,[(0,AV.yld 1 2,none),Z6,(2,AV.ptrT none (Row.I .i64 [h]) 0,none),(6,AV.ptr 0 2 0 0,none),(7,AV.ptr 0 3 0 0,none),(8,AV.map 0 4,none),(10,AV.fn (Fn.func 89) [] [],none),(117,AV.bool false,some 1)],Z1::G2)))))))))) (Tr.ok (Ex.exit 2,[(0,AV.yld 1 2,none),Z6,(2,AV.ptrT none (Row.I .i64 [h]) 0,none),(6,AV.ptr 0 2 0 0,none),(7,AV.ptr 0 3 0 0,none),(8,AV.map 0 4,none),(10,AV.fn (Fn.func 89) [] [],none),(56,AV.bool false,some 1)],Z2::G))) (1,AV.ptrT (some 1) (Row.G [AV.ptrT (some s) Z0 0]) 0,none))) [(0,AV.yld 1 2),(1,AV.ptrT (some 1) (Row.G [AV.ptrT (some s) Z0 0]) 0),(2,AV.ptrT none (Row.I .i64 [h]) 0),(6,AV.ptr 0 2 0 0),(7,AV.ptr 0 3 0 0),(8,AV.map 0 4),(10,AV.fn (Fn.func 89) [] []),(11,AV.nils)])) { lock:=false,bs:=[(0,ak.row (Row.G [AV.fn (Fn.func 74) [AV.ptrT (some (Nat.succ s)) Z0 0] []])),(0,ak.row (Row.I .i64 [T])),(0,ak.row (Row.M [ah.arr .i64 z 30])),(0,ak.row (Row.M [ah.arr .i64 f 30])),(0,ak.fmap (KK.str 2) hs1 gs1 c1),(v,ak.dead)] })) [(0,AV.yld 1 2),(1,AV.ptrT (some 1) (Row.G [AV.ptrT (some s) Z0 0]) 0),(2,AV.ptrT none (Row.I .i64 [h]) 0),(6,AV.ptr 0 2 0 0),(7,AV.ptr 0 3 0 0),(8,AV.map 0 4),(10,AV.fn (Fn.func 89) [] []),(11,AV.slcT none (Row.M [ah.arr .i64 (ep o 0) m]) 1 m false),(76,AV.slcT none (Row.M [ah.arr .i64 (ep o 0) m]) 1 m false),(77,AV.int .i64 (Int.ofNat m)),(78,AV.int .i64 (Int.ofNat 0))])) { lock:=false,bs:=[(0,ak.row (Row.G [AV.fn (Fn.func 74) [AV.ptrT (some (Nat.succ s)) Z0 0] []])),(0,ak.row (Row.I .i64 [T])),(0,ak.row (Row.M [ah.arr .i64 z 30])),(0,ak.row (Row.M [ah.arr .i64 f 30])),(0,ak.fmap (KK.str 2) hs gs c)] })) { lock:=false,bs:=[(0,ak.row (Row.G [AV.fn (Fn.func 74) [AV.ptrT (some (Nat.succ s)) Z0 0] []])),(0,ak.row (Row.I .i64 [T])),(0,ak.row (Row.M [ah.arr .i64 z 30])),(0,ak.row (Row.M [ah.arr .i64 f2 30])),(0,ak.fmap (KK.str 2) hs2 gs2 c2),(v,ak.dead)] })) (Row.M [ah.one (AV.slcT none (Row.M [ah.arr .i64 t l]) 1 l false),ah.one (AV.slcT none (Row.M [ah.arr .i64 d k]) 1 k false),ah.arr .i64 g 30]):=by kernel_rfl
theorem JN (n s l k:Nat) (t d g z f f2:Nat→Int) (hs hs1 hs2:List Int→Bool) (gs gs1 gs2:List Int→Int) (c c1 c2:Nat) (h T:Int) (v m:Nat) (o:Nat→Int) (G G2:aa) (b:Bool):aN (bA n 85 118) (JF (il aQ n 0) 1 2 [dc m (ep o 0) false] (eg (s+1) l t k d g T z f2 hs2 gs2 c2 (v,.dead)::G) (.ok (.bool b,eg (s+1) l t k d g T z f2 hs2 gs2 c2 (v,.dead)::G2))) (dp (dp aT 6 (fE 2 s l t k d g h m (ep o 0) 0) (eg (s+1) l t k d g T z f hs1 gs1 c1 (v,.dead)::G) (.ok (.normal,hints (fE 2 s l t k d g h m (ep o 0) (Int.ofNat m)++[(79,.bool false)]),eg (s+1) l t k d g T z f2 hs2 gs2 c2 (v,.dead)::G))) 4 (dZ 2 s l t k d g h .nils) (bM (s+1) l t k d g T z f hs gs c::G) (.ok (.normal,hints (dZ 2 s l t k d g h (.slc 0 5 v 0 1 m none)++[(60,.bool false)]),eg (s+1) l t k d g T z f hs1 gs1 c1 (v,.row (.M [.arr .i64 o m]))::G))) aU (part Try.f85 [1,1,1,1,1,1,1,0,0]) (hints (fD 2 s l t k d g h++[(117,.bool false)])) (bM (s+1) l t k d g T z f hs gs c::G) =
 (fun (Z0:Row)=>((fun (Z1:aV)=>((fun (Z2:aV)=>((fun (Z3:aq)=>((fun (Z4:aV)=>((fun (Z5:aq)=>((fun (Z6:Nat×AV×Option Nat)=>Tr.ite (cF (Int.ofNat 0) (Int.ofNat c)) (Tr.reqP (Z5=Z5∧Z2::G=Z2::G) (Tr.req (cT v v) (Tr.req (kH 0 m 0 m) (Tr.req (cT v v) (Tr.req (kH 0 m 0 m) (Tr.reqP (Z3=Z3∧Z4::G=Z4::G) (Tr.reqP ([AV.slcT none (Row.M [ah.arr .i64 (ep o 0) m]) 1 m false]=[AV.slcT none (Row.M [ah.arr .i64 (ep o 0) m]) 1 m false]∧Z1::G=Z1::G) (Tr.ite (bx b) (Tr.ok (Ex.ret,[(0,AV.yld 1 2,none),Z6,(2,AV.ptrT none (Row.I .i64 [h]) 0,none),(6,AV.ptr 0 2 0 0,none),(7,AV.ptr 0 3 0 0,none),(8,AV.map 0 4,none),(10,AV.fn (Fn.func 89) [] [],none),(117,AV.bool true,some 1)],Z1::G2)) (Tr.ok (Ex.normal,[(0,AV.yld 1 2,none),Z6,(2,AV.ptrT none (Row.I .i64 [h]) 0,none),(6,AV.ptr 0 2 0 0,none),(7,AV.ptr 0 3 0 0,none),(8,AV.map 0 4,none),(10,AV.fn (Fn.func 89) [] [],none),(117,AV.bool false,some 1)],Z1::G2)))))))))) (Tr.ok (Ex.exit 2,[(0,AV.yld 1 2,none),Z6,(2,AV.ptrT none (Row.I .i64 [h]) 0,none),(6,AV.ptr 0 2 0 0,none),(7,AV.ptr 0 3 0 0,none),(8,AV.map 0 4,none),(10,AV.fn (Fn.func 89) [] [],none),(56,AV.bool false,some 1)],Z2::G))) (1,AV.ptrT (some 1) (Row.G [AV.ptrT (some s) Z0 0]) 0,none))) [(0,AV.yld 1 2),(1,AV.ptrT (some 1) (Row.G [AV.ptrT (some s) Z0 0]) 0),(2,AV.ptrT none (Row.I .i64 [h]) 0),(6,AV.ptr 0 2 0 0),(7,AV.ptr 0 3 0 0),(8,AV.map 0 4),(10,AV.fn (Fn.func 89) [] []),(11,AV.nils)])) { lock:=false,bs:=[(0,ak.row (Row.G [AV.fn (Fn.func 74) [AV.ptrT (some (Nat.succ s)) Z0 0] []])),(0,ak.row (Row.I .i64 [T])),(0,ak.row (Row.M [ah.arr .i64 z 30])),(0,ak.row (Row.M [ah.arr .i64 f 30])),(0,ak.fmap (KK.str 2) hs1 gs1 c1),(v,ak.dead)] })) [(0,AV.yld 1 2),(1,AV.ptrT (some 1) (Row.G [AV.ptrT (some s) Z0 0]) 0),(2,AV.ptrT none (Row.I .i64 [h]) 0),(6,AV.ptr 0 2 0 0),(7,AV.ptr 0 3 0 0),(8,AV.map 0 4),(10,AV.fn (Fn.func 89) [] []),(11,AV.slcT none (Row.M [ah.arr .i64 (ep o 0) m]) 1 m false),(76,AV.slcT none (Row.M [ah.arr .i64 (ep o 0) m]) 1 m false),(77,AV.int .i64 (Int.ofNat m)),(78,AV.int .i64 (Int.ofNat 0))])) { lock:=false,bs:=[(0,ak.row (Row.G [AV.fn (Fn.func 74) [AV.ptrT (some (Nat.succ s)) Z0 0] []])),(0,ak.row (Row.I .i64 [T])),(0,ak.row (Row.M [ah.arr .i64 z 30])),(0,ak.row (Row.M [ah.arr .i64 f 30])),(0,ak.fmap (KK.str 2) hs gs c)] })) { lock:=false,bs:=[(0,ak.row (Row.G [AV.fn (Fn.func 74) [AV.ptrT (some (Nat.succ s)) Z0 0] []])),(0,ak.row (Row.I .i64 [T])),(0,ak.row (Row.M [ah.arr .i64 z 30])),(0,ak.row (Row.M [ah.arr .i64 f2 30])),(0,ak.fmap (KK.str 2) hs2 gs2 c2),(v,ak.dead)] })) (Row.M [ah.one (AV.slcT none (Row.M [ah.arr .i64 t l]) 1 l false),ah.one (AV.slcT none (Row.M [ah.arr .i64 d k]) 1 k false),ah.arr .i64 g 30]):=by kernel_rfl
theorem JO (n s l k:Nat) (t d g z f f2:Nat→Int) (hs hs1 hs2:List Int→Bool) (gs gs1 gs2:List Int→Int) (c c1 c2:Nat) (h T:Int) (v m:Nat) (o:Nat→Int) (G G2:aa) (b:Bool):aN (bA n 85 118) (JF (il aQ n 0) 1 2 [dc m (ep o 0) false] (gf (s+1) l t k d g T z f2 hs2 gs2 c2 (v,.dead) (0,.row (.I .i64 [0,0]))::G) (.ok (.bool b,gf (s+1) l t k d g T z f2 hs2 gs2 c2 (v,.dead) (0,.row (.I .i64 [0,0]))::G2))) (dp (dp aT 6 (fE 2 s l t k d g h m (ep o 0) 0) (gf (s+1) l t k d g T z f hs1 gs1 c1 (v,.dead) (0,.row (.I .i64 [0,0]))::G) (.ok (.normal,hints (fE 2 s l t k d g h m (ep o 0) (Int.ofNat m)++[(79,.bool false)]),gf (s+1) l t k d g T z f2 hs2 gs2 c2 (v,.dead) (0,.row (.I .i64 [0,0]))::G))) 4 (dZ 2 s l t k d g h .nils) (bM (s+1) l t k d g T z f hs gs c::G) (.ok (.normal,hints (dZ 2 s l t k d g h (.slc 0 5 v 0 1 m none)++[(12,.ptr 0 6 0 0),(68,.bool true)]),gf (s+1) l t k d g T z f hs1 gs1 c1 (v,.row (.M [.arr .i64 o m])) (0,.row (.I .i64 [0,0]))::G))) aU (part Try.f85 [1,1,1,1,1,1,1,0,0]) (hints (fD 2 s l t k d g h)) (bM (s+1) l t k d g T z f hs gs c::G) =
 (fun (Z0:Row)=>((fun (Z1:aV)=>((fun (Z2:aV)=>((fun (Z3:aq)=>((fun (Z4:aV)=>((fun (Z5:aq)=>((fun (Z6:Nat×AV×Option Nat)=>Tr.ite (cF (Int.ofNat 0) (Int.ofNat c)) (Tr.reqP (Z5=Z5∧Z2::G=Z2::G) (Tr.req (cT v v) (Tr.req (kH 0 m 0 m) (Tr.req (cT v v) (Tr.req (kH 0 m 0 m) (Tr.reqP (Z3=Z3∧Z4::G=Z4::G) (Tr.reqP ([AV.slcT none (Row.M [ah.arr .i64 (ep o 0) m]) 1 m false]=[AV.slcT none (Row.M [ah.arr .i64 (ep o 0) m]) 1 m false]∧Z1::G=Z1::G) (Tr.ite (bx b) (Tr.ok (Ex.ret,[(0,AV.yld 1 2,none),Z6,(2,AV.ptrT none (Row.I .i64 [h]) 0,none),(6,AV.ptr 0 2 0 0,none),(7,AV.ptr 0 3 0 0,none),(8,AV.map 0 4,none),(10,AV.fn (Fn.func 89) [] [],none),(117,AV.bool true,some 1)],Z1::G2)) (Tr.ok (Ex.normal,[(0,AV.yld 1 2,none),Z6,(2,AV.ptrT none (Row.I .i64 [h]) 0,none),(6,AV.ptr 0 2 0 0,none),(7,AV.ptr 0 3 0 0,none),(8,AV.map 0 4,none),(10,AV.fn (Fn.func 89) [] [],none),(117,AV.bool false,some 1)],Z1::G2)))))))))) (Tr.ok (Ex.exit 2,[(0,AV.yld 1 2,none),Z6,(2,AV.ptrT none (Row.I .i64 [h]) 0,none),(6,AV.ptr 0 2 0 0,none),(7,AV.ptr 0 3 0 0,none),(8,AV.map 0 4,none),(10,AV.fn (Fn.func 89) [] [],none),(56,AV.bool false,some 1)],Z2::G))) (1,AV.ptrT (some 1) (Row.G [AV.ptrT (some s) Z0 0]) 0,none))) [(0,AV.yld 1 2),(1,AV.ptrT (some 1) (Row.G [AV.ptrT (some s) Z0 0]) 0),(2,AV.ptrT none (Row.I .i64 [h]) 0),(6,AV.ptr 0 2 0 0),(7,AV.ptr 0 3 0 0),(8,AV.map 0 4),(10,AV.fn (Fn.func 89) [] []),(11,AV.nils)])) { lock:=false,bs:=[(0,ak.row (Row.G [AV.fn (Fn.func 74) [AV.ptrT (some (Nat.succ s)) Z0 0] []])),(0,ak.row (Row.I .i64 [T])),(0,ak.row (Row.M [ah.arr .i64 z 30])),(0,ak.row (Row.M [ah.arr .i64 f 30])),(0,ak.fmap (KK.str 2) hs1 gs1 c1),(v,ak.dead),(0,ak.row (Row.I .i64 [Int.ofNat 0,Int.ofNat 0]))] })) [(0,AV.yld 1 2),(1,AV.ptrT (some 1) (Row.G [AV.ptrT (some s) Z0 0]) 0),(2,AV.ptrT none (Row.I .i64 [h]) 0),(6,AV.ptr 0 2 0 0),(7,AV.ptr 0 3 0 0),(8,AV.map 0 4),(10,AV.fn (Fn.func 89) [] []),(11,AV.slcT none (Row.M [ah.arr .i64 (ep o 0) m]) 1 m false),(76,AV.slcT none (Row.M [ah.arr .i64 (ep o 0) m]) 1 m false),(77,AV.int .i64 (Int.ofNat m)),(78,AV.int .i64 (Int.ofNat 0))])) { lock:=false,bs:=[(0,ak.row (Row.G [AV.fn (Fn.func 74) [AV.ptrT (some (Nat.succ s)) Z0 0] []])),(0,ak.row (Row.I .i64 [T])),(0,ak.row (Row.M [ah.arr .i64 z 30])),(0,ak.row (Row.M [ah.arr .i64 f 30])),(0,ak.fmap (KK.str 2) hs gs c)] })) { lock:=false,bs:=[(0,ak.row (Row.G [AV.fn (Fn.func 74) [AV.ptrT (some (Nat.succ s)) Z0 0] []])),(0,ak.row (Row.I .i64 [T])),(0,ak.row (Row.M [ah.arr .i64 z 30])),(0,ak.row (Row.M [ah.arr .i64 f2 30])),(0,ak.fmap (KK.str 2) hs2 gs2 c2),(v,ak.dead),(0,ak.row (Row.I .i64 [Int.ofNat 0,Int.ofNat 0]))] })) (Row.M [ah.one (AV.slcT none (Row.M [ah.arr .i64 t l]) 1 l false),ah.one (AV.slcT none (Row.M [ah.arr .i64 d k]) 1 k false),ah.arr .i64 g 30]):=by kernel_rfl
theorem JP (n s l k:Nat) (t d g z f f2:Nat→Int) (hs hs1 hs2:List Int→Bool) (gs gs1 gs2:List Int→Int) (c c1 c2:Nat) (h T:Int) (v m:Nat) (o:Nat→Int) (G G2:aa) (b:Bool):aN (bA n 85 118) (JF (il aQ n 0) 1 2 [dc m (ep o 0) false] (gf (s+1) l t k d g T z f2 hs2 gs2 c2 (v,.dead) (0,.row (.I .i64 [0,0]))::G) (.ok (.bool b,gf (s+1) l t k d g T z f2 hs2 gs2 c2 (v,.dead) (0,.row (.I .i64 [0,0]))::G2))) (dp (dp aT 6 (fE 2 s l t k d g h m (ep o 0) 0) (gf (s+1) l t k d g T z f hs1 gs1 c1 (v,.dead) (0,.row (.I .i64 [0,0]))::G) (.ok (.normal,hints (fE 2 s l t k d g h m (ep o 0) (Int.ofNat m)++[(79,.bool false)]),gf (s+1) l t k d g T z f2 hs2 gs2 c2 (v,.dead) (0,.row (.I .i64 [0,0]))::G))) 4 (dZ 2 s l t k d g h .nils) (bM (s+1) l t k d g T z f hs gs c::G) (.ok (.normal,hints (dZ 2 s l t k d g h (.slc 0 5 v 0 1 m none)++[(12,.ptr 0 6 0 0),(68,.bool true)]),gf (s+1) l t k d g T z f hs1 gs1 c1 (v,.row (.M [.arr .i64 o m])) (0,.row (.I .i64 [0,0]))::G))) aU (part Try.f85 [1,1,1,1,1,1,1,0,0]) (hints (fD 2 s l t k d g h++[(117,.bool false)])) (bM (s+1) l t k d g T z f hs gs c::G) =
 (fun (Z0:Row)=>((fun (Z1:aV)=>((fun (Z2:aV)=>((fun (Z3:aq)=>((fun (Z4:aV)=>((fun (Z5:aq)=>((fun (Z6:Nat×AV×Option Nat)=>Tr.ite (cF (Int.ofNat 0) (Int.ofNat c)) (Tr.reqP (Z5=Z5∧Z2::G=Z2::G) (Tr.req (cT v v) (Tr.req (kH 0 m 0 m) (Tr.req (cT v v) (Tr.req (kH 0 m 0 m) (Tr.reqP (Z3=Z3∧Z4::G=Z4::G) (Tr.reqP ([AV.slcT none (Row.M [ah.arr .i64 (ep o 0) m]) 1 m false]=[AV.slcT none (Row.M [ah.arr .i64 (ep o 0) m]) 1 m false]∧Z1::G=Z1::G) (Tr.ite (bx b) (Tr.ok (Ex.ret,[(0,AV.yld 1 2,none),Z6,(2,AV.ptrT none (Row.I .i64 [h]) 0,none),(6,AV.ptr 0 2 0 0,none),(7,AV.ptr 0 3 0 0,none),(8,AV.map 0 4,none),(10,AV.fn (Fn.func 89) [] [],none),(117,AV.bool true,some 1)],Z1::G2)) (Tr.ok (Ex.normal,[(0,AV.yld 1 2,none),Z6,(2,AV.ptrT none (Row.I .i64 [h]) 0,none),(6,AV.ptr 0 2 0 0,none),(7,AV.ptr 0 3 0 0,none),(8,AV.map 0 4,none),(10,AV.fn (Fn.func 89) [] [],none),(117,AV.bool false,some 1)],Z1::G2)))))))))) (Tr.ok (Ex.exit 2,[(0,AV.yld 1 2,none),Z6,(2,AV.ptrT none (Row.I .i64 [h]) 0,none),(6,AV.ptr 0 2 0 0,none),(7,AV.ptr 0 3 0 0,none),(8,AV.map 0 4,none),(10,AV.fn (Fn.func 89) [] [],none),(56,AV.bool false,some 1)],Z2::G))) (1,AV.ptrT (some 1) (Row.G [AV.ptrT (some s) Z0 0]) 0,none))) [(0,AV.yld 1 2),(1,AV.ptrT (some 1) (Row.G [AV.ptrT (some s) Z0 0]) 0),(2,AV.ptrT none (Row.I .i64 [h]) 0),(6,AV.ptr 0 2 0 0),(7,AV.ptr 0 3 0 0),(8,AV.map 0 4),(10,AV.fn (Fn.func 89) [] []),(11,AV.nils)])) { lock:=false,bs:=[(0,ak.row (Row.G [AV.fn (Fn.func 74) [AV.ptrT (some (Nat.succ s)) Z0 0] []])),(0,ak.row (Row.I .i64 [T])),(0,ak.row (Row.M [ah.arr .i64 z 30])),(0,ak.row (Row.M [ah.arr .i64 f 30])),(0,ak.fmap (KK.str 2) hs1 gs1 c1),(v,ak.dead),(0,ak.row (Row.I .i64 [Int.ofNat 0,Int.ofNat 0]))] })) [(0,AV.yld 1 2),(1,AV.ptrT (some 1) (Row.G [AV.ptrT (some s) Z0 0]) 0),(2,AV.ptrT none (Row.I .i64 [h]) 0),(6,AV.ptr 0 2 0 0),(7,AV.ptr 0 3 0 0),(8,AV.map 0 4),(10,AV.fn (Fn.func 89) [] []),(11,AV.slcT none (Row.M [ah.arr .i64 (ep o 0) m]) 1 m false),(76,AV.slcT none (Row.M [ah.arr .i64 (ep o 0) m]) 1 m false),(77,AV.int .i64 (Int.ofNat m)),(78,AV.int .i64 (Int.ofNat 0))])) { lock:=false,bs:=[(0,ak.row (Row.G [AV.fn (Fn.func 74) [AV.ptrT (some (Nat.succ s)) Z0 0] []])),(0,ak.row (Row.I .i64 [T])),(0,ak.row (Row.M [ah.arr .i64 z 30])),(0,ak.row (Row.M [ah.arr .i64 f 30])),(0,ak.fmap (KK.str 2) hs gs c)] })) { lock:=false,bs:=[(0,ak.row (Row.G [AV.fn (Fn.func 74) [AV.ptrT (some (Nat.succ s)) Z0 0] []])),(0,ak.row (Row.I .i64 [T])),(0,ak.row (Row.M [ah.arr .i64 z 30])),(0,ak.row (Row.M [ah.arr .i64 f2 30])),(0,ak.fmap (KK.str 2) hs2 gs2 c2),(v,ak.dead),(0,ak.row (Row.I .i64 [Int.ofNat 0,Int.ofNat 0]))] })) (Row.M [ah.one (AV.slcT none (Row.M [ah.arr .i64 t l]) 1 l false),ah.one (AV.slcT none (Row.M [ah.arr .i64 d k]) 1 k false),ah.arr .i64 g 30]):=by kernel_rfl
end Go.Eng
end
section
namespace Go.Eng
open Go.Proofs
theorem Cz:∀ b,(4,b) ∈ aM (part Try.f85 [1,1,1,1,1,1,1,0,0])→b=.loop (part Try.f85 [1,1,1,1,1,1,1,0,0,1,0,1,0,0,0]):=g7 (by kernel_rfl)
theorem F3:∀ b,(6,b) ∈ aM (part Try.f85 [1,1,1,1,1,1,1,0,0])→b=.loop (part Try.f85 [1,1,1,1,1,1,1,0,0,1,0,1,1,0,1,0,0]):=g7 (by kernel_rfl)
section
variable (n s l k:Nat) (t d g z f:Nat→Int) (h T:Int) (w:Nat→Bool) (G G2:aa)
theorem Lj (q:Nat) (o:Nat→Int) (he:ep (aK (eV l z w (q+1))) 0=o) (hq:q<1000) (hh:h=((q+1:Nat):Int)) (hc:0<cn w l) (hr:∀ j,j<q+1→∃ i,kd z (bo l z w j).2 l=some i) (hl:l≤30) (ho:∀ j,j<q+1→0≤o j∧o j<l) (ht:∀ i,i<l→t i<l) (hz:∀ i,i<l→1≤z i) (hf:∀ j,j<q+1→∀ i,i<l→-900≤(cE t o (f,(bo l z w (q+1)).2) j).1 i∧(cE t o (f,(bo l z w (q+1)).2) j).1 i≤900) (hv:∀ j,j<q+1→∀ i,i<l→(cE t o (f,(bo l z w (q+1)).2) j).2 i=true→(cE t o (f,(bo l z w (q+1)).2) j).1 i≤0) (hy:∀ L:aV,L.lock=false→cd (n+2) (.round 1 2) [dc (q+1) o false] (L::G)=some (.bool true,L::G2)) :
 ∃ x,exec (bA (n+2) 85 118) (part Try.f85 [1,1,1,1,1,1,1,0,0]) (fD 2 s l t k d g h) (bM (s+1) l t k d g T z f (hW l z w) (gW l z w) (cn w l)::G)=some x∧(x.1=.normal∧tidy (al (bM (s+1) l t k d g T z f (hW l z w) (gW l z w) (cn w l)::G)) x.2.1 x.2.2=(fD 2 s l t k d g h++[(117,.bool false)],bM (s+1) l t k d g T z (cE t o (f,(bo l z w (q+1)).2) (q+1)).1 (hW l z (cE t o (f,(bo l z w (q+1)).2) (q+1)).2) (gW l z (cE t o (f,(bo l z w (q+1)).2) (q+1)).2) (cn (cE t o (f,(bo l z w (q+1)).2) (q+1)).2 l)::G2)):=by
 have h4:=HU n 2 s l k t d g z f h T w G q hq hh hr
 have h6:=HS (n+2) 2 s l k t d g z f h T (bo l z w (q+1)).2 G q (q+1) o (by omega) hl ho ht hz hf hv
 subst he
 refine aO (JM (n+2) s l k t d g z f (cE t (ep (aK (eV l z w (q+1))) 0) (f,(bo l z w (q+1)).2) (q+1)).1 (hW l z w) (hW l z (bo l z w (q+1)).2) (hW l z (cE t (ep (aK (eV l z w (q+1))) 0) (f,(bo l z w (q+1)).2) (q+1)).2) (gW l z w) (gW l z (bo l z w (q+1)).2) (gW l z (cE t (ep (aK (eV l z w (q+1))) 0) (f,(bo l z w (q+1)).2) (q+1)).2) (cn w l) (cn (bo l z w (q+1)).2 l) (cn (cE t (ep (aK (eV l z w (q+1))) 0) (f,(bo l z w (q+1)).2) (q+1)).2 l) h T q (q+1) (aK (eV l z w (q+1))) G G2 true) (sL (aB _) (fun x hx=>by rw[← Tr.ab hx];exact hy _ rfl)) (aW (aW (af _ _) F3 (fun x hx=>cG hx h6)) Cz (fun x hx=>cG hx h4)) (ag _ _) ?_
 clear h4 h6 hf hv ho hy hr
 generalize (cE t (ep (aK (eV l z w (q+1))) 0) (f,(bo l z w (q+1)).2) (q+1))=M at *
 generalize cn w l=C at hc ⊢
 generalize hW l z w=A at *
 generalize gW l z w=B at *
 exact wF
theorem Lk (q:Nat) (o:Nat→Int) (he:ep (aK (eV l z w (q+1))) 0=o) (hq:q<1000) (hh:h=((q+1:Nat):Int)) (hc:0<cn w l) (hr:∀ j,j<q+1→∃ i,kd z (bo l z w j).2 l=some i) (hl:l≤30) (ho:∀ j,j<q+1→0≤o j∧o j<l) (ht:∀ i,i<l→t i<l) (hz:∀ i,i<l→1≤z i) (hf:∀ j,j<q+1→∀ i,i<l→-900≤(cE t o (f,(bo l z w (q+1)).2) j).1 i∧(cE t o (f,(bo l z w (q+1)).2) j).1 i≤900) (hv:∀ j,j<q+1→∀ i,i<l→(cE t o (f,(bo l z w (q+1)).2) j).2 i=true→(cE t o (f,(bo l z w (q+1)).2) j).1 i≤0) (hy:∀ L:aV,L.lock=false→cd (n+2) (.round 1 2) [dc (q+1) o false] (L::G)=some (.bool true,L::G2)) :
 ∃ x,exec (bA (n+2) 85 118) (part Try.f85 [1,1,1,1,1,1,1,0,0]) (fD 2 s l t k d g h++[(117,.bool false)]) (bM (s+1) l t k d g T z f (hW l z w) (gW l z w) (cn w l)::G)=some x∧(x.1=.normal∧tidy (al (bM (s+1) l t k d g T z f (hW l z w) (gW l z w) (cn w l)::G)) x.2.1 x.2.2=(fD 2 s l t k d g h++[(117,.bool false)],bM (s+1) l t k d g T z (cE t o (f,(bo l z w (q+1)).2) (q+1)).1 (hW l z (cE t o (f,(bo l z w (q+1)).2) (q+1)).2) (gW l z (cE t o (f,(bo l z w (q+1)).2) (q+1)).2) (cn (cE t o (f,(bo l z w (q+1)).2) (q+1)).2 l)::G2)):=by
 have h4:=HU n 2 s l k t d g z f h T w G q hq hh hr
 have h6:=HS (n+2) 2 s l k t d g z f h T (bo l z w (q+1)).2 G q (q+1) o (by omega) hl ho ht hz hf hv
 subst he
 refine aO (JN (n+2) s l k t d g z f (cE t (ep (aK (eV l z w (q+1))) 0) (f,(bo l z w (q+1)).2) (q+1)).1 (hW l z w) (hW l z (bo l z w (q+1)).2) (hW l z (cE t (ep (aK (eV l z w (q+1))) 0) (f,(bo l z w (q+1)).2) (q+1)).2) (gW l z w) (gW l z (bo l z w (q+1)).2) (gW l z (cE t (ep (aK (eV l z w (q+1))) 0) (f,(bo l z w (q+1)).2) (q+1)).2) (cn w l) (cn (bo l z w (q+1)).2 l) (cn (cE t (ep (aK (eV l z w (q+1))) 0) (f,(bo l z w (q+1)).2) (q+1)).2 l) h T q (q+1) (aK (eV l z w (q+1))) G G2 true) (sL (aB _) (fun x hx=>by rw[← Tr.ab hx];exact hy _ rfl)) (aW (aW (af _ _) F3 (fun x hx=>cG hx h6)) Cz (fun x hx=>cG hx h4)) (ag _ _) ?_
 clear h4 h6 hf hv ho hy hr
 generalize (cE t (ep (aK (eV l z w (q+1))) 0) (f,(bo l z w (q+1)).2) (q+1))=M at *
 generalize cn w l=C at hc ⊢
 generalize hW l z w=A at *
 generalize gW l z w=B at *
 exact wF
theorem Ll (q:Nat) (o:Nat→Int) (he:ep (aK (eV l z w (q+1))) 0=o) (hq:q<1000) (hh:((q+1:Nat):Int)<h) (hn:kd z (bo l z w (q+1)).2 l=none) (hc:0<cn w l) (hr:∀ j,j<q+1→∃ i,kd z (bo l z w j).2 l=some i) (hl:l≤30) (ho:∀ j,j<q+1→0≤o j∧o j<l) (ht:∀ i,i<l→t i<l) (hz:∀ i,i<l→1≤z i) (hf:∀ j,j<q+1→∀ i,i<l→-900≤(cE t o (f,(bo l z w (q+1)).2) j).1 i∧(cE t o (f,(bo l z w (q+1)).2) j).1 i≤900) (hv:∀ j,j<q+1→∀ i,i<l→(cE t o (f,(bo l z w (q+1)).2) j).2 i=true→(cE t o (f,(bo l z w (q+1)).2) j).1 i≤0) (hy:∀ L:aV,L.lock=false→cd (n+2) (.round 1 2) [dc (q+1) o false] (L::G)=some (.bool true,L::G2)) :
 ∃ x,exec (bA (n+2) 85 118) (part Try.f85 [1,1,1,1,1,1,1,0,0]) (fD 2 s l t k d g h) (bM (s+1) l t k d g T z f (hW l z w) (gW l z w) (cn w l)::G)=some x∧(x.1=.normal∧tidy (al (bM (s+1) l t k d g T z f (hW l z w) (gW l z w) (cn w l)::G)) x.2.1 x.2.2=(fD 2 s l t k d g h++[(117,.bool false)],bM (s+1) l t k d g T z (cE t o (f,(bo l z w (q+1)).2) (q+1)).1 (hW l z (cE t o (f,(bo l z w (q+1)).2) (q+1)).2) (gW l z (cE t o (f,(bo l z w (q+1)).2) (q+1)).2) (cn (cE t o (f,(bo l z w (q+1)).2) (q+1)).2 l)::G2)):=by
 have h4:=HW n 2 s l k t d g z f h T w G q hq hh hn hr
 have h6:=HT (n+2) 2 s l k t d g z f h T (bo l z w (q+1)).2 G q (q+1) o (by omega) hl ho ht hz hf hv
 subst he
 refine aO (JO (n+2) s l k t d g z f (cE t (ep (aK (eV l z w (q+1))) 0) (f,(bo l z w (q+1)).2) (q+1)).1 (hW l z w) (hW l z (bo l z w (q+1)).2) (hW l z (cE t (ep (aK (eV l z w (q+1))) 0) (f,(bo l z w (q+1)).2) (q+1)).2) (gW l z w) (gW l z (bo l z w (q+1)).2) (gW l z (cE t (ep (aK (eV l z w (q+1))) 0) (f,(bo l z w (q+1)).2) (q+1)).2) (cn w l) (cn (bo l z w (q+1)).2 l) (cn (cE t (ep (aK (eV l z w (q+1))) 0) (f,(bo l z w (q+1)).2) (q+1)).2 l) h T q (q+1) (aK (eV l z w (q+1))) G G2 true) (sL (aB _) (fun x hx=>by rw[← Tr.ab hx];exact hy _ rfl)) (aW (aW (af _ _) F3 (fun x hx=>cG hx h6)) Cz (fun x hx=>cG hx h4)) (ag _ _) ?_
 clear h4 h6 hf hv ho hy hr
 generalize (cE t (ep (aK (eV l z w (q+1))) 0) (f,(bo l z w (q+1)).2) (q+1))=M at *
 generalize cn w l=C at hc ⊢
 generalize hW l z w=A at *
 generalize gW l z w=B at *
 exact wF
theorem Lm (q:Nat) (o:Nat→Int) (he:ep (aK (eV l z w (q+1))) 0=o) (hq:q<1000) (hh:((q+1:Nat):Int)<h) (hn:kd z (bo l z w (q+1)).2 l=none) (hc:0<cn w l) (hr:∀ j,j<q+1→∃ i,kd z (bo l z w j).2 l=some i) (hl:l≤30) (ho:∀ j,j<q+1→0≤o j∧o j<l) (ht:∀ i,i<l→t i<l) (hz:∀ i,i<l→1≤z i) (hf:∀ j,j<q+1→∀ i,i<l→-900≤(cE t o (f,(bo l z w (q+1)).2) j).1 i∧(cE t o (f,(bo l z w (q+1)).2) j).1 i≤900) (hv:∀ j,j<q+1→∀ i,i<l→(cE t o (f,(bo l z w (q+1)).2) j).2 i=true→(cE t o (f,(bo l z w (q+1)).2) j).1 i≤0) (hy:∀ L:aV,L.lock=false→cd (n+2) (.round 1 2) [dc (q+1) o false] (L::G)=some (.bool true,L::G2)) :
 ∃ x,exec (bA (n+2) 85 118) (part Try.f85 [1,1,1,1,1,1,1,0,0]) (fD 2 s l t k d g h++[(117,.bool false)]) (bM (s+1) l t k d g T z f (hW l z w) (gW l z w) (cn w l)::G)=some x∧(x.1=.normal∧tidy (al (bM (s+1) l t k d g T z f (hW l z w) (gW l z w) (cn w l)::G)) x.2.1 x.2.2=(fD 2 s l t k d g h++[(117,.bool false)],bM (s+1) l t k d g T z (cE t o (f,(bo l z w (q+1)).2) (q+1)).1 (hW l z (cE t o (f,(bo l z w (q+1)).2) (q+1)).2) (gW l z (cE t o (f,(bo l z w (q+1)).2) (q+1)).2) (cn (cE t o (f,(bo l z w (q+1)).2) (q+1)).2 l)::G2)):=by
 have h4:=HW n 2 s l k t d g z f h T w G q hq hh hn hr
 have h6:=HT (n+2) 2 s l k t d g z f h T (bo l z w (q+1)).2 G q (q+1) o (by omega) hl ho ht hz hf hv
 subst he
 refine aO (JP (n+2) s l k t d g z f (cE t (ep (aK (eV l z w (q+1))) 0) (f,(bo l z w (q+1)).2) (q+1)).1 (hW l z w) (hW l z (bo l z w (q+1)).2) (hW l z (cE t (ep (aK (eV l z w (q+1))) 0) (f,(bo l z w (q+1)).2) (q+1)).2) (gW l z w) (gW l z (bo l z w (q+1)).2) (gW l z (cE t (ep (aK (eV l z w (q+1))) 0) (f,(bo l z w (q+1)).2) (q+1)).2) (cn w l) (cn (bo l z w (q+1)).2 l) (cn (cE t (ep (aK (eV l z w (q+1))) 0) (f,(bo l z w (q+1)).2) (q+1)).2 l) h T q (q+1) (aK (eV l z w (q+1))) G G2 true) (sL (aB _) (fun x hx=>by rw[← Tr.ab hx];exact hy _ rfl)) (aW (aW (af _ _) F3 (fun x hx=>cG hx h6)) Cz (fun x hx=>cG hx h4)) (ag _ _) ?_
 clear h4 h6 hf hv ho hy hr
 generalize (cE t (ep (aK (eV l z w (q+1))) 0) (f,(bo l z w (q+1)).2) (q+1))=M at *
 generalize cn w l=C at hc ⊢
 generalize hW l z w=A at *
 generalize gW l z w=B at *
 exact wF
end
end Go.Eng
end
section
namespace Go.Eng
def Li (l:Nat) (f:Nat→Int):Nat:=cn (fun i=>decide (0<f i)) l
theorem DZ {p q:Nat→Bool} (h:∀ i,p i=true→q i=true→False):∀ l,cn p l+cn q l≤l
 | 0=>Nat.le_refl _
 | l + 1=>by
   have ih:=DZ h l
   show (cn p l+(p l).toNat)+(cn q l+(q l).toNat)≤l+1
   cases a:p l with
   | true =>
     cases b:q l with
     | true=>exact (h l a b).elim
     | false=>show cn p l+1+(cn q l+0)≤l+1;omega
   | false =>
     cases b:q l with
     | true=>show cn p l+0+(cn q l+1)≤l+1;omega
     | false=>show cn p l+0+(cn q l+0)≤l+1;omega
structure wY (l P:Nat) (b:Int) (st:(Nat→Int)×(Nat→Bool)):Prop where
 pot:Li l st.1+cn st.2 l≤P
 off:∀ i,i<l→st.2 i=true→st.1 i≤0
 bd:∀ i,i<l→b≤st.1 i∧st.1 i≤30
theorem Jc {l P:Nat} {b:Int} {t:Nat→Int} {st:(Nat→Int)×(Nat→Bool)} {c:Nat} (ht:t c<l) (h:wY l P b st):wY l P (b-1) (rb t st c):=by
 obtain ⟨f,w⟩:=st
 unfold rb
 by_cases e:t c<0
 · rw[if_pos e]
   exact ⟨h.pot,h.off,fun i hi=>by have:=h.bd i hi;omega⟩
 · rw [if_neg e]
   obtain ⟨x,hx⟩:∃ x:Nat,t c=x:=⟨(t c).toNat,by omega⟩
   rw[hx,Int.toNat_natCast]
   have hxl:x<l:=by omega
   have hb:∀ i,i<l→b-1≤uI f x (f x-1) i∧uI f x (f x-1) i≤30:=fun i hi=>by
    have h1:=h.bd i hi
    have h2:=h.bd x hxl
    unfold uI
    dsimp only at h1 h2
    by_cases c:i=x
    · rw[if_pos c];omega
    · rw[if_neg c];omega
   by_cases e0:f x-1=0
   · have hw:w x=false:=by
      cases hw:w x with
      | false=>rfl
      | true=>have:=h.off x hxl hw;dsimp only at this;omega
     dsimp only
     rw[if_pos e0]
     refine ⟨?_,fun i hi hw=>?_,hb⟩
     · have h1:cn (ja w x) l=cn w l+1:=g8 (p:=w) (q:=ja w x) (i:=x) hw (by unfold ja;rw[if_pos rfl]) (fun j _ hj=>by unfold ja;rw[if_neg hj]) hxl
       have h2:Li l f=Li l (uI f x (f x-1))+1:=g8 (i:=x) (by show decide (0<uI f x (f x-1) x)=false;unfold uI;rw[if_pos rfl];exact decide_eq_false (by omega)) (by exact decide_eq_true (by omega)) (fun j _ hj=>by show decide (0<f j)=decide (0<uI f x (f x-1) j);unfold uI;rw[if_neg hj]) hxl
       have:=h.pot
       dsimp only at this ⊢
       omega
     · dsimp only at hw ⊢
       unfold uI
       by_cases c:i=x
       · rw[if_pos c];omega
       · rw[if_neg c]
         unfold ja at hw
         rw[if_neg c] at hw
         exact h.off i hi hw
   · dsimp only
     rw[if_neg e0]
     refine ⟨?_,fun i hi hw=>?_,hb⟩
     · have h2:Li l (uI f x (f x-1))=Li l f:=dq (fun j hj=>by
        unfold uI
        by_cases c:j=x
        · subst c;rw[if_pos rfl]
          exact decide_eq_decide.2 (by omega)
        · rw[if_neg c])
       have:=h.pot
       dsimp only at this ⊢
       omega
     · have:=h.off i hi hw
       dsimp only at this ⊢
       unfold uI
       by_cases c:i=x
       · subst c;rw[if_pos rfl];omega
       · rw[if_neg c];exact this
theorem EC {l P:Nat} {b:Int} {t o:Nat→Int} {st:(Nat→Int)×(Nat→Bool)} (h:wY l P b st):∀ m,(∀ j,j<m→t (o j).toNat<l)→wY l P (b-m) (cE t o st m)
 | 0,_=>by
   refine ⟨h.pot,h.off,fun i hi=>?_⟩
   have:=h.bd i hi
   show b-((0:Nat):Int)≤st.1 i∧st.1 i≤30
   omega
 | m+1,hm=>by
   have:=Jc (c:=(o m).toNat) (hm m (by omega)) (EC h m (fun j hj=>hm j (by omega)))
   have e:b-((m+1:Nat):Int)=b-(m:Nat)-1:=by omega
   rw[e];exact this
theorem IM {l P:Nat} {b:Int} {f:Nat→Int} {w:Nat→Bool} {i:Nat} (hi:i<l) (hw:w i=true) (h:wY l (P+1) b (f,w)):wY l P b (f,mR w i):=by
 refine ⟨?_,fun j hj hw=>?_,h.bd⟩
 · have:=g8 (p:=mR w i) (q:=w) (i:=i) (n:=l) (by unfold mR;rw[if_pos rfl]) hw (fun j _ hj=>by unfold mR;rw[if_neg hj]) hi
   have h2:=h.pot
   dsimp only at h2 ⊢
   omega
 · dsimp only at hw ⊢
   unfold mR at hw
   by_cases c:j=i
   · rw[if_pos c] at hw;cases hw
   · rw[if_neg c] at hw
     exact h.off j hj hw
theorem H3 {l P:Nat} {b:Int} {f z:Nat→Int} {w:Nat→Bool}:∀ r,(∀ j,j<r→∃ i,kd z (bo l z w j).2 l=some i)→wY l (P+r) b (f,w)→wY l P b (f,(bo l z w r).2)∧∀ i ∈ (bo l z w r).1,i<l
 | 0,_,h=>⟨h,fun i hi=>by cases hi⟩
 | r+1,hr,h=>by
   obtain ⟨i,hi⟩:=hr r (by omega)
   obtain ⟨h1,h2⟩:=mz hi
   obtain ⟨h3,h4⟩:=H3 (P:=P+1) r (fun j hj=>hr j (by omega)) (by rw[show P+1+r=P+(r+1) by omega];exact h)
   rw[fi hi]
   refine ⟨IM h1 h2 h3,fun x hx=>?_⟩
   dsimp only at hx
   rcases List.mem_append.1 hx with hx | hx
   · exact h4 x hx
   · rw[List.mem_singleton.1 hx];exact h1
noncomputable def Hr (l:Nat) (t z:Nat→Int) (H:Nat) (st:(Nat→Int)×(Nat→Bool)):(Nat→Int)×(Nat→Bool):=cE t (aK (eV l z st.2 H)) (st.1,(bo l z st.2 H).2) (eV l z st.2 H).length
noncomputable def ev (l:Nat) (t z:Nat→Int) (H:Nat) (f0:Nat→Int):Nat→(Nat→Int)×(Nat→Bool)
 | 0=>(f0,w0 f0 l)
 | m+1=>Hr l t z H (ev l t z H f0 m)
noncomputable def JI (l:Nat) (t z:Nat→Int) (H:Nat) (f0:Nat→Int) (m:Nat):List Int:=eV l z (ev l t z H f0 m).2 H
theorem GI (L:List Int) {j:Nat} (h:j<L.length):aK L j ∈ L:=by
 rw[jj]
 show L.getD j 0 ∈ L
 rw[List.getD_eq_getElem?_getD,List.getElem?_eq_getElem h]
 exact List.getElem_mem h
theorem JA {l:Nat} {z:Nat→Int} {w:Nat→Bool} {r:Nat} (h:∀ i ∈ (bo l z w r).1,i<l) {j:Nat} (hj:j<(eV l z w r).length):0≤aK (eV l z w r) j∧aK (eV l z w r) j<l:=by
 have:=GI _ hj
 obtain ⟨i,h1,h2⟩:=List.mem_map.1 this
 have:=h i h1
 rw[← h2];omega
theorem FJ {l P H:Nat} {t z:Nat→Int} {st:(Nat→Int)×(Nat→Bool)} (hl:l≤30) (ht:∀ i,i<l→t i<l) (hH:0<H) (hc:0<cn st.2 l) (h:wY l P ((P:Int)-l) st):∃ q,q+1≤H∧q+1≤P∧(∀ j,j<q+1→∃ i,kd z (bo l z st.2 j).2 l=some i)∧(q+1=H∨(q+1<H∧kd z (bo l z st.2 (q+1)).2 l=none))∧eV l z st.2 H=eV l z st.2 (q+1)∧(eV l z st.2 (q+1)).length=q+1∧Hr l t z H st=cE t (aK (eV l z st.2 (q+1))) (st.1,(bo l z st.2 (q+1)).2) (q+1)∧(∀ j,j<q+1→0≤aK (eV l z st.2 (q+1)) j∧aK (eV l z st.2 (q+1)) j<l)∧(∀ j,j≤q+1→wY l (P-(q+1)) (-l) (cE t (aK (eV l z st.2 (q+1))) (st.1,(bo l z st.2 (q+1)).2) j))∧wY l (P-(q+1)) (((P-(q+1):Nat):Int)-l) (Hr l t z H st):=by
 obtain ⟨r,h1,h2,h3,h4⟩:=lX (l:=l) (z:=z) (w:=st.2) H
 have hr0:r≠0:=by
  rintro rfl
  rcases h4 with h4 | h4
  · omega
  · have hs:=jW z st.2 l
    have h4':kd z st.2 l=none:=h4
    rw[h4'] at hs
    have:=kr hs
    omega
 obtain ⟨q,rfl⟩:∃ q,r=q+1:=⟨r-1,by omega⟩
 have hlen:=sG (q+1) h2
 have hI:eV l z st.2 H=eV l z st.2 (q+1):=by unfold eV;rw[h3]
 have hcnt:∀ r,(∀ j,j<r→∃ i,kd z (bo l z st.2 j).2 l=some i)→cn (bo l z st.2 r).2 l+r=cn st.2 l:=by
  intro r
  induction r with
  | zero=>intro _;rfl
  | succ r ih =>
    intro hr
    obtain ⟨i,hi⟩:=hr r (by omega)
    obtain ⟨a1,a2⟩:=mz hi
    have:=ih (fun j hj=>hr j (by omega))
    rw[fi hi]
    have:=g8 (p:=mR (bo l z st.2 r).2 i) (q:=(bo l z st.2 r).2) (i:=i) (n:=l) (by unfold mR;rw[if_pos rfl]) a2 (fun j _ hj=>by unfold mR;rw[if_neg hj]) a1
    dsimp only
    omega
 have hqP:q+1≤P:=by
  have:=hcnt (q+1) h2
  have:=h.pot
  omega
 have hpk:=H3 (P:=P-(q+1)) (f:=st.1) (b:=(P:Int)-l) (q+1) h2 (by rw[show P-(q+1)+(q+1)=P by omega];exact h)
 obtain ⟨k1,k2⟩:=hpk
 have ho:∀ j,j<q+1→0≤aK (eV l z st.2 (q+1)) j∧aK (eV l z st.2 (q+1)) j<l:=fun j hj=>JA k2 (by omega)
 have hS:∀ j,j≤q+1→wY l (P-(q+1)) ((P:Int)-l-j) (cE t (aK (eV l z st.2 (q+1))) (st.1,(bo l z st.2 (q+1)).2) j):=fun j hj=>EC k1 j (fun i hi=>ht _ (by have:=ho i (by omega);omega))
 have htu:Hr l t z H st=cE t (aK (eV l z st.2 (q+1))) (st.1,(bo l z st.2 (q+1)).2) (q+1):=by
  unfold Hr
  rw[hI,hlen,h3]
 refine ⟨q,h1,hqP,h2,?_,hI,hlen,htu,ho,fun j hj=>?_,?_⟩
 · rcases h4 with h4 | h4
   · exact .inl h4
   · by_cases e:q+1=H
     · exact .inl e
     · exact .inr ⟨by omega,h4⟩
 · obtain ⟨a,b,c⟩:=hS j hj
   exact ⟨a,b,fun i hi=>by have:=c i hi;omega⟩
 · rw[htu]
   obtain ⟨a,b,c⟩:=hS (q+1) (by omega)
   exact ⟨a,b,fun i hi=>by have:=c i hi;omega⟩
theorem FD {l H:Nat} {t z f0:Nat→Int} (hl:l≤30) (ht:∀ i,i<l→t i<l) (hH:0<H) (h0:∀ i,i<l→0≤f0 i∧f0 i≤30):∃ M,M≤l∧(∀ m,m<M→0<cn (ev l t z H f0 m).2 l)∧cn (ev l t z H f0 M).2 l=0∧∀ m,m≤M→∃ P,P+m≤l∧wY l P ((P:Int)-l) (ev l t z H f0 m):=by
 have hi0:wY l l ((l:Int)-l) (ev l t z H f0 0):=by
  refine ⟨DZ (fun i a b=>?_) l,fun i hi hw=>?_,fun i hi=>?_⟩
  · have a:=of_decide_eq_true a
    have b:(decide (i<l) && decide (f0 i=0))=true:=b
    simp only[Bool.and_eq_true,decide_eq_true_eq] at b
    have:0<f0 i:=a
    omega
  · have b:(decide (i<l) && decide (f0 i=0))=true:=hw
    simp only[Bool.and_eq_true,decide_eq_true_eq] at b
    show f0 i≤0
    omega
  · have:=h0 i hi
    show (l:Int)-l≤f0 i∧f0 i≤30
    omega
 have key:∀ m,(∀ j,j<m→0<cn (ev l t z H f0 j).2 l)→∃ P,P+m≤l∧wY l P ((P:Int)-l) (ev l t z H f0 m):=by
  intro m
  induction m with
  | zero=>intro _;exact ⟨l,by omega,hi0⟩
  | succ m ih =>
    intro hm
    obtain ⟨P,p1,p2⟩:=ih (fun j hj=>hm j (by omega))
    obtain ⟨q,_,a2,_,_,_,_,_,_,_,a10⟩:=FJ (z:=z) hl ht hH (hm m (by omega)) p2
    exact ⟨P-(q+1),by omega,a10⟩
 have hex:∃ M,M≤l∧cn (ev l t z H f0 M).2 l=0:=by
  apply Classical.byContradiction
  intro hno
  have hall:∀ m,m≤l→0<cn (ev l t z H f0 m).2 l:=fun m hm=>by
   apply Classical.byContradiction
   intro hc
   exact hno ⟨m,hm,by omega⟩
  obtain ⟨P,p1,p2⟩:=key l (fun j hj=>hall j (by omega))
  have:=p2.pot
  have:=hall l (Nat.le_refl _)
  omega
 have hfind:∀ n,(∃ M,M≤n∧cn (ev l t z H f0 M).2 l=0)→∃ M,M≤n∧(∀ m,m<M→0<cn (ev l t z H f0 m).2 l)∧cn (ev l t z H f0 M).2 l=0:=by
  intro n
  induction n with
  | zero =>
    rintro ⟨M,hM,hz⟩
    obtain rfl:M=0:=by omega
    exact ⟨0,by omega,fun m hm=>by omega,hz⟩
  | succ n ih =>
    rintro ⟨M,hM,hz⟩
    by_cases c:∃ M,M≤n∧cn (ev l t z H f0 M).2 l=0
    · obtain ⟨M,a,b⟩:=ih c
      exact ⟨M,by omega,b⟩
    · have e:M=n+1:=by
       apply Classical.byContradiction
       intro hne
       exact c ⟨M,by omega,hz⟩
      subst e
      refine ⟨n+1,by omega,fun m hm=>?_,hz⟩
      apply Classical.byContradiction
      intro hc
      exact c ⟨m,by omega,by omega⟩
 obtain ⟨M,a,b,c⟩:=hfind l hex
 exact ⟨M,a,b,c,fun m hm=>key m (fun j hj=>b j (by omega))⟩
end Go.Eng
end
section
namespace Go.Eng
structure Dy (l:Nat) (t:Nat→Int) (d e:Nat→Bool) (f:Nat→Int) (w:Nat→Bool):Prop where
 q1:∀ i,i<l→f i=(cn (fun x=>decide (t x=(i:Int)) && !e x) l:Nat)
 q2:∀ i,i<l→(w i=true↔d i=false∧f i=0)
 q3:∀ i,i<l→d i=true→f i=0
 q4:∀ i,e i=true→d i=true
theorem Jz {l:Nat} {t f:Nat→Int} {d e w:Nat→Bool} {i:Nat} (h:Dy l t d e f w) (hi:i<l) (hw:w i=true):Dy l t (ja d i) e f (mR w i):=by
 refine ⟨h.q1,fun j hj=>?_,fun j hj hd=>?_,fun j hj=>?_⟩
 · unfold ja mR
   by_cases c:j=i
   · rw[if_pos c,if_pos c];simp
   · rw[if_neg c,if_neg c];exact h.q2 j hj
 · unfold ja at hd
   by_cases c:j=i
   · subst c;exact ((h.q2 j hj).1 hw).2
   · rw[if_neg c] at hd;exact h.q3 j hj hd
 · unfold ja
   by_cases c:j=i
   · rw[if_pos c]
   · rw[if_neg c];exact h.q4 j hj
theorem KW {l:Nat} {t f:Nat→Int} {d e w:Nat→Bool} {c:Nat} (h:Dy l t d e f w) (hc:c<l) (ht:t c<l) (hd:d c=true) (he:e c=false):Dy l t d (ja e c) (rb t (f,w) c).1 (rb t (f,w) c).2:=by
 have h4:∀ i,ja e c i=true→d i=true:=fun i hi=>by
  unfold ja at hi
  by_cases k:i=c
  · rw[k];exact hd
  · rw[if_neg k] at hi;exact h.q4 i hi
 have hoff:∀ i:Nat,t c≠(i:Int)→cn (fun x=>decide (t x=(i:Int)) && !ja e c x) l=cn (fun x=>decide (t x=(i:Int)) && !e x) l:=fun i hi=>by
  refine dq (fun x hx=>?_)
  unfold ja
  by_cases k:x=c
  · subst k;rw[decide_eq_false hi];rfl
  · rw[if_neg k]
 unfold rb
 by_cases c0:t c<0
 · rw[if_pos c0]
   exact ⟨fun i hi=>by rw[hoff i (by omega)];exact h.q1 i hi,h.q2,h.q3,h4⟩
 · rw [if_neg c0]
   obtain ⟨x,hx⟩:∃ x:Nat,t c=x:=⟨(t c).toNat,by omega⟩
   have hxl:x<l:=by omega
   rw[hx,Int.toNat_natCast]
   have hset:cn (fun y=>decide (t y=(x:Int)) && !e y) l=cn (fun y=>decide (t y=(x:Int)) && !ja e c y) l+1:=g8 (i:=c) (by unfold ja;rw[if_pos rfl];simp) (by rw[he,decide_eq_true hx];rfl) (fun j _ hj=>by unfold ja;rw[if_neg hj]) hc
   have hf:=h.q1 x hxl
   have hdx:d x=false:=by
    cases hdx:d x with
    | false=>rfl
    | true=>have:=h.q3 x hxl hdx;omega
   have hwx:w x=false:=by
    cases hw:w x with
    | false=>rfl
    | true=>have:=((h.q2 x hxl).1 hw).2;omega
   have h1:∀ i,i<l→uI f x (f x-1) i=(cn (fun y=>decide (t y=(i:Int)) && !ja e c y) l:Nat):=fun i hi=>by
    unfold uI
    by_cases k:i=x
    · subst k;rw[if_pos rfl];omega
    · rw[if_neg k,hoff i (by omega)];exact h.q1 i hi
   have h3:∀ i,i<l→d i=true→uI f x (f x-1) i=0:=fun i hi hdi=>by
    unfold uI
    by_cases k:i=x
    · subst k;rw[hdx] at hdi;cases hdi
    · rw[if_neg k];exact h.q3 i hi hdi
   refine ⟨h1,fun i hi=>?_,h3,h4⟩
   dsimp only
   by_cases k:i=x
   · subst k
     have e1:uI f i (f i-1) i=f i-1:=by unfold uI;rw[if_pos rfl]
     rw[e1]
     by_cases e0:f i-1=0
     · rw[if_pos e0]
       unfold ja
       rw[if_pos rfl]
       exact ⟨fun _=>⟨hdx,e0⟩,fun _=>rfl⟩
     · rw[if_neg e0,hwx]
       exact ⟨fun q=>absurd q (by decide),fun q=>absurd q.2 e0⟩
   · have e1:uI f x (f x-1) i=f i:=by unfold uI;rw[if_neg k]
     have e2:(if f x-1=0 then ja w x else w) i=w i:=by
      by_cases e0:f x-1=0
      · rw[if_pos e0];unfold ja;rw[if_neg k]
      · rw[if_neg e0]
     rw[e1,e2];exact h.q2 i hi
def wX (d:Nat→Bool) (L:List Nat):Nat→Bool:=fun i=>d i || decide (i ∈ L)
theorem BT (d:Nat→Bool):wX d []=d:=by funext i;unfold wX;simp
theorem BS (d:Nat→Bool) (L:List Nat) (i:Nat):ja (wX d L) i=wX d (L++[i]):=by
 funext j
 unfold ja wX
 by_cases c:j=i
 · rw[if_pos c];simp[c]
 · rw[if_neg c];simp[c]
theorem yE {l:Nat} {t f z:Nat→Int} {d w:Nat→Bool} (h:Dy l t d d f w):∀ r,(∀ j,j<r→∃ i,kd z (bo l z w j).2 l=some i)→Dy l t (wX d (bo l z w r).1) d f (bo l z w r).2∧(bo l z w r).1.Nodup∧∀ i ∈ (bo l z w r).1,i<l∧d i=false
 | 0,_=>⟨by show Dy l t (wX d []) d f w;rw[BT];exact h,List.nodup_nil,fun i hi=>by cases hi⟩
 | r + 1,hr=>by
   obtain ⟨i,hi⟩:=hr r (by omega)
   obtain ⟨a1,a2⟩:=mz hi
   obtain ⟨b1,b2,b3⟩:=yE h r (fun j hj=>hr j (by omega))
   rw[fi hi]
   dsimp only
   have hn:=((b1.q2 i a1).1 a2).1
   unfold wX at hn
   simp only[Bool.or_eq_false_iff,decide_eq_false_iff_not] at hn
   refine ⟨?_,?_,fun x hx=>?_⟩
   · rw[← BS];exact Jz b1 a1 a2
   · rw[List.nodup_append]
     refine ⟨b2,by simp,fun a ha b hb=>?_⟩
     rw[List.mem_singleton.1 hb]
     rintro rfl
     exact hn.2 ha
   · rcases List.mem_append.1 hx with hx | hx
     · exact b3 x hx
     · rw[List.mem_singleton.1 hx];exact ⟨a1,hn.1⟩
theorem EE {l:Nat} {t f:Nat→Int} {d w:Nat→Bool} {L:List Nat} (ht:∀ i,i<l→t i<l) (h:Dy l t (wX d L) d f w) (hn:L.Nodup) (hL:∀ i ∈ L,i<l∧d i=false):∀ j,j≤L.length→Dy l t (wX d L) (wX d (L.take j)) (cE t (aK (L.map fun (i:Nat)=>(i:Int))) (f,w) j).1 (cE t (aK (L.map fun (i:Nat)=>(i:Int))) (f,w) j).2
 | 0,_=>by rw[List.take_zero,BT];exact h
 | j+1,hj=>by
   have ih:=EE ht h hn hL j (by omega)
   have hj:j<L.length:=by omega
   have ho:(aK (L.map fun (i:Nat)=>(i:Int)) j).toNat=L[j]:=by
    rw[jj]
    show ((L.map fun (i:Nat)=>(i:Int)).getD j 0).toNat=_
    rw[List.getD_eq_getElem?_getD,List.getElem?_map,List.getElem?_eq_getElem hj]
    rfl
   have hm:L[j] ∈ L:=List.getElem_mem hj
   obtain ⟨c1,c2⟩:=hL _ hm
   have hnot:L[j] ∉ L.take j:=by
    intro hmem
    obtain ⟨k,hk,he⟩:=List.mem_iff_getElem.1 hmem
    rw[List.getElem_take] at he
    have hkj:k<j:=by rw[List.length_take] at hk;omega
    have:=(List.getElem_inj hn (h₀:=by omega) (h₁:=hj)).1 he
    omega
   have:=KW (c:=L[j]) ih c1 (ht _ c1) (by unfold wX;rw[decide_eq_true hm,Bool.or_true]) (by unfold wX;rw[c2,decide_eq_false hnot];rfl)
   rw[BS,show L.take j++[L[j]]=L.take (j+1) from (List.take_append_getElem hj)] at this
   show Dy l t (wX d L) (wX d (L.take (j+1))) (rb t (cE t _ (f,w) j) (aK (L.map fun (i:Nat)=>(i:Int)) j).toNat).1 (rb t (cE t _ (f,w) j) (aK (L.map fun (i:Nat)=>(i:Int)) j).toNat).2
   rw[ho]
   exact this
noncomputable def dS (l:Nat) (t z:Nat→Int) (H:Nat) (f0:Nat→Int):Nat→Nat→Bool
 | 0=>fun _=>false
 | m+1=>wX (dS l t z H f0 m) (bo l z (ev l t z H f0 m).2 H).1
theorem Ay {l H:Nat} {t z f0:Nat→Int} (hl:l≤30) (ht:∀ i,i<l→t i<l) (h0:∀ i,i<l→f0 i=(cn (fun x=>decide (t x=(i:Int))) l:Nat)):∀ m,Dy l t (dS l t z H f0 m) (dS l t z H f0 m) (ev l t z H f0 m).1 (ev l t z H f0 m).2
 | 0 => by
   refine ⟨fun i hi=>?_,fun i hi=>?_,fun i hi hd=>absurd hd (by show ¬ false=true;decide),fun i hi=>hi⟩
   · show f0 i=_
     rw[h0 i hi]
     exact congrArg _ (dq (fun x hx=>by show _=(decide (t x=(i:Int)) && !false);simp))
   · show (decide (i<l) && decide (f0 i=0))=true↔false=false∧f0 i=0
     simp only[Bool.and_eq_true,decide_eq_true_eq,true_and]
     exact ⟨fun h=>h.2,fun h=>⟨hi,h⟩⟩
 | m+1=>by
   have ih:=Ay (z:=z) (H:=H) hl ht h0 m
   obtain ⟨r,h1,h2,h3,h4⟩:=lX (l:=l) (z:=z) (w:=(ev l t z H f0 m).2) H
   obtain ⟨a1,a2,a3⟩:=yE ih r h2
   have:=EE ht a1 a2 a3 (bo l z (ev l t z H f0 m).2 r).1.length (Nat.le_refl _)
   rw[List.take_length] at this
   show Dy l t (wX _ (bo l z (ev l t z H f0 m).2 H).1) (wX _ (bo l z (ev l t z H f0 m).2 H).1) (Hr l t z H (ev l t z H f0 m)).1 (Hr l t z H (ev l t z H f0 m)).2
   unfold Hr eV
   rw[h3,List.length_map]
   exact this
end Go.Eng
end
