/- Drop: group: its rounds. -/
import Derived.Test.YtjmjkhpfipglcaaV8Fbx3
section
namespace Go.Eng
open Go.Proofs
set_option linter.unusedVariables false
set_option linter.unusedSimpArgs false
set_option maxRecDepth 100000
noncomputable def fr88 (tk:Nat) (w:Int) (ls ld:Nat) (zs zd sz kd:Nat→Int) (sure:Bool) (i:Int):Frm:=[(0,tabR (tk+1) w ls ld zs zd sz kd),(2,.bool sure),(4,.ptr 0 0 0 0),(7,.ptr 0 1 0 0),(8,.ptr 0 3 0 0),(9,.int .i64 i)]
noncomputable def fr88n (tk:Nat) (w:Int) (ls ld:Nat) (zs zd sz kd:Nat→Int) (sure:Bool) (i cur:Int):Frm:=[(0,tabR (tk+1) w ls ld zs zd sz kd),(2,.bool sure),(4,.ptr 0 0 0 0),(7,.ptr 0 1 0 0),(8,.ptr 0 3 0 0),(9,.int .i64 i),(30,.fn (.func 110) [] (capsN (tk+1) w ls ld zs zd sz kd cur sure))]
noncomputable def lvGr (p:Int) (mk:Nat→Int) (s:AV) (rest:List (Nat×Blk)):Lvl:=⟨false,(0,.row (.I .i64 [p]))::(0,.row (.M [.arr .i64 mk 12]))::(0,.row (.I .i64 [p]))::(0,.row (.G [s]))::rest⟩
noncomputable def fr88Z (tk:Nat) (w:Int) (ls ld:Nat) (zs zd sz kd:Nat→Int) (sure:Bool) (i q cur:Int):Frm:=[(0,tabR (tk+5) w ls ld zs zd sz kd),(2,.bool sure),(4,.ptr 4 0 0 0),(7,.ptr 4 1 0 0),(8,.ptr 4 3 0 0),(9,.int .i64 i),(30,.fn (.func 110) [] [.ptrT (some 4) (.G [tabR (tk+1) w ls ld zs zd sz kd]) 0,.ptrT none (.I .i64 [cur]) 0,.ptrT (some 4) (.G [.bool sure]) 0]),(31,.int .i64 q)]
noncomputable def fr88Y (q:Int):Frm:=[(4,.ptr 4 0 0 0),(7,.ptr 4 1 0 0),(8,.ptr 4 3 0 0),(10,.int .i64 q)]
noncomputable def cx88 (n R:Nat):Cx:=⟨Try.prog,cd n,100000,88,56,Kt.kt 88,some (4,R)⟩
noncomputable def pAs:Code:=part Try.f88 [1,1,1,1,1,0,1,0,0,1,0,0,1,0,0]
noncomputable def pBd:Code:=part Try.f88 [1,1,1,1,1,0,1,0,0,1,0,0,1,0,1]
noncomputable def rec88 (tk:Nat) (w:Int) (ls ld:Nat) (zs zd sz kd:Nat→Int) (sure:Bool) (i cur:Int):ALoop:={ state:=.ready,pending:=none,fn:=88,nt:=56,fr:=fr88n tk w ls ld zs zd sz kd sure i cur,params:=[31],assign:=pAs,body:=pBd }
theorem t88A (n:Nat) (mk:Nat→Int) (H:Heap) (p q:Int) (L:Blk) (L0:ALoop):execT (cx88 n 4) (il noCt n 0) noBT noRT pBd (hints (fr88Y q)) (lv0::lv0::lv0::lv110 4 [(0,.loop L0)]::lvGr p mk (.slc 0 2 0 0 1 1 (some 1)) [(0,L)]::H) =
 (fun (Z0:Lvl)=>((fun (Z1:Lvl)=>((fun (Z2:HFrm)=>Tr.ite (notB (eqI q p)) (Tr.req (inI (addI .i64 q (Int.ofNat 2)) 12) (Tr.req (eqN 0 0) (Tr.req (ltN (idO 0 (addI .i64 q (Int.ofNat 2)) 1) 12) (Tr.ite (eqI (mk (idO 0 (addI .i64 q (Int.ofNat 2)) 1)) (Int.ofNat 0)) (Tr.req (inI (addI .i64 q (Int.ofNat 2)) 12) (Tr.req (eqN 0 0) (Tr.req (ltN (idO 0 (addI .i64 q (Int.ofNat 2)) 1) 12) (Tr.req (roomO 1 1 8) (Tr.req (leN 1 1) (Tr.ite (ltN 1 (addO 1 1)) (Tr.req (leN 1 1) (Tr.ok (Ex.normal,[],{ lock:=false,bs:=[(0,Blk.row (Row.I .i64 [q])),(0,Blk.row (Row.I .i64 [q])),(0,Blk.dead)] } :: lv0::lv0::Z1::{ lock:=false,bs:=[(0,Blk.row (Row.I .i64 [p])),(0,Blk.row (Row.M [Seg.arr .i64 (updO mk (idO 0 (addI .i64 q (Int.ofNat 2)) 1) (Int.ofNat 1)) 12])),(0,Blk.row (Row.I .i64 [p])),(0,Blk.row (Row.G [AV.slc 0 5 0 0 1 (addO 1 1) none])),(0,L),(0,Blk.row (Row.M [Seg.arr .i64 (lstO [p,q]) 2]))] } :: H))) Tr.bad)))))) (Tr.ok (Ex.normal,Z2,{ lock:=false,bs:=[(0,Blk.row (Row.I .i64 [q]))] } :: lv0::lv0::Z1::Z0::H)))))) (Tr.ok (Ex.normal,Z2,{ lock:=false,bs:=[(0,Blk.row (Row.I .i64 [q]))] } :: lv0::lv0::Z1::Z0::H))) [(7,AV.ptr 4 1 0 0,none),(8,AV.ptr 4 3 0 0,none),(10,AV.int .i64 q,none),(45,AV.bool false,some 1)])) { lock:=false,bs:=[(0,Blk.row (Row.G [AV.yld 1 4])),(0,Blk.loop L0)] })) { lock:=false,bs:=[(0,Blk.row (Row.I .i64 [p])),(0,Blk.row (Row.M [Seg.arr .i64 mk 12])),(0,Blk.row (Row.I .i64 [p])),(0,Blk.row (Row.G [AV.slc 0 2 0 0 1 1 (some 1)])),(0,L)] }:=by kernel_rfl
theorem t88B (n:Nat) (mk z:Nat→Int) (H:Heap) (p q:Int) (L:Blk) (L0:ALoop) (v m:Nat):execT (cx88 n 4) (il noCt n 0) noBT noRT pBd (hints (fr88Y q)) (lv0::lv0::lv0::lv110 4 [(0,.loop L0)]::lvGr p mk (.slc 0 5 v 0 1 m none) [(0,L),(v,.row (.M [.arr .i64 z m]))]::H) =
 (fun (Z0:Lvl)=>((fun (Z1:Lvl)=>((fun (Z2:HFrm)=>Tr.ite (notB (eqI q p)) (Tr.req (inI (addI .i64 q (Int.ofNat 2)) 12) (Tr.req (eqN 0 0) (Tr.req (ltN (idO 0 (addI .i64 q (Int.ofNat 2)) 1) 12) (Tr.ite (eqI (mk (idO 0 (addI .i64 q (Int.ofNat 2)) 1)) (Int.ofNat 0)) (Tr.req (inI (addI .i64 q (Int.ofNat 2)) 12) (Tr.req (eqN 0 0) (Tr.req (ltN (idO 0 (addI .i64 q (Int.ofNat 2)) 1) 12) (Tr.req (roomO m 1 8) (Tr.req (leN 1 1) (Tr.req (eqN v v) (Tr.req (eqN (addO 0 m) m) (Tr.ok (Ex.normal,[],{ lock:=false,bs:=[(0,Blk.row (Row.I .i64 [q])),(0,Blk.row (Row.I .i64 [q]))] } :: lv0::lv0::Z1::{ lock:=false,bs:=[(0,Blk.row (Row.I .i64 [p])),(0,Blk.row (Row.M [Seg.arr .i64 (updO mk (idO 0 (addI .i64 q (Int.ofNat 2)) 1) (Int.ofNat 1)) 12])),(0,Blk.row (Row.I .i64 [p])),(0,Blk.row (Row.G [AV.slc 0 5 (Nat.succ v) 0 1 (addO m 1) none])),(0,L),(Nat.succ v,Blk.row (Row.M [Seg.arr .i64 (appO (shO z 0) m (lstO [q])) (addO m 1)]))] } :: H))))))))) (Tr.ok (Ex.normal,Z2,{ lock:=false,bs:=[(0,Blk.row (Row.I .i64 [q]))] } :: lv0::lv0::Z1::Z0::H)))))) (Tr.ok (Ex.normal,Z2,{ lock:=false,bs:=[(0,Blk.row (Row.I .i64 [q]))] } :: lv0::lv0::Z1::Z0::H))) [(7,AV.ptr 4 1 0 0,none),(8,AV.ptr 4 3 0 0,none),(10,AV.int .i64 q,none),(45,AV.bool false,some 1)])) { lock:=false,bs:=[(0,Blk.row (Row.G [AV.yld 1 4])),(0,Blk.loop L0)] })) { lock:=false,bs:=[(0,Blk.row (Row.I .i64 [p])),(0,Blk.row (Row.M [Seg.arr .i64 mk 12])),(0,Blk.row (Row.I .i64 [p])),(0,Blk.row (Row.G [AV.slc 0 5 v 0 1 m none])),(0,L),(v,Blk.row (Row.M [Seg.arr .i64 z m]))] }:=by kernel_rfl
theorem t88C (n:Nat) (mk z:Nat→Int) (H:Heap) (p q:Int) (L:Blk) (L0:ALoop) (v m:Nat):execT (cx88 n 5) (il noCt n 0) noBT noRT pBd (hints (fr88Y q)) (lv0::lv0::lv0::lv110 5 [(0,.loop L0)]::lvGr p mk (.slc 0 4 v 0 1 m none) [(v,.row (.M [.arr .i64 z m])),(0,L)]::H) =
 (fun (Z0:Lvl)=>((fun (Z1:Lvl)=>((fun (Z2:HFrm)=>Tr.ite (notB (eqI q p)) (Tr.req (inI (addI .i64 q (Int.ofNat 2)) 12) (Tr.req (eqN 0 0) (Tr.req (ltN (idO 0 (addI .i64 q (Int.ofNat 2)) 1) 12) (Tr.ite (eqI (mk (idO 0 (addI .i64 q (Int.ofNat 2)) 1)) (Int.ofNat 0)) (Tr.req (inI (addI .i64 q (Int.ofNat 2)) 12) (Tr.req (eqN 0 0) (Tr.req (ltN (idO 0 (addI .i64 q (Int.ofNat 2)) 1) 12) (Tr.req (roomO m 1 8) (Tr.req (leN 1 1) (Tr.req (eqN v v) (Tr.req (eqN (addO 0 m) m) (Tr.ok (Ex.normal,[],{ lock:=false,bs:=[(0,Blk.row (Row.I .i64 [q])),(0,Blk.row (Row.I .i64 [q]))] } :: lv0::lv0::Z1::{ lock:=false,bs:=[(0,Blk.row (Row.I .i64 [p])),(0,Blk.row (Row.M [Seg.arr .i64 (updO mk (idO 0 (addI .i64 q (Int.ofNat 2)) 1) (Int.ofNat 1)) 12])),(0,Blk.row (Row.I .i64 [p])),(0,Blk.row (Row.G [AV.slc 0 4 (Nat.succ v) 0 1 (addO m 1) none])),(Nat.succ v,Blk.row (Row.M [Seg.arr .i64 (appO (shO z 0) m (lstO [q])) (addO m 1)])),(0,L)] } :: H))))))))) (Tr.ok (Ex.normal,Z2,{ lock:=false,bs:=[(0,Blk.row (Row.I .i64 [q]))] } :: lv0::lv0::Z1::Z0::H)))))) (Tr.ok (Ex.normal,Z2,{ lock:=false,bs:=[(0,Blk.row (Row.I .i64 [q]))] } :: lv0::lv0::Z1::Z0::H))) [(7,AV.ptr 4 1 0 0,none),(8,AV.ptr 4 3 0 0,none),(10,AV.int .i64 q,none),(45,AV.bool false,some 1)])) { lock:=false,bs:=[(0,Blk.row (Row.G [AV.yld 1 5])),(0,Blk.loop L0)] })) { lock:=false,bs:=[(0,Blk.row (Row.I .i64 [p])),(0,Blk.row (Row.M [Seg.arr .i64 mk 12])),(0,Blk.row (Row.I .i64 [p])),(0,Blk.row (Row.G [AV.slc 0 4 v 0 1 m none])),(v,Blk.row (Row.M [Seg.arr .i64 z m])),(0,L)] }:=by kernel_rfl
theorem t88r4 (n:Nat) (tk:Nat) (w:Int) (ls ld:Nat) (zs zd sz kd mk:Nat→Int) (H:Heap) (p cur i:Int) (sure:Bool) (L1:Lvl):execT (cxD (n+5) 88 56) (il noCt (n+4) 1) noBT (rgE noRT (fun _=>true) (fr88n tk w ls ld zs zd sz kd sure i cur) (lvGr p mk (.slc 0 2 0 0 1 1 (some 1)) []::H) (.ok (.normal,hints (fr88n tk w ls ld zs zd sz kd sure i cur),L1::H))) (part Try.f88 [1,1,1,1,1,0,1,0,0]) (hints (fr88 tk w ls ld zs zd sz kd sure i)) (lvGr p mk (.slc 0 2 0 0 1 1 (some 1)) []::H) =
 (fun (Z0:Row)=>((fun (Z1:Lvl)=>Tr.ite (ltI i (Int.ofNat 1)) (Tr.req (inI i 1) (Tr.req (eqN 0 0) (Tr.req (ltN (idO 0 i 1) (lenL [p])) (Tr.reqP ([(0,AV.ptrT (some (Nat.succ tk)) Z0 0),(2,AV.bool sure),(4,AV.ptr 0 0 0 0),(7,AV.ptr 0 1 0 0),(8,AV.ptr 0 3 0 0),(9,AV.int .i64 i),(30,AV.fn (Fn.func 110) [] [AV.ptrT (some 0) (Row.G [AV.ptrT (some (Nat.succ tk)) Z0 0]) 0,AV.ptrT none (Row.I .i64 [lstO [p] (idO 0 i 1)]) 0,AV.ptrT (some 0) (Row.G [AV.bool sure]) 0])]=[(0,AV.ptrT (some (Nat.succ tk)) Z0 0),(2,AV.bool sure),(4,AV.ptr 0 0 0 0),(7,AV.ptr 0 1 0 0),(8,AV.ptr 0 3 0 0),(9,AV.int .i64 i),(30,AV.fn (Fn.func 110) [] [AV.ptrT (some 0) (Row.G [AV.ptrT (some (Nat.succ tk)) Z0 0]) 0,AV.ptrT none (Row.I .i64 [cur]) 0,AV.ptrT (some 0) (Row.G [AV.bool sure]) 0])]∧Z1::H=Z1::H) (Tr.ok (Ex.normal,[(0,AV.ptrT (some (Nat.succ tk)) Z0 0,none),(2,AV.bool sure,none),(4,AV.ptr 0 0 0 0,none),(7,AV.ptr 0 1 0 0,none),(8,AV.ptr 0 3 0 0,none),(9,AV.int .i64 (addI .i64 i (Int.ofNat 1)),none)],L1::H)))))) (Tr.ok (Ex.exit 0,[(0,AV.ptrT (some (Nat.succ tk)) Z0 0,none),(2,AV.bool sure,none),(4,AV.ptr 0 0 0 0,none),(7,AV.ptr 0 1 0 0,none),(8,AV.ptr 0 3 0 0,none),(9,AV.int .i64 i,none),(21,AV.bool false,some 1)],Z1::H))) { lock:=false,bs:=[(0,Blk.row (Row.I .i64 [p])),(0,Blk.row (Row.M [Seg.arr .i64 mk 12])),(0,Blk.row (Row.I .i64 [p])),(0,Blk.row (Row.G [AV.slc 0 2 0 0 1 1 (some 1)]))] })) (Row.M [Seg.one (AV.int .i64 w),Seg.one (slA 2 ls zs),Seg.one (slA 3 ld zd),Seg.one (.slcT none (.M [.arr .i64 sz (mulO ls 2)]) 2 ls true),Seg.arr .i64 kd 144]):=by kernel_rfl
theorem t88r5 (n:Nat) (tk:Nat) (w:Int) (ls ld:Nat) (zs zd sz kd mk z:Nat→Int) (H:Heap) (p cur i:Int) (sure:Bool) (v m:Nat) (L1:Lvl):execT (cxD (n+5) 88 56) (il noCt (n+4) 1) noBT (rgE noRT (fun _=>true) (fr88n tk w ls ld zs zd sz kd sure i cur) (lvGr p mk (.slc 0 4 v 0 1 m none) [(v,.row (.M [.arr .i64 z m]))]::H) (.ok (.normal,hints (fr88n tk w ls ld zs zd sz kd sure i cur),L1::H))) (part Try.f88 [1,1,1,1,1,0,1,0,0]) (hints (fr88 tk w ls ld zs zd sz kd sure i)) (lvGr p mk (.slc 0 4 v 0 1 m none) [(v,.row (.M [.arr .i64 z m]))]::H) =
 (fun (Z0:Row)=>((fun (Z1:Lvl)=>Tr.ite (ltI i (Int.ofNat m)) (Tr.req (inI i m) (Tr.req (eqN v v) (Tr.req (ltN (idO 0 i 1) m) (Tr.reqP ([(0,AV.ptrT (some (Nat.succ tk)) Z0 0),(2,AV.bool sure),(4,AV.ptr 0 0 0 0),(7,AV.ptr 0 1 0 0),(8,AV.ptr 0 3 0 0),(9,AV.int .i64 i),(30,AV.fn (Fn.func 110) [] [AV.ptrT (some 0) (Row.G [AV.ptrT (some (Nat.succ tk)) Z0 0]) 0,AV.ptrT none (Row.I .i64 [z (idO 0 i 1)]) 0,AV.ptrT (some 0) (Row.G [AV.bool sure]) 0])]=[(0,AV.ptrT (some (Nat.succ tk)) Z0 0),(2,AV.bool sure),(4,AV.ptr 0 0 0 0),(7,AV.ptr 0 1 0 0),(8,AV.ptr 0 3 0 0),(9,AV.int .i64 i),(30,AV.fn (Fn.func 110) [] [AV.ptrT (some 0) (Row.G [AV.ptrT (some (Nat.succ tk)) Z0 0]) 0,AV.ptrT none (Row.I .i64 [cur]) 0,AV.ptrT (some 0) (Row.G [AV.bool sure]) 0])]∧Z1::H=Z1::H) (Tr.ok (Ex.normal,[(0,AV.ptrT (some (Nat.succ tk)) Z0 0,none),(2,AV.bool sure,none),(4,AV.ptr 0 0 0 0,none),(7,AV.ptr 0 1 0 0,none),(8,AV.ptr 0 3 0 0,none),(9,AV.int .i64 (addI .i64 i (Int.ofNat 1)),none)],L1::H)))))) (Tr.ok (Ex.exit 0,[(0,AV.ptrT (some (Nat.succ tk)) Z0 0,none),(2,AV.bool sure,none),(4,AV.ptr 0 0 0 0,none),(7,AV.ptr 0 1 0 0,none),(8,AV.ptr 0 3 0 0,none),(9,AV.int .i64 i,none),(21,AV.bool false,some 1)],Z1::H))) { lock:=false,bs:=[(0,Blk.row (Row.I .i64 [p])),(0,Blk.row (Row.M [Seg.arr .i64 mk 12])),(0,Blk.row (Row.I .i64 [p])),(0,Blk.row (Row.G [AV.slc 0 4 v 0 1 m none])),(v,Blk.row (Row.M [Seg.arr .i64 z m]))] })) (Row.M [Seg.one (AV.int .i64 w),Seg.one (slA 2 ls zs),Seg.one (slA 3 ld zd),Seg.one (.slcT none (.M [.arr .i64 sz (mulO ls 2)]) 2 ls true),Seg.arr .i64 kd 144]):=by kernel_rfl
def gNew (p q:Int) (mk:Nat→Int):Bool:=decide (q≠p) && decide (mk (q+2).toNat=0)
noncomputable def gStep (p q:Int) (s:(Nat→Int)×List Int):(Nat→Int)×List Int:=if gNew p q s.1=true then (updO s.1 (q+2).toNat 1,s.2++[q]) else s
noncomputable def gFold (hl:Nat→Bool) (p:Int) (s:(Nat→Int)×List Int):Nat→(Nat→Int)×List Int
 | 0=>s
 | j+1=>if hl j=true then gStep p ((j:Int)-2) (gFold hl p s j) else gFold hl p s j
noncomputable def lvG4 (p:Int) (B:Blk) (s:(Nat→Int)×List Int):Lvl:=match s.2 with
 | []=>lvGr p s.1 (.slc 0 2 0 0 1 1 (some 1)) [(0,B)]
 | y::r=>lvGr p s.1 (.slc 0 5 r.length 0 1 (r.length+2) none) [(0,B),(r.length,.row (.M [.arr .i64 (lstO (p::y::r)) (r.length+2)]))]
noncomputable def lvG5 (p:Int) (B:Blk) (s:(Nat→Int)×List Int):Lvl:=match s.2 with
 | []=>lvGr p s.1 (.slc 0 2 0 0 1 1 (some 1)) [(0,B)]
 | y::r=>lvGr p s.1 (.slc 0 4 r.length 0 1 (r.length+2) none) [(r.length,.row (.M [.arr .i64 (lstO (p::y::r)) (r.length+2)])),(0,B)]
section
variable (n:Nat) (tk:Nat) (w:Int) (ls ld:Nat) (zs zd sz kd:Nat→Int) (H:Heap) (p cur i:Int) (sure:Bool)
theorem as88_4 (q:Int) (L0:Lvl) (G:Heap):exec (cx88 n 4) pAs (fr88Z tk w ls ld zs zd sz kd sure i q cur) (lv0::lv0::lv0::L0::G)=some (.normal,fr88Y q,lv0::lv0::lv0::L0::G):=by
 have e:execT (cx88 n 4) (il noCt n 0) noBT noRT pAs (hints (fr88Z tk w ls ld zs zd sz kd sure i q cur)) (lv0::lv0::lv0::L0::G)=.ok (.normal,hints (fr88Y q),lv0::lv0::lv0::L0::G):=by kernel_rfl
 have:=execT_ok (cx:=cx88 n 4) (il_no0 n) pAs (noBT_ok _ _) (noRT_ok _ _) (hints (fr88Z tk w ls ld zs zd sz kd sure i q cur)) (lv0::lv0::lv0::L0::G) _ (by rw[e];rfl)
 rw[hints_eq] at this
 simp only[Res.st,hints_eq] at this
 exact this
theorem as88_5 (q:Int) (L0:Lvl) (G:Heap):exec (cx88 n 5) pAs (fr88Z tk w ls ld zs zd sz kd sure i q cur) (lv0::lv0::lv0::L0::G)=some (.normal,fr88Y q,lv0::lv0::lv0::L0::G):=by
 have e:execT (cx88 n 5) (il noCt n 0) noBT noRT pAs (hints (fr88Z tk w ls ld zs zd sz kd sure i q cur)) (lv0::lv0::lv0::L0::G)=.ok (.normal,hints (fr88Y q),lv0::lv0::lv0::L0::G):=by kernel_rfl
 have:=execT_ok (cx:=cx88 n 5) (il_no0 n) pAs (noBT_ok _ _) (noRT_ok _ _) (hints (fr88Z tk w ls ld zs zd sz kd sure i q cur)) (lv0::lv0::lv0::L0::G) _ (by rw[e];rfl)
 rw[hints_eq] at this
 simp only[Res.st,hints_eq] at this
 exact this
theorem bd88_4 (q:Int) (hq:-2≤q∧q<10) (L0:ALoop) (B:Blk) (s:(Nat→Int)×List Int) (hs:s.2.length≤20):∃ fr' lv,exec (cx88 n 4) pBd (fr88Y q) (lv0::lv0::lv0::lv110 4 [(0,.loop L0)]::lvG4 p B s::H)=some (.normal,fr',lv::lv0::lv0::lv110 4 [(0,.loop L0)]::lvG4 p B (gStep p q s)::H):=by
 have e1:addI .i64 q (Int.ofNat 2)=q+2:=by rw[addI_eq,show Int.ofNat 2=2 from rfl];exact wr_64 (by omega) (by omega)
 have e2:idO 0 (q+2) 1=(q+2).toNat:=by rw[idO_eq];omega
 have fin:∀ {T:Tr Res},execT (cx88 n 4) (il noCt n 0) noBT noRT pBd (hints (fr88Y q)) (lv0::lv0::lv0::lv110 4 [(0,.loop L0)]::lvG4 p B s::H)=T→(T.all fun x=>x.1=.normal∧∃ lv,x.2.2=lv::lv0::lv0::lv110 4 [(0,.loop L0)]::lvG4 p B (gStep p q s)::H)→∃ fr' lv,exec (cx88 n 4) pBd (fr88Y q) (lv0::lv0::lv0::lv110 4 [(0,.loop L0)]::lvG4 p B s::H)=some (.normal,fr',lv::lv0::lv0::lv110 4 [(0,.loop L0)]::lvG4 p B (gStep p q s)::H):=by
  rintro T rfl ⟨x,h1,h2,lv,h3⟩
  have:=execT_ok (cx:=cx88 n 4) (il_no0 n) pBd (noBT_ok _ _) (noRT_ok _ _) _ _ _ h1
  rw[hints_eq] at this
  refine ⟨strip x.2.1,lv,this.trans ?_⟩
  obtain ⟨e,f,g⟩:=x
  dsimp only at h2 h3
  subst h2;subst h3;rfl
 obtain ⟨mk,r⟩:=s
 have g0:gNew p q mk=(decide (q≠p) && decide (mk (q+2).toNat=0)):=rfl
 have g1:gStep p q (mk,r)=if gNew p q mk=true then (updO mk (q+2).toNat 1,r++[q]) else (mk,r):=rfl
 cases r with
 | nil =>
   refine fin (t88A n mk H p q B L0) ?_
   rw[e1,e2]
   repeat' first | (refine Tr.all_ite (fun hc=>?_) (fun hc=>?_)<;>(try simp (disch:=omega) only[nV,nW] at hc)<;>try omega) | (refine Tr.all_req ?_ ?_;· (try simp (disch:=omega) only[nV,nW]);try omega) | (refine Tr.all_reqP ?_ ?_;· first | exact trivial | rfl | exact ⟨rfl,rfl⟩ | exact ⟨rfl,rfl,rfl⟩ | (simp (disch:=omega) only[nV,nW];done) | ((try simp (disch:=omega) only[nV,nW]);omega)) | fail
   all_goals refine Tr.all_ok ⟨rfl,?_⟩
   · rw[g1,if_pos (by rw[g0];simp;exact ⟨by assumption,by assumption⟩),addO_eq]
     exact ⟨_,rfl⟩
   all_goals
    rw[g1,if_neg (by rw[g0];simp;intros;omega)]
    exact ⟨_,rfl⟩
 | cons y r =>
   have hl:r.length+1≤20:=by simpa using hs
   have la:=lst_app (p::y::r) q
   have e4:(r++[q]).length=r.length+1:=by simp
   refine fin (t88B n mk (lstO (p::y::r)) H p q B L0 r.length (r.length+2)) ?_
   rw[e1,e2]
   repeat' first | (refine Tr.all_ite (fun hc=>?_) (fun hc=>?_)<;>(try simp (disch:=omega) only[nV,nW] at hc)<;>try omega) | (refine Tr.all_req ?_ ?_;· (try simp (disch:=omega) only[nV,nW]);try omega) | (refine Tr.all_reqP ?_ ?_;· first | exact trivial | rfl | exact ⟨rfl,rfl⟩ | exact ⟨rfl,rfl,rfl⟩ | (simp (disch:=omega) only[nV,nW];done) | ((try simp (disch:=omega) only[nV,nW]);omega)) | fail
   all_goals refine Tr.all_ok ⟨rfl,?_⟩
   · rw[g1,if_pos (by rw[g0];simp;exact ⟨by assumption,by assumption⟩)]
     rw[show (p::y::r).length=r.length+2 from rfl] at la
     rw[la,addO_eq]
     show ∃ lv,_=lv::lv0::lv0::lv110 4 [(0,.loop L0)]::lvG4 p B (updO mk (q+2).toNat 1,y::(r++[q]))::H
     unfold lvG4
     dsimp only
     rw[e4]
     exact ⟨_,rfl⟩
   all_goals
    rw[g1,if_neg (by rw[g0];simp;intros;omega)]
    exact ⟨_,rfl⟩
theorem bd88_5 (q:Int) (hq:-2≤q∧q<10) (L0:ALoop) (B:Blk) (s:(Nat→Int)×List Int) (hs:s.2.length≤20) (hne:s.2≠[]):∃ fr' lv,exec (cx88 n 5) pBd (fr88Y q) (lv0::lv0::lv0::lv110 5 [(0,.loop L0)]::lvG5 p B s::H)=some (.normal,fr',lv::lv0::lv0::lv110 5 [(0,.loop L0)]::lvG5 p B (gStep p q s)::H):=by
 have e1:addI .i64 q (Int.ofNat 2)=q+2:=by rw[addI_eq,show Int.ofNat 2=2 from rfl];exact wr_64 (by omega) (by omega)
 have e2:idO 0 (q+2) 1=(q+2).toNat:=by rw[idO_eq];omega
 have fin:∀ {T:Tr Res},execT (cx88 n 5) (il noCt n 0) noBT noRT pBd (hints (fr88Y q)) (lv0::lv0::lv0::lv110 5 [(0,.loop L0)]::lvG5 p B s::H)=T→(T.all fun x=>x.1=.normal∧∃ lv,x.2.2=lv::lv0::lv0::lv110 5 [(0,.loop L0)]::lvG5 p B (gStep p q s)::H)→∃ fr' lv,exec (cx88 n 5) pBd (fr88Y q) (lv0::lv0::lv0::lv110 5 [(0,.loop L0)]::lvG5 p B s::H)=some (.normal,fr',lv::lv0::lv0::lv110 5 [(0,.loop L0)]::lvG5 p B (gStep p q s)::H):=by
  rintro T rfl ⟨x,h1,h2,lv,h3⟩
  have:=execT_ok (cx:=cx88 n 5) (il_no0 n) pBd (noBT_ok _ _) (noRT_ok _ _) _ _ _ h1
  rw[hints_eq] at this
  refine ⟨strip x.2.1,lv,this.trans ?_⟩
  obtain ⟨e,f,g⟩:=x
  dsimp only at h2 h3
  subst h2;subst h3;rfl
 obtain ⟨mk,r⟩:=s
 have g0:gNew p q mk=(decide (q≠p) && decide (mk (q+2).toNat=0)):=rfl
 have g1:gStep p q (mk,r)=if gNew p q mk=true then (updO mk (q+2).toNat 1,r++[q]) else (mk,r):=rfl
 cases r with
 | nil =>
   exact absurd rfl hne
 | cons y r =>
   have hl:r.length+1≤20:=by simpa using hs
   have la:=lst_app (p::y::r) q
   have e4:(r++[q]).length=r.length+1:=by simp
   refine fin (t88C n mk (lstO (p::y::r)) H p q B L0 r.length (r.length+2)) ?_
   rw[e1,e2]
   repeat' first | (refine Tr.all_ite (fun hc=>?_) (fun hc=>?_)<;>(try simp (disch:=omega) only[nV,nW] at hc)<;>try omega) | (refine Tr.all_req ?_ ?_;· (try simp (disch:=omega) only[nV,nW]);try omega) | (refine Tr.all_reqP ?_ ?_;· first | exact trivial | rfl | exact ⟨rfl,rfl⟩ | exact ⟨rfl,rfl,rfl⟩ | (simp (disch:=omega) only[nV,nW];done) | ((try simp (disch:=omega) only[nV,nW]);omega)) | fail
   all_goals refine Tr.all_ok ⟨rfl,?_⟩
   · rw[g1,if_pos (by rw[g0];simp;exact ⟨by assumption,by assumption⟩)]
     rw[show (p::y::r).length=r.length+2 from rfl] at la
     rw[la,addO_eq]
     show ∃ lv,_=lv::lv0::lv0::lv110 5 [(0,.loop L0)]::lvG5 p B (updO mk (q+2).toNat 1,y::(r++[q]))::H
     unfold lvG5
     dsimp only
     rw[e4]
     exact ⟨_,rfl⟩
   all_goals
    rw[g1,if_neg (by rw[g0];simp;intros;omega)]
    exact ⟨_,rfl⟩
theorem rd88_4 (q:Int) (hq:-2≤q∧q<10) (L0:ALoop) (s:(Nat→Int)×List Int) (hs:s.2.length≤20):cd (n+1) (.round 3 4) [.int .i64 q] (lv0::lv0::lv110 4 [(0,.loop L0)]::lvG4 p (.loop (rec88 tk w ls ld zs zd sz kd sure i cur)) s::H)=some (.bool true,lv0::lv0::lv110 4 [(0,.loop L0)]::lvG4 p (.loop (rec88 tk w ls ld zs zd sz kd sure i cur)) (gStep p q s)::H):=by
 obtain ⟨fr',lv,h2⟩:=bd88_4 n H p q hq L0 (.loop { rec88 tk w ls ld zs zd sz kd sure i cur with state:=.busy }) s hs
 have ha:=as88_4 n tk w ls ld zs zd sz kd cur i sure q (lv110 4 [(0,.loop L0)]) (lvG4 p (.loop (rec88 tk w ls ld zs zd sz kd sure i cur)) s::H)
 obtain ⟨mk,r⟩:=s
 have gne:∀ s':(Nat→Int)×List Int,gStep p q (mk,r)=s'→r≠[]→s'.2≠[]:=fun s' e hr=>by
  rw[← e];unfold gStep;split
  · simp
  · exact hr
 generalize hg:gStep p q (mk,r)=s' at *
 obtain ⟨mk',r'⟩:=s'
 have key:∀ (h0:hGet (lv0::lv0::lv110 4 [(0,.loop L0)]::lvG4 p (.loop (rec88 tk w ls ld zs zd sz kd sure i cur)) (mk,r)::H) 3 4=(0,.loop (rec88 tk w ls ld zs zd sz kd sure i cur)))
  (h6:hLock (lv0::lv0::lv110 4 [(0,.loop L0)]::lvG4 p (.loop (rec88 tk w ls ld zs zd sz kd sure i cur)) (mk,r)::H) 3=false)
  (h1:hGet (lv0::lv0::lv0::lv110 4 [(0,.loop L0)]::lvG4 p (.loop (rec88 tk w ls ld zs zd sz kd sure i cur)) (mk,r)::H) 4 4=(0,.loop (rec88 tk w ls ld zs zd sz kd sure i cur)))
  (h3:hSet (lv0::lv0::lv0::lv110 4 [(0,.loop L0)]::lvG4 p (.loop (rec88 tk w ls ld zs zd sz kd sure i cur)) (mk,r)::H) 4 4 (0,.loop { rec88 tk w ls ld zs zd sz kd sure i cur with state:=.busy })=lv0::lv0::lv0::lv110 4 [(0,.loop L0)]::lvG4 p (.loop { rec88 tk w ls ld zs zd sz kd sure i cur with state:=.busy }) (mk,r)::H)
  (h4:hGet (lv0::lv0::lv110 4 [(0,.loop L0)]::lvG4 p (.loop { rec88 tk w ls ld zs zd sz kd sure i cur with state:=.busy }) (mk',r')::H) 3 4=(0,.loop { rec88 tk w ls ld zs zd sz kd sure i cur with state:=.busy }))
  (h5:hSet (lv0::lv0::lv110 4 [(0,.loop L0)]::lvG4 p (.loop { rec88 tk w ls ld zs zd sz kd sure i cur with state:=.busy }) (mk',r')::H) 3 4 (0,.loop (rec88 tk w ls ld zs zd sz kd sure i cur))=lv0::lv0::lv110 4 [(0,.loop L0)]::lvG4 p (.loop (rec88 tk w ls ld zs zd sz kd sure i cur)) (mk',r')::H),
  cd (n+1) (.round 3 4) [.int .i64 q] (lv0::lv0::lv110 4 [(0,.loop L0)]::lvG4 p (.loop (rec88 tk w ls ld zs zd sz kd sure i cur)) (mk,r)::H)=some (.bool true,lv0::lv0::lv110 4 [(0,.loop L0)]::lvG4 p (.loop (rec88 tk w ls ld zs zd sz kd sure i cur)) (mk',r')::H):=by
  intro h0 h6 h1 h3 h4 h5
  have:=round_of (P:=Try.prog) (ora:=oraD) (KT:=Kt.kt) (fu:=100000) (n:=n) (d:=3) (i:=4) (args:=[.int .i64 q]) (l:=rec88 tk w ls ld zs zd sz kd sure i cur) (l1:=rec88 tk w ls ld zs zd sz kd sure i cur) (l2:={ rec88 tk w ls ld zs zd sz kd sure i cur with state:=.busy }) (fr:=fr88Z tk w ls ld zs zd sz kd sure i q cur) h0 h6 rfl rfl ha h1 rfl (by rw[h3];exact h2) h4
  refine this.trans ?_
  rw[← h5];rfl
 cases r<;>cases r'<;>exact key rfl rfl rfl rfl rfl rfl
theorem rd88_5 (q:Int) (hq:-2≤q∧q<10) (L0:ALoop) (s:(Nat→Int)×List Int) (hs:s.2.length≤20) (hne:s.2≠[]):cd (n+1) (.round 3 5) [.int .i64 q] (lv0::lv0::lv110 5 [(0,.loop L0)]::lvG5 p (.loop (rec88 tk w ls ld zs zd sz kd sure i cur)) s::H)=some (.bool true,lv0::lv0::lv110 5 [(0,.loop L0)]::lvG5 p (.loop (rec88 tk w ls ld zs zd sz kd sure i cur)) (gStep p q s)::H):=by
 obtain ⟨fr',lv,h2⟩:=bd88_5 n H p q hq L0 (.loop { rec88 tk w ls ld zs zd sz kd sure i cur with state:=.busy }) s hs hne
 have ha:=as88_5 n tk w ls ld zs zd sz kd cur i sure q (lv110 5 [(0,.loop L0)]) (lvG5 p (.loop (rec88 tk w ls ld zs zd sz kd sure i cur)) s::H)
 obtain ⟨mk,r⟩:=s
 have gne:∀ s':(Nat→Int)×List Int,gStep p q (mk,r)=s'→r≠[]→s'.2≠[]:=fun s' e hr=>by
  rw[← e];unfold gStep;split
  · simp
  · exact hr
 generalize hg:gStep p q (mk,r)=s' at *
 obtain ⟨mk',r'⟩:=s'
 have key:∀ (h0:hGet (lv0::lv0::lv110 5 [(0,.loop L0)]::lvG5 p (.loop (rec88 tk w ls ld zs zd sz kd sure i cur)) (mk,r)::H) 3 5=(0,.loop (rec88 tk w ls ld zs zd sz kd sure i cur)))
  (h6:hLock (lv0::lv0::lv110 5 [(0,.loop L0)]::lvG5 p (.loop (rec88 tk w ls ld zs zd sz kd sure i cur)) (mk,r)::H) 3=false)
  (h1:hGet (lv0::lv0::lv0::lv110 5 [(0,.loop L0)]::lvG5 p (.loop (rec88 tk w ls ld zs zd sz kd sure i cur)) (mk,r)::H) 4 5=(0,.loop (rec88 tk w ls ld zs zd sz kd sure i cur)))
  (h3:hSet (lv0::lv0::lv0::lv110 5 [(0,.loop L0)]::lvG5 p (.loop (rec88 tk w ls ld zs zd sz kd sure i cur)) (mk,r)::H) 4 5 (0,.loop { rec88 tk w ls ld zs zd sz kd sure i cur with state:=.busy })=lv0::lv0::lv0::lv110 5 [(0,.loop L0)]::lvG5 p (.loop { rec88 tk w ls ld zs zd sz kd sure i cur with state:=.busy }) (mk,r)::H)
  (h4:hGet (lv0::lv0::lv110 5 [(0,.loop L0)]::lvG5 p (.loop { rec88 tk w ls ld zs zd sz kd sure i cur with state:=.busy }) (mk',r')::H) 3 5=(0,.loop { rec88 tk w ls ld zs zd sz kd sure i cur with state:=.busy }))
  (h5:hSet (lv0::lv0::lv110 5 [(0,.loop L0)]::lvG5 p (.loop { rec88 tk w ls ld zs zd sz kd sure i cur with state:=.busy }) (mk',r')::H) 3 5 (0,.loop (rec88 tk w ls ld zs zd sz kd sure i cur))=lv0::lv0::lv110 5 [(0,.loop L0)]::lvG5 p (.loop (rec88 tk w ls ld zs zd sz kd sure i cur)) (mk',r')::H),
  cd (n+1) (.round 3 5) [.int .i64 q] (lv0::lv0::lv110 5 [(0,.loop L0)]::lvG5 p (.loop (rec88 tk w ls ld zs zd sz kd sure i cur)) (mk,r)::H)=some (.bool true,lv0::lv0::lv110 5 [(0,.loop L0)]::lvG5 p (.loop (rec88 tk w ls ld zs zd sz kd sure i cur)) (mk',r')::H):=by
  intro h0 h6 h1 h3 h4 h5
  have:=round_of (P:=Try.prog) (ora:=oraD) (KT:=Kt.kt) (fu:=100000) (n:=n) (d:=3) (i:=5) (args:=[.int .i64 q]) (l:=rec88 tk w ls ld zs zd sz kd sure i cur) (l1:=rec88 tk w ls ld zs zd sz kd sure i cur) (l2:={ rec88 tk w ls ld zs zd sz kd sure i cur with state:=.busy }) (fr:=fr88Z tk w ls ld zs zd sz kd sure i q cur) h0 h6 rfl rfl ha h1 rfl (by rw[h3];exact h2) h4
  refine this.trans ?_
  rw[← h5];rfl
 cases r with
 | nil=>exact absurd rfl hne
 | cons y r =>
   cases r' with
   | nil=>exact absurd rfl (gne _ rfl (by simp))
   | cons y' r'=>exact key rfl rfl rfl rfl rfl rfl
end
end Go.Eng
end
section
namespace Go.Eng
open Go.Proofs
set_option linter.unusedVariables false
set_option linter.unusedSimpArgs false
set_option maxRecDepth 100000
theorem nd_len:∀ (N:Nat) (a:Int) (l:List Int),l.Nodup→(∀ q ∈ l,a≤q∧q<a+N)→l.length≤N
 | 0,a,l,_,h=>by
   cases l with
   | nil=>simp
   | cons x r=>have:=h x (by simp);omega
 | N + 1,a,l,hd,h=>by
   by_cases hm:a+N ∈ l
   · have h1:=nd_len N a (l.erase (a+N)) (hd.erase _) (fun q hq=>by
      have h2:=(hd.mem_erase_iff).1 hq
      have:=h q h2.2
      have:=h2.1
      omega)
     have:=List.length_erase_of_mem hm
     have:=List.length_pos_of_mem hm
     omega
   · have:=nd_len N a l hd (fun q hq=>by
      have:=h q hq
      have:q≠a+N:=fun e=>hm (e ▸ hq)
      omega)
     omega
structure GI (ls:Nat) (p:Int) (s:(Nat→Int)×List Int):Prop where
 mem:∀ q ∈ s.2,-2≤q∧q<ls∧q≠p∧s.1 (q+2).toNat≠0
 nd:s.2.Nodup
theorem GI.len {ls:Nat} {p:Int} {s:(Nat→Int)×List Int} (h:GI ls p s):s.2.length≤ls+2 :=
 nd_len (ls+2) (-2) s.2 h.nd (fun q hq=>by have:=h.mem q hq;omega)
theorem GI.step {ls:Nat} {p q:Int} {s:(Nat→Int)×List Int} (h:GI ls p s) (hq:-2≤q∧q<ls):GI ls p (gStep p q s):=by
 unfold gStep
 split
 · rename_i hn
   unfold gNew at hn
   simp only[Bool.and_eq_true,decide_eq_true_eq] at hn
   refine ⟨fun x hx=>?_,?_⟩
   · rcases List.mem_append.1 hx with hx | hx
     · have:=h.mem x hx
       refine ⟨this.1,this.2.1,this.2.2.1,?_⟩
       rw[updO_fn]
       dsimp only
       split
       · decide
       · exact this.2.2.2
     · obtain rfl:x=q:=by simpa using hx
       refine ⟨hq.1,hq.2,hn.1,?_⟩
       rw[updO_fn];simp
   · rw[List.nodup_append]
     refine ⟨h.nd,by simp,fun a ha b hb e=>?_⟩
     obtain rfl:b=q:=by simpa using hb
     subst e
     exact (h.mem a ha).2.2.2 hn.2
 · exact h
theorem GI.fold {ls:Nat} {p:Int} {s:(Nat→Int)×List Int} (h:GI ls p s) (hl:Nat→Bool):∀ j,j≤ls+2→GI ls p (gFold hl p s j)
 | 0,_=>h
 | j+1,hj=>by
   have ih:=GI.fold h hl j (by omega)
   unfold gFold
   split
   · exact ih.step ⟨by omega,by omega⟩
   · exact ih
theorem gFold_ne {hl:Nat→Bool} {p:Int} {s:(Nat→Int)×List Int} (h:s.2≠[]):∀ j,(gFold hl p s j).2≠[]
 | 0=>h
 | j + 1=>by
   have ih:=gFold_ne (hl:=hl) (p:=p) h j
   unfold gFold
   split
   · unfold gStep
     split
     · simp
     · exact ih
   · exact ih
noncomputable def grS (kd:Nat→Int) (sure:Bool) (ls:Nat) (p:Int) (mk:Nat→Int):Nat→(Nat→Int)×List Int
 | 0=>(mk,[])
 | i+1=>gFold (fun j=>hlK kd sure (lstO (p::(grS kd sure ls p mk i).2) i) ((j:Int)-2)) p (grS kd sure ls p mk i) (ls+2)
section
variable (n:Nat) (tk:Nat) (w:Int) (ls ld:Nat) (zs zd sz kd:Nat→Int) (H:Heap) (p cur i:Int) (sure:Bool)
theorem near88_4 (s:(Nat→Int)×List Int) (hs:GI ls p s) (hls:ls≤10):NearR 4 n ls kd cur sure (fun j=>lvG4 p (.loop (rec88 tk w ls ld zs zd sz kd sure i cur)) (gFold (fun j=>hlK kd sure cur ((j:Int)-2)) p s j)::H) (fun _=>[]) (fun _=>true) where
 hit:=fun j hj hh L=>by
  have hg:=hs.fold (fun j=>hlK kd sure cur ((j:Int)-2)) j (by omega)
  have hlen:=hg.len
  have:=rd88_4 (n+1) tk w ls ld zs zd sz kd H p cur i sure ((j:Int)-2) ⟨by omega,by omega⟩ L (gFold (fun j=>hlK kd sure cur ((j:Int)-2)) p s j) (by omega)
  have e:gFold (fun j=>hlK kd sure cur ((j:Int)-2)) p s (j+1)=gStep p ((j:Int)-2) (gFold (fun j=>hlK kd sure cur ((j:Int)-2)) p s j):=by
   show (if hlK kd sure cur ((j:Int)-2)=true then _ else _)=_
   rw[if_pos hh]
  rw[if_pos rfl,e]
  exact this
 skip:=fun j hj hh=>by
  have e:gFold (fun j=>hlK kd sure cur ((j:Int)-2)) p s (j+1)=gFold (fun j=>hlK kd sure cur ((j:Int)-2)) p s j:=by
   show (if hlK kd sure cur ((j:Int)-2)=true then _ else _)=_
   rw[if_neg (by rw[hh];simp)]
  rw[e]
theorem c88n_4 (s:(Nat→Int)×List Int) (hs:GI ls p s) (hls:ls≤10) (hc:-2≤cur∧cur<ls):cd (n+5) (.fn 110) (.yld 0 4::capsN (tk+1) w ls ld zs zd sz kd cur sure) (lvG4 p (.loop (rec88 tk w ls ld zs zd sz kd sure i cur)) s::H) =
 some (.tup [],lvG4 p (.loop (rec88 tk w ls ld zs zd sz kd sure i cur)) (gFold (fun j=>hlK kd sure cur ((j:Int)-2)) p s (ls+2))::H):=by
 have:=c110 4 n (tk+1) w ls ld zs zd sz kd cur sure (near88_4 n tk w ls ld zs zd sz kd H p cur i sure s hs hls) hc hls
 have hn:exN (nrH kd sure cur (fun _=>true)) (ls+2)=false:=by
  cases hq:exN (nrH kd sure cur (fun _=>true)) (ls+2) with
  | false=>rfl
  | true =>
    obtain ⟨j,hj,h1⟩:=(exN_iff _ _).1 hq
    unfold nrH at h1
    simp at h1
 rw[hn,if_neg (by simp)] at this
 exact this
theorem rg88_4 (mk:Nat→Int) (hs:GI ls p (mk,[])) (hls:ls≤10) (hc:-2≤cur∧cur<ls):exec (cxD (n+5) 88 56) (.rangeFunc (.tmp 30) #[31] pAs pBd) (fr88n tk w ls ld zs zd sz kd sure i cur) (lvGr p mk (.slc 0 2 0 0 1 1 (some 1)) []::H) =
 some (.normal,fr88n tk w ls ld zs zd sz kd sure i cur,lvG4 p .dead (gFold (fun j=>hlK kd sure cur ((j:Int)-2)) p (mk,[]) (ls+2))::H):=by
 have hc':=c88n_4 n tk w ls ld zs zd sz kd H p cur i sure (mk,[]) hs hls hc
 have hne:(mk,([]:List Int)).2≠[]→(gFold (fun j=>hlK kd sure cur ((j:Int)-2)) p (mk,[]) (ls+2)).2≠[]:=fun h=>gFold_ne (hl:=fun j=>hlK kd sure cur ((j:Int)-2)) (p:=p) h (ls+2)
 generalize gFold (fun j=>hlK kd sure cur ((j:Int)-2)) p (mk,[]) (ls+2)=s' at *
 obtain ⟨mk',r'⟩:=s'
 have key:∀ (h1:hGet (lvG4 p (.loop (rec88 tk w ls ld zs zd sz kd sure i cur)) (mk',r')::H) 0 4=(0,.loop (rec88 tk w ls ld zs zd sz kd sure i cur)))
  (h2:hKill (lvG4 p (.loop (rec88 tk w ls ld zs zd sz kd sure i cur)) (mk',r')::H) 0 4=lvG4 p .dead (mk',r')::H),exec (cxD (n+5) 88 56) (.rangeFunc (.tmp 30) #[31] pAs pBd) (fr88n tk w ls ld zs zd sz kd sure i cur) (lvGr p mk (.slc 0 2 0 0 1 1 (some 1)) []::H)=some (.normal,fr88n tk w ls ld zs zd sz kd sure i cur,lvG4 p .dead (mk',r')::H):=by
  intro h1 h2
  have:exec (cxD (n+5) 88 56) (.rangeFunc (.tmp 30) #[31] pAs pBd) (fr88n tk w ls ld zs zd sz kd sure i cur) (lvGr p mk (.slc 0 2 0 0 1 1 (some 1)) []::H)=some (.normal,fr88n tk w ls ld zs zd sz kd sure i cur,hKill (lvG4 p (.loop (rec88 tk w ls ld zs zd sz kd sure i cur)) (mk',r')::H) 0 4):=range_of (cx:=cxD (n+5) 88 56) (l:=rec88 tk w ls ld zs zd sz kd sure i cur) (f:=.tmp 30) (ps:=#[31]) (fr:=fr88n tk w ls ld zs zd sz kd sure i cur) (H:=lvGr p mk (.slc 0 2 0 0 1 1 (some 1)) []::H) (g:=110) (a:=[]) (b:=capsN (tk+1) w ls ld zs zd sz kd cur sure) (e:=.normal) rfl rfl rfl hc' h1 rfl rfl
  rw[← h2];exact this
 cases r' with
 | nil=>exact key rfl rfl
 | cons y r'=>exact key rfl rfl
theorem near88_5 (s:(Nat→Int)×List Int) (hs:GI ls p s) (hls:ls≤10) (hne:s.2≠[]):NearR 5 n ls kd cur sure (fun j=>lvG5 p (.loop (rec88 tk w ls ld zs zd sz kd sure i cur)) (gFold (fun j=>hlK kd sure cur ((j:Int)-2)) p s j)::H) (fun _=>[]) (fun _=>true) where
 hit:=fun j hj hh L=>by
  have hg:=hs.fold (fun j=>hlK kd sure cur ((j:Int)-2)) j (by omega)
  have hlen:=hg.len
  have:=rd88_5 (n+1) tk w ls ld zs zd sz kd H p cur i sure ((j:Int)-2) ⟨by omega,by omega⟩ L (gFold (fun j=>hlK kd sure cur ((j:Int)-2)) p s j) (by omega) (gFold_ne hne j)
  have e:gFold (fun j=>hlK kd sure cur ((j:Int)-2)) p s (j+1)=gStep p ((j:Int)-2) (gFold (fun j=>hlK kd sure cur ((j:Int)-2)) p s j):=by
   show (if hlK kd sure cur ((j:Int)-2)=true then _ else _)=_
   rw[if_pos hh]
  rw[if_pos rfl,e]
  exact this
 skip:=fun j hj hh=>by
  have e:gFold (fun j=>hlK kd sure cur ((j:Int)-2)) p s (j+1)=gFold (fun j=>hlK kd sure cur ((j:Int)-2)) p s j:=by
   show (if hlK kd sure cur ((j:Int)-2)=true then _ else _)=_
   rw[if_neg (by rw[hh];simp)]
  rw[e]
theorem c88n_5 (s:(Nat→Int)×List Int) (hs:GI ls p s) (hls:ls≤10) (hc:-2≤cur∧cur<ls) (hne:s.2≠[]):cd (n+5) (.fn 110) (.yld 0 5::capsN (tk+1) w ls ld zs zd sz kd cur sure) (lvG5 p (.loop (rec88 tk w ls ld zs zd sz kd sure i cur)) s::H) =
 some (.tup [],lvG5 p (.loop (rec88 tk w ls ld zs zd sz kd sure i cur)) (gFold (fun j=>hlK kd sure cur ((j:Int)-2)) p s (ls+2))::H):=by
 have:=c110 5 n (tk+1) w ls ld zs zd sz kd cur sure (near88_5 n tk w ls ld zs zd sz kd H p cur i sure s hs hls hne) hc hls
 have hn:exN (nrH kd sure cur (fun _=>true)) (ls+2)=false:=by
  cases hq:exN (nrH kd sure cur (fun _=>true)) (ls+2) with
  | false=>rfl
  | true =>
    obtain ⟨j,hj,h1⟩:=(exN_iff _ _).1 hq
    unfold nrH at h1
    simp at h1
 rw[hn,if_neg (by simp)] at this
 exact this
theorem rg88_5 (mk:Nat→Int) (y:Int) (r:List Int) (hs:GI ls p (mk,y::r)) (hls:ls≤10) (hc:-2≤cur∧cur<ls):exec (cxD (n+5) 88 56) (.rangeFunc (.tmp 30) #[31] pAs pBd) (fr88n tk w ls ld zs zd sz kd sure i cur) (lvGr p mk (.slc 0 4 r.length 0 1 (r.length+2) none) [(r.length,.row (.M [.arr .i64 (lstO (p::y::r)) (r.length+2)]))]::H) =
 some (.normal,fr88n tk w ls ld zs zd sz kd sure i cur,lvG5 p .dead (gFold (fun j=>hlK kd sure cur ((j:Int)-2)) p (mk,y::r) (ls+2))::H):=by
 have hc':=c88n_5 n tk w ls ld zs zd sz kd H p cur i sure (mk,y::r) hs hls hc (by simp)
 have hne:(mk,(y::r:List Int)).2≠[]→(gFold (fun j=>hlK kd sure cur ((j:Int)-2)) p (mk,y::r) (ls+2)).2≠[]:=fun h=>gFold_ne (hl:=fun j=>hlK kd sure cur ((j:Int)-2)) (p:=p) h (ls+2)
 generalize gFold (fun j=>hlK kd sure cur ((j:Int)-2)) p (mk,y::r) (ls+2)=s' at *
 obtain ⟨mk',r'⟩:=s'
 have key:∀ (h1:hGet (lvG5 p (.loop (rec88 tk w ls ld zs zd sz kd sure i cur)) (mk',r')::H) 0 5=(0,.loop (rec88 tk w ls ld zs zd sz kd sure i cur)))
  (h2:hKill (lvG5 p (.loop (rec88 tk w ls ld zs zd sz kd sure i cur)) (mk',r')::H) 0 5=lvG5 p .dead (mk',r')::H),exec (cxD (n+5) 88 56) (.rangeFunc (.tmp 30) #[31] pAs pBd) (fr88n tk w ls ld zs zd sz kd sure i cur) (lvGr p mk (.slc 0 4 r.length 0 1 (r.length+2) none) [(r.length,.row (.M [.arr .i64 (lstO (p::y::r)) (r.length+2)]))]::H)=some (.normal,fr88n tk w ls ld zs zd sz kd sure i cur,lvG5 p .dead (mk',r')::H):=by
  intro h1 h2
  have:exec (cxD (n+5) 88 56) (.rangeFunc (.tmp 30) #[31] pAs pBd) (fr88n tk w ls ld zs zd sz kd sure i cur) (lvGr p mk (.slc 0 4 r.length 0 1 (r.length+2) none) [(r.length,.row (.M [.arr .i64 (lstO (p::y::r)) (r.length+2)]))]::H)=some (.normal,fr88n tk w ls ld zs zd sz kd sure i cur,hKill (lvG5 p (.loop (rec88 tk w ls ld zs zd sz kd sure i cur)) (mk',r')::H) 0 5):=range_of (cx:=cxD (n+5) 88 56) (l:=rec88 tk w ls ld zs zd sz kd sure i cur) (f:=.tmp 30) (ps:=#[31]) (fr:=fr88n tk w ls ld zs zd sz kd sure i cur) (H:=lvGr p mk (.slc 0 4 r.length 0 1 (r.length+2) none) [(r.length,.row (.M [.arr .i64 (lstO (p::y::r)) (r.length+2)]))]::H) (g:=110) (a:=[]) (b:=capsN (tk+1) w ls ld zs zd sz kd cur sure) (e:=.normal) rfl rfl rfl hc' h1 rfl rfl
  rw[← h2];exact this
 cases r' with
 | nil=>exact absurd rfl (hne (by simp))
 | cons y r'=>exact key rfl rfl
end
end Go.Eng
end
