/- Drop: way: how far all places are, by two maps. -/
import Derived.Test.YtjmjkhpfipglcaaV8Kqx2
namespace Go.Eng
open Go.Proofs
set_option linter.unusedVariables false
set_option linter.unusedSimpArgs false
set_option maxRecDepth 100000
noncomputable def cx80i (n:Nat):Cx:=⟨Try.prog,cd n,100000,80,113,Kt.kt 80,some (4,0)⟩
noncomputable def oAs:Code:=part Try.f80 [1,0,1,1,0,1,0,0,1,0,0,1,0,0]
noncomputable def oBd:Code:=part Try.f80 [1,0,1,1,0,1,0,0,1,0,0,1,0,1]
noncomputable def iAs:Code:=part Try.f80 [1,0,1,1,0,1,0,0,1,0,0,1,0,1,0,1,1,1,0,0]
noncomputable def iBd:Code:=part Try.f80 [1,0,1,1,0,1,0,0,1,0,0,1,0,1,0,1,1,1,0,1]
noncomputable def lvLb (L:Blk):Lvl:=⟨false,[(0,L)]⟩
noncomputable def frR (k R:Nat) (w:Int) (ls ld:Nat) (zs zd sz kd:Nat→Int) (q:Int):Frm:=[(0,.yld 1 R),(1,.ptrT (some 1) (.G [tabR k w ls ld zs zd sz kd]) 0),(3,.int .i64 q)]
noncomputable def lv80_6 (w:Int) (ls ld:Nat) (zs zd sz kd:Nat→Int) (sure:Bool) (hS:Int→Bool) (gS:Int→Int) (cS:Nat) (hW:Int→Bool) (gW:Int→Int) (cW:Nat) (s:Int) (rest:List (Nat×Blk)):Lvl:=⟨false,(0,.row (.G [tabR 1 w ls ld zs zd sz kd]))::(0,.row (.G [.bool sure]))::(0,.fmap hS gS cS)::(0,.row (.G [.map 0 2]))::(0,.fmap hW gW cW)::(0,.row (.G [.map 0 4]))::(0,.row (.I .i64 [s]))::rest⟩
noncomputable def fr80_6 (p q:Int):Frm:=[(1,.int .i64 p),(2,.int .i64 q),(4,.ptr 0 0 0 0),(7,.ptr 0 1 0 0),(9,.ptr 0 3 0 0),(10,.ptr 0 5 0 0),(11,.ptr 0 6 0 0)]
noncomputable def fr80n_6 (w:Int) (ls ld:Nat) (zs zd sz kd:Nat→Int) (p q:Int):Frm:=[(1,.int .i64 p),(2,.int .i64 q),(4,.ptr 0 0 0 0),(7,.ptr 0 1 0 0),(9,.ptr 0 3 0 0),(10,.ptr 0 5 0 0),(11,.ptr 0 6 0 0),(36,.fn (.func 109) [] [.ptrT (some 0) (.G [tabR 1 w ls ld zs zd sz kd]) 0])]
noncomputable def fr80Z_6 (w:Int) (ls ld:Nat) (zs zd sz kd:Nat→Int) (p q x:Int):Frm:=[(1,.int .i64 p),(2,.int .i64 q),(4,.ptr 2 0 0 0),(7,.ptr 2 1 0 0),(9,.ptr 2 3 0 0),(10,.ptr 2 5 0 0),(11,.ptr 2 6 0 0),(36,.fn (.func 109) [] [.ptrT (some 2) (.G [tabR 1 w ls ld zs zd sz kd]) 0]),(37,.int .i64 x)]
noncomputable def fr80Y_6 (x:Int):Frm:=[(4,.ptr 2 0 0 0),(7,.ptr 2 1 0 0),(9,.ptr 2 3 0 0),(10,.ptr 2 5 0 0),(11,.ptr 2 6 0 0),(12,.int .i64 x)]
noncomputable def fr80m_6 (w:Int) (ls ld:Nat) (zs zd sz kd:Nat→Int) (sure:Bool) (x:Int):Frm:=[(9,.ptr 2 3 0 0),(10,.ptr 2 5 0 0),(11,.ptr 2 6 0 0),(58,.fn (.func 110) [] (capsN 3 w ls ld zs zd sz kd x sure))]
noncomputable def fr80z_6 (w:Int) (ls ld:Nat) (zs zd sz kd:Nat→Int) (sure:Bool) (x q:Int):Frm:=[(9,.ptr 6 3 0 0),(10,.ptr 6 5 0 0),(11,.ptr 6 6 0 0),(58,.fn (.func 110) [] [.ptrT (some 4) (.G [tabR 3 w ls ld zs zd sz kd]) 0,.ptrT none (.I .i64 [x]) 0,.ptrT (some 4) (.G [.bool sure]) 0]),(59,.int .i64 q)]
noncomputable def fr80y_6 (q:Int):Frm:=[(9,.ptr 6 3 0 0),(10,.ptr 6 5 0 0),(11,.ptr 6 6 0 0),(15,.int .i64 q)]
noncomputable def cx80o_6 (n:Nat):Cx:=⟨Try.prog,cd n,100000,80,113,Kt.kt 80,some (2,7)⟩
noncomputable def lv80_7 (w:Int) (ls ld:Nat) (zs zd sz kd:Nat→Int) (sure:Bool) (hS:Int→Bool) (gS:Int→Int) (cS:Nat) (hW:Int→Bool) (gW:Int→Int) (cW:Nat) (s:Int) (rest:List (Nat×Blk)):Lvl:=⟨false,(0,.row (.G [tabR 1 w ls ld zs zd sz kd]))::(0,.row (.G [.bool sure]))::(0,.fmap hS gS cS)::(0,.row (.G [.map 0 2]))::(0,.fmap hW gW cW)::(0,.row (.G [.map 0 4]))::(0,.row (.I .i64 [0]))::(0,.row (.I .i64 [s]))::rest⟩
noncomputable def fr80_7 (p q:Int):Frm:=[(1,.int .i64 p),(2,.int .i64 q),(4,.ptr 0 0 0 0),(7,.ptr 0 1 0 0),(9,.ptr 0 3 0 0),(10,.ptr 0 5 0 0),(11,.ptr 0 7 0 0)]
noncomputable def fr80n_7 (w:Int) (ls ld:Nat) (zs zd sz kd:Nat→Int) (p q:Int):Frm:=[(1,.int .i64 p),(2,.int .i64 q),(4,.ptr 0 0 0 0),(7,.ptr 0 1 0 0),(9,.ptr 0 3 0 0),(10,.ptr 0 5 0 0),(11,.ptr 0 7 0 0),(36,.fn (.func 109) [] [.ptrT (some 0) (.G [tabR 1 w ls ld zs zd sz kd]) 0])]
noncomputable def fr80Z_7 (w:Int) (ls ld:Nat) (zs zd sz kd:Nat→Int) (p q x:Int):Frm:=[(1,.int .i64 p),(2,.int .i64 q),(4,.ptr 2 0 0 0),(7,.ptr 2 1 0 0),(9,.ptr 2 3 0 0),(10,.ptr 2 5 0 0),(11,.ptr 2 7 0 0),(36,.fn (.func 109) [] [.ptrT (some 2) (.G [tabR 1 w ls ld zs zd sz kd]) 0]),(37,.int .i64 x)]
noncomputable def fr80Y_7 (x:Int):Frm:=[(4,.ptr 2 0 0 0),(7,.ptr 2 1 0 0),(9,.ptr 2 3 0 0),(10,.ptr 2 5 0 0),(11,.ptr 2 7 0 0),(12,.int .i64 x)]
noncomputable def fr80m_7 (w:Int) (ls ld:Nat) (zs zd sz kd:Nat→Int) (sure:Bool) (x:Int):Frm:=[(9,.ptr 2 3 0 0),(10,.ptr 2 5 0 0),(11,.ptr 2 7 0 0),(58,.fn (.func 110) [] (capsN 3 w ls ld zs zd sz kd x sure))]
noncomputable def fr80z_7 (w:Int) (ls ld:Nat) (zs zd sz kd:Nat→Int) (sure:Bool) (x q:Int):Frm:=[(9,.ptr 6 3 0 0),(10,.ptr 6 5 0 0),(11,.ptr 6 7 0 0),(58,.fn (.func 110) [] [.ptrT (some 4) (.G [tabR 3 w ls ld zs zd sz kd]) 0,.ptrT none (.I .i64 [x]) 0,.ptrT (some 4) (.G [.bool sure]) 0]),(59,.int .i64 q)]
noncomputable def fr80y_7 (q:Int):Frm:=[(9,.ptr 6 3 0 0),(10,.ptr 6 5 0 0),(11,.ptr 6 7 0 0),(15,.int .i64 q)]
noncomputable def cx80o_7 (n:Nat):Cx:=⟨Try.prog,cd n,100000,80,113,Kt.kt 80,some (2,8)⟩
theorem t109z (k R n:Nat) (w:Int) (ls ld:Nat) (zs zd sz kd:Nat→Int) (G G':Heap) (q:Int):execT (cxD n 109 18) (rdN (il noCt n 0) 1 R [.int .i64 q] (lv0::G) (.ok (.bool true,lv0::G'))) noBT noRT (part Try.f109 [1,0,0]) (hints (frR k R w ls ld zs zd sz kd q)) (lv0::G) =
 (fun (Z0:Nat×AV×Option Nat)=>Tr.ite (ltI q (Int.ofNat ls)) (Tr.reqP (R=R∧[AV.int .i64 q]=[AV.int .i64 q]∧lv0::G=lv0::G) (Tr.ite (notB true) (Tr.ok (Ex.ret,[(0,AV.yld 1 R,none),Z0,(3,AV.int .i64 q,none),(17,AV.bool true,some 1)],lv0::G')) (Tr.ok (Ex.normal,[(0,AV.yld 1 R,none),Z0,(3,AV.int .i64 (addI .i64 q (Int.ofNat 1)),none)],lv0::G')))) (Tr.ok (Ex.exit 0,[(0,AV.yld 1 R,none),Z0,(3,AV.int .i64 q,none),(11,AV.bool false,some 1)],lv0::G))) (1,AV.ptrT (some 1) (Row.G [tabR k w ls ld zs zd sz kd]) 0,none):=by kernel_rfl
theorem t109ze (k R n:Nat) (w:Int) (ls ld:Nat) (zs zd sz kd:Nat→Int) (G:Heap) (q:Int):execT (cxD n 109 18) (il noCt n 0) noBT noRT (part Try.f109 [1,0,0]) (hints (frR k R w ls ld zs zd sz kd q)) (lv0::G) =
 Tr.ite (ltI q (Int.ofNat ls)) Tr.bad (Tr.ok (Ex.exit 0,[(0,AV.yld 1 R,none),(1,AV.ptrT (some 1) (Row.G [tabR k w ls ld zs zd sz kd]) 0,none),(3,AV.int .i64 q,none),(11,AV.bool false,some 1)],lv0::G)):=by kernel_rfl
theorem u109z (k R n:Nat) (w:Int) (ls ld:Nat) (zs zd sz kd:Nat→Int) (G G1:Heap) (fA:Frm):bodyT Try.prog (cd n) 100000 109 Try.f109 (Kt.kt 109) (il noCt n 0) (blkE noBT 0 (frR k R w ls ld zs zd sz kd (-2)) (lv0::G) (.ok (.normal,hints fA,lv0::G1))) noRT [(.yld 0 R,none),(.ptrT (some 0) (.G [tabR k w ls ld zs zd sz kd]) 0,none)] G =
 (fun (Z0:Frm)=>Tr.reqP (Z0=Z0∧lv0::G=lv0::G) (Tr.ok ((AV.tup [],none),G1))) [(0,AV.yld 1 R),(1,AV.ptrT (some 1) (Row.G [tabR k w ls ld zs zd sz kd]) 0),(3,AV.int .i64 (Int.negSucc 1))]:=by kernel_rfl
theorem t80i_6 (n:Nat) (w:Int) (ls ld:Nat) (zs zd sz kd:Nat→Int) (H:Heap) (q:Int) (sure:Bool) (hS:Int→Bool) (gS:Int→Int) (cS:Nat) (hW:Int→Bool) (gW:Int→Int) (cW:Nat) (s:Int) (L:Blk) (L0:ALoop) (Li:Blk):execT (cx80i n) (il noCt n 0) noBT noRT iBd (hints (fr80y_6 q)) (lv0::lv0::lv0::lv110 0 [(0,.loop L0)]::lvLb Li::lv0::lv80_6 w ls ld zs zd sz kd sure hS gS cS hW gW cW s [(0,L)]::H) =
 Tr.ite (notB (hS q)) (Tr.req (andB (leN 0 0) (leN 0 1)) (Tr.req (andB (leN 0 0) (leN 0 1)) (Tr.ok (Ex.normal,[],lv0::lv0::lv0::{ lock:=false,bs:=[(0,Blk.row (Row.G [AV.yld 1 0])),(0,Blk.loop L0)] } :: { lock:=false,bs:=[(0,Li)] } :: lv0::{ lock:=false,bs:=[(0,Blk.row (Row.G [tabR 1 w ls ld zs zd sz kd])),(0,Blk.row (Row.G [AV.bool sure])),(0,Blk.fmap (setBO hS q true) (setIO gS q (addI .i64 s (Int.ofNat 1))) (cntAO (hS q) cS)),(0,Blk.row (Row.G [AV.map 0 2])),(0,Blk.fmap (setBO hW q true) (setIO gW q (addI .i64 s (Int.ofNat 1))) (cntAO (hW q) cW)),(0,Blk.row (Row.G [AV.map 0 4])),(0,Blk.row (Row.I .i64 [s])),(0,L)] } :: H)))) (Tr.ok (Ex.normal,[(9,AV.ptr 6 3 0 0,none),(10,AV.ptr 6 5 0 0,none),(11,AV.ptr 6 6 0 0,none),(15,AV.int .i64 q,none),(68,AV.bool false,some 1)],lv0::lv0::lv0::{ lock:=false,bs:=[(0,Blk.row (Row.G [AV.yld 1 0])),(0,Blk.loop L0)] } :: { lock:=false,bs:=[(0,Li)] } :: lv0::{ lock:=false,bs:=[(0,Blk.row (Row.G [tabR 1 w ls ld zs zd sz kd])),(0,Blk.row (Row.G [AV.bool sure])),(0,Blk.fmap hS gS cS),(0,Blk.row (Row.G [AV.map 0 2])),(0,Blk.fmap hW gW cW),(0,Blk.row (Row.G [AV.map 0 4])),(0,Blk.row (Row.I .i64 [s])),(0,L)] } :: H)):=by kernel_rfl
theorem t80o_6 (n:Nat) (w:Int) (ls ld:Nat) (zs zd sz kd:Nat→Int) (H:Heap) (x:Int) (sure:Bool) (hS:Int→Bool) (gS:Int→Int) (cS:Nat) (hW:Int→Bool) (gW:Int→Int) (cW:Nat) (hS2:Int→Bool) (gS2:Int→Int) (cS2:Nat) (hW2:Int→Bool) (gW2:Int→Int) (cW2:Nat) (s:Int) (L:ALoop):execT (cx80o_6 (n+1)) (il noCt n 1) noBT (rgE noRT (fun _=>true) (fr80m_6 w ls ld zs zd sz kd sure x) (lv0::lv0::lv80_6 w ls ld zs zd sz kd sure hS gS cS (setBO hW x false) (setIO gW x 0) (cntDO (hW x) cW) s [(0,.loop L)]::H) (.ok (.normal,hints (fr80m_6 w ls ld zs zd sz kd sure x),lvLb .dead::lv0::lv80_6 w ls ld zs zd sz kd sure hS2 gS2 cS2 hW2 gW2 cW2 s [(0,.loop L)]::H))) oBd (hints (fr80Y_6 x)) (lv0::lv0::lv80_6 w ls ld zs zd sz kd sure hS gS cS hW gW cW s [(0,.loop L)]::H) =
 (fun (Z0:Lvl)=>((fun (Z1:Lvl)=>((fun (Z2:List AV)=>((fun (Z3:HFrm)=>((fun (Z4:Frm)=>Tr.ite (notB (hW x)) (Tr.ok (Ex.normal,Z3,lv0::lv0::Z1::H)) (Tr.ite (notB (eqI (gW x) s)) (Tr.ok (Ex.normal,Z3,lv0::lv0::Z1::H)) (Tr.reqP (Z4=Z4∧lv0::lv0::Z0::H=lv0::lv0::Z0::H) (Tr.ok (Ex.normal,[(9,AV.ptr 2 3 0 0,none),(10,AV.ptr 2 5 0 0,none),(11,AV.ptr 2 6 0 0,none),(58,AV.fn (Fn.func 110) [] Z2,none)],{ lock:=false,bs:=[(0,Blk.dead)] } :: lv0::{ lock:=false,bs:=[(0,Blk.row (Row.G [tabR 1 w ls ld zs zd sz kd])),(0,Blk.row (Row.G [AV.bool sure])),(0,Blk.fmap hS2 gS2 cS2),(0,Blk.row (Row.G [AV.map 0 2])),(0,Blk.fmap hW2 gW2 cW2),(0,Blk.row (Row.G [AV.map 0 4])),(0,Blk.row (Row.I .i64 [s])),(0,Blk.loop L)] } :: H))))) [(9,AV.ptr 2 3 0 0),(10,AV.ptr 2 5 0 0),(11,AV.ptr 2 6 0 0),(58,AV.fn (Fn.func 110) [] Z2)])) [(4,AV.ptr 2 0 0 0,none),(7,AV.ptr 2 1 0 0,none),(9,AV.ptr 2 3 0 0,none),(10,AV.ptr 2 5 0 0,none),(11,AV.ptr 2 6 0 0,none),(12,AV.int .i64 x,none),(51,AV.bool true,some 1)])) [AV.ptrT (some 0) (Row.G [tabR 3 w ls ld zs zd sz kd]) 0,AV.ptrT none (Row.I .i64 [x]) 0,AV.ptrT (some 0) (Row.G [AV.bool sure]) 0])) { lock:=false,bs:=[(0,Blk.row (Row.G [tabR 1 w ls ld zs zd sz kd])),(0,Blk.row (Row.G [AV.bool sure])),(0,Blk.fmap hS gS cS),(0,Blk.row (Row.G [AV.map 0 2])),(0,Blk.fmap hW gW cW),(0,Blk.row (Row.G [AV.map 0 4])),(0,Blk.row (Row.I .i64 [s])),(0,Blk.loop L)] })) { lock:=false,bs:=[(0,Blk.row (Row.G [tabR 1 w ls ld zs zd sz kd])),(0,Blk.row (Row.G [AV.bool sure])),(0,Blk.fmap hS gS cS),(0,Blk.row (Row.G [AV.map 0 2])),(0,Blk.fmap (setBO hW x false) (setIO gW x (Int.ofNat 0)) (cntDO (hW x) cW)),(0,Blk.row (Row.G [AV.map 0 4])),(0,Blk.row (Row.I .i64 [s])),(0,Blk.loop L)] }:=by kernel_rfl
theorem t80a_6 (n:Nat) (w:Int) (ls ld:Nat) (zs zd sz kd:Nat→Int) (H:Heap) (p q:Int) (sure:Bool) (hS:Int→Bool) (gS:Int→Int) (cS:Nat) (hW:Int→Bool) (gW:Int→Int) (cW:Nat) (hS2:Int→Bool) (gS2:Int→Int) (cS2:Nat) (hW2:Int→Bool) (gW2:Int→Int) (cW2:Nat) (s:Int):execT (cxD (n+14) 80 113) (il noCt (n+13) 1) noBT (rgE noRT (fun _=>true) (fr80n_6 w ls ld zs zd sz kd p q) (lv80_6 w ls ld zs zd sz kd sure hS gS cS hW gW cW s []::H) (.ok (.normal,hints (fr80n_6 w ls ld zs zd sz kd p q),lv80_6 w ls ld zs zd sz kd sure hS2 gS2 cS2 hW2 gW2 cW2 s [(0,.dead)]::H))) (part Try.f80 [1,0,1,1,0,1,0,0]) (hints (fr80_6 p q)) (lv80_6 w ls ld zs zd sz kd sure hS gS cS hW gW cW s []::H) =
 (fun (Z0:Lvl)=>((fun (Z1:Frm)=>Tr.ite (ltI (Int.ofNat 0) (Int.ofNat cW)) (Tr.reqP (Z1=Z1∧Z0::H=Z0::H) (Tr.ok (Ex.normal,[(1,AV.int .i64 p,none),(2,AV.int .i64 q,none),(4,AV.ptr 0 0 0 0,none),(7,AV.ptr 0 1 0 0,none),(9,AV.ptr 0 3 0 0,none),(10,AV.ptr 0 5 0 0,none),(11,AV.ptr 0 8 0 0,none)],{ lock:=false,bs:=[(0,Blk.row (Row.G [tabR 1 w ls ld zs zd sz kd])),(0,Blk.row (Row.G [AV.bool sure])),(0,Blk.fmap hS2 gS2 cS2),(0,Blk.row (Row.G [AV.map 0 2])),(0,Blk.fmap hW2 gW2 cW2),(0,Blk.row (Row.G [AV.map 0 4])),(0,Blk.row (Row.I .i64 [s])),(0,Blk.dead),(0,Blk.row (Row.I .i64 [addI .i64 s (Int.ofNat 1)]))] } :: H))) (Tr.ok (Ex.exit 0,[(1,AV.int .i64 p,none),(2,AV.int .i64 q,none),(4,AV.ptr 0 0 0 0,none),(7,AV.ptr 0 1 0 0,none),(9,AV.ptr 0 3 0 0,none),(10,AV.ptr 0 5 0 0,none),(11,AV.ptr 0 6 0 0,none),(32,AV.bool false,some 1)],Z0::H))) [(1,AV.int .i64 p),(2,AV.int .i64 q),(4,AV.ptr 0 0 0 0),(7,AV.ptr 0 1 0 0),(9,AV.ptr 0 3 0 0),(10,AV.ptr 0 5 0 0),(11,AV.ptr 0 6 0 0),(36,AV.fn (Fn.func 109) [] [AV.ptrT (some 0) (Row.G [tabR 1 w ls ld zs zd sz kd]) 0])])) { lock:=false,bs:=[(0,Blk.row (Row.G [tabR 1 w ls ld zs zd sz kd])),(0,Blk.row (Row.G [AV.bool sure])),(0,Blk.fmap hS gS cS),(0,Blk.row (Row.G [AV.map 0 2])),(0,Blk.fmap hW gW cW),(0,Blk.row (Row.G [AV.map 0 4])),(0,Blk.row (Row.I .i64 [s]))] }:=by kernel_rfl
theorem t80i_7 (n:Nat) (w:Int) (ls ld:Nat) (zs zd sz kd:Nat→Int) (H:Heap) (q:Int) (sure:Bool) (hS:Int→Bool) (gS:Int→Int) (cS:Nat) (hW:Int→Bool) (gW:Int→Int) (cW:Nat) (s:Int) (L:Blk) (L0:ALoop) (Li:Blk):execT (cx80i n) (il noCt n 0) noBT noRT iBd (hints (fr80y_7 q)) (lv0::lv0::lv0::lv110 0 [(0,.loop L0)]::lvLb Li::lv0::lv80_7 w ls ld zs zd sz kd sure hS gS cS hW gW cW s [(0,L)]::H) =
 Tr.ite (notB (hS q)) (Tr.req (andB (leN 0 0) (leN 0 1)) (Tr.req (andB (leN 0 0) (leN 0 1)) (Tr.ok (Ex.normal,[],lv0::lv0::lv0::{ lock:=false,bs:=[(0,Blk.row (Row.G [AV.yld 1 0])),(0,Blk.loop L0)] } :: { lock:=false,bs:=[(0,Li)] } :: lv0::{ lock:=false,bs:=[(0,Blk.row (Row.G [tabR 1 w ls ld zs zd sz kd])),(0,Blk.row (Row.G [AV.bool sure])),(0,Blk.fmap (setBO hS q true) (setIO gS q (addI .i64 s (Int.ofNat 1))) (cntAO (hS q) cS)),(0,Blk.row (Row.G [AV.map 0 2])),(0,Blk.fmap (setBO hW q true) (setIO gW q (addI .i64 s (Int.ofNat 1))) (cntAO (hW q) cW)),(0,Blk.row (Row.G [AV.map 0 4])),(0,Blk.row (Row.I .i64 [Int.ofNat 0])),(0,Blk.row (Row.I .i64 [s])),(0,L)] } :: H)))) (Tr.ok (Ex.normal,[(9,AV.ptr 6 3 0 0,none),(10,AV.ptr 6 5 0 0,none),(11,AV.ptr 6 7 0 0,none),(15,AV.int .i64 q,none),(68,AV.bool false,some 1)],lv0::lv0::lv0::{ lock:=false,bs:=[(0,Blk.row (Row.G [AV.yld 1 0])),(0,Blk.loop L0)] } :: { lock:=false,bs:=[(0,Li)] } :: lv0::{ lock:=false,bs:=[(0,Blk.row (Row.G [tabR 1 w ls ld zs zd sz kd])),(0,Blk.row (Row.G [AV.bool sure])),(0,Blk.fmap hS gS cS),(0,Blk.row (Row.G [AV.map 0 2])),(0,Blk.fmap hW gW cW),(0,Blk.row (Row.G [AV.map 0 4])),(0,Blk.row (Row.I .i64 [Int.ofNat 0])),(0,Blk.row (Row.I .i64 [s])),(0,L)] } :: H)):=by kernel_rfl
theorem t80o_7 (n:Nat) (w:Int) (ls ld:Nat) (zs zd sz kd:Nat→Int) (H:Heap) (x:Int) (sure:Bool) (hS:Int→Bool) (gS:Int→Int) (cS:Nat) (hW:Int→Bool) (gW:Int→Int) (cW:Nat) (hS2:Int→Bool) (gS2:Int→Int) (cS2:Nat) (hW2:Int→Bool) (gW2:Int→Int) (cW2:Nat) (s:Int) (L:ALoop):execT (cx80o_7 (n+1)) (il noCt n 1) noBT (rgE noRT (fun _=>true) (fr80m_7 w ls ld zs zd sz kd sure x) (lv0::lv0::lv80_7 w ls ld zs zd sz kd sure hS gS cS (setBO hW x false) (setIO gW x 0) (cntDO (hW x) cW) s [(0,.loop L)]::H) (.ok (.normal,hints (fr80m_7 w ls ld zs zd sz kd sure x),lvLb .dead::lv0::lv80_7 w ls ld zs zd sz kd sure hS2 gS2 cS2 hW2 gW2 cW2 s [(0,.loop L)]::H))) oBd (hints (fr80Y_7 x)) (lv0::lv0::lv80_7 w ls ld zs zd sz kd sure hS gS cS hW gW cW s [(0,.loop L)]::H) =
 (fun (Z0:Lvl)=>((fun (Z1:Lvl)=>((fun (Z2:List AV)=>((fun (Z3:HFrm)=>((fun (Z4:Frm)=>Tr.ite (notB (hW x)) (Tr.ok (Ex.normal,Z3,lv0::lv0::Z1::H)) (Tr.ite (notB (eqI (gW x) s)) (Tr.ok (Ex.normal,Z3,lv0::lv0::Z1::H)) (Tr.reqP (Z4=Z4∧lv0::lv0::Z0::H=lv0::lv0::Z0::H) (Tr.ok (Ex.normal,[(9,AV.ptr 2 3 0 0,none),(10,AV.ptr 2 5 0 0,none),(11,AV.ptr 2 7 0 0,none),(58,AV.fn (Fn.func 110) [] Z2,none)],{ lock:=false,bs:=[(0,Blk.dead)] } :: lv0::{ lock:=false,bs:=[(0,Blk.row (Row.G [tabR 1 w ls ld zs zd sz kd])),(0,Blk.row (Row.G [AV.bool sure])),(0,Blk.fmap hS2 gS2 cS2),(0,Blk.row (Row.G [AV.map 0 2])),(0,Blk.fmap hW2 gW2 cW2),(0,Blk.row (Row.G [AV.map 0 4])),(0,Blk.row (Row.I .i64 [Int.ofNat 0])),(0,Blk.row (Row.I .i64 [s])),(0,Blk.loop L)] } :: H))))) [(9,AV.ptr 2 3 0 0),(10,AV.ptr 2 5 0 0),(11,AV.ptr 2 7 0 0),(58,AV.fn (Fn.func 110) [] Z2)])) [(4,AV.ptr 2 0 0 0,none),(7,AV.ptr 2 1 0 0,none),(9,AV.ptr 2 3 0 0,none),(10,AV.ptr 2 5 0 0,none),(11,AV.ptr 2 7 0 0,none),(12,AV.int .i64 x,none),(51,AV.bool true,some 1)])) [AV.ptrT (some 0) (Row.G [tabR 3 w ls ld zs zd sz kd]) 0,AV.ptrT none (Row.I .i64 [x]) 0,AV.ptrT (some 0) (Row.G [AV.bool sure]) 0])) { lock:=false,bs:=[(0,Blk.row (Row.G [tabR 1 w ls ld zs zd sz kd])),(0,Blk.row (Row.G [AV.bool sure])),(0,Blk.fmap hS gS cS),(0,Blk.row (Row.G [AV.map 0 2])),(0,Blk.fmap hW gW cW),(0,Blk.row (Row.G [AV.map 0 4])),(0,Blk.row (Row.I .i64 [Int.ofNat 0])),(0,Blk.row (Row.I .i64 [s])),(0,Blk.loop L)] })) { lock:=false,bs:=[(0,Blk.row (Row.G [tabR 1 w ls ld zs zd sz kd])),(0,Blk.row (Row.G [AV.bool sure])),(0,Blk.fmap hS gS cS),(0,Blk.row (Row.G [AV.map 0 2])),(0,Blk.fmap (setBO hW x false) (setIO gW x (Int.ofNat 0)) (cntDO (hW x) cW)),(0,Blk.row (Row.G [AV.map 0 4])),(0,Blk.row (Row.I .i64 [Int.ofNat 0])),(0,Blk.row (Row.I .i64 [s])),(0,Blk.loop L)] }:=by kernel_rfl
theorem t80a_7 (n:Nat) (w:Int) (ls ld:Nat) (zs zd sz kd:Nat→Int) (H:Heap) (p q:Int) (sure:Bool) (hS:Int→Bool) (gS:Int→Int) (cS:Nat) (hW:Int→Bool) (gW:Int→Int) (cW:Nat) (hS2:Int→Bool) (gS2:Int→Int) (cS2:Nat) (hW2:Int→Bool) (gW2:Int→Int) (cW2:Nat) (s:Int):execT (cxD (n+14) 80 113) (il noCt (n+13) 1) noBT (rgE noRT (fun _=>true) (fr80n_7 w ls ld zs zd sz kd p q) (lv80_7 w ls ld zs zd sz kd sure hS gS cS hW gW cW s []::H) (.ok (.normal,hints (fr80n_7 w ls ld zs zd sz kd p q),lv80_7 w ls ld zs zd sz kd sure hS2 gS2 cS2 hW2 gW2 cW2 s [(0,.dead)]::H))) (part Try.f80 [1,0,1,1,0,1,0,0]) (hints (fr80_7 p q)) (lv80_7 w ls ld zs zd sz kd sure hS gS cS hW gW cW s []::H) =
 (fun (Z0:Lvl)=>((fun (Z1:Frm)=>Tr.ite (ltI (Int.ofNat 0) (Int.ofNat cW)) (Tr.reqP (Z1=Z1∧Z0::H=Z0::H) (Tr.ok (Ex.normal,[(1,AV.int .i64 p,none),(2,AV.int .i64 q,none),(4,AV.ptr 0 0 0 0,none),(7,AV.ptr 0 1 0 0,none),(9,AV.ptr 0 3 0 0,none),(10,AV.ptr 0 5 0 0,none),(11,AV.ptr 0 9 0 0,none)],{ lock:=false,bs:=[(0,Blk.row (Row.G [tabR 1 w ls ld zs zd sz kd])),(0,Blk.row (Row.G [AV.bool sure])),(0,Blk.fmap hS2 gS2 cS2),(0,Blk.row (Row.G [AV.map 0 2])),(0,Blk.fmap hW2 gW2 cW2),(0,Blk.row (Row.G [AV.map 0 4])),(0,Blk.row (Row.I .i64 [Int.ofNat 0])),(0,Blk.row (Row.I .i64 [s])),(0,Blk.dead),(0,Blk.row (Row.I .i64 [addI .i64 s (Int.ofNat 1)]))] } :: H))) (Tr.ok (Ex.exit 0,[(1,AV.int .i64 p,none),(2,AV.int .i64 q,none),(4,AV.ptr 0 0 0 0,none),(7,AV.ptr 0 1 0 0,none),(9,AV.ptr 0 3 0 0,none),(10,AV.ptr 0 5 0 0,none),(11,AV.ptr 0 7 0 0,none),(32,AV.bool false,some 1)],Z0::H))) [(1,AV.int .i64 p),(2,AV.int .i64 q),(4,AV.ptr 0 0 0 0),(7,AV.ptr 0 1 0 0),(9,AV.ptr 0 3 0 0),(10,AV.ptr 0 5 0 0),(11,AV.ptr 0 7 0 0),(36,AV.fn (Fn.func 109) [] [AV.ptrT (some 0) (Row.G [tabR 1 w ls ld zs zd sz kd]) 0])])) { lock:=false,bs:=[(0,Blk.row (Row.G [tabR 1 w ls ld zs zd sz kd])),(0,Blk.row (Row.G [AV.bool sure])),(0,Blk.fmap hS gS cS),(0,Blk.row (Row.G [AV.map 0 2])),(0,Blk.fmap hW gW cW),(0,Blk.row (Row.G [AV.map 0 4])),(0,Blk.row (Row.I .i64 [Int.ofNat 0])),(0,Blk.row (Row.I .i64 [s]))] }:=by kernel_rfl
theorem t80e_7 (n:Nat) (w:Int) (ls ld:Nat) (zs zd sz kd:Nat→Int) (H:Heap) (p q:Int) (sure:Bool) (hS:Int→Bool) (gS:Int→Int) (cS:Nat) (hW:Int→Bool) (gW:Int→Int) (cW:Nat) (s:Int):execT (cxD (n+14) 80 113) (il noCt (n+13) 1) noBT (rgE noRT (fun _=>true) [] [] .bad) (part Try.f80 [1,0,1,1,0,1,0,0]) (hints (fr80_7 p q)) (lv80_7 w ls ld zs zd sz kd sure hS gS cS hW gW cW s []::H) =
 (fun (Z0:Lvl)=>Tr.ite (ltI (Int.ofNat 0) (Int.ofNat cW)) (Tr.reqP ([(1,AV.int .i64 p),(2,AV.int .i64 q),(4,AV.ptr 0 0 0 0),(7,AV.ptr 0 1 0 0),(9,AV.ptr 0 3 0 0),(10,AV.ptr 0 5 0 0),(11,AV.ptr 0 7 0 0),(36,AV.fn (Fn.func 109) [] [AV.ptrT (some 0) (Row.G [tabR 1 w ls ld zs zd sz kd]) 0])]=[]∧Z0::H=[]) Tr.bad) (Tr.ok (Ex.exit 0,[(1,AV.int .i64 p,none),(2,AV.int .i64 q,none),(4,AV.ptr 0 0 0 0,none),(7,AV.ptr 0 1 0 0,none),(9,AV.ptr 0 3 0 0,none),(10,AV.ptr 0 5 0 0,none),(11,AV.ptr 0 7 0 0,none),(32,AV.bool false,some 1)],Z0::H))) { lock:=false,bs:=[(0,Blk.row (Row.G [tabR 1 w ls ld zs zd sz kd])),(0,Blk.row (Row.G [AV.bool sure])),(0,Blk.fmap hS gS cS),(0,Blk.row (Row.G [AV.map 0 2])),(0,Blk.fmap hW gW cW),(0,Blk.row (Row.G [AV.map 0 4])),(0,Blk.row (Row.I .i64 [Int.ofNat 0])),(0,Blk.row (Row.I .i64 [s]))] }:=by kernel_rfl
structure WS where
 hS:Int→Bool
 gS:Int→Int
 cS:Nat
 hW:Int→Bool
 gW:Int→Int
 cW:Nat
noncomputable def lvWS_6 (w:Int) (ls ld:Nat) (zs zd sz kd:Nat→Int) (sure:Bool) (S:WS) (s:Int) (rest:List (Nat×Blk)):Lvl:=lv80_6 w ls ld zs zd sz kd sure S.hS S.gS S.cS S.hW S.gW S.cW s rest
noncomputable def lvWS_7 (w:Int) (ls ld:Nat) (zs zd sz kd:Nat→Int) (sure:Bool) (S:WS) (s:Int) (rest:List (Nat×Blk)):Lvl:=lv80_7 w ls ld zs zd sz kd sure S.hS S.gS S.cS S.hW S.gW S.cW s rest
noncomputable def wsI (s q:Int) (S:WS):WS:=if S.hS q=true then S else ⟨setBO S.hS q true,setIO S.gS q (s+1),cntAO (S.hS q) S.cS,setBO S.hW q true,setIO S.gW q (s+1),cntAO (S.hW q) S.cW⟩
noncomputable def wsF (hl:Nat→Bool) (s:Int) (S:WS):Nat→WS
 | 0=>S
 | j+1=>if hl j=true then wsI s ((j:Int)-2) (wsF hl s S j) else wsF hl s S j
noncomputable def wsD (x:Int) (S:WS):WS:=⟨S.hS,S.gS,S.cS,setBO S.hW x false,setIO S.gW x 0,cntDO (S.hW x) S.cW⟩
noncomputable def wsO (kd:Nat→Int) (sure:Bool) (ls:Nat) (s x:Int) (S:WS):WS:=if S.hW x=true∧S.gW x=s then wsF (fun j=>hlK kd sure x ((j:Int)-2)) s (wsD x S) (ls+2) else S
noncomputable def wsR (kd:Nat→Int) (sure:Bool) (ls:Nat) (s:Int) (S:WS):Nat→WS
 | 0=>S
 | j+1=>wsO kd sure ls s ((j:Int)-2) (wsR kd sure ls s S j)
noncomputable def ws0 (q:Int):WS:=⟨setBO (fun _=>false) q true,setIO (fun _=>0) q 0,cntAO false 0,setBO (fun _=>false) q true,setIO (fun _=>0) q 0,cntAO false 0⟩
noncomputable def wsL (kd:Nat→Int) (sure:Bool) (ls:Nat) (q:Int):Nat→WS
 | 0=>ws0 q
 | k+1=>wsR kd sure ls (k:Int) (wsL kd sure ls q k) (ls+2)
theorem r80o:rangesOf (part Try.f80 [1,0,1,1,0,1,0,0])=[(.tmp 36,#[37],oAs,oBd)]:=by kernel_rfl
theorem r80i:rangesOf oBd=[(.tmp 58,#[59],iAs,iBd)]:=by kernel_rfl
section
variable (n:Nat) (w:Int) (ls ld:Nat) (zs zd sz kd:Nat→Int) (H:Heap) (p q x s:Int) (sure:Bool)
theorem c109z (k R:Nat) (G:Nat→Heap) (hls:ls≤10) (h:∀ j,j<ls+2→cd n (.round 1 R) [.int .i64 ((j:Int)-2)] (lv0::G j)=some (.bool true,lv0::G (j+1))) :
 cd (n+1) (.fn 109) [.yld 0 R,.ptrT (some 0) (.G [tabR k w ls ld zs zd sz kd]) 0] (G 0)=some (.tup [],G (ls+2)):=by
 have l:exec (cxD n 109 18) (.block 0 (.loop (part Try.f109 [1,0,0]))) (frR k R w ls ld zs zd sz kd (-2)) (lv0::G 0)=some (.normal,frR k R w ls ld zs zd sz kd (((ls+2:Nat):Int)-2)++[(11,.bool false)],lv0::G (ls+2)):=by
  have:=forX (n:=n) (f:=109) (nt:=18) (c:=part Try.f109 [1,0,0]) 0 (fun j=>frR k R w ls ld zs zd sz kd ((j:Int)-2)) (fun j=>lv0::G j) (ls+2) (frR k R w ls ld zs zd sz kd (((ls+2:Nat):Int)-2)++[(11,.bool false)],lv0::G (ls+2)) (by omega) (fun j hj=>?_) ?_
  · exact this
  · have ej:addI .i64 ((j:Int)-2) (Int.ofNat 1)=((j+1:Nat):Int)-2:=by rw[addI_eq,show Int.ofNat 1=1 from rfl,wr_64 (by omega) (by omega)];omega
    refine ex_all (t109z k R n w ls ld zs zd sz kd (G j) (G (j+1)) ((j:Int)-2)) (rdN_ok (il_no0 n) (fun x hx=>by rw[← Tr.ok_some hx];exact h j hj)) (noBT_ok _ _) (noRT_ok _ _) ?_
    rw[ej]
    repeat' first | (refine Tr.all_ite (fun hc=>?_) (fun hc=>?_)<;>(try simp (disch:=omega) only[nV,nW] at hc)<;>try omega) | (refine Tr.all_req ?_ ?_;· (try simp (disch:=omega) only[nV,nW]);try omega) | (refine Tr.all_reqP ?_ ?_;· first | exact trivial | rfl | exact ⟨rfl,rfl⟩ | exact ⟨rfl,rfl,rfl⟩ | (simp (disch:=omega) only[nV,nW];done) | ((try simp (disch:=omega) only[nV,nW]);omega)) | fail
    all_goals exact Tr.all_ok ⟨rfl,rfl⟩
  · obtain ⟨x,h1,rfl⟩:=ex_all (f:=109) (nt:=18) (Q:=fun x=>x=(.exit 0,frR k R w ls ld zs zd sz kd (((ls+2:Nat):Int)-2)++[(11,.bool false)],lv0::G (ls+2))) (t109ze k R n w ls ld zs zd sz kd (G (ls+2)) (((ls+2:Nat):Int)-2)) (il_no0 n) (noBT_ok _ _) (noRT_ok _ _) (by
     repeat' first | (refine Tr.all_ite (fun hc=>?_) (fun hc=>?_)<;>(try simp (disch:=omega) only[nV,nW] at hc)<;>try omega) | (refine Tr.all_req ?_ ?_;· (try simp (disch:=omega) only[nV,nW]);try omega) | (refine Tr.all_reqP ?_ ?_;· first | exact trivial | rfl | exact ⟨rfl,rfl⟩ | exact ⟨rfl,rfl,rfl⟩ | (simp (disch:=omega) only[nV,nW];done) | ((try simp (disch:=omega) only[nV,nW]);omega)) | fail
     all_goals exact Tr.all_ok rfl)
    exact h1
 refine fn_all (n:=n) Try.func109 rfl rfl rfl (u109z k R n w ls ld zs zd sz kd (G 0) (G (ls+2)) (frR k R w ls ld zs zd sz kd (((ls+2:Nat):Int)-2)++[(11,.bool false)])) (il_no0 n) (blkE_ok (noBT_ok _ _) b109 (fun x hx=>?_)) (noRT_ok _ _) ?_
 · refine l.trans ?_
   rw[← Tr.ok_some hx];simp only[Res.st,hints_eq]
 · refine Tr.all_reqP ⟨rfl,rfl⟩ (Tr.all_ok ⟨rfl,rfl⟩)
noncomputable def rec80i_6 (w:Int) (ls ld:Nat) (zs zd sz kd:Nat→Int) (sure:Bool) (x:Int):ALoop:={ state:=.ready,pending:=none,fn:=80,nt:=113,fr:=fr80m_6 w ls ld zs zd sz kd sure x,params:=[59],assign:=iAs,body:=iBd }
noncomputable def rec80_6 (w:Int) (ls ld:Nat) (zs zd sz kd:Nat→Int) (p q:Int):ALoop:={ state:=.ready,pending:=none,fn:=80,nt:=113,fr:=fr80n_6 w ls ld zs zd sz kd p q,params:=[37],assign:=oAs,body:=oBd }
theorem as80i_6 (q:Int) (G:Heap):exec (cx80i n) iAs (fr80z_6 w ls ld zs zd sz kd sure x q) (lv0::lv0::lv0::G)=some (.normal,fr80y_6 q,lv0::lv0::lv0::G):=by
 have e:execT (cx80i n) (il noCt n 0) noBT noRT iAs (hints (fr80z_6 w ls ld zs zd sz kd sure x q)) (lv0::lv0::lv0::G)=.ok (.normal,hints (fr80y_6 q),lv0::lv0::lv0::G):=by kernel_rfl
 have:=execT_ok (cx:=cx80i n) (il_no0 n) iAs (noBT_ok _ _) (noRT_ok _ _) (hints (fr80z_6 w ls ld zs zd sz kd sure x q)) (lv0::lv0::lv0::G) _ (by rw[e];rfl)
 rw[hints_eq] at this
 simp only[Res.st,hints_eq] at this
 exact this
theorem as80o_6 (G:Heap):exec (cx80o_6 n) oAs (fr80Z_6 w ls ld zs zd sz kd p q x) (lv0::lv0::G)=some (.normal,fr80Y_6 x,lv0::lv0::G):=by
 have e:execT (cx80o_6 n) (il noCt n 0) noBT noRT oAs (hints (fr80Z_6 w ls ld zs zd sz kd p q x)) (lv0::lv0::G)=.ok (.normal,hints (fr80Y_6 x),lv0::lv0::G):=by kernel_rfl
 have:=execT_ok (cx:=cx80o_6 n) (il_no0 n) oAs (noBT_ok _ _) (noRT_ok _ _) (hints (fr80Z_6 w ls ld zs zd sz kd p q x)) (lv0::lv0::G) _ (by rw[e];rfl)
 rw[hints_eq] at this
 simp only[Res.st,hints_eq] at this
 exact this
theorem bd80i_6 (hs:0≤s∧s≤1000) (q:Int) (S:WS) (L0:ALoop) (L Li:Blk):∃ fr',exec (cx80i n) iBd (fr80y_6 q) (lv0::lv0::lv0::lv110 0 [(0,.loop L0)]::lvLb Li::lv0::lvWS_6 w ls ld zs zd sz kd sure S s [(0,L)]::H)=some (.normal,fr',lv0::lv0::lv0::lv110 0 [(0,.loop L0)]::lvLb Li::lv0::lvWS_6 w ls ld zs zd sz kd sure (wsI s q S) s [(0,L)]::H):=by
 have es:addI .i64 s (Int.ofNat 1)=s+1:=by rw[addI_eq,show Int.ofNat 1=1 from rfl];exact wr_64 (by omega) (by omega)
 have key:(execT (cx80i n) (il noCt n 0) noBT noRT iBd (hints (fr80y_6 q)) (lv0::lv0::lv0::lv110 0 [(0,.loop L0)]::lvLb Li::lv0::lv80_6 w ls ld zs zd sz kd sure S.hS S.gS S.cS S.hW S.gW S.cW s [(0,L)]::H)).all fun y=>y.1=.normal∧y.2.2=lv0::lv0::lv0::lv110 0 [(0,.loop L0)]::lvLb Li::lv0::lvWS_6 w ls ld zs zd sz kd sure (wsI s q S) s [(0,L)]::H:=by
  rw[t80i_6,es]
  unfold wsI
  repeat' first | (refine Tr.all_ite (fun hc=>?_) (fun hc=>?_)<;>(try simp (disch:=omega) only[nV,nW] at hc)<;>try omega) | (refine Tr.all_req ?_ ?_;· (try simp (disch:=omega) only[nV,nW]);try omega) | (refine Tr.all_reqP ?_ ?_;· first | exact trivial | rfl | exact ⟨rfl,rfl⟩ | exact ⟨rfl,rfl,rfl⟩ | (simp (disch:=omega) only[nV,nW];done) | ((try simp (disch:=omega) only[nV,nW]);omega)) | fail
  all_goals refine Tr.all_ok ⟨rfl,?_⟩
  · rw[if_neg (by rw[hc];simp)];rfl
  · rw[if_pos (by simpa using hc)];rfl
 obtain ⟨y,h1,h3,h4⟩:=key
 have:=execT_ok (cx:=cx80i n) (il_no0 n) iBd (noBT_ok _ _) (noRT_ok _ _) _ _ _ h1
 rw[hints_eq] at this
 refine ⟨strip y.2.1,this.trans ?_⟩
 obtain ⟨e,f,g⟩:=y
 dsimp only at h3 h4
 subst h3;subst h4
 rfl
theorem rd80i_6 (hs:0≤s∧s≤1000) (q:Int) (S:WS) (L0:ALoop) (L:Blk):cd (n+1) (.round 3 0) [.int .i64 q] (lv0::lv0::lv110 0 [(0,.loop L0)]::lvLb (.loop (rec80i_6 w ls ld zs zd sz kd sure x))::lv0::lvWS_6 w ls ld zs zd sz kd sure S s [(0,L)]::H)=some (.bool true,lv0::lv0::lv110 0 [(0,.loop L0)]::lvLb (.loop (rec80i_6 w ls ld zs zd sz kd sure x))::lv0::lvWS_6 w ls ld zs zd sz kd sure (wsI s q S) s [(0,L)]::H):=by
 obtain ⟨fr',h2⟩:=bd80i_6 n w ls ld zs zd sz kd H s sure hs q S L0 L (.loop { rec80i_6 w ls ld zs zd sz kd sure x with state:=.busy })
 have ha:=as80i_6 n w ls ld zs zd sz kd x sure q (lv110 0 [(0,.loop L0)]::lvLb (.loop (rec80i_6 w ls ld zs zd sz kd sure x))::lv0::lvWS_6 w ls ld zs zd sz kd sure S s [(0,L)]::H)
 exact round_of (P:=Try.prog) (ora:=oraD) (KT:=Kt.kt) (fu:=100000) (n:=n) (d:=3) (i:=0) (args:=[.int .i64 q]) (H:=lv0::lv0::lv110 0 [(0,.loop L0)]::lvLb (.loop (rec80i_6 w ls ld zs zd sz kd sure x))::lv0::lvWS_6 w ls ld zs zd sz kd sure S s [(0,L)]::H) (l:=rec80i_6 w ls ld zs zd sz kd sure x) (l1:=rec80i_6 w ls ld zs zd sz kd sure x) (l2:={ rec80i_6 w ls ld zs zd sz kd sure x with state:=.busy }) (fr:=fr80z_6 w ls ld zs zd sz kd sure x q) rfl rfl rfl rfl ha rfl rfl h2 rfl
theorem near80_6 (hs:0≤s∧s≤1000) (S:WS) (L:Blk):NearR 0 n ls kd x sure (fun j=>lvLb (.loop (rec80i_6 w ls ld zs zd sz kd sure x))::lv0::lvWS_6 w ls ld zs zd sz kd sure (wsF (fun j=>hlK kd sure x ((j:Int)-2)) s S j) s [(0,L)]::H) (fun _=>[]) (fun _=>true) where
 hit:=fun j hj hh L0=>by
  have:=rd80i_6 (n+1) w ls ld zs zd sz kd H x s sure hs ((j:Int)-2) (wsF (fun j=>hlK kd sure x ((j:Int)-2)) s S j) L0 L
  have e:wsF (fun j=>hlK kd sure x ((j:Int)-2)) s S (j+1)=wsI s ((j:Int)-2) (wsF (fun j=>hlK kd sure x ((j:Int)-2)) s S j):=by
   show (if hlK kd sure x ((j:Int)-2)=true then _ else _)=_
   rw[if_pos hh]
  rw[if_pos rfl,e]
  exact this
 skip:=fun j hj hh=>by
  have e:wsF (fun j=>hlK kd sure x ((j:Int)-2)) s S (j+1)=wsF (fun j=>hlK kd sure x ((j:Int)-2)) s S j:=by
   show (if hlK kd sure x ((j:Int)-2)=true then _ else _)=_
   rw[if_neg (by rw[hh];simp)]
  rw[e]
theorem rg80i_6 (hs:0≤s∧s≤1000) (hls:ls≤10) (hx:-2≤x∧x<ls) (S:WS) (L:ALoop):exec (cx80o_6 (n+5)) (.rangeFunc (.tmp 58) #[59] iAs iBd) (fr80m_6 w ls ld zs zd sz kd sure x) (lv0::lv0::lvWS_6 w ls ld zs zd sz kd sure S s [(0,.loop L)]::H) =
 some (.normal,fr80m_6 w ls ld zs zd sz kd sure x,lvLb .dead::lv0::lvWS_6 w ls ld zs zd sz kd sure (wsF (fun j=>hlK kd sure x ((j:Int)-2)) s S (ls+2)) s [(0,.loop L)]::H):=by
 have hn:=c110 0 n 3 w ls ld zs zd sz kd x sure (near80_6 n w ls ld zs zd sz kd H x s sure hs S (.loop L)) hx hls
 have h0:exN (nrH kd sure x (fun _=>true)) (ls+2)=false:=by
  cases hq:exN (nrH kd sure x (fun _=>true)) (ls+2) with
  | false=>rfl
  | true =>
    obtain ⟨j,hj,h1⟩:=(exN_iff _ _).1 hq
    unfold nrH at h1
    simp at h1
 rw[h0,if_neg (by simp)] at hn
 exact range_of (cx:=cx80o_6 (n+5)) (l:=rec80i_6 w ls ld zs zd sz kd sure x) (f:=.tmp 58) (ps:=#[59]) (fr:=fr80m_6 w ls ld zs zd sz kd sure x) (H:=lv0::lv0::lvWS_6 w ls ld zs zd sz kd sure S s [(0,.loop L)]::H) (g:=110) (a:=[]) (b:=capsN 3 w ls ld zs zd sz kd x sure) (e:=.normal) rfl rfl rfl hn rfl rfl rfl
theorem bd80o_6 (hs:0≤s∧s≤1000) (hls:ls≤10) (hx:-2≤x∧x<ls) (S:WS) (L:ALoop):∃ fr' lv,exec (cx80o_6 (n+5)) oBd (fr80Y_6 x) (lv0::lv0::lvWS_6 w ls ld zs zd sz kd sure S s [(0,.loop L)]::H)=some (.normal,fr',lv::lv0::lvWS_6 w ls ld zs zd sz kd sure (wsO kd sure ls s x S) s [(0,.loop L)]::H):=by
 have hr:=rg80i_6 n w ls ld zs zd sz kd H x s sure hs hls hx (wsD x S) L
 generalize hF:wsF (fun j=>hlK kd sure x ((j:Int)-2)) s (wsD x S) (ls+2)=S2 at *
 have hO:wsO kd sure ls s x S=if S.hW x=true∧S.gW x=s then S2 else S:=by unfold wsO;rw[hF]
 have key:(execT (cx80o_6 (n+5)) (il noCt (n+4) 1) noBT (rgE noRT (fun _=>true) (fr80m_6 w ls ld zs zd sz kd sure x) (lv0::lv0::lv80_6 w ls ld zs zd sz kd sure S.hS S.gS S.cS (setBO S.hW x false) (setIO S.gW x 0) (cntDO (S.hW x) S.cW) s [(0,.loop L)]::H) (.ok (.normal,hints (fr80m_6 w ls ld zs zd sz kd sure x),lvLb .dead::lv0::lv80_6 w ls ld zs zd sz kd sure S2.hS S2.gS S2.cS S2.hW S2.gW S2.cW s [(0,.loop L)]::H))) oBd (hints (fr80Y_6 x)) (lv0::lv0::lv80_6 w ls ld zs zd sz kd sure S.hS S.gS S.cS S.hW S.gW S.cW s [(0,.loop L)]::H)).all fun y=>y.1=.normal∧∃ lv,y.2.2=lv::lv0::lvWS_6 w ls ld zs zd sz kd sure (wsO kd sure ls s x S) s [(0,.loop L)]::H:=by
  rw[t80o_6,hO]
  repeat' first | (refine Tr.all_ite (fun hc=>?_) (fun hc=>?_)<;>(try simp (disch:=omega) only[nV,nW] at hc)<;>try omega) | (refine Tr.all_req ?_ ?_;· (try simp (disch:=omega) only[nV,nW]);try omega) | (refine Tr.all_reqP ?_ ?_;· first | exact trivial | rfl | exact ⟨rfl,rfl⟩ | exact ⟨rfl,rfl,rfl⟩ | (simp (disch:=omega) only[nV,nW];done) | ((try simp (disch:=omega) only[nV,nW]);omega)) | fail
  all_goals refine Tr.all_ok ⟨rfl,?_⟩
  all_goals first
   | (rw[if_pos (by simp_all)];exact ⟨_,rfl⟩)
   | (rw[if_neg (by simp_all)];exact ⟨_,rfl⟩)
   | fail
 obtain ⟨y,h1,h3,lv,h4⟩:=key
 have:=execT_ok (cx:=cx80o_6 (n+5)) (il_no (n+4) 1) oBd (noBT_ok _ _) (rgE_ok (noRT_ok _ _) (fun f ps a b _ hm y hy=>by
  rw[r80i] at hm
  simp only[List.mem_cons,Prod.mk.injEq,List.not_mem_nil,or_false] at hm
  obtain ⟨rfl,rfl,rfl,rfl⟩:=hm
  rw[← Tr.ok_some hy]
  simp only[Res.st,hints_eq]
  exact hr)) _ _ _ h1
 rw[hints_eq] at this
 refine ⟨strip y.2.1,lv,this.trans ?_⟩
 obtain ⟨e,f,g⟩:=y
 dsimp only at h3 h4
 subst h3;subst h4
 rfl
theorem rd80o_6 (hs:0≤s∧s≤1000) (hls:ls≤10) (hx:-2≤x∧x<ls) (S:WS):cd (n+6) (.round 1 7) [.int .i64 x] (lv0::lvWS_6 w ls ld zs zd sz kd sure S s [(0,.loop (rec80_6 w ls ld zs zd sz kd p q))]::H)=some (.bool true,lv0::lvWS_6 w ls ld zs zd sz kd sure (wsO kd sure ls s x S) s [(0,.loop (rec80_6 w ls ld zs zd sz kd p q))]::H):=by
 obtain ⟨fr',lv,h2⟩:=bd80o_6 n w ls ld zs zd sz kd H x s sure hs hls hx S { rec80_6 w ls ld zs zd sz kd p q with state:=.busy }
 have ha:=as80o_6 (n+5) w ls ld zs zd sz kd p q x (lvWS_6 w ls ld zs zd sz kd sure S s [(0,.loop (rec80_6 w ls ld zs zd sz kd p q))]::H)
 exact round_of (P:=Try.prog) (ora:=oraD) (KT:=Kt.kt) (fu:=100000) (n:=n+5) (d:=1) (i:=7) (args:=[.int .i64 x]) (H:=lv0::lvWS_6 w ls ld zs zd sz kd sure S s [(0,.loop (rec80_6 w ls ld zs zd sz kd p q))]::H) (l:=rec80_6 w ls ld zs zd sz kd p q) (l1:=rec80_6 w ls ld zs zd sz kd p q) (l2:={ rec80_6 w ls ld zs zd sz kd p q with state:=.busy }) (fr:=fr80Z_6 w ls ld zs zd sz kd p q x) rfl rfl rfl rfl ha rfl rfl h2 rfl
theorem rg80_6 (hs:0≤s∧s≤1000) (hls:ls≤10) (S:WS):exec (cxD (n+14) 80 113) (.rangeFunc (.tmp 36) #[37] oAs oBd) (fr80n_6 w ls ld zs zd sz kd p q) (lvWS_6 w ls ld zs zd sz kd sure S s []::H) =
 some (.normal,fr80n_6 w ls ld zs zd sz kd p q,lvWS_6 w ls ld zs zd sz kd sure (wsR kd sure ls s S (ls+2)) s [(0,.dead)]::H):=by
 have hc:=c109z (n+13) w ls ld zs zd sz kd 1 7 (fun j=>lvWS_6 w ls ld zs zd sz kd sure (wsR kd sure ls s S j) s [(0,.loop (rec80_6 w ls ld zs zd sz kd p q))]::H) hls (fun j hj=>rd80o_6 (n+7) w ls ld zs zd sz kd H p q ((j:Int)-2) s sure hs hls ⟨by omega,by omega⟩ _)
 exact range_of (cx:=cxD (n+14) 80 113) (l:=rec80_6 w ls ld zs zd sz kd p q) (f:=.tmp 36) (ps:=#[37]) (fr:=fr80n_6 w ls ld zs zd sz kd p q) (H:=lvWS_6 w ls ld zs zd sz kd sure S s []::H) (g:=109) (a:=[]) (b:=[.ptrT (some 0) (.G [tabR 1 w ls ld zs zd sz kd]) 0]) (e:=.normal) rfl rfl rfl hc rfl rfl rfl
noncomputable def rec80i_7 (w:Int) (ls ld:Nat) (zs zd sz kd:Nat→Int) (sure:Bool) (x:Int):ALoop:={ state:=.ready,pending:=none,fn:=80,nt:=113,fr:=fr80m_7 w ls ld zs zd sz kd sure x,params:=[59],assign:=iAs,body:=iBd }
noncomputable def rec80_7 (w:Int) (ls ld:Nat) (zs zd sz kd:Nat→Int) (p q:Int):ALoop:={ state:=.ready,pending:=none,fn:=80,nt:=113,fr:=fr80n_7 w ls ld zs zd sz kd p q,params:=[37],assign:=oAs,body:=oBd }
theorem as80i_7 (q:Int) (G:Heap):exec (cx80i n) iAs (fr80z_7 w ls ld zs zd sz kd sure x q) (lv0::lv0::lv0::G)=some (.normal,fr80y_7 q,lv0::lv0::lv0::G):=by
 have e:execT (cx80i n) (il noCt n 0) noBT noRT iAs (hints (fr80z_7 w ls ld zs zd sz kd sure x q)) (lv0::lv0::lv0::G)=.ok (.normal,hints (fr80y_7 q),lv0::lv0::lv0::G):=by kernel_rfl
 have:=execT_ok (cx:=cx80i n) (il_no0 n) iAs (noBT_ok _ _) (noRT_ok _ _) (hints (fr80z_7 w ls ld zs zd sz kd sure x q)) (lv0::lv0::lv0::G) _ (by rw[e];rfl)
 rw[hints_eq] at this
 simp only[Res.st,hints_eq] at this
 exact this
theorem as80o_7 (G:Heap):exec (cx80o_7 n) oAs (fr80Z_7 w ls ld zs zd sz kd p q x) (lv0::lv0::G)=some (.normal,fr80Y_7 x,lv0::lv0::G):=by
 have e:execT (cx80o_7 n) (il noCt n 0) noBT noRT oAs (hints (fr80Z_7 w ls ld zs zd sz kd p q x)) (lv0::lv0::G)=.ok (.normal,hints (fr80Y_7 x),lv0::lv0::G):=by kernel_rfl
 have:=execT_ok (cx:=cx80o_7 n) (il_no0 n) oAs (noBT_ok _ _) (noRT_ok _ _) (hints (fr80Z_7 w ls ld zs zd sz kd p q x)) (lv0::lv0::G) _ (by rw[e];rfl)
 rw[hints_eq] at this
 simp only[Res.st,hints_eq] at this
 exact this
theorem bd80i_7 (hs:0≤s∧s≤1000) (q:Int) (S:WS) (L0:ALoop) (L Li:Blk):∃ fr',exec (cx80i n) iBd (fr80y_7 q) (lv0::lv0::lv0::lv110 0 [(0,.loop L0)]::lvLb Li::lv0::lvWS_7 w ls ld zs zd sz kd sure S s [(0,L)]::H)=some (.normal,fr',lv0::lv0::lv0::lv110 0 [(0,.loop L0)]::lvLb Li::lv0::lvWS_7 w ls ld zs zd sz kd sure (wsI s q S) s [(0,L)]::H):=by
 have es:addI .i64 s (Int.ofNat 1)=s+1:=by rw[addI_eq,show Int.ofNat 1=1 from rfl];exact wr_64 (by omega) (by omega)
 have key:(execT (cx80i n) (il noCt n 0) noBT noRT iBd (hints (fr80y_7 q)) (lv0::lv0::lv0::lv110 0 [(0,.loop L0)]::lvLb Li::lv0::lv80_7 w ls ld zs zd sz kd sure S.hS S.gS S.cS S.hW S.gW S.cW s [(0,L)]::H)).all fun y=>y.1=.normal∧y.2.2=lv0::lv0::lv0::lv110 0 [(0,.loop L0)]::lvLb Li::lv0::lvWS_7 w ls ld zs zd sz kd sure (wsI s q S) s [(0,L)]::H:=by
  rw[t80i_7,es]
  unfold wsI
  repeat' first | (refine Tr.all_ite (fun hc=>?_) (fun hc=>?_)<;>(try simp (disch:=omega) only[nV,nW] at hc)<;>try omega) | (refine Tr.all_req ?_ ?_;· (try simp (disch:=omega) only[nV,nW]);try omega) | (refine Tr.all_reqP ?_ ?_;· first | exact trivial | rfl | exact ⟨rfl,rfl⟩ | exact ⟨rfl,rfl,rfl⟩ | (simp (disch:=omega) only[nV,nW];done) | ((try simp (disch:=omega) only[nV,nW]);omega)) | fail
  all_goals refine Tr.all_ok ⟨rfl,?_⟩
  · rw[if_neg (by rw[hc];simp)];rfl
  · rw[if_pos (by simpa using hc)];rfl
 obtain ⟨y,h1,h3,h4⟩:=key
 have:=execT_ok (cx:=cx80i n) (il_no0 n) iBd (noBT_ok _ _) (noRT_ok _ _) _ _ _ h1
 rw[hints_eq] at this
 refine ⟨strip y.2.1,this.trans ?_⟩
 obtain ⟨e,f,g⟩:=y
 dsimp only at h3 h4
 subst h3;subst h4
 rfl
theorem rd80i_7 (hs:0≤s∧s≤1000) (q:Int) (S:WS) (L0:ALoop) (L:Blk):cd (n+1) (.round 3 0) [.int .i64 q] (lv0::lv0::lv110 0 [(0,.loop L0)]::lvLb (.loop (rec80i_7 w ls ld zs zd sz kd sure x))::lv0::lvWS_7 w ls ld zs zd sz kd sure S s [(0,L)]::H)=some (.bool true,lv0::lv0::lv110 0 [(0,.loop L0)]::lvLb (.loop (rec80i_7 w ls ld zs zd sz kd sure x))::lv0::lvWS_7 w ls ld zs zd sz kd sure (wsI s q S) s [(0,L)]::H):=by
 obtain ⟨fr',h2⟩:=bd80i_7 n w ls ld zs zd sz kd H s sure hs q S L0 L (.loop { rec80i_7 w ls ld zs zd sz kd sure x with state:=.busy })
 have ha:=as80i_7 n w ls ld zs zd sz kd x sure q (lv110 0 [(0,.loop L0)]::lvLb (.loop (rec80i_7 w ls ld zs zd sz kd sure x))::lv0::lvWS_7 w ls ld zs zd sz kd sure S s [(0,L)]::H)
 exact round_of (P:=Try.prog) (ora:=oraD) (KT:=Kt.kt) (fu:=100000) (n:=n) (d:=3) (i:=0) (args:=[.int .i64 q]) (H:=lv0::lv0::lv110 0 [(0,.loop L0)]::lvLb (.loop (rec80i_7 w ls ld zs zd sz kd sure x))::lv0::lvWS_7 w ls ld zs zd sz kd sure S s [(0,L)]::H) (l:=rec80i_7 w ls ld zs zd sz kd sure x) (l1:=rec80i_7 w ls ld zs zd sz kd sure x) (l2:={ rec80i_7 w ls ld zs zd sz kd sure x with state:=.busy }) (fr:=fr80z_7 w ls ld zs zd sz kd sure x q) rfl rfl rfl rfl ha rfl rfl h2 rfl
theorem near80_7 (hs:0≤s∧s≤1000) (S:WS) (L:Blk):NearR 0 n ls kd x sure (fun j=>lvLb (.loop (rec80i_7 w ls ld zs zd sz kd sure x))::lv0::lvWS_7 w ls ld zs zd sz kd sure (wsF (fun j=>hlK kd sure x ((j:Int)-2)) s S j) s [(0,L)]::H) (fun _=>[]) (fun _=>true) where
 hit:=fun j hj hh L0=>by
  have:=rd80i_7 (n+1) w ls ld zs zd sz kd H x s sure hs ((j:Int)-2) (wsF (fun j=>hlK kd sure x ((j:Int)-2)) s S j) L0 L
  have e:wsF (fun j=>hlK kd sure x ((j:Int)-2)) s S (j+1)=wsI s ((j:Int)-2) (wsF (fun j=>hlK kd sure x ((j:Int)-2)) s S j):=by
   show (if hlK kd sure x ((j:Int)-2)=true then _ else _)=_
   rw[if_pos hh]
  rw[if_pos rfl,e]
  exact this
 skip:=fun j hj hh=>by
  have e:wsF (fun j=>hlK kd sure x ((j:Int)-2)) s S (j+1)=wsF (fun j=>hlK kd sure x ((j:Int)-2)) s S j:=by
   show (if hlK kd sure x ((j:Int)-2)=true then _ else _)=_
   rw[if_neg (by rw[hh];simp)]
  rw[e]
theorem rg80i_7 (hs:0≤s∧s≤1000) (hls:ls≤10) (hx:-2≤x∧x<ls) (S:WS) (L:ALoop):exec (cx80o_7 (n+5)) (.rangeFunc (.tmp 58) #[59] iAs iBd) (fr80m_7 w ls ld zs zd sz kd sure x) (lv0::lv0::lvWS_7 w ls ld zs zd sz kd sure S s [(0,.loop L)]::H) =
 some (.normal,fr80m_7 w ls ld zs zd sz kd sure x,lvLb .dead::lv0::lvWS_7 w ls ld zs zd sz kd sure (wsF (fun j=>hlK kd sure x ((j:Int)-2)) s S (ls+2)) s [(0,.loop L)]::H):=by
 have hn:=c110 0 n 3 w ls ld zs zd sz kd x sure (near80_7 n w ls ld zs zd sz kd H x s sure hs S (.loop L)) hx hls
 have h0:exN (nrH kd sure x (fun _=>true)) (ls+2)=false:=by
  cases hq:exN (nrH kd sure x (fun _=>true)) (ls+2) with
  | false=>rfl
  | true =>
    obtain ⟨j,hj,h1⟩:=(exN_iff _ _).1 hq
    unfold nrH at h1
    simp at h1
 rw[h0,if_neg (by simp)] at hn
 exact range_of (cx:=cx80o_7 (n+5)) (l:=rec80i_7 w ls ld zs zd sz kd sure x) (f:=.tmp 58) (ps:=#[59]) (fr:=fr80m_7 w ls ld zs zd sz kd sure x) (H:=lv0::lv0::lvWS_7 w ls ld zs zd sz kd sure S s [(0,.loop L)]::H) (g:=110) (a:=[]) (b:=capsN 3 w ls ld zs zd sz kd x sure) (e:=.normal) rfl rfl rfl hn rfl rfl rfl
theorem bd80o_7 (hs:0≤s∧s≤1000) (hls:ls≤10) (hx:-2≤x∧x<ls) (S:WS) (L:ALoop):∃ fr' lv,exec (cx80o_7 (n+5)) oBd (fr80Y_7 x) (lv0::lv0::lvWS_7 w ls ld zs zd sz kd sure S s [(0,.loop L)]::H)=some (.normal,fr',lv::lv0::lvWS_7 w ls ld zs zd sz kd sure (wsO kd sure ls s x S) s [(0,.loop L)]::H):=by
 have hr:=rg80i_7 n w ls ld zs zd sz kd H x s sure hs hls hx (wsD x S) L
 generalize hF:wsF (fun j=>hlK kd sure x ((j:Int)-2)) s (wsD x S) (ls+2)=S2 at *
 have hO:wsO kd sure ls s x S=if S.hW x=true∧S.gW x=s then S2 else S:=by unfold wsO;rw[hF]
 have key:(execT (cx80o_7 (n+5)) (il noCt (n+4) 1) noBT (rgE noRT (fun _=>true) (fr80m_7 w ls ld zs zd sz kd sure x) (lv0::lv0::lv80_7 w ls ld zs zd sz kd sure S.hS S.gS S.cS (setBO S.hW x false) (setIO S.gW x 0) (cntDO (S.hW x) S.cW) s [(0,.loop L)]::H) (.ok (.normal,hints (fr80m_7 w ls ld zs zd sz kd sure x),lvLb .dead::lv0::lv80_7 w ls ld zs zd sz kd sure S2.hS S2.gS S2.cS S2.hW S2.gW S2.cW s [(0,.loop L)]::H))) oBd (hints (fr80Y_7 x)) (lv0::lv0::lv80_7 w ls ld zs zd sz kd sure S.hS S.gS S.cS S.hW S.gW S.cW s [(0,.loop L)]::H)).all fun y=>y.1=.normal∧∃ lv,y.2.2=lv::lv0::lvWS_7 w ls ld zs zd sz kd sure (wsO kd sure ls s x S) s [(0,.loop L)]::H:=by
  rw[t80o_7,hO]
  repeat' first | (refine Tr.all_ite (fun hc=>?_) (fun hc=>?_)<;>(try simp (disch:=omega) only[nV,nW] at hc)<;>try omega) | (refine Tr.all_req ?_ ?_;· (try simp (disch:=omega) only[nV,nW]);try omega) | (refine Tr.all_reqP ?_ ?_;· first | exact trivial | rfl | exact ⟨rfl,rfl⟩ | exact ⟨rfl,rfl,rfl⟩ | (simp (disch:=omega) only[nV,nW];done) | ((try simp (disch:=omega) only[nV,nW]);omega)) | fail
  all_goals refine Tr.all_ok ⟨rfl,?_⟩
  all_goals first
   | (rw[if_pos (by simp_all)];exact ⟨_,rfl⟩)
   | (rw[if_neg (by simp_all)];exact ⟨_,rfl⟩)
   | fail
 obtain ⟨y,h1,h3,lv,h4⟩:=key
 have:=execT_ok (cx:=cx80o_7 (n+5)) (il_no (n+4) 1) oBd (noBT_ok _ _) (rgE_ok (noRT_ok _ _) (fun f ps a b _ hm y hy=>by
  rw[r80i] at hm
  simp only[List.mem_cons,Prod.mk.injEq,List.not_mem_nil,or_false] at hm
  obtain ⟨rfl,rfl,rfl,rfl⟩:=hm
  rw[← Tr.ok_some hy]
  simp only[Res.st,hints_eq]
  exact hr)) _ _ _ h1
 rw[hints_eq] at this
 refine ⟨strip y.2.1,lv,this.trans ?_⟩
 obtain ⟨e,f,g⟩:=y
 dsimp only at h3 h4
 subst h3;subst h4
 rfl
theorem rd80o_7 (hs:0≤s∧s≤1000) (hls:ls≤10) (hx:-2≤x∧x<ls) (S:WS):cd (n+6) (.round 1 8) [.int .i64 x] (lv0::lvWS_7 w ls ld zs zd sz kd sure S s [(0,.loop (rec80_7 w ls ld zs zd sz kd p q))]::H)=some (.bool true,lv0::lvWS_7 w ls ld zs zd sz kd sure (wsO kd sure ls s x S) s [(0,.loop (rec80_7 w ls ld zs zd sz kd p q))]::H):=by
 obtain ⟨fr',lv,h2⟩:=bd80o_7 n w ls ld zs zd sz kd H x s sure hs hls hx S { rec80_7 w ls ld zs zd sz kd p q with state:=.busy }
 have ha:=as80o_7 (n+5) w ls ld zs zd sz kd p q x (lvWS_7 w ls ld zs zd sz kd sure S s [(0,.loop (rec80_7 w ls ld zs zd sz kd p q))]::H)
 exact round_of (P:=Try.prog) (ora:=oraD) (KT:=Kt.kt) (fu:=100000) (n:=n+5) (d:=1) (i:=8) (args:=[.int .i64 x]) (H:=lv0::lvWS_7 w ls ld zs zd sz kd sure S s [(0,.loop (rec80_7 w ls ld zs zd sz kd p q))]::H) (l:=rec80_7 w ls ld zs zd sz kd p q) (l1:=rec80_7 w ls ld zs zd sz kd p q) (l2:={ rec80_7 w ls ld zs zd sz kd p q with state:=.busy }) (fr:=fr80Z_7 w ls ld zs zd sz kd p q x) rfl rfl rfl rfl ha rfl rfl h2 rfl
theorem rg80_7 (hs:0≤s∧s≤1000) (hls:ls≤10) (S:WS):exec (cxD (n+14) 80 113) (.rangeFunc (.tmp 36) #[37] oAs oBd) (fr80n_7 w ls ld zs zd sz kd p q) (lvWS_7 w ls ld zs zd sz kd sure S s []::H) =
 some (.normal,fr80n_7 w ls ld zs zd sz kd p q,lvWS_7 w ls ld zs zd sz kd sure (wsR kd sure ls s S (ls+2)) s [(0,.dead)]::H):=by
 have hc:=c109z (n+13) w ls ld zs zd sz kd 1 8 (fun j=>lvWS_7 w ls ld zs zd sz kd sure (wsR kd sure ls s S j) s [(0,.loop (rec80_7 w ls ld zs zd sz kd p q))]::H) hls (fun j hj=>rd80o_7 (n+7) w ls ld zs zd sz kd H p q ((j:Int)-2) s sure hs hls ⟨by omega,by omega⟩ _)
 exact range_of (cx:=cxD (n+14) 80 113) (l:=rec80_7 w ls ld zs zd sz kd p q) (f:=.tmp 36) (ps:=#[37]) (fr:=fr80n_7 w ls ld zs zd sz kd p q) (H:=lvWS_7 w ls ld zs zd sz kd sure S s []::H) (g:=109) (a:=[]) (b:=[.ptrT (some 0) (.G [tabR 1 w ls ld zs zd sz kd]) 0]) (e:=.normal) rfl rfl rfl hc rfl rfl rfl
noncomputable def frK (p q:Int):Nat→Frm
 | 0=>fr80_6 p q
 | k+1=>fr80_7 p q
noncomputable def lvK (w:Int) (ls ld:Nat) (zs zd sz kd:Nat→Int) (sure:Bool) (W:Nat→WS):Nat→Lvl
 | 0=>lvWS_6 w ls ld zs zd sz kd sure (W 0) ((0:Nat):Int) []
 | k+1=>lvWS_7 w ls ld zs zd sz kd sure (W (k+1)) ((k+1:Nat):Int) []
theorem l80 (hls:ls≤10) (N:Nat) (hN:N+1≤900) (h1:∀ k,k<N+1→0<(wsL kd sure ls q k).cW) (h2:(wsL kd sure ls q (N+1)).cW=0):exec (cxD (n+14) 80 113) (.block 0 (.loop (part Try.f80 [1,0,1,1,0,1,0,0]))) (fr80_6 p q) (lvWS_6 w ls ld zs zd sz kd sure (ws0 q) 0 []::H) =
 some (.normal,fr80_7 p q++[(32,.bool false)],lvWS_7 w ls ld zs zd sz kd sure (wsL kd sure ls q (N+1)) ((N+1:Nat):Int) []::H):=by
 have:=forX (n:=n+14) (f:=80) (nt:=113) (c:=part Try.f80 [1,0,1,1,0,1,0,0]) 0 (frK p q) (fun k=>lvK w ls ld zs zd sz kd sure (wsL kd sure ls q) k::H) (N+1) (fr80_7 p q++[(32,.bool false)],lvWS_7 w ls ld zs zd sz kd sure (wsL kd sure ls q (N+1)) ((N+1:Nat):Int) []::H) (by omega) (fun k hk=>?_) ?_
 · exact this
 · cases k with
   | zero =>
     · have hr:=rg80_6 n w ls ld zs zd sz kd H p q ((0:Nat):Int) sure ⟨by omega,by omega⟩ hls (wsL kd sure ls q (0))
       have eL:wsL kd sure ls q (0+1)=wsR kd sure ls ((0:Nat):Int) (wsL kd sure ls q (0)) (ls+2):=rfl
       have ek:addI .i64 ((0:Nat):Int) (Int.ofNat 1)=((0+1:Nat):Int):=by rw[addI_eq,show Int.ofNat 1=1 from rfl];exact wr_64 (by omega) (by omega)
       have hpos:=h1 (0) hk
       rw[← eL] at hr
       show ∃ x,exec (cxD (n+14) 80 113) (part Try.f80 [1,0,1,1,0,1,0,0]) (fr80_6 p q) (lvWS_6 w ls ld zs zd sz kd sure (wsL kd sure ls q (0)) ((0:Nat):Int) []::H)=some x∧(x.1=.normal∧tidy 7 x.2.1 x.2.2=(fr80_7 p q,lvWS_7 w ls ld zs zd sz kd sure (wsL kd sure ls q (0+1)) ((0+1:Nat):Int) []::H))
       generalize wsL kd sure ls q (0+1)=S2 at *
       generalize wsL kd sure ls q (0)=S at *
       refine ex_all (t80a_6 n w ls ld zs zd sz kd H p q sure S.hS S.gS S.cS S.hW S.gW S.cW S2.hS S2.gS S2.cS S2.hW S2.gW S2.cW ((0:Nat):Int)) (il_no (n+13) 1) (noBT_ok _ _) (rgE_ok (noRT_ok _ _) (fun f ps a b _ hm y hy=>?_)) ?_
       · rw[r80o] at hm
         simp only[List.mem_cons,Prod.mk.injEq,List.not_mem_nil,or_false] at hm
         obtain ⟨rfl,rfl,rfl,rfl⟩:=hm
         rw[← Tr.ok_some hy]
         simp only[Res.st,hints_eq]
         exact hr
       · rw[ek]
         repeat' first | (refine Tr.all_ite (fun hc=>?_) (fun hc=>?_)<;>(try simp (disch:=omega) only[nV,nW] at hc)<;>try omega) | (refine Tr.all_req ?_ ?_;· (try simp (disch:=omega) only[nV,nW]);try omega) | (refine Tr.all_reqP ?_ ?_;· first | exact trivial | rfl | exact ⟨rfl,rfl⟩ | exact ⟨rfl,rfl,rfl⟩ | (simp (disch:=omega) only[nV,nW];done) | ((try simp (disch:=omega) only[nV,nW]);omega)) | fail
         all_goals exact Tr.all_ok ⟨rfl,rfl⟩
   | succ k =>
     · have hr:=rg80_7 n w ls ld zs zd sz kd H p q ((k+1:Nat):Int) sure ⟨by omega,by omega⟩ hls (wsL kd sure ls q (k+1))
       have eL:wsL kd sure ls q (k+1+1)=wsR kd sure ls ((k+1:Nat):Int) (wsL kd sure ls q (k+1)) (ls+2):=rfl
       have ek:addI .i64 ((k+1:Nat):Int) (Int.ofNat 1)=((k+1+1:Nat):Int):=by rw[addI_eq,show Int.ofNat 1=1 from rfl];exact wr_64 (by omega) (by omega)
       have hpos:=h1 (k+1) hk
       rw[← eL] at hr
       show ∃ x,exec (cxD (n+14) 80 113) (part Try.f80 [1,0,1,1,0,1,0,0]) (fr80_7 p q) (lvWS_7 w ls ld zs zd sz kd sure (wsL kd sure ls q (k+1)) ((k+1:Nat):Int) []::H)=some x∧(x.1=.normal∧tidy 7 x.2.1 x.2.2=(fr80_7 p q,lvWS_7 w ls ld zs zd sz kd sure (wsL kd sure ls q (k+1+1)) ((k+1+1:Nat):Int) []::H))
       generalize wsL kd sure ls q (k+1+1)=S2 at *
       generalize wsL kd sure ls q (k+1)=S at *
       refine ex_all (t80a_7 n w ls ld zs zd sz kd H p q sure S.hS S.gS S.cS S.hW S.gW S.cW S2.hS S2.gS S2.cS S2.hW S2.gW S2.cW ((k+1:Nat):Int)) (il_no (n+13) 1) (noBT_ok _ _) (rgE_ok (noRT_ok _ _) (fun f ps a b _ hm y hy=>?_)) ?_
       · rw[r80o] at hm
         simp only[List.mem_cons,Prod.mk.injEq,List.not_mem_nil,or_false] at hm
         obtain ⟨rfl,rfl,rfl,rfl⟩:=hm
         rw[← Tr.ok_some hy]
         simp only[Res.st,hints_eq]
         exact hr
       · rw[ek]
         repeat' first | (refine Tr.all_ite (fun hc=>?_) (fun hc=>?_)<;>(try simp (disch:=omega) only[nV,nW] at hc)<;>try omega) | (refine Tr.all_req ?_ ?_;· (try simp (disch:=omega) only[nV,nW]);try omega) | (refine Tr.all_reqP ?_ ?_;· first | exact trivial | rfl | exact ⟨rfl,rfl⟩ | exact ⟨rfl,rfl,rfl⟩ | (simp (disch:=omega) only[nV,nW];done) | ((try simp (disch:=omega) only[nV,nW]);omega)) | fail
         all_goals exact Tr.all_ok ⟨rfl,rfl⟩
 · show exec (cxD (n+14) 80 113) (part Try.f80 [1,0,1,1,0,1,0,0]) (fr80_7 p q) (lvWS_7 w ls ld zs zd sz kd sure (wsL kd sure ls q (N+1)) ((N+1:Nat):Int) []::H)=_
   generalize wsL kd sure ls q (N+1)=S at *
   obtain ⟨x,h3,rfl⟩:=ex_all (Q:=fun x=>x=(.exit 0,fr80_7 p q++[(32,.bool false)],lvWS_7 w ls ld zs zd sz kd sure S ((N+1:Nat):Int) []::H)) (t80e_7 n w ls ld zs zd sz kd H p q sure S.hS S.gS S.cS S.hW S.gW S.cW ((N+1:Nat):Int)) (il_no (n+13) 1) (noBT_ok _ _) (rgE_ok (noRT_ok _ _) (fun f ps a b _ hm x hx=>(Tr.bad_some hx).elim)) (by
    repeat' first | (refine Tr.all_ite (fun hc=>?_) (fun hc=>?_)<;>(try simp (disch:=omega) only[nV,nW] at hc)<;>try omega) | (refine Tr.all_req ?_ ?_;· (try simp (disch:=omega) only[nV,nW]);try omega) | (refine Tr.all_reqP ?_ ?_;· first | exact trivial | rfl | exact ⟨rfl,rfl⟩ | exact ⟨rfl,rfl,rfl⟩ | (simp (disch:=omega) only[nV,nW];done) | ((try simp (disch:=omega) only[nV,nW]);omega)) | fail
    all_goals exact Tr.all_ok rfl)
   exact h3
end
end Go.Eng
