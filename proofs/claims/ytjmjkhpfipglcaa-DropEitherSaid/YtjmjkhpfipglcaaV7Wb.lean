/- Drop: way: how far all places are, by two maps. -/
import Derived.Test.YtjmjkhpfipglcaaV7Kp
namespace Go.Eng
open Go.Proofs
set_option linter.unusedVariables false
set_option linter.unusedSimpArgs false
set_option maxRecDepth 100000
noncomputable def jg (n:Nat):Cx:=⟨Try.prog,cd n,100000,80,113,Kt.kt 80,some (4,0)⟩
noncomputable def CL:Code:=part Try.f80 [1,0,1,1,0,1,0,0,1,0,0,1,0,0]
noncomputable def zZ:Code:=part Try.f80 [1,0,1,1,0,1,0,0,1,0,0,1,0,1]
noncomputable def Cm:Code:=part Try.f80 [1,0,1,1,0,1,0,0,1,0,0,1,0,1,0,1,1,1,0,0]
noncomputable def A0:Code:=part Try.f80 [1,0,1,1,0,1,0,0,1,0,0,1,0,1,0,1,1,1,0,1]
noncomputable def gY (L:aj):b6:=⟨false,[(0,L)]⟩
noncomputable def Eg (k R:Nat) (w:Int) (ls ld:Nat) (zs zd sz kd:Nat→Int) (q:Int):aO:=[(0,.yld 1 R),(1,.ptrT (some 1) (.G [a9 k w ls ld zs zd sz kd]) 0),(3,.int .i64 q)]
noncomputable def gk (w:Int) (ls ld:Nat) (zs zd sz kd:Nat→Int) (sure:Bool) (hS:Int→Bool) (gS:Int→Int) (cS:Nat) (hW:Int→Bool) (gW:Int→Int) (cW:Nat) (s:Int) (rest:List (Nat×aj)):b6:=⟨false,(0,.row (.G [a9 1 w ls ld zs zd sz kd]))::(0,.row (.G [.bool sure]))::(0,.fmap hS gS cS)::(0,.row (.G [.map 0 2]))::(0,.fmap hW gW cW)::(0,.row (.G [.map 0 4]))::(0,.row (.I .i64 [s]))::rest⟩
noncomputable def oX (p q:Int):aO:=[(1,.int .i64 p),(2,.int .i64 q),(4,.ptr 0 0 0 0),(7,.ptr 0 1 0 0),(9,.ptr 0 3 0 0),(10,.ptr 0 5 0 0),(11,.ptr 0 6 0 0)]
noncomputable def lT (w:Int) (ls ld:Nat) (zs zd sz kd:Nat→Int) (p q:Int):aO:=[(1,.int .i64 p),(2,.int .i64 q),(4,.ptr 0 0 0 0),(7,.ptr 0 1 0 0),(9,.ptr 0 3 0 0),(10,.ptr 0 5 0 0),(11,.ptr 0 6 0 0),(36,.fn (.func 109) [] [.ptrT (some 0) (.G [a9 1 w ls ld zs zd sz kd]) 0])]
noncomputable def qp (w:Int) (ls ld:Nat) (zs zd sz kd:Nat→Int) (p q x:Int):aO:=[(1,.int .i64 p),(2,.int .i64 q),(4,.ptr 2 0 0 0),(7,.ptr 2 1 0 0),(9,.ptr 2 3 0 0),(10,.ptr 2 5 0 0),(11,.ptr 2 6 0 0),(36,.fn (.func 109) [] [.ptrT (some 2) (.G [a9 1 w ls ld zs zd sz kd]) 0]),(37,.int .i64 x)]
noncomputable def nZ (x:Int):aO:=[(4,.ptr 2 0 0 0),(7,.ptr 2 1 0 0),(9,.ptr 2 3 0 0),(10,.ptr 2 5 0 0),(11,.ptr 2 6 0 0),(12,.int .i64 x)]
noncomputable def jj (w:Int) (ls ld:Nat) (zs zd sz kd:Nat→Int) (sure:Bool) (x:Int):aO:=[(9,.ptr 2 3 0 0),(10,.ptr 2 5 0 0),(11,.ptr 2 6 0 0),(58,.fn (.func 110) [] (gv 3 w ls ld zs zd sz kd x sure))]
noncomputable def qt (w:Int) (ls ld:Nat) (zs zd sz kd:Nat→Int) (sure:Bool) (x q:Int):aO:=[(9,.ptr 6 3 0 0),(10,.ptr 6 5 0 0),(11,.ptr 6 6 0 0),(58,.fn (.func 110) [] [.ptrT (some 4) (.G [a9 3 w ls ld zs zd sz kd]) 0,.ptrT none (.I .i64 [x]) 0,.ptrT (some 4) (.G [.bool sure]) 0]),(59,.int .i64 q)]
noncomputable def n6 (q:Int):aO:=[(9,.ptr 6 3 0 0),(10,.ptr 6 5 0 0),(11,.ptr 6 6 0 0),(15,.int .i64 q)]
noncomputable def iw (n:Nat):Cx:=⟨Try.prog,cd n,100000,80,113,Kt.kt 80,some (2,7)⟩
noncomputable def fp (w:Int) (ls ld:Nat) (zs zd sz kd:Nat→Int) (sure:Bool) (hS:Int→Bool) (gS:Int→Int) (cS:Nat) (hW:Int→Bool) (gW:Int→Int) (cW:Nat) (s:Int) (rest:List (Nat×aj)):b6:=⟨false,(0,.row (.G [a9 1 w ls ld zs zd sz kd]))::(0,.row (.G [.bool sure]))::(0,.fmap hS gS cS)::(0,.row (.G [.map 0 2]))::(0,.fmap hW gW cW)::(0,.row (.G [.map 0 4]))::(0,.row (.I .i64 [0]))::(0,.row (.I .i64 [s]))::rest⟩
noncomputable def ie (p q:Int):aO:=[(1,.int .i64 p),(2,.int .i64 q),(4,.ptr 0 0 0 0),(7,.ptr 0 1 0 0),(9,.ptr 0 3 0 0),(10,.ptr 0 5 0 0),(11,.ptr 0 7 0 0)]
noncomputable def lU (w:Int) (ls ld:Nat) (zs zd sz kd:Nat→Int) (p q:Int):aO:=[(1,.int .i64 p),(2,.int .i64 q),(4,.ptr 0 0 0 0),(7,.ptr 0 1 0 0),(9,.ptr 0 3 0 0),(10,.ptr 0 5 0 0),(11,.ptr 0 7 0 0),(36,.fn (.func 109) [] [.ptrT (some 0) (.G [a9 1 w ls ld zs zd sz kd]) 0])]
noncomputable def qq (w:Int) (ls ld:Nat) (zs zd sz kd:Nat→Int) (p q x:Int):aO:=[(1,.int .i64 p),(2,.int .i64 q),(4,.ptr 2 0 0 0),(7,.ptr 2 1 0 0),(9,.ptr 2 3 0 0),(10,.ptr 2 5 0 0),(11,.ptr 2 7 0 0),(36,.fn (.func 109) [] [.ptrT (some 2) (.G [a9 1 w ls ld zs zd sz kd]) 0]),(37,.int .i64 x)]
noncomputable def n5 (x:Int):aO:=[(4,.ptr 2 0 0 0),(7,.ptr 2 1 0 0),(9,.ptr 2 3 0 0),(10,.ptr 2 5 0 0),(11,.ptr 2 7 0 0),(12,.int .i64 x)]
noncomputable def jk (w:Int) (ls ld:Nat) (zs zd sz kd:Nat→Int) (sure:Bool) (x:Int):aO:=[(9,.ptr 2 3 0 0),(10,.ptr 2 5 0 0),(11,.ptr 2 7 0 0),(58,.fn (.func 110) [] (gv 3 w ls ld zs zd sz kd x sure))]
noncomputable def qu (w:Int) (ls ld:Nat) (zs zd sz kd:Nat→Int) (sure:Bool) (x q:Int):aO:=[(9,.ptr 6 3 0 0),(10,.ptr 6 5 0 0),(11,.ptr 6 7 0 0),(58,.fn (.func 110) [] [.ptrT (some 4) (.G [a9 3 w ls ld zs zd sz kd]) 0,.ptrT none (.I .i64 [x]) 0,.ptrT (some 4) (.G [.bool sure]) 0]),(59,.int .i64 q)]
noncomputable def n7 (q:Int):aO:=[(9,.ptr 6 3 0 0),(10,.ptr 6 5 0 0),(11,.ptr 6 7 0 0),(15,.int .i64 q)]
noncomputable def iy (n:Nat):Cx:=⟨Try.prog,cd n,100000,80,113,Kt.kt 80,some (2,8)⟩
theorem KC (k R n:Nat) (w:Int) (ls ld:Nat) (zs zd sz kd:Nat→Int) (G G':ae) (q:Int):aH (bF n 109 18) (HP (il aG n 0) 1 R [.int .i64 q] (af::G) (.ok (.bool true,af::G'))) aJ aK (part Try.f109 [1,0,0]) (hints (Eg k R w ls ld zs zd sz kd q)) (af::G) =
 (fun (Z0:Nat×AV×Option Nat)=>Tr.ite (bA q (Int.ofNat ls)) (Tr.reqP (R=R∧[AV.int .i64 q]=[AV.int .i64 q]∧af::G=af::G) (Tr.ite (aD true) (Tr.ok (Ex.ret,[(0,AV.yld 1 R,none),Z0,(3,AV.int .i64 q,none),(17,AV.bool true,some 1)],af::G')) (Tr.ok (Ex.normal,[(0,AV.yld 1 R,none),Z0,(3,AV.int .i64 (ay .i64 q (Int.ofNat 1)),none)],af::G')))) (Tr.ok (Ex.exit 0,[(0,AV.yld 1 R,none),Z0,(3,AV.int .i64 q,none),(11,AV.bool false,some 1)],af::G))) (1,AV.ptrT (some 1) (Row.G [a9 k w ls ld zs zd sz kd]) 0,none):=by kernel_rfl
theorem H9 (k R n:Nat) (w:Int) (ls ld:Nat) (zs zd sz kd:Nat→Int) (G:ae) (q:Int):aH (bF n 109 18) (il aG n 0) aJ aK (part Try.f109 [1,0,0]) (hints (Eg k R w ls ld zs zd sz kd q)) (af::G) =
 Tr.ite (bA q (Int.ofNat ls)) Tr.bad (Tr.ok (Ex.exit 0,[(0,AV.yld 1 R,none),(1,AV.ptrT (some 1) (Row.G [a9 k w ls ld zs zd sz kd]) 0,none),(3,AV.int .i64 q,none),(11,AV.bool false,some 1)],af::G)):=by kernel_rfl
theorem Le (k R n:Nat) (w:Int) (ls ld:Nat) (zs zd sz kd:Nat→Int) (G G1:ae) (fA:aO):aW Try.prog (cd n) 100000 109 Try.f109 (Kt.kt 109) (il aG n 0) (dc aJ 0 (Eg k R w ls ld zs zd sz kd (-2)) (af::G) (.ok (.normal,hints fA,af::G1))) aK [(.yld 0 R,none),(.ptrT (some 0) (.G [a9 k w ls ld zs zd sz kd]) 0,none)] G =
 (fun (Z0:aO)=>Tr.reqP (Z0=Z0∧af::G=af::G) (Tr.ok ((AV.tup [],none),G1))) [(0,AV.yld 1 R),(1,AV.ptrT (some 1) (Row.G [a9 k w ls ld zs zd sz kd]) 0),(3,AV.int .i64 (Int.negSucc 1))]:=by kernel_rfl
theorem Il (n:Nat) (w:Int) (ls ld:Nat) (zs zd sz kd:Nat→Int) (H:ae) (q:Int) (sure:Bool) (hS:Int→Bool) (gS:Int→Int) (cS:Nat) (hW:Int→Bool) (gW:Int→Int) (cW:Nat) (s:Int) (L:aj) (L0:bw) (Li:aj):aH (jg n) (il aG n 0) aJ aK A0 (hints (n6 q)) (af::af::af::aB 0 [(0,.loop L0)]::gY Li::af::gk w ls ld zs zd sz kd sure hS gS cS hW gW cW s [(0,L)]::H) =
 Tr.ite (aD (hS q)) (Tr.req (cX (cB 0 0) (cB 0 1)) (Tr.req (cX (cB 0 0) (cB 0 1)) (Tr.ok (Ex.normal,[],af::af::af::{ lock:=false,bs:=[(0,aj.row (Row.G [AV.yld 1 0])),(0,aj.loop L0)] } :: { lock:=false,bs:=[(0,Li)] } :: af::{ lock:=false,bs:=[(0,aj.row (Row.G [a9 1 w ls ld zs zd sz kd])),(0,aj.row (Row.G [AV.bool sure])),(0,aj.fmap (df hS q true) (dF gS q (ay .i64 s (Int.ofNat 1))) (fP (hS q) cS)),(0,aj.row (Row.G [AV.map 0 2])),(0,aj.fmap (df hW q true) (dF gW q (ay .i64 s (Int.ofNat 1))) (fP (hW q) cW)),(0,aj.row (Row.G [AV.map 0 4])),(0,aj.row (Row.I .i64 [s])),(0,L)] } :: H)))) (Tr.ok (Ex.normal,[(9,AV.ptr 6 3 0 0,none),(10,AV.ptr 6 5 0 0,none),(11,AV.ptr 6 6 0 0,none),(15,AV.int .i64 q,none),(68,AV.bool false,some 1)],af::af::af::{ lock:=false,bs:=[(0,aj.row (Row.G [AV.yld 1 0])),(0,aj.loop L0)] } :: { lock:=false,bs:=[(0,Li)] } :: af::{ lock:=false,bs:=[(0,aj.row (Row.G [a9 1 w ls ld zs zd sz kd])),(0,aj.row (Row.G [AV.bool sure])),(0,aj.fmap hS gS cS),(0,aj.row (Row.G [AV.map 0 2])),(0,aj.fmap hW gW cW),(0,aj.row (Row.G [AV.map 0 4])),(0,aj.row (Row.I .i64 [s])),(0,L)] } :: H)):=by kernel_rfl
theorem Io (n:Nat) (w:Int) (ls ld:Nat) (zs zd sz kd:Nat→Int) (H:ae) (x:Int) (sure:Bool) (hS:Int→Bool) (gS:Int→Int) (cS:Nat) (hW:Int→Bool) (gW:Int→Int) (cW:Nat) (hS2:Int→Bool) (gS2:Int→Int) (cS2:Nat) (hW2:Int→Bool) (gW2:Int→Int) (cW2:Nat) (s:Int) (L:bw):aH (iw (n+1)) (il aG n 1) aJ (th aK (fun _=>true) (jj w ls ld zs zd sz kd sure x) (af::af::gk w ls ld zs zd sz kd sure hS gS cS (df hW x false) (dF gW x 0) (lf (hW x) cW) s [(0,.loop L)]::H) (.ok (.normal,hints (jj w ls ld zs zd sz kd sure x),gY .dead::af::gk w ls ld zs zd sz kd sure hS2 gS2 cS2 hW2 gW2 cW2 s [(0,.loop L)]::H))) zZ (hints (nZ x)) (af::af::gk w ls ld zs zd sz kd sure hS gS cS hW gW cW s [(0,.loop L)]::H) =
 (fun (Z0:b6)=>((fun (Z1:b6)=>((fun (Z2:List AV)=>((fun (Z3:a8)=>((fun (Z4:aO)=>Tr.ite (aD (hW x)) (Tr.ok (Ex.normal,Z3,af::af::Z1::H)) (Tr.ite (aD (aF (gW x) s)) (Tr.ok (Ex.normal,Z3,af::af::Z1::H)) (Tr.reqP (Z4=Z4∧af::af::Z0::H=af::af::Z0::H) (Tr.ok (Ex.normal,[(9,AV.ptr 2 3 0 0,none),(10,AV.ptr 2 5 0 0,none),(11,AV.ptr 2 6 0 0,none),(58,AV.fn (Fn.func 110) [] Z2,none)],{ lock:=false,bs:=[(0,aj.dead)] } :: af::{ lock:=false,bs:=[(0,aj.row (Row.G [a9 1 w ls ld zs zd sz kd])),(0,aj.row (Row.G [AV.bool sure])),(0,aj.fmap hS2 gS2 cS2),(0,aj.row (Row.G [AV.map 0 2])),(0,aj.fmap hW2 gW2 cW2),(0,aj.row (Row.G [AV.map 0 4])),(0,aj.row (Row.I .i64 [s])),(0,aj.loop L)] } :: H))))) [(9,AV.ptr 2 3 0 0),(10,AV.ptr 2 5 0 0),(11,AV.ptr 2 6 0 0),(58,AV.fn (Fn.func 110) [] Z2)])) [(4,AV.ptr 2 0 0 0,none),(7,AV.ptr 2 1 0 0,none),(9,AV.ptr 2 3 0 0,none),(10,AV.ptr 2 5 0 0,none),(11,AV.ptr 2 6 0 0,none),(12,AV.int .i64 x,none),(51,AV.bool true,some 1)])) [AV.ptrT (some 0) (Row.G [a9 3 w ls ld zs zd sz kd]) 0,AV.ptrT none (Row.I .i64 [x]) 0,AV.ptrT (some 0) (Row.G [AV.bool sure]) 0])) { lock:=false,bs:=[(0,aj.row (Row.G [a9 1 w ls ld zs zd sz kd])),(0,aj.row (Row.G [AV.bool sure])),(0,aj.fmap hS gS cS),(0,aj.row (Row.G [AV.map 0 2])),(0,aj.fmap hW gW cW),(0,aj.row (Row.G [AV.map 0 4])),(0,aj.row (Row.I .i64 [s])),(0,aj.loop L)] })) { lock:=false,bs:=[(0,aj.row (Row.G [a9 1 w ls ld zs zd sz kd])),(0,aj.row (Row.G [AV.bool sure])),(0,aj.fmap hS gS cS),(0,aj.row (Row.G [AV.map 0 2])),(0,aj.fmap (df hW x false) (dF gW x (Int.ofNat 0)) (lf (hW x) cW)),(0,aj.row (Row.G [AV.map 0 4])),(0,aj.row (Row.I .i64 [s])),(0,aj.loop L)] }:=by kernel_rfl
theorem Ii (n:Nat) (w:Int) (ls ld:Nat) (zs zd sz kd:Nat→Int) (H:ae) (p q:Int) (sure:Bool) (hS:Int→Bool) (gS:Int→Int) (cS:Nat) (hW:Int→Bool) (gW:Int→Int) (cW:Nat) (hS2:Int→Bool) (gS2:Int→Int) (cS2:Nat) (hW2:Int→Bool) (gW2:Int→Int) (cW2:Nat) (s:Int):aH (bF (n+14) 80 113) (il aG (n+13) 1) aJ (th aK (fun _=>true) (lT w ls ld zs zd sz kd p q) (gk w ls ld zs zd sz kd sure hS gS cS hW gW cW s []::H) (.ok (.normal,hints (lT w ls ld zs zd sz kd p q),gk w ls ld zs zd sz kd sure hS2 gS2 cS2 hW2 gW2 cW2 s [(0,.dead)]::H))) (part Try.f80 [1,0,1,1,0,1,0,0]) (hints (oX p q)) (gk w ls ld zs zd sz kd sure hS gS cS hW gW cW s []::H) =
 (fun (Z0:b6)=>((fun (Z1:aO)=>Tr.ite (bA (Int.ofNat 0) (Int.ofNat cW)) (Tr.reqP (Z1=Z1∧Z0::H=Z0::H) (Tr.ok (Ex.normal,[(1,AV.int .i64 p,none),(2,AV.int .i64 q,none),(4,AV.ptr 0 0 0 0,none),(7,AV.ptr 0 1 0 0,none),(9,AV.ptr 0 3 0 0,none),(10,AV.ptr 0 5 0 0,none),(11,AV.ptr 0 8 0 0,none)],{ lock:=false,bs:=[(0,aj.row (Row.G [a9 1 w ls ld zs zd sz kd])),(0,aj.row (Row.G [AV.bool sure])),(0,aj.fmap hS2 gS2 cS2),(0,aj.row (Row.G [AV.map 0 2])),(0,aj.fmap hW2 gW2 cW2),(0,aj.row (Row.G [AV.map 0 4])),(0,aj.row (Row.I .i64 [s])),(0,aj.dead),(0,aj.row (Row.I .i64 [ay .i64 s (Int.ofNat 1)]))] } :: H))) (Tr.ok (Ex.exit 0,[(1,AV.int .i64 p,none),(2,AV.int .i64 q,none),(4,AV.ptr 0 0 0 0,none),(7,AV.ptr 0 1 0 0,none),(9,AV.ptr 0 3 0 0,none),(10,AV.ptr 0 5 0 0,none),(11,AV.ptr 0 6 0 0,none),(32,AV.bool false,some 1)],Z0::H))) [(1,AV.int .i64 p),(2,AV.int .i64 q),(4,AV.ptr 0 0 0 0),(7,AV.ptr 0 1 0 0),(9,AV.ptr 0 3 0 0),(10,AV.ptr 0 5 0 0),(11,AV.ptr 0 6 0 0),(36,AV.fn (Fn.func 109) [] [AV.ptrT (some 0) (Row.G [a9 1 w ls ld zs zd sz kd]) 0])])) { lock:=false,bs:=[(0,aj.row (Row.G [a9 1 w ls ld zs zd sz kd])),(0,aj.row (Row.G [AV.bool sure])),(0,aj.fmap hS gS cS),(0,aj.row (Row.G [AV.map 0 2])),(0,aj.fmap hW gW cW),(0,aj.row (Row.G [AV.map 0 4])),(0,aj.row (Row.I .i64 [s]))] }:=by kernel_rfl
theorem Im (n:Nat) (w:Int) (ls ld:Nat) (zs zd sz kd:Nat→Int) (H:ae) (q:Int) (sure:Bool) (hS:Int→Bool) (gS:Int→Int) (cS:Nat) (hW:Int→Bool) (gW:Int→Int) (cW:Nat) (s:Int) (L:aj) (L0:bw) (Li:aj):aH (jg n) (il aG n 0) aJ aK A0 (hints (n7 q)) (af::af::af::aB 0 [(0,.loop L0)]::gY Li::af::fp w ls ld zs zd sz kd sure hS gS cS hW gW cW s [(0,L)]::H) =
 Tr.ite (aD (hS q)) (Tr.req (cX (cB 0 0) (cB 0 1)) (Tr.req (cX (cB 0 0) (cB 0 1)) (Tr.ok (Ex.normal,[],af::af::af::{ lock:=false,bs:=[(0,aj.row (Row.G [AV.yld 1 0])),(0,aj.loop L0)] } :: { lock:=false,bs:=[(0,Li)] } :: af::{ lock:=false,bs:=[(0,aj.row (Row.G [a9 1 w ls ld zs zd sz kd])),(0,aj.row (Row.G [AV.bool sure])),(0,aj.fmap (df hS q true) (dF gS q (ay .i64 s (Int.ofNat 1))) (fP (hS q) cS)),(0,aj.row (Row.G [AV.map 0 2])),(0,aj.fmap (df hW q true) (dF gW q (ay .i64 s (Int.ofNat 1))) (fP (hW q) cW)),(0,aj.row (Row.G [AV.map 0 4])),(0,aj.row (Row.I .i64 [Int.ofNat 0])),(0,aj.row (Row.I .i64 [s])),(0,L)] } :: H)))) (Tr.ok (Ex.normal,[(9,AV.ptr 6 3 0 0,none),(10,AV.ptr 6 5 0 0,none),(11,AV.ptr 6 7 0 0,none),(15,AV.int .i64 q,none),(68,AV.bool false,some 1)],af::af::af::{ lock:=false,bs:=[(0,aj.row (Row.G [AV.yld 1 0])),(0,aj.loop L0)] } :: { lock:=false,bs:=[(0,Li)] } :: af::{ lock:=false,bs:=[(0,aj.row (Row.G [a9 1 w ls ld zs zd sz kd])),(0,aj.row (Row.G [AV.bool sure])),(0,aj.fmap hS gS cS),(0,aj.row (Row.G [AV.map 0 2])),(0,aj.fmap hW gW cW),(0,aj.row (Row.G [AV.map 0 4])),(0,aj.row (Row.I .i64 [Int.ofNat 0])),(0,aj.row (Row.I .i64 [s])),(0,L)] } :: H)):=by kernel_rfl
theorem Ip (n:Nat) (w:Int) (ls ld:Nat) (zs zd sz kd:Nat→Int) (H:ae) (x:Int) (sure:Bool) (hS:Int→Bool) (gS:Int→Int) (cS:Nat) (hW:Int→Bool) (gW:Int→Int) (cW:Nat) (hS2:Int→Bool) (gS2:Int→Int) (cS2:Nat) (hW2:Int→Bool) (gW2:Int→Int) (cW2:Nat) (s:Int) (L:bw):aH (iy (n+1)) (il aG n 1) aJ (th aK (fun _=>true) (jk w ls ld zs zd sz kd sure x) (af::af::fp w ls ld zs zd sz kd sure hS gS cS (df hW x false) (dF gW x 0) (lf (hW x) cW) s [(0,.loop L)]::H) (.ok (.normal,hints (jk w ls ld zs zd sz kd sure x),gY .dead::af::fp w ls ld zs zd sz kd sure hS2 gS2 cS2 hW2 gW2 cW2 s [(0,.loop L)]::H))) zZ (hints (n5 x)) (af::af::fp w ls ld zs zd sz kd sure hS gS cS hW gW cW s [(0,.loop L)]::H) =
 (fun (Z0:b6)=>((fun (Z1:b6)=>((fun (Z2:List AV)=>((fun (Z3:a8)=>((fun (Z4:aO)=>Tr.ite (aD (hW x)) (Tr.ok (Ex.normal,Z3,af::af::Z1::H)) (Tr.ite (aD (aF (gW x) s)) (Tr.ok (Ex.normal,Z3,af::af::Z1::H)) (Tr.reqP (Z4=Z4∧af::af::Z0::H=af::af::Z0::H) (Tr.ok (Ex.normal,[(9,AV.ptr 2 3 0 0,none),(10,AV.ptr 2 5 0 0,none),(11,AV.ptr 2 7 0 0,none),(58,AV.fn (Fn.func 110) [] Z2,none)],{ lock:=false,bs:=[(0,aj.dead)] } :: af::{ lock:=false,bs:=[(0,aj.row (Row.G [a9 1 w ls ld zs zd sz kd])),(0,aj.row (Row.G [AV.bool sure])),(0,aj.fmap hS2 gS2 cS2),(0,aj.row (Row.G [AV.map 0 2])),(0,aj.fmap hW2 gW2 cW2),(0,aj.row (Row.G [AV.map 0 4])),(0,aj.row (Row.I .i64 [Int.ofNat 0])),(0,aj.row (Row.I .i64 [s])),(0,aj.loop L)] } :: H))))) [(9,AV.ptr 2 3 0 0),(10,AV.ptr 2 5 0 0),(11,AV.ptr 2 7 0 0),(58,AV.fn (Fn.func 110) [] Z2)])) [(4,AV.ptr 2 0 0 0,none),(7,AV.ptr 2 1 0 0,none),(9,AV.ptr 2 3 0 0,none),(10,AV.ptr 2 5 0 0,none),(11,AV.ptr 2 7 0 0,none),(12,AV.int .i64 x,none),(51,AV.bool true,some 1)])) [AV.ptrT (some 0) (Row.G [a9 3 w ls ld zs zd sz kd]) 0,AV.ptrT none (Row.I .i64 [x]) 0,AV.ptrT (some 0) (Row.G [AV.bool sure]) 0])) { lock:=false,bs:=[(0,aj.row (Row.G [a9 1 w ls ld zs zd sz kd])),(0,aj.row (Row.G [AV.bool sure])),(0,aj.fmap hS gS cS),(0,aj.row (Row.G [AV.map 0 2])),(0,aj.fmap hW gW cW),(0,aj.row (Row.G [AV.map 0 4])),(0,aj.row (Row.I .i64 [Int.ofNat 0])),(0,aj.row (Row.I .i64 [s])),(0,aj.loop L)] })) { lock:=false,bs:=[(0,aj.row (Row.G [a9 1 w ls ld zs zd sz kd])),(0,aj.row (Row.G [AV.bool sure])),(0,aj.fmap hS gS cS),(0,aj.row (Row.G [AV.map 0 2])),(0,aj.fmap (df hW x false) (dF gW x (Int.ofNat 0)) (lf (hW x) cW)),(0,aj.row (Row.G [AV.map 0 4])),(0,aj.row (Row.I .i64 [Int.ofNat 0])),(0,aj.row (Row.I .i64 [s])),(0,aj.loop L)] }:=by kernel_rfl
theorem Ij (n:Nat) (w:Int) (ls ld:Nat) (zs zd sz kd:Nat→Int) (H:ae) (p q:Int) (sure:Bool) (hS:Int→Bool) (gS:Int→Int) (cS:Nat) (hW:Int→Bool) (gW:Int→Int) (cW:Nat) (hS2:Int→Bool) (gS2:Int→Int) (cS2:Nat) (hW2:Int→Bool) (gW2:Int→Int) (cW2:Nat) (s:Int):aH (bF (n+14) 80 113) (il aG (n+13) 1) aJ (th aK (fun _=>true) (lU w ls ld zs zd sz kd p q) (fp w ls ld zs zd sz kd sure hS gS cS hW gW cW s []::H) (.ok (.normal,hints (lU w ls ld zs zd sz kd p q),fp w ls ld zs zd sz kd sure hS2 gS2 cS2 hW2 gW2 cW2 s [(0,.dead)]::H))) (part Try.f80 [1,0,1,1,0,1,0,0]) (hints (ie p q)) (fp w ls ld zs zd sz kd sure hS gS cS hW gW cW s []::H) =
 (fun (Z0:b6)=>((fun (Z1:aO)=>Tr.ite (bA (Int.ofNat 0) (Int.ofNat cW)) (Tr.reqP (Z1=Z1∧Z0::H=Z0::H) (Tr.ok (Ex.normal,[(1,AV.int .i64 p,none),(2,AV.int .i64 q,none),(4,AV.ptr 0 0 0 0,none),(7,AV.ptr 0 1 0 0,none),(9,AV.ptr 0 3 0 0,none),(10,AV.ptr 0 5 0 0,none),(11,AV.ptr 0 9 0 0,none)],{ lock:=false,bs:=[(0,aj.row (Row.G [a9 1 w ls ld zs zd sz kd])),(0,aj.row (Row.G [AV.bool sure])),(0,aj.fmap hS2 gS2 cS2),(0,aj.row (Row.G [AV.map 0 2])),(0,aj.fmap hW2 gW2 cW2),(0,aj.row (Row.G [AV.map 0 4])),(0,aj.row (Row.I .i64 [Int.ofNat 0])),(0,aj.row (Row.I .i64 [s])),(0,aj.dead),(0,aj.row (Row.I .i64 [ay .i64 s (Int.ofNat 1)]))] } :: H))) (Tr.ok (Ex.exit 0,[(1,AV.int .i64 p,none),(2,AV.int .i64 q,none),(4,AV.ptr 0 0 0 0,none),(7,AV.ptr 0 1 0 0,none),(9,AV.ptr 0 3 0 0,none),(10,AV.ptr 0 5 0 0,none),(11,AV.ptr 0 7 0 0,none),(32,AV.bool false,some 1)],Z0::H))) [(1,AV.int .i64 p),(2,AV.int .i64 q),(4,AV.ptr 0 0 0 0),(7,AV.ptr 0 1 0 0),(9,AV.ptr 0 3 0 0),(10,AV.ptr 0 5 0 0),(11,AV.ptr 0 7 0 0),(36,AV.fn (Fn.func 109) [] [AV.ptrT (some 0) (Row.G [a9 1 w ls ld zs zd sz kd]) 0])])) { lock:=false,bs:=[(0,aj.row (Row.G [a9 1 w ls ld zs zd sz kd])),(0,aj.row (Row.G [AV.bool sure])),(0,aj.fmap hS gS cS),(0,aj.row (Row.G [AV.map 0 2])),(0,aj.fmap hW gW cW),(0,aj.row (Row.G [AV.map 0 4])),(0,aj.row (Row.I .i64 [Int.ofNat 0])),(0,aj.row (Row.I .i64 [s]))] }:=by kernel_rfl
theorem Ik (n:Nat) (w:Int) (ls ld:Nat) (zs zd sz kd:Nat→Int) (H:ae) (p q:Int) (sure:Bool) (hS:Int→Bool) (gS:Int→Int) (cS:Nat) (hW:Int→Bool) (gW:Int→Int) (cW:Nat) (s:Int):aH (bF (n+14) 80 113) (il aG (n+13) 1) aJ (th aK (fun _=>true) [] [] .bad) (part Try.f80 [1,0,1,1,0,1,0,0]) (hints (ie p q)) (fp w ls ld zs zd sz kd sure hS gS cS hW gW cW s []::H) =
 (fun (Z0:b6)=>Tr.ite (bA (Int.ofNat 0) (Int.ofNat cW)) (Tr.reqP ([(1,AV.int .i64 p),(2,AV.int .i64 q),(4,AV.ptr 0 0 0 0),(7,AV.ptr 0 1 0 0),(9,AV.ptr 0 3 0 0),(10,AV.ptr 0 5 0 0),(11,AV.ptr 0 7 0 0),(36,AV.fn (Fn.func 109) [] [AV.ptrT (some 0) (Row.G [a9 1 w ls ld zs zd sz kd]) 0])]=[]∧Z0::H=[]) Tr.bad) (Tr.ok (Ex.exit 0,[(1,AV.int .i64 p,none),(2,AV.int .i64 q,none),(4,AV.ptr 0 0 0 0,none),(7,AV.ptr 0 1 0 0,none),(9,AV.ptr 0 3 0 0,none),(10,AV.ptr 0 5 0 0,none),(11,AV.ptr 0 7 0 0,none),(32,AV.bool false,some 1)],Z0::H))) { lock:=false,bs:=[(0,aj.row (Row.G [a9 1 w ls ld zs zd sz kd])),(0,aj.row (Row.G [AV.bool sure])),(0,aj.fmap hS gS cS),(0,aj.row (Row.G [AV.map 0 2])),(0,aj.fmap hW gW cW),(0,aj.row (Row.G [AV.map 0 4])),(0,aj.row (Row.I .i64 [Int.ofNat 0])),(0,aj.row (Row.I .i64 [s]))] }:=by kernel_rfl
structure WS where
 hS:Int→Bool
 gS:Int→Int
 cS:Nat
 hW:Int→Bool
 gW:Int→Int
 cW:Nat
noncomputable def c8 (w:Int) (ls ld:Nat) (zs zd sz kd:Nat→Int) (sure:Bool) (S:WS) (s:Int) (rest:List (Nat×aj)):b6:=gk w ls ld zs zd sz kd sure S.hS S.gS S.cS S.hW S.gW S.cW s rest
noncomputable def cH (w:Int) (ls ld:Nat) (zs zd sz kd:Nat→Int) (sure:Bool) (S:WS) (s:Int) (rest:List (Nat×aj)):b6:=fp w ls ld zs zd sz kd sure S.hS S.gS S.cS S.hW S.gW S.cW s rest
noncomputable def Bt (s q:Int) (S:WS):WS:=if S.hS q=true then S else ⟨df S.hS q true,dF S.gS q (s+1),fP (S.hS q) S.cS,df S.hW q true,dF S.gW q (s+1),fP (S.hW q) S.cW⟩
noncomputable def qd (hl:Nat→Bool) (s:Int) (S:WS):Nat→WS
 | 0=>S
 | j+1=>if hl j=true then Bt s ((j:Int)-2) (qd hl s S j) else qd hl s S j
noncomputable def FV (x:Int) (S:WS):WS:=⟨S.hS,S.gS,S.cS,df S.hW x false,dF S.gW x 0,lf (S.hW x) S.cW⟩
noncomputable def Bu (kd:Nat→Int) (sure:Bool) (ls:Nat) (s x:Int) (S:WS):WS:=if S.hW x=true∧S.gW x=s then qd (fun j=>cG kd sure x ((j:Int)-2)) s (FV x S) (ls+2) else S
noncomputable def FW (kd:Nat→Int) (sure:Bool) (ls:Nat) (s:Int) (S:WS):Nat→WS
 | 0=>S
 | j+1=>Bu kd sure ls s ((j:Int)-2) (FW kd sure ls s S j)
noncomputable def Pu (q:Int):WS:=⟨df (fun _=>false) q true,dF (fun _=>0) q 0,fP false 0,df (fun _=>false) q true,dF (fun _=>0) q 0,fP false 0⟩
noncomputable def ia (kd:Nat→Int) (sure:Bool) (ls:Nat) (q:Int):Nat→WS
 | 0=>Pu q
 | k+1=>FW kd sure ls (k:Int) (ia kd sure ls q k) (ls+2)
theorem J5:cM (part Try.f80 [1,0,1,1,0,1,0,0])=[(.tmp 36,#[37],CL,zZ)]:=by kernel_rfl
theorem J4:cM zZ=[(.tmp 58,#[59],Cm,A0)]:=by kernel_rfl
section
variable (n:Nat) (w:Int) (ls ld:Nat) (zs zd sz kd:Nat→Int) (H:ae) (p q x s:Int) (sure:Bool)
theorem F3 (k R:Nat) (G:Nat→ae) (hls:ls≤10) (h:∀ j,j<ls+2→cd n (.round 1 R) [.int .i64 ((j:Int)-2)] (af::G j)=some (.bool true,af::G (j+1))) :
 cd (n+1) (.fn 109) [.yld 0 R,.ptrT (some 0) (.G [a9 k w ls ld zs zd sz kd]) 0] (G 0)=some (.tup [],G (ls+2)):=by
 have l:exec (bF n 109 18) (.block 0 (.loop (part Try.f109 [1,0,0]))) (Eg k R w ls ld zs zd sz kd (-2)) (af::G 0)=some (.normal,Eg k R w ls ld zs zd sz kd (((ls+2:Nat):Int)-2)++[(11,.bool false)],af::G (ls+2)):=by
  have:=uE (n:=n) (f:=109) (nt:=18) (c:=part Try.f109 [1,0,0]) 0 (fun j=>Eg k R w ls ld zs zd sz kd ((j:Int)-2)) (fun j=>af::G j) (ls+2) (Eg k R w ls ld zs zd sz kd (((ls+2:Nat):Int)-2)++[(11,.bool false)],af::G (ls+2)) (by omega) (fun j hj=>?_) ?_
  · exact this
  · have ej:ay .i64 ((j:Int)-2) (Int.ofNat 1)=((j+1:Nat):Int)-2:=by rw[aR,show Int.ofNat 1=1 from rfl,bX (by omega) (by omega)];omega
    refine bz (KC k R n w ls ld zs zd sz kd (G j) (G (j+1)) ((j:Int)-2)) (yB (bk n) (fun x hx=>by rw[← Tr.ab hx];exact h j hj)) (ah _ _) (ai _ _) ?_
    rw[ej]
    repeat' first | (refine Tr.an (fun hc=>?_) (fun hc=>?_)<;>(try simp (disch:=omega) only[nV,nW] at hc)<;>try omega) | (refine Tr.ao ?_ ?_;· (try simp (disch:=omega) only[nV,nW]);try omega) | (refine Tr.ak ?_ ?_;· first | exact trivial | rfl | exact ⟨rfl,rfl⟩ | exact ⟨rfl,rfl,rfl⟩ | (simp (disch:=omega) only[nV,nW];done) | ((try simp (disch:=omega) only[nV,nW]);omega)) | fail
    all_goals exact Tr.aq ⟨rfl,rfl⟩
  · obtain ⟨x,h1,rfl⟩:=bz (f:=109) (nt:=18) (Q:=fun x=>x=(.exit 0,Eg k R w ls ld zs zd sz kd (((ls+2:Nat):Int)-2)++[(11,.bool false)],af::G (ls+2))) (H9 k R n w ls ld zs zd sz kd (G (ls+2)) (((ls+2:Nat):Int)-2)) (bk n) (ah _ _) (ai _ _) (by
     repeat' first | (refine Tr.an (fun hc=>?_) (fun hc=>?_)<;>(try simp (disch:=omega) only[nV,nW] at hc)<;>try omega) | (refine Tr.ao ?_ ?_;· (try simp (disch:=omega) only[nV,nW]);try omega) | (refine Tr.ak ?_ ?_;· first | exact trivial | rfl | exact ⟨rfl,rfl⟩ | exact ⟨rfl,rfl,rfl⟩ | (simp (disch:=omega) only[nV,nW];done) | ((try simp (disch:=omega) only[nV,nW]);omega)) | fail
     all_goals exact Tr.aq rfl)
    exact h1
 refine bp (n:=n) Try.func109 rfl rfl rfl (Le k R n w ls ld zs zd sz kd (G 0) (G (ls+2)) (Eg k R w ls ld zs zd sz kd (((ls+2:Nat):Int)-2)++[(11,.bool false)])) (bk n) (bf (ah _ _) BK (fun x hx=>?_)) (ai _ _) ?_
 · refine l.trans ?_
   rw[← Tr.ab hx];simp only[dg.st,aw]
 · refine Tr.ak ⟨rfl,rfl⟩ (Tr.aq ⟨rfl,rfl⟩)
noncomputable def fx (w:Int) (ls ld:Nat) (zs zd sz kd:Nat→Int) (sure:Bool) (x:Int):bw:={ state:=.ready,pending:=none,fn:=80,nt:=113,fr:=jj w ls ld zs zd sz kd sure x,params:=[59],assign:=Cm,body:=A0 }
noncomputable def gM (w:Int) (ls ld:Nat) (zs zd sz kd:Nat→Int) (p q:Int):bw:={ state:=.ready,pending:=none,fn:=80,nt:=113,fr:=lT w ls ld zs zd sz kd p q,params:=[37],assign:=CL,body:=zZ }
theorem DN (q:Int) (G:ae):exec (jg n) Cm (qt w ls ld zs zd sz kd sure x q) (af::af::af::G)=some (.normal,n6 q,af::af::af::G):=by
 have e:aH (jg n) (il aG n 0) aJ aK Cm (hints (qt w ls ld zs zd sz kd sure x q)) (af::af::af::G)=.ok (.normal,hints (n6 q),af::af::af::G):=by kernel_rfl
 have:=bK (cx:=jg n) (bk n) Cm (ah _ _) (ai _ _) (hints (qt w ls ld zs zd sz kd sure x q)) (af::af::af::G) _ (by rw[e];rfl)
 rw[aw] at this
 simp only[dg.st,aw] at this
 exact this
theorem DP (G:ae):exec (iw n) CL (qp w ls ld zs zd sz kd p q x) (af::af::G)=some (.normal,nZ x,af::af::G):=by
 have e:aH (iw n) (il aG n 0) aJ aK CL (hints (qp w ls ld zs zd sz kd p q x)) (af::af::G)=.ok (.normal,hints (nZ x),af::af::G):=by kernel_rfl
 have:=bK (cx:=iw n) (bk n) CL (ah _ _) (ai _ _) (hints (qp w ls ld zs zd sz kd p q x)) (af::af::G) _ (by rw[e];rfl)
 rw[aw] at this
 simp only[dg.st,aw] at this
 exact this
theorem DT (hs:0≤s∧s≤1000) (q:Int) (S:WS) (L0:bw) (L Li:aj):∃ fr',exec (jg n) A0 (n6 q) (af::af::af::aB 0 [(0,.loop L0)]::gY Li::af::c8 w ls ld zs zd sz kd sure S s [(0,L)]::H)=some (.normal,fr',af::af::af::aB 0 [(0,.loop L0)]::gY Li::af::c8 w ls ld zs zd sz kd sure (Bt s q S) s [(0,L)]::H):=by
 have es:ay .i64 s (Int.ofNat 1)=s+1:=by rw[aR,show Int.ofNat 1=1 from rfl];exact bX (by omega) (by omega)
 have key:(aH (jg n) (il aG n 0) aJ aK A0 (hints (n6 q)) (af::af::af::aB 0 [(0,.loop L0)]::gY Li::af::gk w ls ld zs zd sz kd sure S.hS S.gS S.cS S.hW S.gW S.cW s [(0,L)]::H)).all fun y=>y.1=.normal∧y.2.2=af::af::af::aB 0 [(0,.loop L0)]::gY Li::af::c8 w ls ld zs zd sz kd sure (Bt s q S) s [(0,L)]::H:=by
  rw[Il,es]
  unfold Bt
  repeat' first | (refine Tr.an (fun hc=>?_) (fun hc=>?_)<;>(try simp (disch:=omega) only[nV,nW] at hc)<;>try omega) | (refine Tr.ao ?_ ?_;· (try simp (disch:=omega) only[nV,nW]);try omega) | (refine Tr.ak ?_ ?_;· first | exact trivial | rfl | exact ⟨rfl,rfl⟩ | exact ⟨rfl,rfl,rfl⟩ | (simp (disch:=omega) only[nV,nW];done) | ((try simp (disch:=omega) only[nV,nW]);omega)) | fail
  all_goals refine Tr.aq ⟨rfl,?_⟩
  · rw[if_neg (by rw[hc];simp)];rfl
  · rw[if_pos (by simpa using hc)];rfl
 obtain ⟨y,h1,h3,h4⟩:=key
 have:=bK (cx:=jg n) (bk n) A0 (ah _ _) (ai _ _) _ _ _ h1
 rw[aw] at this
 refine ⟨strip y.2.1,this.trans ?_⟩
 obtain ⟨e,f,g⟩:=y
 dsimp only at h3 h4
 subst h3;subst h4
 rfl
theorem Fj (hs:0≤s∧s≤1000) (q:Int) (S:WS) (L0:bw) (L:aj):cd (n+1) (.round 3 0) [.int .i64 q] (af::af::aB 0 [(0,.loop L0)]::gY (.loop (fx w ls ld zs zd sz kd sure x))::af::c8 w ls ld zs zd sz kd sure S s [(0,L)]::H)=some (.bool true,af::af::aB 0 [(0,.loop L0)]::gY (.loop (fx w ls ld zs zd sz kd sure x))::af::c8 w ls ld zs zd sz kd sure (Bt s q S) s [(0,L)]::H):=by
 obtain ⟨fr',h2⟩:=DT n w ls ld zs zd sz kd H s sure hs q S L0 L (.loop { fx w ls ld zs zd sz kd sure x with state:=.busy })
 have ha:=DN n w ls ld zs zd sz kd x sure q (aB 0 [(0,.loop L0)]::gY (.loop (fx w ls ld zs zd sz kd sure x))::af::c8 w ls ld zs zd sz kd sure S s [(0,L)]::H)
 exact dE (P:=Try.prog) (ora:=mo) (KT:=Kt.kt) (fu:=100000) (n:=n) (d:=3) (i:=0) (args:=[.int .i64 q]) (H:=af::af::aB 0 [(0,.loop L0)]::gY (.loop (fx w ls ld zs zd sz kd sure x))::af::c8 w ls ld zs zd sz kd sure S s [(0,L)]::H) (l:=fx w ls ld zs zd sz kd sure x) (l1:=fx w ls ld zs zd sz kd sure x) (l2:={ fx w ls ld zs zd sz kd sure x with state:=.busy }) (fr:=qt w ls ld zs zd sz kd sure x q) rfl rfl rfl rfl ha rfl rfl h2 rfl
theorem CC (hs:0≤s∧s≤1000) (S:WS) (L:aj):iK 0 n ls kd x sure (fun j=>gY (.loop (fx w ls ld zs zd sz kd sure x))::af::c8 w ls ld zs zd sz kd sure (qd (fun j=>cG kd sure x ((j:Int)-2)) s S j) s [(0,L)]::H) (fun _=>[]) (fun _=>true) where
 hit:=fun j hj hh L0=>by
  have:=Fj (n+1) w ls ld zs zd sz kd H x s sure hs ((j:Int)-2) (qd (fun j=>cG kd sure x ((j:Int)-2)) s S j) L0 L
  have e:qd (fun j=>cG kd sure x ((j:Int)-2)) s S (j+1)=Bt s ((j:Int)-2) (qd (fun j=>cG kd sure x ((j:Int)-2)) s S j):=by
   show (if cG kd sure x ((j:Int)-2)=true then _ else _)=_
   rw[if_pos hh]
  rw[if_pos rfl,e]
  exact this
 skip:=fun j hj hh=>by
  have e:qd (fun j=>cG kd sure x ((j:Int)-2)) s S (j+1)=qd (fun j=>cG kd sure x ((j:Int)-2)) s S j:=by
   show (if cG kd sure x ((j:Int)-2)=true then _ else _)=_
   rw[if_neg (by rw[hh];simp)]
  rw[e]
theorem Fp (hs:0≤s∧s≤1000) (hls:ls≤10) (hx:-2≤x∧x<ls) (S:WS) (L:bw):exec (iw (n+5)) (.rangeFunc (.tmp 58) #[59] Cm A0) (jj w ls ld zs zd sz kd sure x) (af::af::c8 w ls ld zs zd sz kd sure S s [(0,.loop L)]::H) =
 some (.normal,jj w ls ld zs zd sz kd sure x,gY .dead::af::c8 w ls ld zs zd sz kd sure (qd (fun j=>cG kd sure x ((j:Int)-2)) s S (ls+2)) s [(0,.loop L)]::H):=by
 have hn:=AF 0 n 3 w ls ld zs zd sz kd x sure (CC n w ls ld zs zd sz kd H x s sure hs S (.loop L)) hx hls
 have h0:bD (dC kd sure x (fun _=>true)) (ls+2)=false:=by
  cases hq:bD (dC kd sure x (fun _=>true)) (ls+2) with
  | false=>rfl
  | true =>
    obtain ⟨j,hj,h1⟩:=(bV _ _).1 hq
    unfold dC at h1
    simp at h1
 rw[h0,if_neg (by simp)] at hn
 exact c5 (cx:=iw (n+5)) (l:=fx w ls ld zs zd sz kd sure x) (f:=.tmp 58) (ps:=#[59]) (fr:=jj w ls ld zs zd sz kd sure x) (H:=af::af::c8 w ls ld zs zd sz kd sure S s [(0,.loop L)]::H) (g:=110) (a:=[]) (b:=gv 3 w ls ld zs zd sz kd x sure) (e:=.normal) rfl rfl rfl hn rfl rfl rfl
theorem DV (hs:0≤s∧s≤1000) (hls:ls≤10) (hx:-2≤x∧x<ls) (S:WS) (L:bw):∃ fr' lv,exec (iw (n+5)) zZ (nZ x) (af::af::c8 w ls ld zs zd sz kd sure S s [(0,.loop L)]::H)=some (.normal,fr',lv::af::c8 w ls ld zs zd sz kd sure (Bu kd sure ls s x S) s [(0,.loop L)]::H):=by
 have hr:=Fp n w ls ld zs zd sz kd H x s sure hs hls hx (FV x S) L
 generalize hF:qd (fun j=>cG kd sure x ((j:Int)-2)) s (FV x S) (ls+2)=S2 at *
 have hO:Bu kd sure ls s x S=if S.hW x=true∧S.gW x=s then S2 else S:=by unfold Bu;rw[hF]
 have key:(aH (iw (n+5)) (il aG (n+4) 1) aJ (th aK (fun _=>true) (jj w ls ld zs zd sz kd sure x) (af::af::gk w ls ld zs zd sz kd sure S.hS S.gS S.cS (df S.hW x false) (dF S.gW x 0) (lf (S.hW x) S.cW) s [(0,.loop L)]::H) (.ok (.normal,hints (jj w ls ld zs zd sz kd sure x),gY .dead::af::gk w ls ld zs zd sz kd sure S2.hS S2.gS S2.cS S2.hW S2.gW S2.cW s [(0,.loop L)]::H))) zZ (hints (nZ x)) (af::af::gk w ls ld zs zd sz kd sure S.hS S.gS S.cS S.hW S.gW S.cW s [(0,.loop L)]::H)).all fun y=>y.1=.normal∧∃ lv,y.2.2=lv::af::c8 w ls ld zs zd sz kd sure (Bu kd sure ls s x S) s [(0,.loop L)]::H:=by
  rw[Io,hO]
  repeat' first | (refine Tr.an (fun hc=>?_) (fun hc=>?_)<;>(try simp (disch:=omega) only[nV,nW] at hc)<;>try omega) | (refine Tr.ao ?_ ?_;· (try simp (disch:=omega) only[nV,nW]);try omega) | (refine Tr.ak ?_ ?_;· first | exact trivial | rfl | exact ⟨rfl,rfl⟩ | exact ⟨rfl,rfl,rfl⟩ | (simp (disch:=omega) only[nV,nW];done) | ((try simp (disch:=omega) only[nV,nW]);omega)) | fail
  all_goals refine Tr.aq ⟨rfl,?_⟩
  all_goals first
   | (rw[if_pos (by simp_all)];exact ⟨_,rfl⟩)
   | (rw[if_neg (by simp_all)];exact ⟨_,rfl⟩)
   | fail
 obtain ⟨y,h1,h3,lv,h4⟩:=key
 have:=bK (cx:=iw (n+5)) (bU (n+4) 1) zZ (ah _ _) (eX (ai _ _) (fun f ps a b _ hm y hy=>by
  rw[J4] at hm
  simp only[List.mem_cons,Prod.mk.injEq,List.not_mem_nil,or_false] at hm
  obtain ⟨rfl,rfl,rfl,rfl⟩:=hm
  rw[← Tr.ab hy]
  simp only[dg.st,aw]
  exact hr)) _ _ _ h1
 rw[aw] at this
 refine ⟨strip y.2.1,lv,this.trans ?_⟩
 obtain ⟨e,f,g⟩:=y
 dsimp only at h3 h4
 subst h3;subst h4
 rfl
theorem Fl (hs:0≤s∧s≤1000) (hls:ls≤10) (hx:-2≤x∧x<ls) (S:WS):cd (n+6) (.round 1 7) [.int .i64 x] (af::c8 w ls ld zs zd sz kd sure S s [(0,.loop (gM w ls ld zs zd sz kd p q))]::H)=some (.bool true,af::c8 w ls ld zs zd sz kd sure (Bu kd sure ls s x S) s [(0,.loop (gM w ls ld zs zd sz kd p q))]::H):=by
 obtain ⟨fr',lv,h2⟩:=DV n w ls ld zs zd sz kd H x s sure hs hls hx S { gM w ls ld zs zd sz kd p q with state:=.busy }
 have ha:=DP (n+5) w ls ld zs zd sz kd p q x (c8 w ls ld zs zd sz kd sure S s [(0,.loop (gM w ls ld zs zd sz kd p q))]::H)
 exact dE (P:=Try.prog) (ora:=mo) (KT:=Kt.kt) (fu:=100000) (n:=n+5) (d:=1) (i:=7) (args:=[.int .i64 x]) (H:=af::c8 w ls ld zs zd sz kd sure S s [(0,.loop (gM w ls ld zs zd sz kd p q))]::H) (l:=gM w ls ld zs zd sz kd p q) (l1:=gM w ls ld zs zd sz kd p q) (l2:={ gM w ls ld zs zd sz kd p q with state:=.busy }) (fr:=qp w ls ld zs zd sz kd p q x) rfl rfl rfl rfl ha rfl rfl h2 rfl
theorem HS (hs:0≤s∧s≤1000) (hls:ls≤10) (S:WS):exec (bF (n+14) 80 113) (.rangeFunc (.tmp 36) #[37] CL zZ) (lT w ls ld zs zd sz kd p q) (c8 w ls ld zs zd sz kd sure S s []::H) =
 some (.normal,lT w ls ld zs zd sz kd p q,c8 w ls ld zs zd sz kd sure (FW kd sure ls s S (ls+2)) s [(0,.dead)]::H):=by
 have hc:=F3 (n+13) w ls ld zs zd sz kd 1 7 (fun j=>c8 w ls ld zs zd sz kd sure (FW kd sure ls s S j) s [(0,.loop (gM w ls ld zs zd sz kd p q))]::H) hls (fun j hj=>Fl (n+7) w ls ld zs zd sz kd H p q ((j:Int)-2) s sure hs hls ⟨by omega,by omega⟩ _)
 exact c5 (cx:=bF (n+14) 80 113) (l:=gM w ls ld zs zd sz kd p q) (f:=.tmp 36) (ps:=#[37]) (fr:=lT w ls ld zs zd sz kd p q) (H:=c8 w ls ld zs zd sz kd sure S s []::H) (g:=109) (a:=[]) (b:=[.ptrT (some 0) (.G [a9 1 w ls ld zs zd sz kd]) 0]) (e:=.normal) rfl rfl rfl hc rfl rfl rfl
noncomputable def fy (w:Int) (ls ld:Nat) (zs zd sz kd:Nat→Int) (sure:Bool) (x:Int):bw:={ state:=.ready,pending:=none,fn:=80,nt:=113,fr:=jk w ls ld zs zd sz kd sure x,params:=[59],assign:=Cm,body:=A0 }
noncomputable def gN (w:Int) (ls ld:Nat) (zs zd sz kd:Nat→Int) (p q:Int):bw:={ state:=.ready,pending:=none,fn:=80,nt:=113,fr:=lU w ls ld zs zd sz kd p q,params:=[37],assign:=CL,body:=zZ }
theorem DO (q:Int) (G:ae):exec (jg n) Cm (qu w ls ld zs zd sz kd sure x q) (af::af::af::G)=some (.normal,n7 q,af::af::af::G):=by
 have e:aH (jg n) (il aG n 0) aJ aK Cm (hints (qu w ls ld zs zd sz kd sure x q)) (af::af::af::G)=.ok (.normal,hints (n7 q),af::af::af::G):=by kernel_rfl
 have:=bK (cx:=jg n) (bk n) Cm (ah _ _) (ai _ _) (hints (qu w ls ld zs zd sz kd sure x q)) (af::af::af::G) _ (by rw[e];rfl)
 rw[aw] at this
 simp only[dg.st,aw] at this
 exact this
theorem DQ (G:ae):exec (iy n) CL (qq w ls ld zs zd sz kd p q x) (af::af::G)=some (.normal,n5 x,af::af::G):=by
 have e:aH (iy n) (il aG n 0) aJ aK CL (hints (qq w ls ld zs zd sz kd p q x)) (af::af::G)=.ok (.normal,hints (n5 x),af::af::G):=by kernel_rfl
 have:=bK (cx:=iy n) (bk n) CL (ah _ _) (ai _ _) (hints (qq w ls ld zs zd sz kd p q x)) (af::af::G) _ (by rw[e];rfl)
 rw[aw] at this
 simp only[dg.st,aw] at this
 exact this
theorem DU (hs:0≤s∧s≤1000) (q:Int) (S:WS) (L0:bw) (L Li:aj):∃ fr',exec (jg n) A0 (n7 q) (af::af::af::aB 0 [(0,.loop L0)]::gY Li::af::cH w ls ld zs zd sz kd sure S s [(0,L)]::H)=some (.normal,fr',af::af::af::aB 0 [(0,.loop L0)]::gY Li::af::cH w ls ld zs zd sz kd sure (Bt s q S) s [(0,L)]::H):=by
 have es:ay .i64 s (Int.ofNat 1)=s+1:=by rw[aR,show Int.ofNat 1=1 from rfl];exact bX (by omega) (by omega)
 have key:(aH (jg n) (il aG n 0) aJ aK A0 (hints (n7 q)) (af::af::af::aB 0 [(0,.loop L0)]::gY Li::af::fp w ls ld zs zd sz kd sure S.hS S.gS S.cS S.hW S.gW S.cW s [(0,L)]::H)).all fun y=>y.1=.normal∧y.2.2=af::af::af::aB 0 [(0,.loop L0)]::gY Li::af::cH w ls ld zs zd sz kd sure (Bt s q S) s [(0,L)]::H:=by
  rw[Im,es]
  unfold Bt
  repeat' first | (refine Tr.an (fun hc=>?_) (fun hc=>?_)<;>(try simp (disch:=omega) only[nV,nW] at hc)<;>try omega) | (refine Tr.ao ?_ ?_;· (try simp (disch:=omega) only[nV,nW]);try omega) | (refine Tr.ak ?_ ?_;· first | exact trivial | rfl | exact ⟨rfl,rfl⟩ | exact ⟨rfl,rfl,rfl⟩ | (simp (disch:=omega) only[nV,nW];done) | ((try simp (disch:=omega) only[nV,nW]);omega)) | fail
  all_goals refine Tr.aq ⟨rfl,?_⟩
  · rw[if_neg (by rw[hc];simp)];rfl
  · rw[if_pos (by simpa using hc)];rfl
 obtain ⟨y,h1,h3,h4⟩:=key
 have:=bK (cx:=jg n) (bk n) A0 (ah _ _) (ai _ _) _ _ _ h1
 rw[aw] at this
 refine ⟨strip y.2.1,this.trans ?_⟩
 obtain ⟨e,f,g⟩:=y
 dsimp only at h3 h4
 subst h3;subst h4
 rfl
theorem Fk (hs:0≤s∧s≤1000) (q:Int) (S:WS) (L0:bw) (L:aj):cd (n+1) (.round 3 0) [.int .i64 q] (af::af::aB 0 [(0,.loop L0)]::gY (.loop (fy w ls ld zs zd sz kd sure x))::af::cH w ls ld zs zd sz kd sure S s [(0,L)]::H)=some (.bool true,af::af::aB 0 [(0,.loop L0)]::gY (.loop (fy w ls ld zs zd sz kd sure x))::af::cH w ls ld zs zd sz kd sure (Bt s q S) s [(0,L)]::H):=by
 obtain ⟨fr',h2⟩:=DU n w ls ld zs zd sz kd H s sure hs q S L0 L (.loop { fy w ls ld zs zd sz kd sure x with state:=.busy })
 have ha:=DO n w ls ld zs zd sz kd x sure q (aB 0 [(0,.loop L0)]::gY (.loop (fy w ls ld zs zd sz kd sure x))::af::cH w ls ld zs zd sz kd sure S s [(0,L)]::H)
 exact dE (P:=Try.prog) (ora:=mo) (KT:=Kt.kt) (fu:=100000) (n:=n) (d:=3) (i:=0) (args:=[.int .i64 q]) (H:=af::af::aB 0 [(0,.loop L0)]::gY (.loop (fy w ls ld zs zd sz kd sure x))::af::cH w ls ld zs zd sz kd sure S s [(0,L)]::H) (l:=fy w ls ld zs zd sz kd sure x) (l1:=fy w ls ld zs zd sz kd sure x) (l2:={ fy w ls ld zs zd sz kd sure x with state:=.busy }) (fr:=qu w ls ld zs zd sz kd sure x q) rfl rfl rfl rfl ha rfl rfl h2 rfl
theorem CD (hs:0≤s∧s≤1000) (S:WS) (L:aj):iK 0 n ls kd x sure (fun j=>gY (.loop (fy w ls ld zs zd sz kd sure x))::af::cH w ls ld zs zd sz kd sure (qd (fun j=>cG kd sure x ((j:Int)-2)) s S j) s [(0,L)]::H) (fun _=>[]) (fun _=>true) where
 hit:=fun j hj hh L0=>by
  have:=Fk (n+1) w ls ld zs zd sz kd H x s sure hs ((j:Int)-2) (qd (fun j=>cG kd sure x ((j:Int)-2)) s S j) L0 L
  have e:qd (fun j=>cG kd sure x ((j:Int)-2)) s S (j+1)=Bt s ((j:Int)-2) (qd (fun j=>cG kd sure x ((j:Int)-2)) s S j):=by
   show (if cG kd sure x ((j:Int)-2)=true then _ else _)=_
   rw[if_pos hh]
  rw[if_pos rfl,e]
  exact this
 skip:=fun j hj hh=>by
  have e:qd (fun j=>cG kd sure x ((j:Int)-2)) s S (j+1)=qd (fun j=>cG kd sure x ((j:Int)-2)) s S j:=by
   show (if cG kd sure x ((j:Int)-2)=true then _ else _)=_
   rw[if_neg (by rw[hh];simp)]
  rw[e]
theorem Fq (hs:0≤s∧s≤1000) (hls:ls≤10) (hx:-2≤x∧x<ls) (S:WS) (L:bw):exec (iy (n+5)) (.rangeFunc (.tmp 58) #[59] Cm A0) (jk w ls ld zs zd sz kd sure x) (af::af::cH w ls ld zs zd sz kd sure S s [(0,.loop L)]::H) =
 some (.normal,jk w ls ld zs zd sz kd sure x,gY .dead::af::cH w ls ld zs zd sz kd sure (qd (fun j=>cG kd sure x ((j:Int)-2)) s S (ls+2)) s [(0,.loop L)]::H):=by
 have hn:=AF 0 n 3 w ls ld zs zd sz kd x sure (CD n w ls ld zs zd sz kd H x s sure hs S (.loop L)) hx hls
 have h0:bD (dC kd sure x (fun _=>true)) (ls+2)=false:=by
  cases hq:bD (dC kd sure x (fun _=>true)) (ls+2) with
  | false=>rfl
  | true =>
    obtain ⟨j,hj,h1⟩:=(bV _ _).1 hq
    unfold dC at h1
    simp at h1
 rw[h0,if_neg (by simp)] at hn
 exact c5 (cx:=iy (n+5)) (l:=fy w ls ld zs zd sz kd sure x) (f:=.tmp 58) (ps:=#[59]) (fr:=jk w ls ld zs zd sz kd sure x) (H:=af::af::cH w ls ld zs zd sz kd sure S s [(0,.loop L)]::H) (g:=110) (a:=[]) (b:=gv 3 w ls ld zs zd sz kd x sure) (e:=.normal) rfl rfl rfl hn rfl rfl rfl
theorem DW (hs:0≤s∧s≤1000) (hls:ls≤10) (hx:-2≤x∧x<ls) (S:WS) (L:bw):∃ fr' lv,exec (iy (n+5)) zZ (n5 x) (af::af::cH w ls ld zs zd sz kd sure S s [(0,.loop L)]::H)=some (.normal,fr',lv::af::cH w ls ld zs zd sz kd sure (Bu kd sure ls s x S) s [(0,.loop L)]::H):=by
 have hr:=Fq n w ls ld zs zd sz kd H x s sure hs hls hx (FV x S) L
 generalize hF:qd (fun j=>cG kd sure x ((j:Int)-2)) s (FV x S) (ls+2)=S2 at *
 have hO:Bu kd sure ls s x S=if S.hW x=true∧S.gW x=s then S2 else S:=by unfold Bu;rw[hF]
 have key:(aH (iy (n+5)) (il aG (n+4) 1) aJ (th aK (fun _=>true) (jk w ls ld zs zd sz kd sure x) (af::af::fp w ls ld zs zd sz kd sure S.hS S.gS S.cS (df S.hW x false) (dF S.gW x 0) (lf (S.hW x) S.cW) s [(0,.loop L)]::H) (.ok (.normal,hints (jk w ls ld zs zd sz kd sure x),gY .dead::af::fp w ls ld zs zd sz kd sure S2.hS S2.gS S2.cS S2.hW S2.gW S2.cW s [(0,.loop L)]::H))) zZ (hints (n5 x)) (af::af::fp w ls ld zs zd sz kd sure S.hS S.gS S.cS S.hW S.gW S.cW s [(0,.loop L)]::H)).all fun y=>y.1=.normal∧∃ lv,y.2.2=lv::af::cH w ls ld zs zd sz kd sure (Bu kd sure ls s x S) s [(0,.loop L)]::H:=by
  rw[Ip,hO]
  repeat' first | (refine Tr.an (fun hc=>?_) (fun hc=>?_)<;>(try simp (disch:=omega) only[nV,nW] at hc)<;>try omega) | (refine Tr.ao ?_ ?_;· (try simp (disch:=omega) only[nV,nW]);try omega) | (refine Tr.ak ?_ ?_;· first | exact trivial | rfl | exact ⟨rfl,rfl⟩ | exact ⟨rfl,rfl,rfl⟩ | (simp (disch:=omega) only[nV,nW];done) | ((try simp (disch:=omega) only[nV,nW]);omega)) | fail
  all_goals refine Tr.aq ⟨rfl,?_⟩
  all_goals first
   | (rw[if_pos (by simp_all)];exact ⟨_,rfl⟩)
   | (rw[if_neg (by simp_all)];exact ⟨_,rfl⟩)
   | fail
 obtain ⟨y,h1,h3,lv,h4⟩:=key
 have:=bK (cx:=iy (n+5)) (bU (n+4) 1) zZ (ah _ _) (eX (ai _ _) (fun f ps a b _ hm y hy=>by
  rw[J4] at hm
  simp only[List.mem_cons,Prod.mk.injEq,List.not_mem_nil,or_false] at hm
  obtain ⟨rfl,rfl,rfl,rfl⟩:=hm
  rw[← Tr.ab hy]
  simp only[dg.st,aw]
  exact hr)) _ _ _ h1
 rw[aw] at this
 refine ⟨strip y.2.1,lv,this.trans ?_⟩
 obtain ⟨e,f,g⟩:=y
 dsimp only at h3 h4
 subst h3;subst h4
 rfl
theorem Fm (hs:0≤s∧s≤1000) (hls:ls≤10) (hx:-2≤x∧x<ls) (S:WS):cd (n+6) (.round 1 8) [.int .i64 x] (af::cH w ls ld zs zd sz kd sure S s [(0,.loop (gN w ls ld zs zd sz kd p q))]::H)=some (.bool true,af::cH w ls ld zs zd sz kd sure (Bu kd sure ls s x S) s [(0,.loop (gN w ls ld zs zd sz kd p q))]::H):=by
 obtain ⟨fr',lv,h2⟩:=DW n w ls ld zs zd sz kd H x s sure hs hls hx S { gN w ls ld zs zd sz kd p q with state:=.busy }
 have ha:=DQ (n+5) w ls ld zs zd sz kd p q x (cH w ls ld zs zd sz kd sure S s [(0,.loop (gN w ls ld zs zd sz kd p q))]::H)
 exact dE (P:=Try.prog) (ora:=mo) (KT:=Kt.kt) (fu:=100000) (n:=n+5) (d:=1) (i:=8) (args:=[.int .i64 x]) (H:=af::cH w ls ld zs zd sz kd sure S s [(0,.loop (gN w ls ld zs zd sz kd p q))]::H) (l:=gN w ls ld zs zd sz kd p q) (l1:=gN w ls ld zs zd sz kd p q) (l2:={ gN w ls ld zs zd sz kd p q with state:=.busy }) (fr:=qq w ls ld zs zd sz kd p q x) rfl rfl rfl rfl ha rfl rfl h2 rfl
theorem HT (hs:0≤s∧s≤1000) (hls:ls≤10) (S:WS):exec (bF (n+14) 80 113) (.rangeFunc (.tmp 36) #[37] CL zZ) (lU w ls ld zs zd sz kd p q) (cH w ls ld zs zd sz kd sure S s []::H) =
 some (.normal,lU w ls ld zs zd sz kd p q,cH w ls ld zs zd sz kd sure (FW kd sure ls s S (ls+2)) s [(0,.dead)]::H):=by
 have hc:=F3 (n+13) w ls ld zs zd sz kd 1 8 (fun j=>cH w ls ld zs zd sz kd sure (FW kd sure ls s S j) s [(0,.loop (gN w ls ld zs zd sz kd p q))]::H) hls (fun j hj=>Fm (n+7) w ls ld zs zd sz kd H p q ((j:Int)-2) s sure hs hls ⟨by omega,by omega⟩ _)
 exact c5 (cx:=bF (n+14) 80 113) (l:=gN w ls ld zs zd sz kd p q) (f:=.tmp 36) (ps:=#[37]) (fr:=lU w ls ld zs zd sz kd p q) (H:=cH w ls ld zs zd sz kd sure S s []::H) (g:=109) (a:=[]) (b:=[.ptrT (some 0) (.G [a9 1 w ls ld zs zd sz kd]) 0]) (e:=.normal) rfl rfl rfl hc rfl rfl rfl
noncomputable def PX (p q:Int):Nat→aO
 | 0=>oX p q
 | k+1=>ie p q
noncomputable def RB (w:Int) (ls ld:Nat) (zs zd sz kd:Nat→Int) (sure:Bool) (W:Nat→WS):Nat→b6
 | 0=>c8 w ls ld zs zd sz kd sure (W 0) ((0:Nat):Int) []
 | k+1=>cH w ls ld zs zd sz kd sure (W (k+1)) ((k+1:Nat):Int) []
theorem Pp (hls:ls≤10) (N:Nat) (hN:N+1≤900) (h1:∀ k,k<N+1→0<(ia kd sure ls q k).cW) (h2:(ia kd sure ls q (N+1)).cW=0):exec (bF (n+14) 80 113) (.block 0 (.loop (part Try.f80 [1,0,1,1,0,1,0,0]))) (oX p q) (c8 w ls ld zs zd sz kd sure (Pu q) 0 []::H) =
 some (.normal,ie p q++[(32,.bool false)],cH w ls ld zs zd sz kd sure (ia kd sure ls q (N+1)) ((N+1:Nat):Int) []::H):=by
 have:=uE (n:=n+14) (f:=80) (nt:=113) (c:=part Try.f80 [1,0,1,1,0,1,0,0]) 0 (PX p q) (fun k=>RB w ls ld zs zd sz kd sure (ia kd sure ls q) k::H) (N+1) (ie p q++[(32,.bool false)],cH w ls ld zs zd sz kd sure (ia kd sure ls q (N+1)) ((N+1:Nat):Int) []::H) (by omega) (fun k hk=>?_) ?_
 · exact this
 · cases k with
   | zero =>
     · have hr:=HS n w ls ld zs zd sz kd H p q ((0:Nat):Int) sure ⟨by omega,by omega⟩ hls (ia kd sure ls q (0))
       have eL:ia kd sure ls q (0+1)=FW kd sure ls ((0:Nat):Int) (ia kd sure ls q (0)) (ls+2):=rfl
       have ek:ay .i64 ((0:Nat):Int) (Int.ofNat 1)=((0+1:Nat):Int):=by rw[aR,show Int.ofNat 1=1 from rfl];exact bX (by omega) (by omega)
       have hpos:=h1 (0) hk
       rw[← eL] at hr
       show ∃ x,exec (bF (n+14) 80 113) (part Try.f80 [1,0,1,1,0,1,0,0]) (oX p q) (c8 w ls ld zs zd sz kd sure (ia kd sure ls q (0)) ((0:Nat):Int) []::H)=some x∧(x.1=.normal∧tidy 7 x.2.1 x.2.2=(ie p q,cH w ls ld zs zd sz kd sure (ia kd sure ls q (0+1)) ((0+1:Nat):Int) []::H))
       generalize ia kd sure ls q (0+1)=S2 at *
       generalize ia kd sure ls q (0)=S at *
       refine bz (Ii n w ls ld zs zd sz kd H p q sure S.hS S.gS S.cS S.hW S.gW S.cW S2.hS S2.gS S2.cS S2.hW S2.gW S2.cW ((0:Nat):Int)) (bU (n+13) 1) (ah _ _) (eX (ai _ _) (fun f ps a b _ hm y hy=>?_)) ?_
       · rw[J5] at hm
         simp only[List.mem_cons,Prod.mk.injEq,List.not_mem_nil,or_false] at hm
         obtain ⟨rfl,rfl,rfl,rfl⟩:=hm
         rw[← Tr.ab hy]
         simp only[dg.st,aw]
         exact hr
       · rw[ek]
         repeat' first | (refine Tr.an (fun hc=>?_) (fun hc=>?_)<;>(try simp (disch:=omega) only[nV,nW] at hc)<;>try omega) | (refine Tr.ao ?_ ?_;· (try simp (disch:=omega) only[nV,nW]);try omega) | (refine Tr.ak ?_ ?_;· first | exact trivial | rfl | exact ⟨rfl,rfl⟩ | exact ⟨rfl,rfl,rfl⟩ | (simp (disch:=omega) only[nV,nW];done) | ((try simp (disch:=omega) only[nV,nW]);omega)) | fail
         all_goals exact Tr.aq ⟨rfl,rfl⟩
   | succ k =>
     · have hr:=HT n w ls ld zs zd sz kd H p q ((k+1:Nat):Int) sure ⟨by omega,by omega⟩ hls (ia kd sure ls q (k+1))
       have eL:ia kd sure ls q (k+1+1)=FW kd sure ls ((k+1:Nat):Int) (ia kd sure ls q (k+1)) (ls+2):=rfl
       have ek:ay .i64 ((k+1:Nat):Int) (Int.ofNat 1)=((k+1+1:Nat):Int):=by rw[aR,show Int.ofNat 1=1 from rfl];exact bX (by omega) (by omega)
       have hpos:=h1 (k+1) hk
       rw[← eL] at hr
       show ∃ x,exec (bF (n+14) 80 113) (part Try.f80 [1,0,1,1,0,1,0,0]) (ie p q) (cH w ls ld zs zd sz kd sure (ia kd sure ls q (k+1)) ((k+1:Nat):Int) []::H)=some x∧(x.1=.normal∧tidy 7 x.2.1 x.2.2=(ie p q,cH w ls ld zs zd sz kd sure (ia kd sure ls q (k+1+1)) ((k+1+1:Nat):Int) []::H))
       generalize ia kd sure ls q (k+1+1)=S2 at *
       generalize ia kd sure ls q (k+1)=S at *
       refine bz (Ij n w ls ld zs zd sz kd H p q sure S.hS S.gS S.cS S.hW S.gW S.cW S2.hS S2.gS S2.cS S2.hW S2.gW S2.cW ((k+1:Nat):Int)) (bU (n+13) 1) (ah _ _) (eX (ai _ _) (fun f ps a b _ hm y hy=>?_)) ?_
       · rw[J5] at hm
         simp only[List.mem_cons,Prod.mk.injEq,List.not_mem_nil,or_false] at hm
         obtain ⟨rfl,rfl,rfl,rfl⟩:=hm
         rw[← Tr.ab hy]
         simp only[dg.st,aw]
         exact hr
       · rw[ek]
         repeat' first | (refine Tr.an (fun hc=>?_) (fun hc=>?_)<;>(try simp (disch:=omega) only[nV,nW] at hc)<;>try omega) | (refine Tr.ao ?_ ?_;· (try simp (disch:=omega) only[nV,nW]);try omega) | (refine Tr.ak ?_ ?_;· first | exact trivial | rfl | exact ⟨rfl,rfl⟩ | exact ⟨rfl,rfl,rfl⟩ | (simp (disch:=omega) only[nV,nW];done) | ((try simp (disch:=omega) only[nV,nW]);omega)) | fail
         all_goals exact Tr.aq ⟨rfl,rfl⟩
 · show exec (bF (n+14) 80 113) (part Try.f80 [1,0,1,1,0,1,0,0]) (ie p q) (cH w ls ld zs zd sz kd sure (ia kd sure ls q (N+1)) ((N+1:Nat):Int) []::H)=_
   generalize ia kd sure ls q (N+1)=S at *
   obtain ⟨x,h3,rfl⟩:=bz (Q:=fun x=>x=(.exit 0,ie p q++[(32,.bool false)],cH w ls ld zs zd sz kd sure S ((N+1:Nat):Int) []::H)) (Ik n w ls ld zs zd sz kd H p q sure S.hS S.gS S.cS S.hW S.gW S.cW ((N+1:Nat):Int)) (bU (n+13) 1) (ah _ _) (eX (ai _ _) (fun f ps a b _ hm x hx=>(Tr.ag hx).elim)) (by
    repeat' first | (refine Tr.an (fun hc=>?_) (fun hc=>?_)<;>(try simp (disch:=omega) only[nV,nW] at hc)<;>try omega) | (refine Tr.ao ?_ ?_;· (try simp (disch:=omega) only[nV,nW]);try omega) | (refine Tr.ak ?_ ?_;· first | exact trivial | rfl | exact ⟨rfl,rfl⟩ | exact ⟨rfl,rfl,rfl⟩ | (simp (disch:=omega) only[nV,nW];done) | ((try simp (disch:=omega) only[nV,nW]);omega)) | fail
    all_goals exact Tr.aq rfl)
   exact h3
end
end Go.Eng
