/- Bath: IndexFunc and DeleteFunc over a row of the caller's (printed by mkBb3.py). -/
import Derived.Test.YtigmfpmabgekoaaGreatV11Bb2
set_option linter.unusedVariables false
set_option linter.unusedSimpArgs false
set_option maxRecDepth 100000
namespace Go.Eng
open Go.Proofs
noncomputable def gC (P:Int→Bool) (Q:Int→List AV→aa→Prop) (args:List AV) (H:aa):Tr (AV×aa) :=
 match args with
 | .int .i64 x::C=>.reqP (Q x C H) (.ok (.bool (P x),H))
 | _=>.bad
noncomputable def K9 (f:FuncId) (P:Int→Bool) (Q:Int→List AV→aa→Prop):mb:=jc aU f (gC P Q)
noncomputable def iX (b0 b1 b2 b3 b4 b5:Nat×ak) (m:Nat) (g:Nat→Int):bn:=⟨false,[b0,b1,b2,b3,b4,b5,(0,.row (.M [.arr .i64 g m]))]⟩
noncomputable def qZ (m:Nat) (j:Int):av:=[(0,.slc 2 6 0 0 1 m none),(1,.fn (.func 87) [] [.ptr 2 0 0 0,.ptr 2 1 0 0]),(7,.int .i64 (Int.ofNat m)),(8,.int .i64 j)]
noncomputable def qX (m:Nat) (i j:Int):av:=[(0,.slc 1 6 0 0 1 m none),(1,.fn (.func 87) [] [.ptr 1 0 0 0,.ptr 1 1 0 0]),(5,.int .i64 i),(6,.int .i64 j)]
noncomputable def iY (b0 b1 b2 b3 b4 b5 b6:Nat×ak) (m:Nat) (g:Nat→Int):bn:=⟨false,[b0,b1,b2,b3,b4,b5,b6,(0,.row (.M [.arr .i64 g m]))]⟩
noncomputable def q8 (m:Nat) (j:Int):av:=[(0,.slc 2 7 0 0 1 m none),(1,.fn (.func 87) [] [.ptr 2 0 0 0,.ptr 2 3 0 0]),(7,.int .i64 (Int.ofNat m)),(8,.int .i64 j)]
noncomputable def qY (m:Nat) (i j:Int):av:=[(0,.slc 1 7 0 0 1 m none),(1,.fn (.func 87) [] [.ptr 1 0 0 0,.ptr 1 3 0 0]),(5,.int .i64 i),(6,.int .i64 j)]
theorem ME (n:Nat) (P:Int→Bool) (Q:Int→List AV→aa→Prop) (b0 b1 b2 b3 b4 b5:Nat×ak) (m:Nat) (g:Nat→Int) (H:aa) (j:Int):aX (bz n 88 19) (il (K9 87 P Q) n 0) aZ a6 (part Tryz.f88 [1,0,1,0,0]) (hints (qZ m j)) (aB::aB::iX b0 b1 b2 b3 b4 b5 m g::H) =
 (fun (Z0:bn)=>Tr.ite (dq j (Int.ofNat m)) (Tr.req (dF j m) (Tr.req (bX 0 0) (Tr.req (bA (ar 0 j 1) m) (Tr.reqP (Q (g (ar 0 j 1)) [AV.ptr 2 0 0 0,AV.ptr 2 1 0 0] (aB::aB::Z0::H)) (Tr.ite (P (g (ar 0 j 1))) (Tr.ok (Ex.ret,[(4,AV.int .i64 j,none)],aB::aB::Z0::H)) (Tr.ok (Ex.normal,[(0,AV.slc 2 6 0 0 1 m none,none),(1,AV.fn (Fn.func 87) [] [AV.ptr 2 0 0 0,AV.ptr 2 1 0 0],none),(7,AV.int .i64 (Int.ofNat m),none),(8,AV.int .i64 (a8 .i64 j (Int.ofNat 1)),none)],aB::aB::Z0::H))))))) (Tr.ok (Ex.exit 0,[(0,AV.slc 2 6 0 0 1 m none,none),(1,AV.fn (Fn.func 87) [] [AV.ptr 2 0 0 0,AV.ptr 2 1 0 0],none),(7,AV.int .i64 (Int.ofNat m),none),(8,AV.int .i64 j,none),(9,AV.bool false,some 1)],aB::aB::Z0::H))) { lock:=false,bs:=[b0,b1,b2,b3,b4,b5,(0,ak.row (Row.M [aW.arr .i64 g m]))] }:=by kernel_rfl
theorem Qx (n:Nat) (b0 b1 b2 b3 b4 b5:Nat×ak) (m:Nat) (g:Nat→Int) (H:aa) (x:Bool) (r:Nat):bw Tryz.prog (cd n) 100000 88 Tryz.f88 (KtB.kt 88) (il aU n 0) (gf aZ 0 (qZ m 0) (aB::aB::iX b0 b1 b2 b3 b4 b5 m g::H) (.ite x (.ok (.ret,[(4,.int .i64 (Int.ofNat r),none)],aB::aB::iX b0 b1 b2 b3 b4 b5 m g::H)) (.ok (.normal,hints (qZ m (Int.ofNat m)++[(9,.bool false)]),aB::aB::iX b0 b1 b2 b3 b4 b5 m g::H)))) a6 [(.slc 1 6 0 0 1 m none,none),(.fn (.func 87) [] [.ptr 1 0 0 0,.ptr 1 1 0 0],none)] (aB::iX b0 b1 b2 b3 b4 b5 m g::H) =
 (fun (Z0:bn)=>((fun (Z1:av)=>Tr.reqP (Z1=Z1∧aB::aB::Z0::H=aB::aB::Z0::H) (Tr.ite x (Tr.ok ((AV.int .i64 (Int.ofNat r),none),aB::Z0::H)) (Tr.ok ((AV.int .i64 (Int.negSucc 0),some 1),aB::Z0::H)))) [(0,AV.slc 2 6 0 0 1 m none),(1,AV.fn (Fn.func 87) [] [AV.ptr 2 0 0 0,AV.ptr 2 1 0 0]),(7,AV.int .i64 (Int.ofNat m)),(8,AV.int .i64 (Int.ofNat 0))])) { lock:=false,bs:=[b0,b1,b2,b3,b4,b5,(0,ak.row (Row.M [aW.arr .i64 g m]))] }:=by kernel_rfl
theorem Mt (n:Nat) (P:Int→Bool) (Q:Int→List AV→aa→Prop) (b0 b1 b2 b3 b4 b5:Nat×ak) (m:Nat) (g:Nat→Int) (H:aa) (i j:Int):aX (bz n 67 42) (il (K9 87 P Q) n 0) aZ a6 (part Tryz.f67 [1,1,1,0,1,0,0]) (hints (qX m i j)) (aB::iX b0 b1 b2 b3 b4 b5 m g::H) =
 (fun (Z0:bn)=>((fun (Z1:Nat×AV×Option Nat)=>Tr.ite (dq j (Int.ofNat m)) (Tr.req (dF j m) (Tr.req (bX 0 0) (Tr.req (bA (ar 0 j 1) m) (Tr.reqP (Q (g (ar 0 j 1)) [AV.ptr 1 0 0 0,AV.ptr 1 1 0 0] (aB::Z0::H)) (Tr.ite (b8 (P (g (ar 0 j 1)))) (Tr.req (dF i m) (Tr.req (bX 0 0) (Tr.req (bA (ar 0 i 1) m) (Tr.ok (Ex.normal,[(0,AV.slc 1 6 0 0 1 m none,none),Z1,(5,AV.int .i64 (a8 .i64 i (Int.ofNat 1)),none),(6,AV.int .i64 (a8 .i64 j (Int.ofNat 1)),none)],aB::{ lock:=false,bs:=[b0,b1,b2,b3,b4,b5,(0,ak.row (Row.M [aW.arr .i64 (bG g (ar 0 i 1) (g (ar 0 j 1))) m]))] } :: H))))) (Tr.ok (Ex.normal,[(0,AV.slc 1 6 0 0 1 m none,none),Z1,(5,AV.int .i64 i,none),(6,AV.int .i64 (a8 .i64 j (Int.ofNat 1)),none)],aB::Z0::H))))))) (Tr.ok (Ex.exit 0,[(0,AV.slc 1 6 0 0 1 m none,none),Z1,(5,AV.int .i64 i,none),(6,AV.int .i64 j,none),(19,AV.bool false,some 1)],aB::Z0::H))) (1,AV.fn (Fn.func 87) [] [AV.ptr 1 0 0 0,AV.ptr 1 1 0 0],none))) { lock:=false,bs:=[b0,b1,b2,b3,b4,b5,(0,ak.row (Row.M [aW.arr .i64 g m]))] }:=by kernel_rfl
theorem Qs (n:Nat) (b0 b1 b2 b3 b4 b5:Nat×ak) (m:Nat) (g g2:Nat→Int) (H:aa) (r i2:Int):bw Tryz.prog (cd n) 100000 67 Tryz.f67 (KtB.kt 67) (il (IA aU 88 [.slc 1 6 0 0 1 m none,.fn (.func 87) [] [.ptr 1 0 0 0,.ptr 1 1 0 0]] (aB::iX b0 b1 b2 b3 b4 b5 m g::H) (.ok (.int .i64 r,aB::iX b0 b1 b2 b3 b4 b5 m g::H))) n 0) (gf aZ 0 (qX m r (a8 .i64 r (Int.ofNat 1))) (aB::iX b0 b1 b2 b3 b4 b5 m g::H) (.ok (.normal,hints (qX m i2 (Int.ofNat m)++[(19,.bool false)]),aB::iX b0 b1 b2 b3 b4 b5 m g2::H))) a6 [(.slc 0 6 0 0 1 m none,none),(.fn (.func 87) [] [.ptr 0 0 0 0,.ptr 0 1 0 0],none)] (iX b0 b1 b2 b3 b4 b5 m g::H) =
 (fun (Z0:bn)=>((fun (Z1:av)=>Tr.reqP ([AV.slc 1 6 0 0 1 m none,AV.fn (Fn.func 87) [] [AV.ptr 1 0 0 0,AV.ptr 1 1 0 0]]=[AV.slc 1 6 0 0 1 m none,AV.fn (Fn.func 87) [] [AV.ptr 1 0 0 0,AV.ptr 1 1 0 0]]∧aB::Z0::H=aB::Z0::H) (Tr.ite (dm r (Int.negSucc 0)) (Tr.ok ((AV.slc 0 6 0 0 1 m none,none),Z0::H)) (Tr.reqP (Z1=Z1∧aB::Z0::H=aB::Z0::H) (Tr.req (je i2 m) (Tr.req (bA 0 (dk m (dH i2))) (Tr.req (bX 0 0) (Tr.req (lX (af 0 (dH i2)) (dk m (dH i2)) 0 m) (Tr.req (je i2 m) (Tr.ok ((AV.slc 0 6 0 0 1 (dH i2) none,none),{ lock:=false,bs:=[b0,b1,b2,b3,b4,b5,(0,ak.row (Row.M [aW.arr .i64 (fH g2 (af 0 (dH i2)) (fun x=>Int.ofNat 0) (dk m (dH i2))) m]))] } :: H)))))))))) [(0,AV.slc 1 6 0 0 1 m none),(1,AV.fn (Fn.func 87) [] [AV.ptr 1 0 0 0,AV.ptr 1 1 0 0]),(5,AV.int .i64 r),(6,AV.int .i64 (a8 .i64 r (Int.ofNat 1)))])) { lock:=false,bs:=[b0,b1,b2,b3,b4,b5,(0,ak.row (Row.M [aW.arr .i64 g m]))] }:=by kernel_rfl
theorem MZ (n:Nat) (b0 b1 b2 b3 b4 b5:Nat×ak) (m:Nat) (g:Nat→Int) (H:aa):bw Tryz.prog (cd n) 100000 67 Tryz.f67 (KtB.kt 67) (il (IA aU 88 [.slc 1 6 0 0 1 m none,.fn (.func 87) [] [.ptr 1 0 0 0,.ptr 1 1 0 0]] (aB::iX b0 b1 b2 b3 b4 b5 m g::H) (.ok (.int .i64 (-1),aB::iX b0 b1 b2 b3 b4 b5 m g::H))) n 0) (pN aZ 0) a6 [(.slc 0 6 0 0 1 m none,none),(.fn (.func 87) [] [.ptr 0 0 0 0,.ptr 0 1 0 0],none)] (iX b0 b1 b2 b3 b4 b5 m g::H) =
 (fun (Z0:bn)=>Tr.reqP ([AV.slc 1 6 0 0 1 m none,AV.fn (Fn.func 87) [] [AV.ptr 1 0 0 0,AV.ptr 1 1 0 0]]=[AV.slc 1 6 0 0 1 m none,AV.fn (Fn.func 87) [] [AV.ptr 1 0 0 0,AV.ptr 1 1 0 0]]∧aB::Z0::H=aB::Z0::H) (Tr.ite (dm (Int.negSucc 0) (Int.negSucc 0)) (Tr.ok ((AV.slc 0 6 0 0 1 m none,none),Z0::H)) Tr.bad)) { lock:=false,bs:=[b0,b1,b2,b3,b4,b5,(0,ak.row (Row.M [aW.arr .i64 g m]))] }:=by kernel_rfl
theorem MF (n:Nat) (P:Int→Bool) (Q:Int→List AV→aa→Prop) (b0 b1 b2 b3 b4 b5 b6:Nat×ak) (m:Nat) (g:Nat→Int) (H:aa) (j:Int):aX (bz n 88 19) (il (K9 87 P Q) n 0) aZ a6 (part Tryz.f88 [1,0,1,0,0]) (hints (q8 m j)) (aB::aB::iY b0 b1 b2 b3 b4 b5 b6 m g::H) =
 (fun (Z0:bn)=>Tr.ite (dq j (Int.ofNat m)) (Tr.req (dF j m) (Tr.req (bX 0 0) (Tr.req (bA (ar 0 j 1) m) (Tr.reqP (Q (g (ar 0 j 1)) [AV.ptr 2 0 0 0,AV.ptr 2 3 0 0] (aB::aB::Z0::H)) (Tr.ite (P (g (ar 0 j 1))) (Tr.ok (Ex.ret,[(4,AV.int .i64 j,none)],aB::aB::Z0::H)) (Tr.ok (Ex.normal,[(0,AV.slc 2 7 0 0 1 m none,none),(1,AV.fn (Fn.func 87) [] [AV.ptr 2 0 0 0,AV.ptr 2 3 0 0],none),(7,AV.int .i64 (Int.ofNat m),none),(8,AV.int .i64 (a8 .i64 j (Int.ofNat 1)),none)],aB::aB::Z0::H))))))) (Tr.ok (Ex.exit 0,[(0,AV.slc 2 7 0 0 1 m none,none),(1,AV.fn (Fn.func 87) [] [AV.ptr 2 0 0 0,AV.ptr 2 3 0 0],none),(7,AV.int .i64 (Int.ofNat m),none),(8,AV.int .i64 j,none),(9,AV.bool false,some 1)],aB::aB::Z0::H))) { lock:=false,bs:=[b0,b1,b2,b3,b4,b5,b6,(0,ak.row (Row.M [aW.arr .i64 g m]))] }:=by kernel_rfl
theorem Qy (n:Nat) (b0 b1 b2 b3 b4 b5 b6:Nat×ak) (m:Nat) (g:Nat→Int) (H:aa) (x:Bool) (r:Nat):bw Tryz.prog (cd n) 100000 88 Tryz.f88 (KtB.kt 88) (il aU n 0) (gf aZ 0 (q8 m 0) (aB::aB::iY b0 b1 b2 b3 b4 b5 b6 m g::H) (.ite x (.ok (.ret,[(4,.int .i64 (Int.ofNat r),none)],aB::aB::iY b0 b1 b2 b3 b4 b5 b6 m g::H)) (.ok (.normal,hints (q8 m (Int.ofNat m)++[(9,.bool false)]),aB::aB::iY b0 b1 b2 b3 b4 b5 b6 m g::H)))) a6 [(.slc 1 7 0 0 1 m none,none),(.fn (.func 87) [] [.ptr 1 0 0 0,.ptr 1 3 0 0],none)] (aB::iY b0 b1 b2 b3 b4 b5 b6 m g::H) =
 (fun (Z0:bn)=>((fun (Z1:av)=>Tr.reqP (Z1=Z1∧aB::aB::Z0::H=aB::aB::Z0::H) (Tr.ite x (Tr.ok ((AV.int .i64 (Int.ofNat r),none),aB::Z0::H)) (Tr.ok ((AV.int .i64 (Int.negSucc 0),some 1),aB::Z0::H)))) [(0,AV.slc 2 7 0 0 1 m none),(1,AV.fn (Fn.func 87) [] [AV.ptr 2 0 0 0,AV.ptr 2 3 0 0]),(7,AV.int .i64 (Int.ofNat m)),(8,AV.int .i64 (Int.ofNat 0))])) { lock:=false,bs:=[b0,b1,b2,b3,b4,b5,b6,(0,ak.row (Row.M [aW.arr .i64 g m]))] }:=by kernel_rfl
theorem Mv (n:Nat) (P:Int→Bool) (Q:Int→List AV→aa→Prop) (b0 b1 b2 b3 b4 b5 b6:Nat×ak) (m:Nat) (g:Nat→Int) (H:aa) (i j:Int):aX (bz n 67 42) (il (K9 87 P Q) n 0) aZ a6 (part Tryz.f67 [1,1,1,0,1,0,0]) (hints (qY m i j)) (aB::iY b0 b1 b2 b3 b4 b5 b6 m g::H) =
 (fun (Z0:bn)=>((fun (Z1:Nat×AV×Option Nat)=>Tr.ite (dq j (Int.ofNat m)) (Tr.req (dF j m) (Tr.req (bX 0 0) (Tr.req (bA (ar 0 j 1) m) (Tr.reqP (Q (g (ar 0 j 1)) [AV.ptr 1 0 0 0,AV.ptr 1 3 0 0] (aB::Z0::H)) (Tr.ite (b8 (P (g (ar 0 j 1)))) (Tr.req (dF i m) (Tr.req (bX 0 0) (Tr.req (bA (ar 0 i 1) m) (Tr.ok (Ex.normal,[(0,AV.slc 1 7 0 0 1 m none,none),Z1,(5,AV.int .i64 (a8 .i64 i (Int.ofNat 1)),none),(6,AV.int .i64 (a8 .i64 j (Int.ofNat 1)),none)],aB::{ lock:=false,bs:=[b0,b1,b2,b3,b4,b5,b6,(0,ak.row (Row.M [aW.arr .i64 (bG g (ar 0 i 1) (g (ar 0 j 1))) m]))] } :: H))))) (Tr.ok (Ex.normal,[(0,AV.slc 1 7 0 0 1 m none,none),Z1,(5,AV.int .i64 i,none),(6,AV.int .i64 (a8 .i64 j (Int.ofNat 1)),none)],aB::Z0::H))))))) (Tr.ok (Ex.exit 0,[(0,AV.slc 1 7 0 0 1 m none,none),Z1,(5,AV.int .i64 i,none),(6,AV.int .i64 j,none),(19,AV.bool false,some 1)],aB::Z0::H))) (1,AV.fn (Fn.func 87) [] [AV.ptr 1 0 0 0,AV.ptr 1 3 0 0],none))) { lock:=false,bs:=[b0,b1,b2,b3,b4,b5,b6,(0,ak.row (Row.M [aW.arr .i64 g m]))] }:=by kernel_rfl
theorem Qt (n:Nat) (b0 b1 b2 b3 b4 b5 b6:Nat×ak) (m:Nat) (g g2:Nat→Int) (H:aa) (r i2:Int):bw Tryz.prog (cd n) 100000 67 Tryz.f67 (KtB.kt 67) (il (IA aU 88 [.slc 1 7 0 0 1 m none,.fn (.func 87) [] [.ptr 1 0 0 0,.ptr 1 3 0 0]] (aB::iY b0 b1 b2 b3 b4 b5 b6 m g::H) (.ok (.int .i64 r,aB::iY b0 b1 b2 b3 b4 b5 b6 m g::H))) n 0) (gf aZ 0 (qY m r (a8 .i64 r (Int.ofNat 1))) (aB::iY b0 b1 b2 b3 b4 b5 b6 m g::H) (.ok (.normal,hints (qY m i2 (Int.ofNat m)++[(19,.bool false)]),aB::iY b0 b1 b2 b3 b4 b5 b6 m g2::H))) a6 [(.slc 0 7 0 0 1 m none,none),(.fn (.func 87) [] [.ptr 0 0 0 0,.ptr 0 3 0 0],none)] (iY b0 b1 b2 b3 b4 b5 b6 m g::H) =
 (fun (Z0:bn)=>((fun (Z1:av)=>Tr.reqP ([AV.slc 1 7 0 0 1 m none,AV.fn (Fn.func 87) [] [AV.ptr 1 0 0 0,AV.ptr 1 3 0 0]]=[AV.slc 1 7 0 0 1 m none,AV.fn (Fn.func 87) [] [AV.ptr 1 0 0 0,AV.ptr 1 3 0 0]]∧aB::Z0::H=aB::Z0::H) (Tr.ite (dm r (Int.negSucc 0)) (Tr.ok ((AV.slc 0 7 0 0 1 m none,none),Z0::H)) (Tr.reqP (Z1=Z1∧aB::Z0::H=aB::Z0::H) (Tr.req (je i2 m) (Tr.req (bA 0 (dk m (dH i2))) (Tr.req (bX 0 0) (Tr.req (lX (af 0 (dH i2)) (dk m (dH i2)) 0 m) (Tr.req (je i2 m) (Tr.ok ((AV.slc 0 7 0 0 1 (dH i2) none,none),{ lock:=false,bs:=[b0,b1,b2,b3,b4,b5,b6,(0,ak.row (Row.M [aW.arr .i64 (fH g2 (af 0 (dH i2)) (fun x=>Int.ofNat 0) (dk m (dH i2))) m]))] } :: H)))))))))) [(0,AV.slc 1 7 0 0 1 m none),(1,AV.fn (Fn.func 87) [] [AV.ptr 1 0 0 0,AV.ptr 1 3 0 0]),(5,AV.int .i64 r),(6,AV.int .i64 (a8 .i64 r (Int.ofNat 1)))])) { lock:=false,bs:=[b0,b1,b2,b3,b4,b5,b6,(0,ak.row (Row.M [aW.arr .i64 g m]))] }:=by kernel_rfl
theorem M7 (n:Nat) (b0 b1 b2 b3 b4 b5 b6:Nat×ak) (m:Nat) (g:Nat→Int) (H:aa):bw Tryz.prog (cd n) 100000 67 Tryz.f67 (KtB.kt 67) (il (IA aU 88 [.slc 1 7 0 0 1 m none,.fn (.func 87) [] [.ptr 1 0 0 0,.ptr 1 3 0 0]] (aB::iY b0 b1 b2 b3 b4 b5 b6 m g::H) (.ok (.int .i64 (-1),aB::iY b0 b1 b2 b3 b4 b5 b6 m g::H))) n 0) (pN aZ 0) a6 [(.slc 0 7 0 0 1 m none,none),(.fn (.func 87) [] [.ptr 0 0 0 0,.ptr 0 3 0 0],none)] (iY b0 b1 b2 b3 b4 b5 b6 m g::H) =
 (fun (Z0:bn)=>Tr.reqP ([AV.slc 1 7 0 0 1 m none,AV.fn (Fn.func 87) [] [AV.ptr 1 0 0 0,AV.ptr 1 3 0 0]]=[AV.slc 1 7 0 0 1 m none,AV.fn (Fn.func 87) [] [AV.ptr 1 0 0 0,AV.ptr 1 3 0 0]]∧aB::Z0::H=aB::Z0::H) (Tr.ite (dm (Int.negSucc 0) (Int.negSucc 0)) (Tr.ok ((AV.slc 0 7 0 0 1 m none,none),Z0::H)) Tr.bad)) { lock:=false,bs:=[b0,b1,b2,b3,b4,b5,b6,(0,ak.row (Row.M [aW.arr .i64 g m]))] }:=by kernel_rfl
theorem ml {k:Nat} {f:FuncId} {P:Int→Bool} {Q:Int→List AV→aa→Prop} (h:∀ x C H,Q x C H→cd k (.fn f) (.int .i64 x::C) H=some (.bool (P x),H)):(K9 f P Q).Ok (cd k):=by
 refine jd (aT _) (fun args H x hx=>?_)
 unfold gC at hx
 split at hx
 · obtain ⟨h1,h2⟩:=Tr.c7 hx
   rw[h _ _ _ h1,← Tr.ab h2]
 · exact (Tr.ae hx).elim
def cA (P:Int→Bool) (g:Nat→Int):Nat→List Int
 | 0=>[]
 | j+1=>if P (g j)=true then cA P g j else cA P g j++[g j]
theorem qp (P:Int→Bool) (g:Nat→Int) (j:Nat):(cA P g j).length≤j:=by
 induction j with
 | zero=>simp[cA]
 | succ j ih =>
   unfold cA
   split
   · omega
   · rw[List.length_append];simp only[List.length_cons,List.length_nil];omega
theorem EU (P:Int→Bool) (g:Nat→Int) (j:Nat) (h:∀ i,i<j→P (g i)=false):(cA P g j).length=j∧∀ x,x<j→(cA P g j).getD x 0=g x:=by
 induction j with
 | zero=>exact ⟨rfl,fun x h=>by omega⟩
 | succ j ih =>
   obtain ⟨h1,h2⟩:=ih (fun i hi=>h i (by omega))
   have:cA P g (j+1)=cA P g j++[g j]:=by
    show (if P (g j)=true then cA P g j else cA P g j++[g j])=_
    rw[if_neg (by rw[h j (by omega)];decide)]
   rw[this]
   refine ⟨by rw[List.length_append,h1];rfl,fun x hx=>?_⟩
   by_cases e:x<j
   · rw[← h2 x e,List.getD_eq_getElem?_getD,List.getD_eq_getElem?_getD,List.getElem?_append_left (by omega)]
   · have:x=j:=by omega
     subst this
     rw[List.getD_eq_getElem?_getD,List.getElem?_append_right (by omega),h1];simp
def gk (P:Int→Bool) (g:Nat→Int) (j x:Nat):Int:=if x<(cA P g j).length then (cA P g j).getD x 0 else g x
theorem ID (P:Int→Bool) (g:Nat→Int) (j:Nat):gk P g j j=g j:=by
 have:=qp P g j
 unfold gk;rw[if_neg (by omega)]
theorem IE (P:Int→Bool) (g:Nat→Int) (j:Nat) (h:P (g j)=false):bG (gk P g j) (cA P g j).length (g j)=gk P g (j+1):=by
 have e:cA P g (j+1)=cA P g j++[g j]:=by
  show (if P (g j)=true then cA P g j else cA P g j++[g j])=_
  rw[if_neg (by rw[h];decide)]
 rw[jS];funext x
 unfold gk
 rw[e,List.length_append]
 simp only[List.length_cons,List.length_nil]
 by_cases h1:x<(cA P g j).length
 · rw[if_neg (by omega),if_pos h1,if_pos (by omega),List.getD_eq_getElem?_getD,List.getD_eq_getElem?_getD,List.getElem?_append_left h1]
 · by_cases h2:x=(cA P g j).length
   · subst h2
     rw[if_pos rfl,if_pos (by omega),List.getD_eq_getElem?_getD,List.getElem?_append_right (by omega)];simp
   · rw[if_neg h2,if_neg h1,if_neg (by omega)]
theorem AD (P:Int→Bool) (g:Nat→Int) (j:Nat) (h:P (g j)=true):gk P g (j+1)=gk P g j∧cA P g (j+1)=cA P g j:=by
 have e:cA P g (j+1)=cA P g j:=by
  show (if P (g j)=true then cA P g j else cA P g j++[g j])=_
  rw[if_pos h]
 exact ⟨by funext x;unfold gk;rw[e],e⟩
theorem wT (P:Int→Bool) (g:Nat→Int) (j:Nat) (h:∀ i,i<j→P (g i)=false) (h1:P (g j)=true):(cA P g (j+1)).length=j∧gk P g (j+1)=g:=by
 obtain ⟨h2,h3⟩:=EU P g j h
 obtain ⟨h4,h5⟩:=AD P g j h1
 refine ⟨by rw[h5,h2],?_⟩
 rw[h4];funext x
 unfold gk
 split
 · rename_i h6;exact h3 x (by omega)
 · rfl
theorem BW (P:Int→Bool) (g:Nat→Int) (j k:Nat):(cA P g (j+k)).length≤(cA P g j).length+k:=by
 induction k with
 | zero=>exact Nat.le_refl _
 | succ k ih =>
   show (if P (g (j+k))=true then cA P g (j+k) else cA P g (j+k)++[g (j+k)]).length≤_
   split
   · omega
   · rw[List.length_append];simp only[List.length_cons,List.length_nil];omega
theorem QQ:∀ b,(0,b) ∈ bo (ct Tryz.f88)→b=.loop (part Tryz.f88 [1,0,1,0,0]):=kX (by kernel_rfl)
theorem QP:∀ b,(0,b) ∈ bo (ct Tryz.f67)→b=.loop (part Tryz.f67 [1,1,1,0,1,0,0]):=kX (by kernel_rfl)
def Ag (p:Nat→Bool) (m:Nat):Int:=if iu p m=true then (fN p m 0:Int) else -1
section
variable (n:Nat) (P:Int→Bool) (Q:Int→List AV→aa→Prop) (b0 b1 b2 b3 b4 b5:Nat×ak) (m:Nat) (g:Nat→Int) (H:aa)
theorem Pb (hQ:∀ k x C H,Q x C H→cd (n+k) (.fn 87) (.int .i64 x::C) H=some (.bool (P x),H)) (hm:m≤1000) (h2:∀ j,j<m→Q (g j) [.ptr 2 0 0 0,.ptr 2 1 0 0] (aB::aB::iX b0 b1 b2 b3 b4 b5 m g::H)) :
 exec (bz n 88 19) (.block 0 (.loop (part Tryz.f88 [1,0,1,0,0]))) (qZ m 0) (aB::aB::iX b0 b1 b2 b3 b4 b5 m g::H)=some (cond (iu (fun j=>P (g j)) m) (.ret,[(4,.int .i64 (fN (fun j=>P (g j)) m 0:Nat))],aB::aB::iX b0 b1 b2 b3 b4 b5 m g::H) (.normal,qZ m (Int.ofNat m)++[(9,.bool false)],aB::aB::iX b0 b1 b2 b3 b4 b5 m g::H)):=by
 refine yi 0 (fun j=>qZ m (j:Int)) (fun _=>aB::aB::iX b0 b1 b2 b3 b4 b5 m g::H) m (fun j=>P (g j)) (fun j=>([(4,.int .i64 (j:Nat))],aB::aB::iX b0 b1 b2 b3 b4 b5 m g::H)) (qZ m (Int.ofNat m)++[(9,.bool false)],aB::aB::iX b0 b1 b2 b3 b4 b5 m g::H) (by omega) (fun j hj=>?_) ?_
 · have ej : a8 .i64 (j:Int) (Int.ofNat 1)=((j+1:Nat):Int):=by rw[bV,show Int.ofNat 1=1 from rfl];exact cK (by omega) (by omega)
   have ei:ar 0 (j:Int) 1=j:=by rw[bC];omega
   have q2:=h2 j hj
   refine aG (ME n P Q b0 b1 b2 b3 b4 b5 m g H (j:Int)) (cS _ n 0 (fun k=>ml (hQ k))) (ag _ _) (ah _ _) ?_
   rw[ej,ei]
   show Tr.all _ (fun x=>if P (g j)=true then _ else _)
   cases hp:P (g j) with
   | true =>
     simp only[if_true]
     refine Tr.al (fun hc=>?_) (fun hc=>?_)
     · repeat' first | (refine Tr.al (fun hc=>?_) (fun hc=>?_)<;>(try simp (disch:=omega) only[nV,nW] at hc)<;>try omega) | (refine Tr.bf ?_ ?_;· (try simp (disch:=omega) only[nV,nW]);try omega) | (refine Tr.ay ?_ ?_;· first | exact trivial | rfl | exact ⟨rfl,rfl⟩ | exact ⟨rfl,rfl,rfl⟩ | (simp (disch:=omega) only[nV,nW];done) | ((try simp (disch:=omega) only[nV,nW]);omega)) | fail
       all_goals first
        | exact q2
        | exact Tr.ay q2 (Tr.aw rfl)
        | (refine Tr.ay q2 ?_
           exact wF)
        | fail
     · simp (disch:=omega) only[nV,nW] at hc;omega
   | false =>
     simp only[Bool.false_eq_true,if_false]
     refine Tr.al (fun hc=>?_) (fun hc=>?_)
     · repeat' first | (refine Tr.al (fun hc=>?_) (fun hc=>?_)<;>(try simp (disch:=omega) only[nV,nW] at hc)<;>try omega) | (refine Tr.bf ?_ ?_;· (try simp (disch:=omega) only[nV,nW]);try omega) | (refine Tr.ay ?_ ?_;· first | exact trivial | rfl | exact ⟨rfl,rfl⟩ | exact ⟨rfl,rfl,rfl⟩ | (simp (disch:=omega) only[nV,nW];done) | ((try simp (disch:=omega) only[nV,nW]);omega)) | fail
       all_goals first
        | exact q2
        | (refine Tr.ay q2 ?_
           exact wF)
        | fail
     · simp (disch:=omega) only[nV,nW] at hc;omega
 · obtain ⟨x,h1,rfl⟩:=aG (Q:=fun x=>x=(.exit 0,qZ m (Int.ofNat m)++[(9,.bool false)],aB::aB::iX b0 b1 b2 b3 b4 b5 m g::H)) (ME n P Q b0 b1 b2 b3 b4 b5 m g H (Int.ofNat m)) (cS _ n 0 (fun k=>ml (hQ k))) (ag _ _) (ah _ _) (by
    refine Tr.al (fun hc=>?_) (fun hc=>Tr.aw rfl)
    simp (disch:=omega) only[nV,nW] at hc;omega)
   exact h1
theorem NS (hQ:∀ k x C H,Q x C H→cd (n+k) (.fn 87) (.int .i64 x::C) H=some (.bool (P x),H)) (hm:m≤1000) (h2:∀ j,j<m→Q (g j) [.ptr 2 0 0 0,.ptr 2 1 0 0] (aB::aB::iX b0 b1 b2 b3 b4 b5 m g::H)) :
 cd (n+1) (.fn 88) [.slc 1 6 0 0 1 m none,.fn (.func 87) [] [.ptr 1 0 0 0,.ptr 1 1 0 0]] (aB::iX b0 b1 b2 b3 b4 b5 m g::H)=some (.int .i64 (Ag (fun j=>P (g j)) m),aB::iX b0 b1 b2 b3 b4 b5 m g::H):=by
 have hl:=Pb n P Q b0 b1 b2 b3 b4 b5 m g H hQ hm h2
 refine ba (n:=n) Tryz.func88 rfl rfl rfl (Qx n b0 b1 b2 b3 b4 b5 m g H (iu (fun j=>P (g j)) m) (fN (fun j=>P (g j)) m 0)) (aO n) (bL (ag _ _) QQ (fun x hx=>by
  refine Eq.trans hl ?_
  rcases Tr.gr hx with ⟨hc,hx⟩ | ⟨hc,hx⟩
  · rw[hc,← Tr.ab hx];rfl
  · rw[hc,← Tr.ab hx];simp only[cond_false,gY.st,aY])) (ah _ _) ?_
 refine Tr.ay ⟨rfl,rfl⟩ (Tr.al (fun hc=>Tr.aw ⟨?_,rfl⟩) (fun hc=>Tr.aw ⟨?_,rfl⟩))
 · unfold Ag;rw[if_pos hc];rfl
 · unfold Ag;rw[if_neg (by rw[hc];decide)];rfl
theorem O5 (r:Nat) (hQ:∀ k x C H,Q x C H→cd (n+k) (.fn 87) (.int .i64 x::C) H=some (.bool (P x),H)) (hm:m≤1000) (h1:∀ j g',j<m→Q (g j) [.ptr 1 0 0 0,.ptr 1 1 0 0] (aB::iX b0 b1 b2 b3 b4 b5 m g'::H)) (hr:r<m) (h3:∀ i,i<r→P (g i)=false) (h4:P (g r)=true) :
 exec (bz n 67 42) (.block 0 (.loop (part Tryz.f67 [1,1,1,0,1,0,0]))) (qX m (r:Int) (a8 .i64 (r:Int) (Int.ofNat 1))) (aB::iX b0 b1 b2 b3 b4 b5 m g::H)=some (.normal,qX m ((cA P g m).length:Int) (Int.ofNat m)++[(19,.bool false)],aB::iX b0 b1 b2 b3 b4 b5 m (gk P g m)::H):=by
 obtain ⟨k1,k2⟩:=wT P g r h3 h4
 have e0:a8 .i64 (r:Int) (Int.ofNat 1)=((r+1+0:Nat):Int):=by rw[bV,show Int.ofNat 1=1 from rfl];exact cK (by omega) (by omega)
 have:=nD (n:=n) (f:=67) (nt:=42) (c:=part Tryz.f67 [1,1,1,0,1,0,0]) 0 (fun j=>qX m ((cA P g (r+1+j)).length:Int) ((r+1+j:Nat):Int)) (fun j=>aB::iX b0 b1 b2 b3 b4 b5 m (gk P g (r+1+j))::H) (m-(r+1)) (qX m ((cA P g m).length:Int) (Int.ofNat m)++[(19,.bool false)],aB::iX b0 b1 b2 b3 b4 b5 m (gk P g m)::H) (by omega) (fun j hj=>?_) ?_
 · rw[show r+1+0=r+1 from rfl,k1,k2] at this
   rw[e0];exact this
 · generalize hJ:r+1+j=J
   rw[show r+1+(j+1)=J+1 by omega]
   have hJm:J<m:=by omega
   have ej:a8 .i64 (J:Int) (Int.ofNat 1)=((J+1:Nat):Int):=by rw[bV,show Int.ofNat 1=1 from rfl];exact cK (by omega) (by omega)
   have ei:ar 0 (J:Int) 1=J:=by rw[bC];omega
   have hl:=qp P g J
   have q1:=h1 J (gk P g J) hJm
   have ga:=ID P g J
   have ea:a8 .i64 ((cA P g J).length:Int) (Int.ofNat 1)=(((cA P g J).length+1:Nat):Int):=by rw[bV,show Int.ofNat 1=1 from rfl];exact cK (by omega) (by omega)
   have ei2:ar 0 ((cA P g J).length:Int) 1=(cA P g J).length:=by rw[bC];omega
   refine aG (Mt n P Q b0 b1 b2 b3 b4 b5 m (gk P g J) H ((cA P g J).length:Int) (J:Int)) (cS _ n 0 (fun k=>ml (hQ k))) (ag _ _) (ah _ _) ?_
   rw[ej,ei,ga,ea,ei2]
   cases hp:P (g J) with
   | true =>
     obtain ⟨o1,o2⟩:=AD P g J hp
     rw[o1,o2]
     refine Tr.al (fun hc=>?_) (fun hc=>?_)
     · repeat' first | (refine Tr.al (fun hc=>?_) (fun hc=>?_)<;>(try simp (disch:=omega) only[nV,nW] at hc)<;>try omega) | (refine Tr.bf ?_ ?_;· (try simp (disch:=omega) only[nV,nW]);try omega) | (refine Tr.ay ?_ ?_;· first | exact trivial | rfl | exact ⟨rfl,rfl⟩ | exact ⟨rfl,rfl,rfl⟩ | (simp (disch:=omega) only[nV,nW];done) | ((try simp (disch:=omega) only[nV,nW]);omega)) | fail
       all_goals first
        | exact q1
        | (refine Tr.ay q1 ?_
           exact wF)
        | fail
     · simp (disch:=omega) only[nV,nW] at hc;omega
   | false =>
     have o1:=IE P g J hp
     have o2:(cA P g (J+1)).length=(cA P g J).length+1:=by
      show (if P (g J)=true then cA P g J else cA P g J++[g J]).length=_
      rw[hp,if_neg (by decide),List.length_append];rfl
     rw[o1,o2]
     refine Tr.al (fun hc=>?_) (fun hc=>?_)
     · repeat' first | (refine Tr.al (fun hc=>?_) (fun hc=>?_)<;>(try simp (disch:=omega) only[nV,nW] at hc)<;>try omega) | (refine Tr.bf ?_ ?_;· (try simp (disch:=omega) only[nV,nW]);try omega) | (refine Tr.ay ?_ ?_;· first | exact trivial | rfl | exact ⟨rfl,rfl⟩ | exact ⟨rfl,rfl,rfl⟩ | (simp (disch:=omega) only[nV,nW];done) | ((try simp (disch:=omega) only[nV,nW]);omega)) | fail
       all_goals first
        | exact q1
        | (refine Tr.ay q1 ?_
           exact wF)
        | fail
     · simp (disch:=omega) only[nV,nW] at hc;omega
 · rw[show r+1+(m-(r+1))=m by omega]
   obtain ⟨x,h1,rfl⟩:=aG (Q:=fun x=>x=(.exit 0,qX m ((cA P g m).length:Int) (Int.ofNat m)++[(19,.bool false)],aB::iX b0 b1 b2 b3 b4 b5 m (gk P g m)::H)) (Mt n P Q b0 b1 b2 b3 b4 b5 m (gk P g m) H ((cA P g m).length:Int) (Int.ofNat m)) (cS _ n 0 (fun k=>ml (hQ k))) (ag _ _) (ah _ _) (by
    refine Tr.al (fun hc=>?_) (fun hc=>Tr.aw rfl)
    simp (disch:=omega) only[nV,nW] at hc;omega)
   exact h1
theorem NQ (hQ:∀ k x C H,Q x C H→cd (n+k) (.fn 87) (.int .i64 x::C) H=some (.bool (P x),H)) (hm:m≤1000) (h1:∀ j g',j<m→Q (g j) [.ptr 1 0 0 0,.ptr 1 1 0 0] (aB::iX b0 b1 b2 b3 b4 b5 m g'::H)) (h2:∀ j,j<m→Q (g j) [.ptr 2 0 0 0,.ptr 2 1 0 0] (aB::aB::iX b0 b1 b2 b3 b4 b5 m g::H)) :
 ∃ g',cd (n+2) (.fn 67) [.slc 0 6 0 0 1 m none,.fn (.func 87) [] [.ptr 0 0 0 0,.ptr 0 1 0 0]] (iX b0 b1 b2 b3 b4 b5 m g::H)=some (.slc 0 6 0 0 1 (cA P g m).length none,iX b0 b1 b2 b3 b4 b5 m g'::H)∧∀ x,x<(cA P g m).length→g' x=(cA P g m).getD x 0:=by
 have hc:∀ k,cd (n+1+k) (.fn 88) [.slc 1 6 0 0 1 m none,.fn (.func 87) [] [.ptr 1 0 0 0,.ptr 1 1 0 0]] (aB::iX b0 b1 b2 b3 b4 b5 m g::H)=some (.int .i64 (Ag (fun j=>P (g j)) m),aB::iX b0 b1 b2 b3 b4 b5 m g::H):=fun k=>by
  have:=NS (n+k) P Q b0 b1 b2 b3 b4 b5 m g H (fun k2=>by rw[Nat.add_assoc];exact hQ _) hm h2
  rwa [show n+k+1=n+1+k by omega] at this
 cases he:iu (fun j=>P (g j)) m with
 | true =>
   have hi:Ag (fun j=>P (g j)) m=(fN (fun j=>P (g j)) m 0:Nat):=by unfold Ag;rw[if_pos he]
   have hlt:=ky he
   obtain ⟨_,_,s3,s4⟩:=iK (fun j=>P (g j)) m 0
   have s4:=s4 (by omega)
   rw[hi] at hc
   generalize fN (fun j=>P (g j)) m 0=r at *
   have hl:=O5 (n+1) P Q b0 b1 b2 b3 b4 b5 m g H r (fun k=>by rw[Nat.add_assoc];exact hQ _) hm (fun j g' hj=>h1 j g' hj) hlt (fun i hi=>s3 i (by omega) hi) s4
   have hk:(cA P g m).length<m:=by
    obtain ⟨k1,_⟩:=wT P g r (fun i hi=>s3 i (by omega) hi) s4
    have:=BW P g (r+1) (m-(r+1))
    rw[show r+1+(m-(r+1))=m by omega] at this
    omega
   refine ⟨fH (gk P g m) (cA P g m).length (fun x=>Int.ofNat 0) (m-(cA P g m).length),?_,fun x hx=>?_⟩
   · refine ba (n:=n+1) Tryz.func67 rfl rfl rfl (Qs (n+1) b0 b1 b2 b3 b4 b5 m g (gk P g m) H (r:Int) ((cA P g m).length:Int)) (cS _ (n+1) 0 (fun k=>mn (aT _) (fun x hx=>by rw[← Tr.ab hx];exact hc k))) (bL (ag _ _) QP (fun x hx=>by rw[← Tr.ab hx];simp only[gY.st,aY];exact hl)) (ah _ _) ?_
     have e3:dH ((cA P g m).length:Int)=(cA P g m).length:=fP _
     rw[e3,aQ,Nat.zero_add,gz]
     repeat' first | (refine Tr.al (fun hc=>?_) (fun hc=>?_)<;>(try simp (disch:=omega) only[nV,nW] at hc)<;>try omega) | (refine Tr.bf ?_ ?_;· (try simp (disch:=omega) only[nV,nW]);try omega) | (refine Tr.ay ?_ ?_;· first | exact trivial | rfl | exact ⟨rfl,rfl⟩ | exact ⟨rfl,rfl,rfl⟩ | (simp (disch:=omega) only[nV,nW];done) | ((try simp (disch:=omega) only[nV,nW]);omega)) | fail
     all_goals first
      | exact Tr.ay ⟨rfl,rfl⟩ (by
         exact wF)
      | exact Tr.aw ⟨rfl,rfl⟩
      | fail
   · rw[lf];unfold rJ
     rw[if_neg (by omega)]
     unfold gk;rw[if_pos hx]
 | false =>
   have hi:Ag (fun j=>P (g j)) m=-1:=by unfold Ag;rw[if_neg (by rw[he];decide)]
   rw[hi] at hc
   have hn:=qa he
   obtain ⟨_,_,s3,_⟩:=iK (fun j=>P (g j)) m 0
   obtain ⟨k1,k2⟩:=EU P g m (fun i hi=>s3 i (by omega) (by omega))
   refine ⟨g,?_,fun x hx=>(k2 x (by omega)).symm⟩
   rw[k1]
   refine ba (n:=n+1) Tryz.func67 rfl rfl rfl (MZ (n+1) b0 b1 b2 b3 b4 b5 m g H) (cS _ (n+1) 0 (fun k=>mn (aT _) (fun x hx=>by rw[← Tr.ab hx];exact hc k))) (iq (ag _ _) 0) (ah _ _) ?_
   exact wF
end
section
variable (n:Nat) (P:Int→Bool) (Q:Int→List AV→aa→Prop) (b0 b1 b2 b3 b4 b5 b6:Nat×ak) (m:Nat) (g:Nat→Int) (H:aa)
theorem Pc (hQ:∀ k x C H,Q x C H→cd (n+k) (.fn 87) (.int .i64 x::C) H=some (.bool (P x),H)) (hm:m≤1000) (h2:∀ j,j<m→Q (g j) [.ptr 2 0 0 0,.ptr 2 3 0 0] (aB::aB::iY b0 b1 b2 b3 b4 b5 b6 m g::H)) :
 exec (bz n 88 19) (.block 0 (.loop (part Tryz.f88 [1,0,1,0,0]))) (q8 m 0) (aB::aB::iY b0 b1 b2 b3 b4 b5 b6 m g::H)=some (cond (iu (fun j=>P (g j)) m) (.ret,[(4,.int .i64 (fN (fun j=>P (g j)) m 0:Nat))],aB::aB::iY b0 b1 b2 b3 b4 b5 b6 m g::H) (.normal,q8 m (Int.ofNat m)++[(9,.bool false)],aB::aB::iY b0 b1 b2 b3 b4 b5 b6 m g::H)):=by
 refine yi 0 (fun j=>q8 m (j:Int)) (fun _=>aB::aB::iY b0 b1 b2 b3 b4 b5 b6 m g::H) m (fun j=>P (g j)) (fun j=>([(4,.int .i64 (j:Nat))],aB::aB::iY b0 b1 b2 b3 b4 b5 b6 m g::H)) (q8 m (Int.ofNat m)++[(9,.bool false)],aB::aB::iY b0 b1 b2 b3 b4 b5 b6 m g::H) (by omega) (fun j hj=>?_) ?_
 · have ej : a8 .i64 (j:Int) (Int.ofNat 1)=((j+1:Nat):Int):=by rw[bV,show Int.ofNat 1=1 from rfl];exact cK (by omega) (by omega)
   have ei:ar 0 (j:Int) 1=j:=by rw[bC];omega
   have q2:=h2 j hj
   refine aG (MF n P Q b0 b1 b2 b3 b4 b5 b6 m g H (j:Int)) (cS _ n 0 (fun k=>ml (hQ k))) (ag _ _) (ah _ _) ?_
   rw[ej,ei]
   show Tr.all _ (fun x=>if P (g j)=true then _ else _)
   cases hp:P (g j) with
   | true =>
     simp only[if_true]
     refine Tr.al (fun hc=>?_) (fun hc=>?_)
     · repeat' first | (refine Tr.al (fun hc=>?_) (fun hc=>?_)<;>(try simp (disch:=omega) only[nV,nW] at hc)<;>try omega) | (refine Tr.bf ?_ ?_;· (try simp (disch:=omega) only[nV,nW]);try omega) | (refine Tr.ay ?_ ?_;· first | exact trivial | rfl | exact ⟨rfl,rfl⟩ | exact ⟨rfl,rfl,rfl⟩ | (simp (disch:=omega) only[nV,nW];done) | ((try simp (disch:=omega) only[nV,nW]);omega)) | fail
       all_goals first
        | exact q2
        | exact Tr.ay q2 (Tr.aw rfl)
        | (refine Tr.ay q2 ?_
           exact wF)
        | fail
     · simp (disch:=omega) only[nV,nW] at hc;omega
   | false =>
     simp only[Bool.false_eq_true,if_false]
     refine Tr.al (fun hc=>?_) (fun hc=>?_)
     · repeat' first | (refine Tr.al (fun hc=>?_) (fun hc=>?_)<;>(try simp (disch:=omega) only[nV,nW] at hc)<;>try omega) | (refine Tr.bf ?_ ?_;· (try simp (disch:=omega) only[nV,nW]);try omega) | (refine Tr.ay ?_ ?_;· first | exact trivial | rfl | exact ⟨rfl,rfl⟩ | exact ⟨rfl,rfl,rfl⟩ | (simp (disch:=omega) only[nV,nW];done) | ((try simp (disch:=omega) only[nV,nW]);omega)) | fail
       all_goals first
        | exact q2
        | (refine Tr.ay q2 ?_
           exact wF)
        | fail
     · simp (disch:=omega) only[nV,nW] at hc;omega
 · obtain ⟨x,h1,rfl⟩:=aG (Q:=fun x=>x=(.exit 0,q8 m (Int.ofNat m)++[(9,.bool false)],aB::aB::iY b0 b1 b2 b3 b4 b5 b6 m g::H)) (MF n P Q b0 b1 b2 b3 b4 b5 b6 m g H (Int.ofNat m)) (cS _ n 0 (fun k=>ml (hQ k))) (ag _ _) (ah _ _) (by
    refine Tr.al (fun hc=>?_) (fun hc=>Tr.aw rfl)
    simp (disch:=omega) only[nV,nW] at hc;omega)
   exact h1
theorem NT (hQ:∀ k x C H,Q x C H→cd (n+k) (.fn 87) (.int .i64 x::C) H=some (.bool (P x),H)) (hm:m≤1000) (h2:∀ j,j<m→Q (g j) [.ptr 2 0 0 0,.ptr 2 3 0 0] (aB::aB::iY b0 b1 b2 b3 b4 b5 b6 m g::H)) :
 cd (n+1) (.fn 88) [.slc 1 7 0 0 1 m none,.fn (.func 87) [] [.ptr 1 0 0 0,.ptr 1 3 0 0]] (aB::iY b0 b1 b2 b3 b4 b5 b6 m g::H)=some (.int .i64 (Ag (fun j=>P (g j)) m),aB::iY b0 b1 b2 b3 b4 b5 b6 m g::H):=by
 have hl:=Pc n P Q b0 b1 b2 b3 b4 b5 b6 m g H hQ hm h2
 refine ba (n:=n) Tryz.func88 rfl rfl rfl (Qy n b0 b1 b2 b3 b4 b5 b6 m g H (iu (fun j=>P (g j)) m) (fN (fun j=>P (g j)) m 0)) (aO n) (bL (ag _ _) QQ (fun x hx=>by
  refine Eq.trans hl ?_
  rcases Tr.gr hx with ⟨hc,hx⟩ | ⟨hc,hx⟩
  · rw[hc,← Tr.ab hx];rfl
  · rw[hc,← Tr.ab hx];simp only[cond_false,gY.st,aY])) (ah _ _) ?_
 refine Tr.ay ⟨rfl,rfl⟩ (Tr.al (fun hc=>Tr.aw ⟨?_,rfl⟩) (fun hc=>Tr.aw ⟨?_,rfl⟩))
 · unfold Ag;rw[if_pos hc];rfl
 · unfold Ag;rw[if_neg (by rw[hc];decide)];rfl
theorem O6 (r:Nat) (hQ:∀ k x C H,Q x C H→cd (n+k) (.fn 87) (.int .i64 x::C) H=some (.bool (P x),H)) (hm:m≤1000) (h1:∀ j g',j<m→Q (g j) [.ptr 1 0 0 0,.ptr 1 3 0 0] (aB::iY b0 b1 b2 b3 b4 b5 b6 m g'::H)) (hr:r<m) (h3:∀ i,i<r→P (g i)=false) (h4:P (g r)=true) :
 exec (bz n 67 42) (.block 0 (.loop (part Tryz.f67 [1,1,1,0,1,0,0]))) (qY m (r:Int) (a8 .i64 (r:Int) (Int.ofNat 1))) (aB::iY b0 b1 b2 b3 b4 b5 b6 m g::H)=some (.normal,qY m ((cA P g m).length:Int) (Int.ofNat m)++[(19,.bool false)],aB::iY b0 b1 b2 b3 b4 b5 b6 m (gk P g m)::H):=by
 obtain ⟨k1,k2⟩:=wT P g r h3 h4
 have e0:a8 .i64 (r:Int) (Int.ofNat 1)=((r+1+0:Nat):Int):=by rw[bV,show Int.ofNat 1=1 from rfl];exact cK (by omega) (by omega)
 have:=nD (n:=n) (f:=67) (nt:=42) (c:=part Tryz.f67 [1,1,1,0,1,0,0]) 0 (fun j=>qY m ((cA P g (r+1+j)).length:Int) ((r+1+j:Nat):Int)) (fun j=>aB::iY b0 b1 b2 b3 b4 b5 b6 m (gk P g (r+1+j))::H) (m-(r+1)) (qY m ((cA P g m).length:Int) (Int.ofNat m)++[(19,.bool false)],aB::iY b0 b1 b2 b3 b4 b5 b6 m (gk P g m)::H) (by omega) (fun j hj=>?_) ?_
 · rw[show r+1+0=r+1 from rfl,k1,k2] at this
   rw[e0];exact this
 · generalize hJ:r+1+j=J
   rw[show r+1+(j+1)=J+1 by omega]
   have hJm:J<m:=by omega
   have ej:a8 .i64 (J:Int) (Int.ofNat 1)=((J+1:Nat):Int):=by rw[bV,show Int.ofNat 1=1 from rfl];exact cK (by omega) (by omega)
   have ei:ar 0 (J:Int) 1=J:=by rw[bC];omega
   have hl:=qp P g J
   have q1:=h1 J (gk P g J) hJm
   have ga:=ID P g J
   have ea:a8 .i64 ((cA P g J).length:Int) (Int.ofNat 1)=(((cA P g J).length+1:Nat):Int):=by rw[bV,show Int.ofNat 1=1 from rfl];exact cK (by omega) (by omega)
   have ei2:ar 0 ((cA P g J).length:Int) 1=(cA P g J).length:=by rw[bC];omega
   refine aG (Mv n P Q b0 b1 b2 b3 b4 b5 b6 m (gk P g J) H ((cA P g J).length:Int) (J:Int)) (cS _ n 0 (fun k=>ml (hQ k))) (ag _ _) (ah _ _) ?_
   rw[ej,ei,ga,ea,ei2]
   cases hp:P (g J) with
   | true =>
     obtain ⟨o1,o2⟩:=AD P g J hp
     rw[o1,o2]
     refine Tr.al (fun hc=>?_) (fun hc=>?_)
     · repeat' first | (refine Tr.al (fun hc=>?_) (fun hc=>?_)<;>(try simp (disch:=omega) only[nV,nW] at hc)<;>try omega) | (refine Tr.bf ?_ ?_;· (try simp (disch:=omega) only[nV,nW]);try omega) | (refine Tr.ay ?_ ?_;· first | exact trivial | rfl | exact ⟨rfl,rfl⟩ | exact ⟨rfl,rfl,rfl⟩ | (simp (disch:=omega) only[nV,nW];done) | ((try simp (disch:=omega) only[nV,nW]);omega)) | fail
       all_goals first
        | exact q1
        | (refine Tr.ay q1 ?_
           exact wF)
        | fail
     · simp (disch:=omega) only[nV,nW] at hc;omega
   | false =>
     have o1:=IE P g J hp
     have o2:(cA P g (J+1)).length=(cA P g J).length+1:=by
      show (if P (g J)=true then cA P g J else cA P g J++[g J]).length=_
      rw[hp,if_neg (by decide),List.length_append];rfl
     rw[o1,o2]
     refine Tr.al (fun hc=>?_) (fun hc=>?_)
     · repeat' first | (refine Tr.al (fun hc=>?_) (fun hc=>?_)<;>(try simp (disch:=omega) only[nV,nW] at hc)<;>try omega) | (refine Tr.bf ?_ ?_;· (try simp (disch:=omega) only[nV,nW]);try omega) | (refine Tr.ay ?_ ?_;· first | exact trivial | rfl | exact ⟨rfl,rfl⟩ | exact ⟨rfl,rfl,rfl⟩ | (simp (disch:=omega) only[nV,nW];done) | ((try simp (disch:=omega) only[nV,nW]);omega)) | fail
       all_goals first
        | exact q1
        | (refine Tr.ay q1 ?_
           exact wF)
        | fail
     · simp (disch:=omega) only[nV,nW] at hc;omega
 · rw[show r+1+(m-(r+1))=m by omega]
   obtain ⟨x,h1,rfl⟩:=aG (Q:=fun x=>x=(.exit 0,qY m ((cA P g m).length:Int) (Int.ofNat m)++[(19,.bool false)],aB::iY b0 b1 b2 b3 b4 b5 b6 m (gk P g m)::H)) (Mv n P Q b0 b1 b2 b3 b4 b5 b6 m (gk P g m) H ((cA P g m).length:Int) (Int.ofNat m)) (cS _ n 0 (fun k=>ml (hQ k))) (ag _ _) (ah _ _) (by
    refine Tr.al (fun hc=>?_) (fun hc=>Tr.aw rfl)
    simp (disch:=omega) only[nV,nW] at hc;omega)
   exact h1
theorem NR (hQ:∀ k x C H,Q x C H→cd (n+k) (.fn 87) (.int .i64 x::C) H=some (.bool (P x),H)) (hm:m≤1000) (h1:∀ j g',j<m→Q (g j) [.ptr 1 0 0 0,.ptr 1 3 0 0] (aB::iY b0 b1 b2 b3 b4 b5 b6 m g'::H)) (h2:∀ j,j<m→Q (g j) [.ptr 2 0 0 0,.ptr 2 3 0 0] (aB::aB::iY b0 b1 b2 b3 b4 b5 b6 m g::H)) :
 ∃ g',cd (n+2) (.fn 67) [.slc 0 7 0 0 1 m none,.fn (.func 87) [] [.ptr 0 0 0 0,.ptr 0 3 0 0]] (iY b0 b1 b2 b3 b4 b5 b6 m g::H)=some (.slc 0 7 0 0 1 (cA P g m).length none,iY b0 b1 b2 b3 b4 b5 b6 m g'::H)∧∀ x,x<(cA P g m).length→g' x=(cA P g m).getD x 0:=by
 have hc:∀ k,cd (n+1+k) (.fn 88) [.slc 1 7 0 0 1 m none,.fn (.func 87) [] [.ptr 1 0 0 0,.ptr 1 3 0 0]] (aB::iY b0 b1 b2 b3 b4 b5 b6 m g::H)=some (.int .i64 (Ag (fun j=>P (g j)) m),aB::iY b0 b1 b2 b3 b4 b5 b6 m g::H):=fun k=>by
  have:=NT (n+k) P Q b0 b1 b2 b3 b4 b5 b6 m g H (fun k2=>by rw[Nat.add_assoc];exact hQ _) hm h2
  rwa [show n+k+1=n+1+k by omega] at this
 cases he:iu (fun j=>P (g j)) m with
 | true =>
   have hi:Ag (fun j=>P (g j)) m=(fN (fun j=>P (g j)) m 0:Nat):=by unfold Ag;rw[if_pos he]
   have hlt:=ky he
   obtain ⟨_,_,s3,s4⟩:=iK (fun j=>P (g j)) m 0
   have s4:=s4 (by omega)
   rw[hi] at hc
   generalize fN (fun j=>P (g j)) m 0=r at *
   have hl:=O6 (n+1) P Q b0 b1 b2 b3 b4 b5 b6 m g H r (fun k=>by rw[Nat.add_assoc];exact hQ _) hm (fun j g' hj=>h1 j g' hj) hlt (fun i hi=>s3 i (by omega) hi) s4
   have hk:(cA P g m).length<m:=by
    obtain ⟨k1,_⟩:=wT P g r (fun i hi=>s3 i (by omega) hi) s4
    have:=BW P g (r+1) (m-(r+1))
    rw[show r+1+(m-(r+1))=m by omega] at this
    omega
   refine ⟨fH (gk P g m) (cA P g m).length (fun x=>Int.ofNat 0) (m-(cA P g m).length),?_,fun x hx=>?_⟩
   · refine ba (n:=n+1) Tryz.func67 rfl rfl rfl (Qt (n+1) b0 b1 b2 b3 b4 b5 b6 m g (gk P g m) H (r:Int) ((cA P g m).length:Int)) (cS _ (n+1) 0 (fun k=>mn (aT _) (fun x hx=>by rw[← Tr.ab hx];exact hc k))) (bL (ag _ _) QP (fun x hx=>by rw[← Tr.ab hx];simp only[gY.st,aY];exact hl)) (ah _ _) ?_
     have e3:dH ((cA P g m).length:Int)=(cA P g m).length:=fP _
     rw[e3,aQ,Nat.zero_add,gz]
     repeat' first | (refine Tr.al (fun hc=>?_) (fun hc=>?_)<;>(try simp (disch:=omega) only[nV,nW] at hc)<;>try omega) | (refine Tr.bf ?_ ?_;· (try simp (disch:=omega) only[nV,nW]);try omega) | (refine Tr.ay ?_ ?_;· first | exact trivial | rfl | exact ⟨rfl,rfl⟩ | exact ⟨rfl,rfl,rfl⟩ | (simp (disch:=omega) only[nV,nW];done) | ((try simp (disch:=omega) only[nV,nW]);omega)) | fail
     all_goals first
      | exact Tr.ay ⟨rfl,rfl⟩ (by
         exact wF)
      | exact Tr.aw ⟨rfl,rfl⟩
      | fail
   · rw[lf];unfold rJ
     rw[if_neg (by omega)]
     unfold gk;rw[if_pos hx]
 | false =>
   have hi:Ag (fun j=>P (g j)) m=-1:=by unfold Ag;rw[if_neg (by rw[he];decide)]
   rw[hi] at hc
   have hn:=qa he
   obtain ⟨_,_,s3,_⟩:=iK (fun j=>P (g j)) m 0
   obtain ⟨k1,k2⟩:=EU P g m (fun i hi=>s3 i (by omega) (by omega))
   refine ⟨g,?_,fun x hx=>(k2 x (by omega)).symm⟩
   rw[k1]
   refine ba (n:=n+1) Tryz.func67 rfl rfl rfl (M7 (n+1) b0 b1 b2 b3 b4 b5 b6 m g H) (cS _ (n+1) 0 (fun k=>mn (aT _) (fun x hx=>by rw[← Tr.ab hx];exact hc k))) (iq (ag _ _) 0) (ah _ _) ?_
   exact wF
end
section
variable (n:Nat) (P:Int→Bool) (Q:Int→List AV→aa→Prop) (b0:Nat×ak) (m:Nat) (g:Nat→Int) (H:aa)
end
section
variable (n:Nat) (P:Int→Bool) (Q:Int→List AV→aa→Prop) (b0 b1:Nat×ak) (m:Nat) (g:Nat→Int) (H:aa)
end
end Go.Eng
