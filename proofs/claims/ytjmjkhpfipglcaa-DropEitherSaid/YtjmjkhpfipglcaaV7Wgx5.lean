/- Drop: CheckWay of the program. -/
import Derived.Test.YtjmjkhpfipglcaaV7Wax3
import Derived.Test.YtjmjkhpfipglcaaV7Kp
import Derived.Test.YtjmjkhpfipglcaaV7Wdx2
import Derived.Test.YtjmjkhpfipglcaaV7Kq
section
namespace Go.Eng
open Go.Proofs
set_option linter.unusedVariables false
set_option linter.unusedSimpArgs false
set_option maxRecDepth 100000
noncomputable def dp (w:Int) (ls ld:Nat) (zs zd sz kd:Nat→Int):b6:=⟨false,[(0,.row (.G [.int .i64 w,aU 2 ls zs,aU 3 ld zd])),(0,.row (.G [a9 0 w ls ld zs zd sz kd]))]⟩
noncomputable def tJ (full:Bool) (m:Nat) (z:Nat→Int) (j:Int):aO:=[(0,bn m z full),(1,.fn (.func 84) [] [.ptr 2 1 0 0]),(7,.int .i64 (Int.ofNat m)),(8,.int .i64 j)]
noncomputable def nQ (full:Bool) (m:Nat) (z:Nat→Int) (sure:Bool) (j:Int):aO:=[(1,bn m z full),(2,.bool sure),(7,.ptr 0 1 0 0),(35,bn m z full),(36,.int .i64 (Int.ofNat m)),(37,.int .i64 j)]
noncomputable def pF (full:Bool) (m K:Nat) (z y:Nat→Int) (sure:Bool) (j:Int):aO:=[(1,bn m z full),(2,.bool sure),(7,.ptr 0 1 0 0),(49,bn K y full),(50,.int .i64 (Int.ofNat K)),(51,.int .i64 j)]
theorem t106 (n:Nat) (w:Int) (ls ld m:Nat) (zs zd sz kd z:Nat→Int) (H:ae) (j:Int) (full:Bool):aH (bF (n+3) 106 19) (il aG (n+1) 2) aJ aK (part Try.f106 [1,0,1,0,0]) (hints (tJ full m z j)) (af::af::dp w ls ld zs zd sz kd::H) =
 (fun (Z0:b6)=>Tr.ite (bA j (Int.ofNat m)) (Tr.req (br j m) (Tr.req (bt (al 0 j 1) m) (Tr.ite (dA (Int.negSucc 1) (z (al 0 j 1))) (Tr.ite (aD (bA (z (al 0 j 1)) (Int.ofNat ls))) (Tr.ok (Ex.ret,[(4,AV.int .i64 j,none)],af::af::Z0::H)) (Tr.ok (Ex.normal,[(0,bn m z full,none),(1,AV.fn (Fn.func 84) [] [AV.ptr 2 1 0 0],none),(7,AV.int .i64 (Int.ofNat m),none),(8,AV.int .i64 (ay .i64 j (Int.ofNat 1)),none)],af::af::Z0::H))) (Tr.ok (Ex.ret,[(4,AV.int .i64 j,none)],af::af::Z0::H))))) (Tr.ok (Ex.exit 0,[(0,bn m z full,none),(1,AV.fn (Fn.func 84) [] [AV.ptr 2 1 0 0],none),(7,AV.int .i64 (Int.ofNat m),none),(8,AV.int .i64 j,none),(9,AV.bool false,some 1)],af::af::Z0::H))) { lock:=false,bs:=[(0,aj.row (Row.G [AV.int .i64 w,aU 2 ls zs,aU 3 ld zd])),(0,aj.row (Row.G [a9 0 w ls ld zs zd sz kd]))] }:=by kernel_rfl
theorem On (n:Nat) (w:Int) (ls ld m:Nat) (zs zd sz kd z:Nat→Int) (H:ae) (q:Bool) (i:Int) (full:Bool):aW Try.prog (cd (n+3)) 100000 106 Try.f106 (Kt.kt 106) (il aG (n+1) 2) (dc aJ 0 (tJ full m z 0) (af::af::dp w ls ld zs zd sz kd::H) (.ite q (.ok (.ret,[(4,.int .i64 i,none)],af::af::dp w ls ld zs zd sz kd::H)) (.ok (.normal,hints (tJ full m z (Int.ofNat m)++[(9,.bool false)]),af::af::dp w ls ld zs zd sz kd::H)))) aK [(bn m z full,none),(.fn (.func 84) [] [.ptr 1 1 0 0],none)] (af::dp w ls ld zs zd sz kd::H) =
 (fun (Z0:b6)=>((fun (Z1:aO)=>Tr.reqP (Z1=Z1∧af::af::Z0::H=af::af::Z0::H) (Tr.ite q (Tr.ok ((AV.int .i64 i,none),af::Z0::H)) (Tr.ok ((AV.int .i64 (Int.negSucc 0),some 1),af::Z0::H)))) [(0,bn m z full),(1,AV.fn (Fn.func 84) [] [AV.ptr 2 1 0 0]),(7,AV.int .i64 (Int.ofNat m)),(8,AV.int .i64 (Int.ofNat 0))])) { lock:=false,bs:=[(0,aj.row (Row.G [AV.int .i64 w,aU 2 ls zs,aU 3 ld zd])),(0,aj.row (Row.G [a9 0 w ls ld zs zd sz kd]))] }:=by kernel_rfl
theorem R0 (n:Nat) (w:Int) (ls ld m:Nat) (zs zd sz kd z:Nat→Int) (H:ae) (i:Int) (full:Bool):aW Try.prog (cd (n+4)) 100000 83 Try.f83 (Kt.kt 83) (il (sJ aG 106 [bn m z full,.fn (.func 84) [] [.ptr 1 1 0 0]] (af::dp w ls ld zs zd sz kd::H) (.ok (.int .i64 i,af::dp w ls ld zs zd sz kd::H))) (n+4) 0) aJ aK [(bn m z full,none),(.fn (.func 84) [] [.ptr 0 1 0 0],none)] (dp w ls ld zs zd sz kd::H) =
 (fun (Z0:b6)=>Tr.reqP ([bn m z full,AV.fn (Fn.func 84) [] [AV.ptr 1 1 0 0]]=[bn m z full,AV.fn (Fn.func 84) [] [AV.ptr 1 1 0 0]]∧af::Z0::H=af::Z0::H) (Tr.ok ((AV.bool (dA (Int.ofNat 0) i),none),Z0::H))) { lock:=false,bs:=[(0,aj.row (Row.G [AV.int .i64 w,aU 2 ls zs,aU 3 ld zd])),(0,aj.row (Row.G [a9 0 w ls ld zs zd sz kd]))] }:=by kernel_rfl
theorem KJ (n:Nat) (w:Int) (ls ld m:Nat) (zs zd sz kd z:Nat→Int) (H:ae) (j:Int) (sure:Bool) (f:(Nat→Int)→Nat→Int→Bool) (full:Bool):aH (bF (n+15) 32 66) (il (b7 aG 85 (zy f)) (n+15) 0) aJ aK (part Try.f32 [1,1,1,0,1,0,0]) (hints (nQ full m z sure j)) (dp w ls ld zs zd sz kd::H) =
 (fun (Z0:b6)=>Tr.ite (bA j (Int.ofNat m)) (Tr.req (br j m) (Tr.req (bt (al 0 j 1) m) (Tr.req (mN j m) (Tr.req (cB (au 0 (fi j)) m) (Tr.reqP (fi j=fi j∧cB (fi j) 1000=true) (Tr.ite (f z (fi j) (z (al 0 j 1))) (Tr.ok (Ex.ret,[(6,AV.int .i64 (Int.ofNat 15),some 1)],Z0::H)) (Tr.ok (Ex.normal,[(1,bn m z full,none),(2,AV.bool sure,none),(7,AV.ptr 0 1 0 0,none),(35,bn m z full,none),(36,AV.int .i64 (Int.ofNat m),none),(37,AV.int .i64 (ay .i64 j (Int.ofNat 1)),none)],Z0::H)))))))) (Tr.ok (Ex.exit 1,[(1,bn m z full,none),(2,AV.bool sure,none),(7,AV.ptr 0 1 0 0,none),(35,bn m z full,none),(36,AV.int .i64 (Int.ofNat m),none),(37,AV.int .i64 j,none),(38,AV.bool false,some 1)],Z0::H))) { lock:=false,bs:=[(0,aj.row (Row.G [AV.int .i64 w,aU 2 ls zs,aU 3 ld zd])),(0,aj.row (Row.G [a9 0 w ls ld zs zd sz kd]))] }:=by kernel_rfl
theorem KK (n:Nat) (w:Int) (ls ld m K:Nat) (zs zd sz kd z y:Nat→Int) (H:ae) (j:Int) (sure:Bool) (full:Bool):aH (bF (n+15) 32 66) (il aG (n+13) 2) aJ aK (part Try.f32 [1,1,1,1,0,1,0,0]) (hints (pF full m K z y sure j)) (dp w ls ld zs zd sz kd::H) =
 (fun (Z0:b6)=>((fun (Z1:a8)=>Tr.ite (bA j (Int.ofNat K)) (Tr.req (br j K) (Tr.req (bt (al 0 j 1) K) (Tr.req (br j m) (Tr.req (bt (al 0 j 1) m) (Tr.ite sure (Tr.req (br (ay .i64 (z (al 0 j 1)) (Int.ofNat 2)) 12) (Tr.req (br (ay .i64 (y (al 0 j 1)) (Int.ofNat 2)) 12) (Tr.req (kO (al (al 4 (ay .i64 (z (al 0 j 1)) (Int.ofNat 2)) 12) (ay .i64 (y (al 0 j 1)) (Int.ofNat 2)) 1) 1 4 144) (Tr.ite (aD (dA (Int.ofNat 2) (kd (fM (al (al 4 (ay .i64 (z (al 0 j 1)) (Int.ofNat 2)) 12) (ay .i64 (y (al 0 j 1)) (Int.ofNat 2)) 1) 4)))) (Tr.ok (Ex.ret,[(6,AV.int .i64 (Int.ofNat 17),some 1)],Z0::H)) (Tr.ok (Ex.normal,Z1,Z0::H)))))) (Tr.req (br (ay .i64 (z (al 0 j 1)) (Int.ofNat 2)) 12) (Tr.req (br (ay .i64 (y (al 0 j 1)) (Int.ofNat 2)) 12) (Tr.req (kO (al (al 4 (ay .i64 (z (al 0 j 1)) (Int.ofNat 2)) 12) (ay .i64 (y (al 0 j 1)) (Int.ofNat 2)) 1) 1 4 144) (Tr.ite (aD (dA (Int.ofNat 1) (kd (fM (al (al 4 (ay .i64 (z (al 0 j 1)) (Int.ofNat 2)) 12) (ay .i64 (y (al 0 j 1)) (Int.ofNat 2)) 1) 4)))) (Tr.ok (Ex.ret,[(6,AV.int .i64 (Int.ofNat 17),some 1)],Z0::H)) (Tr.ok (Ex.normal,Z1,Z0::H))))))))))) (Tr.ok (Ex.exit 3,[(1,bn m z full,none),(2,AV.bool sure,none),(7,AV.ptr 0 1 0 0,none),(49,AV.slcT none (Row.M [aC.arr .i64 y K]) 1 K full,none),(50,AV.int .i64 (Int.ofNat K),none),(51,AV.int .i64 j,none),(52,AV.bool false,some 1)],Z0::H))) [(1,bn m z full,none),(2,AV.bool sure,none),(7,AV.ptr 0 1 0 0,none),(49,AV.slcT none (Row.M [aC.arr .i64 y K]) 1 K full,none),(50,AV.int .i64 (Int.ofNat K),none),(51,AV.int .i64 (ay .i64 j (Int.ofNat 1)),none)])) { lock:=false,bs:=[(0,aj.row (Row.G [AV.int .i64 w,aU 2 ls zs,aU 3 ld zd])),(0,aj.row (Row.G [a9 0 w ls ld zs zd sz kd]))] }:=by kernel_rfl
theorem OC (n:Nat) (w:Int) (ls ld m:Nat) (zs zd z:Nat→Int) (H:ae) (e:Int) (sure:Bool) (full:Bool):aW Try.prog (cd (n+15)) 100000 32 Try.f32 (Kt.kt 32) (il (b7 (b7 aG 58 (Ek (aa w ls zs ld zd) .nilp e)) 83 (fun _=>none)) (n+14) 1) (fY aJ 1) aK [(aa w ls zs ld zd,none),(bn m z full,none),(.bool sure,none)] H =
 Tr.reqP (aa w ls zs ld zd=aa w ls zs ld zd) (Tr.ite (aD (aF e (Int.ofNat 0))) (Tr.ok ((AV.int .i64 e,none),H)) (Tr.ite (bA (Int.ofNat m) (Int.ofNat 2)) (Tr.ok ((AV.int .i64 (Int.ofNat 6),some 1),H)) (Tr.ite (bA (Int.ofNat 12) (Int.ofNat m)) (Tr.ok ((AV.int .i64 (Int.ofNat 6),some 1),H)) Tr.bad))):=by kernel_rfl
theorem Lj (n:Nat) (w:Int) (ls ld m:Nat) (zs zd sz kd z:Nat→Int) (H:ae) (sure b:Bool) (full:Bool):aW Try.prog (cd (n+15)) 100000 32 Try.f32 (Kt.kt 32) (il (sJ (b7 aG 58 (Ek (aa w ls zs ld zd) (gu w ls ld zs zd sz kd) 0)) 83 [bn m z full,.fn (.func 84) [] [.ptr 0 1 0 0]] (dp w ls ld zs zd sz kd::H) (.ok (.bool b,dp w ls ld zs zd sz kd::H))) (n+14) 1) (fY aJ 1) aK [(aa w ls zs ld zd,none),(bn m z full,none),(.bool sure,none)] H =
 (fun (Z0:b6)=>Tr.reqP (aa w ls zs ld zd=aa w ls zs ld zd) (Tr.ite (aD (aF (Int.ofNat 0) (Int.ofNat 0))) (Tr.ok ((AV.int .i64 (Int.ofNat 0),none),H)) (Tr.ite (bA (Int.ofNat m) (Int.ofNat 2)) (Tr.ok ((AV.int .i64 (Int.ofNat 6),some 1),H)) (Tr.ite (bA (Int.ofNat 12) (Int.ofNat m)) (Tr.ok ((AV.int .i64 (Int.ofNat 6),some 1),H)) (Tr.reqP ([bn m z full,AV.fn (Fn.func 84) [] [AV.ptr 0 1 0 0]]=[bn m z full,AV.fn (Fn.func 84) [] [AV.ptr 0 1 0 0]]∧Z0::H=Z0::H) (Tr.ite b (Tr.ok ((AV.int .i64 (Int.ofNat 2),some 1),H)) Tr.bad)))))) { lock:=false,bs:=[(0,aj.row (Row.G [AV.int .i64 w,aU 2 ls zs,aU 3 ld zd])),(0,aj.row (Row.G [a9 0 w ls ld zs zd sz kd]))] }:=by kernel_rfl
theorem OB (n:Nat) (w:Int) (ls ld m:Nat) (zs zd sz kd z:Nat→Int) (H:ae) (sure:Bool) (full:Bool):aW Try.prog (cd (n+15)) 100000 32 Try.f32 (Kt.kt 32) (il (b7 (b7 aG 58 (Ek (aa w ls zs ld zd) (gu w ls ld zs zd sz kd) 0)) 83 (fun _=>none)) (n+14) 1) (fY aJ 1) aK [(aa w ls zs ld zd,none),(bn m z full,none),(.bool sure,none)] H =
 Tr.reqP (aa w ls zs ld zd=aa w ls zs ld zd) (Tr.ite (aD (aF (Int.ofNat 0) (Int.ofNat 0))) (Tr.ok ((AV.int .i64 (Int.ofNat 0),none),H)) (Tr.ite (bA (Int.ofNat m) (Int.ofNat 2)) (Tr.ok ((AV.int .i64 (Int.ofNat 6),some 1),H)) (Tr.ite (bA (Int.ofNat 12) (Int.ofNat m)) (Tr.ok ((AV.int .i64 (Int.ofNat 6),some 1),H)) Tr.bad))):=by kernel_rfl
theorem Oz (n:Nat) (w:Int) (ls ld m:Nat) (zs zd sz kd z:Nat→Int) (H:ae) (sure b:Bool) (full:Bool):aW Try.prog (cd (n+15)) 100000 32 Try.f32 (Kt.kt 32) (il (sJ (b7 aG 58 (Ek (aa w ls zs ld zd) (gu w ls ld zs zd sz kd) 0)) 83 [bn m z full,.fn (.func 84) [] [.ptr 0 1 0 0]] (dp w ls ld zs zd sz kd::H) (.ok (.bool b,dp w ls ld zs zd sz kd::H))) (n+14) 1) (dc aJ 1 (nQ full m z sure 0) (dp w ls ld zs zd sz kd::H) (.ok (.ret,[(6,.int .i64 15,none)],dp w ls ld zs zd sz kd::H))) aK [(aa w ls zs ld zd,none),(bn m z full,none),(.bool sure,none)] H =
 (fun (Z0:b6)=>((fun (Z1:aO)=>Tr.reqP (aa w ls zs ld zd=aa w ls zs ld zd) (Tr.ite (aD (aF (Int.ofNat 0) (Int.ofNat 0))) (Tr.ok ((AV.int .i64 (Int.ofNat 0),none),H)) (Tr.ite (bA (Int.ofNat m) (Int.ofNat 2)) (Tr.ok ((AV.int .i64 (Int.ofNat 6),some 1),H)) (Tr.ite (bA (Int.ofNat 12) (Int.ofNat m)) (Tr.ok ((AV.int .i64 (Int.ofNat 6),some 1),H)) (Tr.reqP ([bn m z full,AV.fn (Fn.func 84) [] [AV.ptr 0 1 0 0]]=[bn m z full,AV.fn (Fn.func 84) [] [AV.ptr 0 1 0 0]]∧Z0::H=Z0::H) (Tr.ite b (Tr.ok ((AV.int .i64 (Int.ofNat 2),some 1),H)) (Tr.reqP (Z1=Z1∧Z0::H=Z0::H) (Tr.ok ((AV.int .i64 (Int.ofNat 15),none),H))))))))) [(1,bn m z full),(2,AV.bool sure),(7,AV.ptr 0 1 0 0),(35,bn m z full),(36,AV.int .i64 (Int.ofNat m)),(37,AV.int .i64 (Int.ofNat 0))])) { lock:=false,bs:=[(0,aj.row (Row.G [AV.int .i64 w,aU 2 ls zs,aU 3 ld zd])),(0,aj.row (Row.G [a9 0 w ls ld zs zd sz kd]))] }:=by kernel_rfl
theorem OA (n:Nat) (w:Int) (ls ld m K:Nat) (zs zd sz kd z y:Nat→Int) (H:ae) (sure b q3:Bool) (full:Bool):aW Try.prog (cd (n+15)) 100000 32 Try.f32 (Kt.kt 32) (il (sJ (b7 aG 58 (Ek (aa w ls zs ld zd) (gu w ls ld zs zd sz kd) 0)) 83 [bn m z full,.fn (.func 84) [] [.ptr 0 1 0 0]] (dp w ls ld zs zd sz kd::H) (.ok (.bool b,dp w ls ld zs zd sz kd::H))) (n+14) 1) (dc (dc aJ 3 (pF full m K z y sure 0) (dp w ls ld zs zd sz kd::H) (.ite q3 (.ok (.ret,[(6,.int .i64 17,none)],dp w ls ld zs zd sz kd::H)) (.ok (.normal,hints (pF full m K z y sure (Int.ofNat K)++[(52,.bool false)]),dp w ls ld zs zd sz kd::H)))) 1 (nQ full m z sure 0) (dp w ls ld zs zd sz kd::H) (.ok (.normal,hints (nQ full m z sure (Int.ofNat m)++[(38,.bool false)]),dp w ls ld zs zd sz kd::H))) aK [(aa w ls zs ld zd,none),(bn m z full,none),(.bool sure,none)] H =
 (fun (Z0:b6)=>((fun (Z1:aO)=>Tr.reqP (aa w ls zs ld zd=aa w ls zs ld zd) (Tr.ite (aD (aF (Int.ofNat 0) (Int.ofNat 0))) (Tr.ok ((AV.int .i64 (Int.ofNat 0),none),H)) (Tr.ite (bA (Int.ofNat m) (Int.ofNat 2)) (Tr.ok ((AV.int .i64 (Int.ofNat 6),some 1),H)) (Tr.ite (bA (Int.ofNat 12) (Int.ofNat m)) (Tr.ok ((AV.int .i64 (Int.ofNat 6),some 1),H)) (Tr.reqP ([bn m z full,AV.fn (Fn.func 84) [] [AV.ptr 0 1 0 0]]=[bn m z full,AV.fn (Fn.func 84) [] [AV.ptr 0 1 0 0]]∧Z0::H=Z0::H) (Tr.ite b (Tr.ok ((AV.int .i64 (Int.ofNat 2),some 1),H)) (Tr.reqP (Z1=Z1∧Z0::H=Z0::H) (Tr.req (mN (Int.ofNat 1) m) (Tr.req (cB (au (fi (Int.ofNat 1)) (fM m (fi (Int.ofNat 1)))) m) (Tr.reqP ([(1,bn m z full),(2,AV.bool sure),(7,AV.ptr 0 1 0 0),(49,AV.slcT none (Row.M [aC.arr .i64 (nv z (fi (Int.ofNat 1))) (fM m (fi (Int.ofNat 1)))]) 1 (fM m (fi (Int.ofNat 1))) full),(50,AV.int .i64 (Int.ofNat (fM m (fi (Int.ofNat 1))))),(51,AV.int .i64 (Int.ofNat 0))]=[(1,bn m z full),(2,AV.bool sure),(7,AV.ptr 0 1 0 0),(49,AV.slcT none (Row.M [aC.arr .i64 y K]) 1 K full),(50,AV.int .i64 (Int.ofNat K)),(51,AV.int .i64 (Int.ofNat 0))]∧Z0::H=Z0::H) (Tr.ite q3 (Tr.ok ((AV.int .i64 (Int.ofNat 17),none),H)) (Tr.ok ((AV.int .i64 (Int.ofNat 0),some 1),H))))))))))))) [(1,bn m z full),(2,AV.bool sure),(7,AV.ptr 0 1 0 0),(35,bn m z full),(36,AV.int .i64 (Int.ofNat m)),(37,AV.int .i64 (Int.ofNat 0))])) { lock:=false,bs:=[(0,aj.row (Row.G [AV.int .i64 w,aU 2 ls zs,aU 3 ld zd])),(0,aj.row (Row.G [a9 0 w ls ld zs zd sz kd]))] }:=by kernel_rfl
section
variable (n:Nat) (w:Int) (ls ld m:Nat) (zs zd sz kd z:Nat→Int) (H:ae) (sure full:Bool)
theorem LB:∀ b,(0,b) ∈ av (aL Try.f106)→b=.loop (part Try.f106 [1,0,1,0,0]):=by
 have:((av (aL Try.f106)).filter fun x=>Nat.beq x.1 0)=[(0,.loop (part Try.f106 [1,0,1,0,0]))]:=by kernel_rfl
 intro b hb
 have hm:(0,b) ∈ ((av (aL Try.f106)).filter fun x=>Nat.beq x.1 0):=List.mem_filter.2 ⟨hb,rfl⟩
 rw[this] at hm;simpa using hm
theorem IU:∀ b,(1,b) ∈ av (aL Try.f32)→b=.loop (part Try.f32 [1,1,1,0,1,0,0]):=by
 have:((av (aL Try.f32)).filter fun x=>Nat.beq x.1 1)=[(1,.loop (part Try.f32 [1,1,1,0,1,0,0]))]:=by kernel_rfl
 intro b hb
 have hm:(1,b) ∈ ((av (aL Try.f32)).filter fun x=>Nat.beq x.1 1):=List.mem_filter.2 ⟨hb,rfl⟩
 rw[this] at hm;simpa using hm
theorem LF:∀ b,(3,b) ∈ av (aL Try.f32)→b=.loop (part Try.f32 [1,1,1,1,0,1,0,0]):=by
 have:((av (aL Try.f32)).filter fun x=>Nat.beq x.1 3)=[(3,.loop (part Try.f32 [1,1,1,1,0,1,0,0]))]:=by kernel_rfl
 intro b hb
 have hm:(3,b) ∈ ((av (aL Try.f32)).filter fun x=>Nat.beq x.1 3):=List.mem_filter.2 ⟨hb,rfl⟩
 rw[this] at hm;simpa using hm
theorem I0 (hm:m≤1000):cd (n+4) (.fn 106) [bn m z full,.fn (.func 84) [] [.ptr 1 1 0 0]] (af::dp w ls ld zs zd sz kd::H)=some (.int .i64 (cond (bD (nu ls z) m) ((fN (nu ls z) m 0:Nat):Int) (-1)),af::dp w ls ld zs zd sz kd::H):=by
 have l:=gV (n:=n+3) (f:=106) (nt:=19) (c:=part Try.f106 [1,0,1,0,0]) 0 (fun j=>tJ full m z (j:Int)) (fun _=>af::af::dp w ls ld zs zd sz kd::H) m (nu ls z) (fun j=>([(4,.int .i64 (j:Int))],af::af::dp w ls ld zs zd sz kd::H)) (tJ full m z (Int.ofNat m)++[(9,.bool false)],af::af::dp w ls ld zs zd sz kd::H) (by omega) (fun j hj=>?_) ?_
 · refine bp (n:=n+3) Try.func106 rfl rfl rfl (On n w ls ld m zs zd sz kd z H (bD (nu ls z) m) ((fN (nu ls z) m 0:Nat):Int) full) (bU (n+1) 2) (bf (ah _ _) LB (fun x hx=>?_)) (ai _ _) ?_
   · refine Eq.trans l ?_
     rcases Tr.bH hx with ⟨hc,hx⟩ | ⟨hc,hx⟩
     · rw[← Tr.ab hx,hc];rfl
     · rw[← Tr.ab hx,hc];simp only[dg.st,aw];rfl
   · repeat' first | (refine Tr.an (fun hc=>?_) (fun hc=>?_)<;>(try simp (disch:=omega) only[nV,nW] at hc)<;>try omega) | (refine Tr.ao ?_ ?_;· (try simp (disch:=omega) only[nV,nW]);try omega) | (refine Tr.ak ?_ ?_;· first | exact trivial | rfl | exact ⟨rfl,rfl⟩ | exact ⟨rfl,rfl,rfl⟩ | (simp (disch:=omega) only[nV,nW];done) | ((try simp (disch:=omega) only[nV,nW]);omega)) | fail
     all_goals refine Tr.aq ⟨?_,rfl⟩
     all_goals rw[hc];rfl
 · have ej:ay .i64 (j:Int) (Int.ofNat 1)=((j+1:Nat):Int):=by rw[aR,show Int.ofNat 1=1 from rfl];exact bX (by omega) (by omega)
   have e2:Int.negSucc 1=-2:=rfl
   refine bz (t106 n w ls ld m zs zd sz kd z H (j:Int) full) (bU (n+1) 2) (ah _ _) (ai _ _) ?_
   have hs:nu ls z j=!(decide (-2≤z j) && decide (z j<ls)):=rfl
   rw[e2]
   repeat' first | (refine Tr.an (fun hc=>?_) (fun hc=>?_)<;>(try simp (disch:=omega) only[nV,nW,Nat.mul_one] at hc)<;>try omega) | (refine Tr.ao ?_ ?_;· (try simp (disch:=omega) only[nV,nW,Nat.mul_one]);try omega) | (refine Tr.ak ?_ ?_;· first | exact trivial | rfl | exact ⟨rfl,rfl⟩ | exact ⟨rfl,rfl,rfl⟩ | (simp (disch:=omega) only[nV,nW,Nat.mul_one];done) | ((try simp (disch:=omega) only[nV,nW,Nat.mul_one]);omega)) | fail
   all_goals refine Tr.aq ?_
   all_goals first
    | (rw[if_pos (by rw[hs];simp;omega)];rfl)
    | (rw[if_neg (by rw[hs];simp;omega)];exact ⟨rfl,by rw[ej];rfl⟩)
    | fail
 · obtain ⟨x,h1,rfl⟩:=bz (Q:=fun x=>x=(.exit 0,tJ full m z (Int.ofNat m)++[(9,.bool false)],af::af::dp w ls ld zs zd sz kd::H)) (t106 n w ls ld m zs zd sz kd z H (Int.ofNat m) full) (bU (n+1) 2) (ah _ _) (ai _ _) (by
    repeat' first | (refine Tr.an (fun hc=>?_) (fun hc=>?_)<;>(try simp (disch:=omega) only[nV,nW] at hc)<;>try omega) | (refine Tr.ao ?_ ?_;· (try simp (disch:=omega) only[nV,nW]);try omega) | (refine Tr.ak ?_ ?_;· first | exact trivial | rfl | exact ⟨rfl,rfl⟩ | exact ⟨rfl,rfl,rfl⟩ | (simp (disch:=omega) only[nV,nW];done) | ((try simp (disch:=omega) only[nV,nW]);omega)) | fail
    exact Tr.aq rfl)
   exact h1
theorem Mb (hm:m≤1000):cd (n+5) (.fn 83) [bn m z full,.fn (.func 84) [] [.ptr 0 1 0 0]] (dp w ls ld zs zd sz kd::H)=some (.bool (bD (nu ls z) m),dp w ls ld zs zd sz kd::H):=by
 refine bp (n:=n+4) Try.func83 rfl rfl rfl (R0 n w ls ld m zs zd sz kd z H (cond (bD (nu ls z) m) ((fN (nu ls z) m 0:Nat):Int) (-1)) full) (bQ _ (n+4) 0 (fun k=>fG (bB _) (fun x hx=>by
  rw[← Tr.ab hx,show n+4+k=n+k+4 by omega]
  exact I0 _ w ls ld m zs zd sz kd z H full hm))) (ah _ _) (ai _ _) ?_
 repeat' first | (refine Tr.an (fun hc=>?_) (fun hc=>?_)<;>(try simp (disch:=omega) only[nV,nW] at hc)<;>try omega) | (refine Tr.ao ?_ ?_;· (try simp (disch:=omega) only[nV,nW]);try omega) | (refine Tr.ak ?_ ?_;· first | exact trivial | rfl | exact ⟨rfl,rfl⟩ | exact ⟨rfl,rfl,rfl⟩ | (simp (disch:=omega) only[nV,nW];done) | ((try simp (disch:=omega) only[nV,nW]);omega)) | fail
 refine Tr.aq ⟨?_,rfl⟩
 rw[er]
 cases bD (nu ls z) m
 · rfl
 · simp
theorem Nv (hm:m≤1000):exec (bF (n+15) 32 66) (.block 1 (.loop (part Try.f32 [1,1,1,0,1,0,0]))) (nQ full m z sure 0) (dp w ls ld zs zd sz kd::H)=some (cond (bD (xR z) m) (.ret,[(6,.int .i64 15)],dp w ls ld zs zd sz kd::H) (.normal,nQ full m z sure (Int.ofNat m)++[(38,.bool false)],dp w ls ld zs zd sz kd::H)):=by
 have hil:(il (b7 aG 85 (zy iA)) (n+15) 0).Ok (cd (n+15)):=JF (n+13)
 refine gV (n:=n+15) (f:=32) (nt:=66) (c:=part Try.f32 [1,1,1,0,1,0,0]) 1 (fun j=>nQ full m z sure (j:Int)) (fun _=>dp w ls ld zs zd sz kd::H) m (xR z) (fun _=>([(6,.int .i64 15)],dp w ls ld zs zd sz kd::H)) (nQ full m z sure (Int.ofNat m)++[(38,.bool false)],dp w ls ld zs zd sz kd::H) (by omega) (fun j hj=>?_) ?_
 · have ej:ay .i64 (j:Int) (Int.ofNat 1)=((j+1:Nat):Int):=by rw[aR,show Int.ofNat 1=1 from rfl];exact bX (by omega) (by omega)
   have et:fi (j:Int)=j:=by rw[ir];omega
   have ei:al 0 (j:Int) 1=j:=by rw[bT];omega
   have hq:iA z j (z j)=xR z j:=by
    unfold iA xR
    refine jR (fun k hk=>?_)
    unfold F7
    rw[decide_eq_decide];exact eq_comm
   refine bz (KJ n w ls ld m zs zd sz kd z H (j:Int) sure iA full) hil (ah _ _) (ai _ _) ?_
   rw[et,ei,hq]
   repeat' first | (refine Tr.an (fun hc=>?_) (fun hc=>?_)<;>(try simp (disch:=omega) only[nV,nW,and_true] at hc)<;>try omega) | (refine Tr.ao ?_ ?_;· (try simp (disch:=omega) only[nV,nW,and_true]);try omega) | (refine Tr.ak ?_ ?_;· first | exact trivial | rfl | exact ⟨rfl,rfl⟩ | exact ⟨rfl,rfl,rfl⟩ | (simp (disch:=omega) only[nV,nW,and_true];done) | ((try simp (disch:=omega) only[nV,nW,and_true]);omega)) | fail
   all_goals refine Tr.aq ?_
   · rw[if_pos hc];rfl
   · rw[if_neg (by rw[hc];simp)];exact ⟨rfl,by rw[ej];rfl⟩
 · obtain ⟨x,h1,rfl⟩:=bz (Q:=fun x=>x=(.exit 1,nQ full m z sure (Int.ofNat m)++[(38,.bool false)],dp w ls ld zs zd sz kd::H)) (KJ n w ls ld m zs zd sz kd z H (Int.ofNat m) sure iA full) hil (ah _ _) (ai _ _) (by
    repeat' first | (refine Tr.an (fun hc=>?_) (fun hc=>?_)<;>(try simp (disch:=omega) only[nV,nW] at hc)<;>try omega) | (refine Tr.ao ?_ ?_;· (try simp (disch:=omega) only[nV,nW]);try omega) | (refine Tr.ak ?_ ?_;· first | exact trivial | rfl | exact ⟨rfl,rfl⟩ | exact ⟨rfl,rfl,rfl⟩ | (simp (disch:=omega) only[nV,nW];done) | ((try simp (disch:=omega) only[nV,nW]);omega)) | fail
    exact Tr.aq rfl)
   exact h1
theorem Nw (hls:ls≤10) (K:Nat) (y:Nat→Int) (hK:K≤m) (hm:m≤1000) (hz:∀ i,i<m→-2≤z i∧z i<ls) (hy:∀ i,i<K→-2≤y i∧y i<ls):exec (bF (n+15) 32 66) (.block 3 (.loop (part Try.f32 [1,1,1,1,0,1,0,0]))) (pF full m K z y sure 0) (dp w ls ld zs zd sz kd::H)=some (cond (bD (fun j=>!cG kd sure (z j) (y j)) K) (.ret,[(6,.int .i64 17)],dp w ls ld zs zd sz kd::H) (.normal,pF full m K z y sure (Int.ofNat K)++[(52,.bool false)],dp w ls ld zs zd sz kd::H)):=by
 refine gV (n:=n+15) (f:=32) (nt:=66) (c:=part Try.f32 [1,1,1,1,0,1,0,0]) 3 (fun j=>pF full m K z y sure (j:Int)) (fun _=>dp w ls ld zs zd sz kd::H) K (fun j=>!cG kd sure (z j) (y j)) (fun _=>([(6,.int .i64 17)],dp w ls ld zs zd sz kd::H)) (pF full m K z y sure (Int.ofNat K)++[(52,.bool false)],dp w ls ld zs zd sz kd::H) (by omega) (fun j hj=>?_) ?_
 · have ej:ay .i64 (j:Int) (Int.ofNat 1)=((j+1:Nat):Int):=by rw[aR,show Int.ofNat 1=1 from rfl];exact bX (by omega) (by omega)
   have e0:al 0 (j:Int) 1=j:=by rw[bT];omega
   obtain ⟨z1,z2⟩:=hz j (by omega)
   obtain ⟨y1,y2⟩:=hy j hj
   have e1:ay .i64 (z j) (Int.ofNat 2)=z j+2:=by rw[aR,show Int.ofNat 2=2 from rfl];exact bX (by omega) (by omega)
   have e2:ay .i64 (y j) (Int.ofNat 2)=y j+2:=by rw[aR,show Int.ofNat 2=2 from rfl];exact bX (by omega) (by omega)
   have ei:fM (al (al 4 (z j+2) 12) (y j+2) 1) 4=(z j+2).toNat*12+(y j+2).toNat:=by rw[fh,bT,bT];omega
   have hs:(!cG kd sure (z j) (y j))=!decide ((if sure then 2 else 1)≤kd ((z j+2).toNat*12+(y j+2).toNat)):=rfl
   refine bz (KK n w ls ld m K zs zd sz kd z y H (j:Int) sure full) (bU (n+13) 2) (ah _ _) (ai _ _) ?_
   rw[e0,e1,e2,ei,hs]
   cases sure<;>simp only[Bool.false_eq_true,if_true,if_false]<;>repeat' first | (refine Tr.an (fun hc=>?_) (fun hc=>?_)<;>(try simp (disch:=omega) only[nV,nW] at hc)<;>try omega) | (refine Tr.ao ?_ ?_;· (try simp (disch:=omega) only[nV,nW]);try omega) | (refine Tr.ak ?_ ?_;· first | exact trivial | rfl | exact ⟨rfl,rfl⟩ | exact ⟨rfl,rfl,rfl⟩ | (simp (disch:=omega) only[nV,nW];done) | ((try simp (disch:=omega) only[nV,nW]);omega)) | fail
   all_goals refine Tr.aq ?_
   all_goals first
    | (rw[if_pos (by simp;omega)];rfl)
    | (rw[if_neg (by simp;omega)];exact ⟨rfl,by rw[ej];rfl⟩)
    | fail
 · obtain ⟨x,h1,rfl⟩:=bz (Q:=fun x=>x=(.exit 3,pF full m K z y sure (Int.ofNat K)++[(52,.bool false)],dp w ls ld zs zd sz kd::H)) (KK n w ls ld m K zs zd sz kd z y H (Int.ofNat K) sure full) (bU (n+13) 2) (ah _ _) (ai _ _) (by
    repeat' first | (refine Tr.an (fun hc=>?_) (fun hc=>?_)<;>(try simp (disch:=omega) only[nV,nW] at hc)<;>try omega) | (refine Tr.ao ?_ ?_;· (try simp (disch:=omega) only[nV,nW]);try omega) | (refine Tr.ak ?_ ?_;· first | exact trivial | rfl | exact ⟨rfl,rfl⟩ | exact ⟨rfl,rfl,rfl⟩ | (simp (disch:=omega) only[nV,nW];done) | ((try simp (disch:=omega) only[nV,nW]);omega)) | fail
    exact Tr.aq rfl)
   exact h1
theorem Mi (k:Nat) (b:Bool) (hb:m≤1000→b=bD (nu ls z) m) (hm:m≤1000) (h:bN w ls ld zs zd=0):(sJ (b7 aG 58 (Ek (aa w ls zs ld zd) (gu w ls ld zs zd (ft zd ld) (dR w ls ld zs zd)) 0)) 83 [bn m z full,.fn (.func 84) [] [.ptr 0 1 0 0]] (dp w ls ld zs zd (ft zd ld) (dR w ls ld zs zd)::H) (.ok (.bool b,dp w ls ld zs zd (ft zd ld) (dR w ls ld zs zd)::H))).Ok (cd (n+14+k)):=by
 refine fG (bI (bB _) (fun args p v hg hp H=>?_)) (fun x hx=>?_)
 · unfold Ek at hg
   split at hg
   · simp only[nP] at hg
     obtain ⟨rfl,rfl⟩:=hg
     subst hp
     have:=L6 (n+k) w ls ld zs zd H
     rw[if_neg (fun x=>x h),h,show n+k+14=n+14+k by omega] at this
     exact this
   · cases hg
 · rw[← Tr.ab hx,hb hm,show n+14+k=n+9+k+5 by omega]
   exact Mb _ w ls ld m zs zd _ _ z H full hm
theorem PJ  : cd (n+16) (.fn 32) [aa w ls zs ld zd,bn m z full,.bool sure] H=some (.int .i64 (xQ w ls ld zs zd (cG (dR w ls ld zs zd) sure) m z),H):=by
 by_cases hx:bN w ls ld zs zd≠0
 · refine bp (n:=n+15) Try.func32 rfl rfl rfl (OC n w ls ld m zs zd z H (bN w ls ld zs zd) sure full) (bQ _ (n+14) 1 (fun k=>bI (bI (bB _) (fun args p v hg hp H=>?_)) (fun args p v hg hp H=>by cases hg))) (cN (ah _ _) 1) (ai _ _) ?_
   · unfold Ek at hg
     split at hg
     · simp only[nP] at hg
       obtain ⟨rfl,rfl⟩:=hg
       subst hp
       have:=L6 (n+k) w ls ld zs zd H
       rw[if_pos hx,show n+k+14=n+14+k by omega] at this
       exact this
     · cases hg
   · unfold xQ
     rw[if_pos hx]
     repeat' first | (refine Tr.an (fun hc=>?_) (fun hc=>?_)<;>(try simp (disch:=omega) only[nV,nW] at hc)<;>try omega) | (refine Tr.ao ?_ ?_;· (try simp (disch:=omega) only[nV,nW]);try omega) | (refine Tr.ak ?_ ?_;· first | exact trivial | rfl | exact ⟨rfl,rfl⟩ | exact ⟨rfl,rfl,rfl⟩ | (simp (disch:=omega) only[nV,nW];done) | ((try simp (disch:=omega) only[nV,nW]);omega)) | fail
     all_goals exact Tr.aq ⟨rfl,rfl⟩
 · have h : bN w ls ld zs zd=0:=by omega
   have c:=iL h
   unfold xQ
   rw[if_neg hx]
   by_cases hml:m≤1000
   · have hct := fun k=>Mi n w ls ld m zs zd z H full k (bD (nu ls z) m) (fun _=>rfl) hml h
     by_cases hm:m<2∨12<m
     · rw[if_pos hm]
       refine bp (n:=n+15) Try.func32 rfl rfl rfl (Lj n w ls ld m zs zd (ft zd ld) (dR w ls ld zs zd) z H sure (bD (nu ls z) m) full) (bQ _ (n+14) 1 hct) (cN (ah _ _) 1) (ai _ _) ?_
       repeat' first | (refine Tr.an (fun hc=>?_) (fun hc=>?_)<;>(try simp (disch:=omega) only[nV,nW] at hc)<;>try omega) | (refine Tr.ao ?_ ?_;· (try simp (disch:=omega) only[nV,nW]);try omega) | (refine Tr.ak ?_ ?_;· first | exact trivial | rfl | exact ⟨rfl,rfl⟩ | exact ⟨rfl,rfl,rfl⟩ | (simp (disch:=omega) only[nV,nW];done) | ((try simp (disch:=omega) only[nV,nW]);omega)) | fail
       all_goals exact Tr.aq ⟨rfl,rfl⟩
     · rw [if_neg hm]
       cases hq:bD (nu ls z) m with
       | true =>
         rw[hq] at hct
         refine bp (n:=n+15) Try.func32 rfl rfl rfl (Lj n w ls ld m zs zd (ft zd ld) (dR w ls ld zs zd) z H sure true full) (bQ _ (n+14) 1 hct) (cN (ah _ _) 1) (ai _ _) ?_
         rw[if_pos rfl]
         repeat' first | (refine Tr.an (fun hc=>?_) (fun hc=>?_)<;>(try simp (disch:=omega) only[nV,nW] at hc)<;>try omega) | (refine Tr.ao ?_ ?_;· (try simp (disch:=omega) only[nV,nW]);try omega) | (refine Tr.ak ?_ ?_;· first | exact trivial | rfl | exact ⟨rfl,rfl⟩ | exact ⟨rfl,rfl,rfl⟩ | (simp (disch:=omega) only[nV,nW];done) | ((try simp (disch:=omega) only[nV,nW]);omega)) | fail
         all_goals exact Tr.aq ⟨rfl,rfl⟩
       | false =>
         rw[hq] at hct
         have hz:∀ i,i<m→-2≤z i∧z i<ls:=fun i hi=>by
          cases hp:bx ls (z i) with
          | true=>simpa[bx] using hp
          | false =>
            have:=(bV (nu ls z) m).2 ⟨i,hi,by unfold nu;rw[hp];rfl⟩
            rw[this] at hq;cases hq
         have la:=Nv n w ls ld m zs zd (ft zd ld) (dR w ls ld zs zd) z H sure full hml
         rw[if_neg (by simp)]
         cases hi:bD (xR z) m with
         | true =>
           rw[hi] at la
           refine bp (n:=n+15) Try.func32 rfl rfl rfl (Oz n w ls ld m zs zd (ft zd ld) (dR w ls ld zs zd) z H sure false full) (bQ _ (n+14) 1 hct) (bf (ah _ _) IU (fun x hx=>by rw[← Tr.ab hx];exact la)) (ai _ _) ?_
           rw[if_pos rfl]
           repeat' first | (refine Tr.an (fun hc=>?_) (fun hc=>?_)<;>(try simp (disch:=omega) only[nV,nW] at hc)<;>try omega) | (refine Tr.ao ?_ ?_;· (try simp (disch:=omega) only[nV,nW]);try omega) | (refine Tr.ak ?_ ?_;· first | exact trivial | rfl | exact ⟨rfl,rfl⟩ | exact ⟨rfl,rfl,rfl⟩ | (simp (disch:=omega) only[nV,nW];done) | ((try simp (disch:=omega) only[nV,nW]);omega)) | fail
           all_goals exact Tr.aq ⟨rfl,rfl⟩
         | false =>
           rw[hi] at la
           have e1:fi (Int.ofNat 1)=1:=by rw[ir];rfl
           have e2:fM m (fi (Int.ofNat 1))=m-1:=by rw[e1,fh]
           have e3:∀ j,nv z (fi (Int.ofNat 1)) j=z (j+1):=fun j=>by rw[e1,jF];show z (1+j)=_;rw[Nat.add_comm]
           have lb:=Nw n w ls ld m zs zd (ft zd ld) (dR w ls ld zs zd) z H sure full (by omega) (m-1) (nv z (fi (Int.ofNat 1))) (by omega) hml hz (fun i hi=>by rw[e3];exact hz (i+1) (by omega))
           have eH:bD (fun j=>!cG (dR w ls ld zs zd) sure (z j) (nv z (fi (Int.ofNat 1)) j)) (m-1)=bD (zg (cG (dR w ls ld zs zd) sure) z) (m-1):=jR (fun k hk=>by rw[e3];rfl)
           rw[eH] at lb
           refine bp (n:=n+15) Try.func32 rfl rfl rfl (OA n w ls ld m (m-1) zs zd (ft zd ld) (dR w ls ld zs zd) z (nv z (fi (Int.ofNat 1))) H sure false (bD (zg (cG (dR w ls ld zs zd) sure) z) (m-1)) full) (bQ _ (n+14) 1 hct) (bf (bf (ah _ _) LF (fun x hx=>?_)) IU (fun x hx=>?_)) (ai _ _) ?_
           · refine Eq.trans lb ?_
             rcases Tr.bH hx with ⟨hc,hx⟩ | ⟨hc,hx⟩
             · rw[← Tr.ab hx,hc];rfl
             · rw[← Tr.ab hx,hc];simp only[dg.st,aw];rfl
           · rw[← Tr.ab hx];simp only[dg.st,aw];exact la
           · rw[if_neg (by simp),e2]
             repeat' first | (refine Tr.an (fun hc=>?_) (fun hc=>?_)<;>(try simp (disch:=omega) only[nV,nW] at hc)<;>try omega) | (refine Tr.ao ?_ ?_;· (try simp (disch:=omega) only[nV,nW]);try omega) | (refine Tr.ak ?_ ?_;· first | exact trivial | rfl | exact ⟨rfl,rfl⟩ | exact ⟨rfl,rfl,rfl⟩ | (simp (disch:=omega) only[nV,nW];done) | ((try simp (disch:=omega) only[nV,nW]);omega)) | fail
             all_goals refine Tr.aq ⟨?_,rfl⟩
             all_goals first
              | (simp_all;done)
              | (simp_all;rfl)
              | fail
   · rw [if_pos (by omega)]
     refine bp (n:=n+15) Try.func32 rfl rfl rfl (OB n w ls ld m zs zd (ft zd ld) (dR w ls ld zs zd) z H sure full) (bQ _ (n+14) 1 (fun k=>bI (bI (bB _) (fun args p v hg hp H=>by
      unfold Ek at hg
      split at hg
      · simp only[nP] at hg
        obtain ⟨rfl,rfl⟩:=hg
        subst hp
        have:=L6 (n+k) w ls ld zs zd H
        rw[if_neg (fun x=>x h),h,show n+k+14=n+14+k by omega] at this
        exact this
      · cases hg)) (fun args p v hg hp H=>by cases hg))) (cN (ah _ _) 1) (ai _ _) ?_
     repeat' first | (refine Tr.an (fun hc=>?_) (fun hc=>?_)<;>(try simp (disch:=omega) only[nV,nW] at hc)<;>try omega) | (refine Tr.ao ?_ ?_;· (try simp (disch:=omega) only[nV,nW]);try omega) | (refine Tr.ak ?_ ?_;· first | exact trivial | rfl | exact ⟨rfl,rfl⟩ | exact ⟨rfl,rfl,rfl⟩ | (simp (disch:=omega) only[nV,nW];done) | ((try simp (disch:=omega) only[nV,nW]);omega)) | fail
     all_goals exact Tr.aq ⟨rfl,rfl⟩
end
end Go.Eng
end
section
namespace Go.Eng
open Go.Proofs
set_option linter.unusedVariables false
set_option linter.unusedSimpArgs false
section
variable {w:Int} {ls ld:Nat} {zs zd:Nat→Int} {sure:Bool}
theorem l4 (h:bN w ls ld zs zd=0) {a b:Int} (ha:-2≤a∧a<ls) (hb:-2≤b∧b<ls):dx w ld zs zd sure a b=dx w ld zs zd sure b a:=by
 unfold dx;rw[zK h ha hb]
theorem gJ (h:bN w ls ld zs zd=0) {a b:Int} (ha:-2≤a∧a<ls) (hb:-2≤b∧b<ls):cG (dR w ls ld zs zd) sure a b=true↔a≠b∧dx w ld zs zd sure a b=true:=by
 by_cases e:a=b
 · subst e;rw[JB h ha];simp
 · rw[wy h ha hb e];simp[e]
theorem mI (h:bN w ls ld zs zd=0) {q:Int} (hq:-2≤q∧q<ls):ZI ls (cG (dR w ls ld zs zd) sure) (q+2).toNat (ea w ls ld zs zd sure q):=by
 have hI:=vp (N:=ls+2) (hl:=dx w ld zs zd sure) (p:=q) hq.1 (ls+1)
 have hL:=De (N:=ls+2) (hl:=dx w ld zs zd sure) (p:=q) hq.1 (ls+1)
 have hz:Dz (yH q) (dx w ld zs zd sure) (ls+2) (ls+1)=ea w ls ld zs zd sure q:=rfl
 rw[hz] at hI hL
 refine ⟨by omega,fun i=>⟨hI.uni i,fun e=>by rw[e];exact hI.one⟩,fun i=>by have:=hI.rng i;omega,fun i k hi hk hh h0=>?_,fun i hi=>?_,fun i hi=>?_⟩
 · obtain ⟨hne,hh⟩:=(gJ h (by omega) (by omega)).1 hh
   rw[l4 h (by omega) (by omega)] at hh
   have hki:k≠i:=fun e=>hne (by rw[e])
   have h1:=Bx.closed (N:=ls+2) hI (by omega) hi hk hki hh h0
   exact ⟨h1,hL i k hi hk hki hh (by omega) (by omega)⟩
 · obtain ⟨g1,k,k1,k2,k3,k4⟩:=hI.prev i hi
   refine ⟨g1,k,k1,?_,k4⟩
   rw[l4 h (by omega) (by omega)] at k3
   exact (gJ h (by omega) (by omega)).2 ⟨by omega,k3⟩
 · have r:=hI.rng i
   by_cases e1:ea w ls ld zs zd sure q i=1
   · have:=hI.uni i e1;omega
   · by_cases e2:2≤ea w ls ld zs zd sure q i
     · have:=(hI.prev i e2).1;omega
     · omega
end
theorem ZI.below {ls t:Nat} {hl:Int→Int→Bool} {z:Nat→Int} (hZ:ZI ls hl t z):∀ (v i:Nat),z i=v→∀ u:Nat,1≤u→u≤v→∃ i,z i=u
 | 0,i,_,u,h1,h2=>by omega
 | v + 1,i,e,u,h1,h2=>by
   by_cases eu:u=v+1
   · subst eu;exact ⟨i,e⟩
   · obtain ⟨_,k,_,_,k3⟩:=hZ.prev i (by omega)
     exact hZ.below v k (by omega) u h1 (by omega)
theorem Ds {kd:Nat→Int} {sure:Bool} {ls:Nat} {q:Int} (hls:ls≤10) (hq:-2≤q∧q<ls) {z:Nat→Int} (hZ:ZI ls (cG kd sure) (q+2).toNat z) :
 ∃ N,N+1≤900∧(∀ k,k<N+1→0<(ia kd sure ls q k).cW)∧(ia kd sure ls q (N+1)).cW=0∧∀ i,z i≤((N+1:Nat):Int):=by
 obtain ⟨_,s2,s3,s4⟩:=ji (fun k=>!bD (fun i=>decide (z i=(k:Int)+1)) (ls+2)) (ls+3) 0
 generalize fN (fun k=>!bD (fun i=>decide (z i=(k:Int)+1)) (ls+2)) (ls+3) 0=K at *
 have lt:∀ i v:Nat,z i=(v:Int)+1→i<ls+2:=fun i v e=>by
  by_cases hi:i<ls+2
  · exact hi
  · have:=hZ.out i (by omega);omega
 have P:∀ k:Nat,bD (fun i=>decide (z i=(k:Int)+1)) (ls+2)=true↔∃ i,z i=(k:Int)+1:=fun k=>by
  rw[bV]
  exact ⟨fun ⟨i,_,h⟩=>⟨i,of_decide_eq_true h⟩,fun ⟨i,h⟩=>⟨i,lt i k h,decide_eq_true h⟩⟩
 have p0:∃ i,z i=((0:Nat):Int)+1:=⟨_,(hZ.one _).2 rfl⟩
 have hK3:K<ls+3:=by
  by_cases e:K<ls+3
  · exact e
  · have:=s3 (ls+2) (by omega) (by omega)
    have:bD (fun i=>decide (z i=((ls+2:Nat):Int)+1)) (ls+2)=true:=by simpa using this
    obtain ⟨i,hi⟩:=(P _).1 this
    have:=hZ.rng i;omega
 have hKn:¬ ∃ i,z i=(K:Int)+1:=fun hx=>by
  have:=s4 (by omega)
  rw[(P K).2 hx] at this;cases this
 have hKy:∀ k,k<K→∃ i,z i=(k:Int)+1:=fun k hk=>by
  have:=s3 k (by omega) hk
  exact (P k).1 (by simpa using this)
 have hK1:1≤K:=by
  by_cases e:1≤K
  · exact e
  · have:K=0:=by omega
    subst this;exact absurd p0 hKn
 obtain ⟨N,rfl⟩:∃ N,K=N+1:=⟨K-1,by omega⟩
 refine ⟨N,by omega,fun k hk=>?_,?_,fun i=>?_⟩
 · obtain ⟨i,hi⟩:=hKy k hk
   have hb:=xP hq hZ k
   have hil:=lt i k hi
   have:=(hb.pW ((i:Int)-2)).2 ⟨by omega,.inl ⟨by rw[show ((i:Int)-2+2).toNat=i by omega];exact hi,by omega⟩⟩
   rw[hb.cW]
   exact qW (by omega) this _ (by omega)
 · have hb:=xP hq hZ (N+1)
   rw[hb.cW]
   refine oQ (fun x=>?_) _
   cases hx:(ia kd sure ls q (N+1)).hW x with
   | false=>rfl
   | true =>
     exfalso
     rcases ((hb.pW x).1 hx).2 with b | ⟨_,i,i1,_⟩
     · exact hKn ⟨_,b.1⟩
     · omega
 · have:=hZ.rng i
   by_cases e:z i≤((N+1:Nat):Int)
   · exact e
   · exfalso
     obtain ⟨i',hi'⟩:=hZ.below (z i).toNat i (by omega) (N+2) (by omega) (by omega)
     exact hKn ⟨i',by omega⟩
theorem ve (z:Nat→Int) (hl:Int→Int→Bool) (a:Int):∀ N,(rX z hl a N=-3∧∀ i,i<N→rC z hl a i=false)∨∃ i:Nat,i<N∧rC z hl a i=true∧(∀ i',i'<i→rC z hl a i'=false)∧rX z hl a N=(i:Int)-2
 | 0=>.inl ⟨rfl,fun i hi=>by omega⟩
 | N + 1=>by
   have e:rX z hl a (N+1)=if rX z hl a N=-3∧rC z hl a N=true then (N:Int)-2 else rX z hl a N:=rfl
   rw[e]
   rcases ve z hl a N with ⟨h1,h2⟩ | ⟨i,i1,i2,i3,i4⟩
   · by_cases hc:rC z hl a N=true
     · rw[if_pos ⟨h1,hc⟩]
       exact .inr ⟨N,by omega,hc,h2,rfl⟩
     · rw[if_neg (fun x=>hc x.2)]
       refine .inl ⟨h1,fun i hi=>?_⟩
       by_cases ei:i=N
       · subst ei;simpa using hc
       · exact h2 i (by omega)
   · rw[if_neg (fun x=>by omega)]
     exact .inr ⟨i,by omega,i2,i3,i4⟩
section
variable {w:Int} {ls ld:Nat} {zs zd:Nat→Int} {sure:Bool}
theorem vu (h:bN w ls ld zs zd=0) {p q:Int} (hp:-2≤p∧p<ls) (hq:-2≤q∧q<ls) {N:Nat} (hN:∀ i,ea w ls ld zs zd sure q i≤((N+1:Nat):Int)) (h0:0<ea w ls ld zs zd sure q (p+2).toNat) :
 ∀ k:Nat,(k:Int)≤ea w ls ld zs zd sure q (p+2).toNat-1 →
  jy (dR w ls ld zs zd) sure ls (ia (dR w ls ld zs zd) sure ls q (N+1)) p k=vF (ea w ls ld zs zd sure q) (dx w ld zs zd sure) ls p k ∧
  (-2≤vF (ea w ls ld zs zd sure q) (dx w ld zs zd sure) ls p k∧vF (ea w ls ld zs zd sure q) (dx w ld zs zd sure) ls p k<ls) ∧
  ea w ls ld zs zd sure q (vF (ea w ls ld zs zd sure q) (dx w ld zs zd sure) ls p k+2).toNat=ea w ls ld zs zd sure q (p+2).toNat-k
 | 0,_=>⟨rfl,hp,by show ea w ls ld zs zd sure q (p+2).toNat=_;omega⟩
 | k + 1,hk=>by
   obtain ⟨i1,i2,i3⟩:=vu h hp hq hN h0 k (by omega)
   have hZ:=mI (sure:=sure) h hq
   have hb:=xP hq hZ (N+1)
   have hs:∀ x:Int,-2≤x∧x<ls→((ia (dR w ls ld zs zd) sure ls q (N+1)).hS x=true↔0<ea w ls ld zs zd sure q (x+2).toNat):=fun x hx=>by
    rw[hb.pS]
    have:=hN (x+2).toNat
    constructor
    · rintro ⟨_,b | ⟨_,i,i1,_⟩⟩<;>omega
    · intro e;exact ⟨hx,.inl (by omega)⟩
   have hgp:(ia (dR w ls ld zs zd) sure ls q (N+1)).gS p=ea w ls ld zs zd sure q (p+2).toNat-1:=hb.vS p ((hs p hp).2 h0)
   have eW:jy (dR w ls ld zs zd) sure ls (ia (dR w ls ld zs zd) sure ls q (N+1)) p (k+1)=Iw (dR w ls ld zs zd) sure ls (ia (dR w ls ld zs zd) sure ls q (N+1)) ((ia (dR w ls ld zs zd) sure ls q (N+1)).gS p-((k+1:Nat):Int)) (jy (dR w ls ld zs zd) sure ls (ia (dR w ls ld zs zd) sure ls q (N+1)) p k):=rfl
   have eR:vF (ea w ls ld zs zd sure q) (dx w ld zs zd sure) ls p (k+1)=rX (ea w ls ld zs zd sure q) (dx w ld zs zd sure) (vF (ea w ls ld zs zd sure q) (dx w ld zs zd sure) ls p k) (ls+2):=rfl
   rw[eW,eR,i1,hgp]
   generalize vF (ea w ls ld zs zd sure q) (dx w ld zs zd sure) ls p k=a at *
   generalize ia (dR w ls ld zs zd) sure ls q (N+1)=S at *
   have same:∀ j,j<ls+2→dC (dR w ls ld zs zd) sure a (fun j=>!sM S (ea w ls ld zs zd sure q (p+2).toNat-1-((k+1:Nat):Int)) ((j:Int)-2)) j=rC (ea w ls ld zs zd sure q) (dx w ld zs zd sure) a j:=fun j hj=>by
    rw[Bool.eq_iff_iff]
    unfold dC rC sM
    simp only[Bool.and_eq_true,Bool.not_not,decide_eq_true_eq]
    rw[gJ h i2 (by omega),hs _ (by omega)]
    have ejj:((j:Int)-2+2).toNat=j:=by omega
    constructor
    · rintro ⟨⟨a1,a2⟩,a3,a4⟩
      have:=hb.vS ((j:Int)-2) ((hs _ (by omega)).2 a3)
      rw[ejj] at this a3
      exact ⟨fun x=>a1 x.symm,by omega,a3,a2⟩
    · rintro ⟨a1,a2,a3,a4⟩
      have h3:0<ea w ls ld zs zd sure q ((j:Int)-2+2).toNat:=by rw[ejj];exact a3
      have:=hb.vS ((j:Int)-2) ((hs _ (by omega)).2 h3)
      rw[ejj] at this
      exact ⟨⟨fun x=>a1 x.symm,a4⟩,h3,by omega⟩
   obtain ⟨_,j,j1,j2,j3⟩:=hZ.prev (a+2).toNat (by omega)
   have hcj:rC (ea w ls ld zs zd sure q) (dx w ld zs zd sure) a j=true:=by
    rw[show (((a+2).toNat:Nat):Int)-2=a by omega] at j2
    obtain ⟨b1,b2⟩:=(gJ h (by omega) i2).1 j2
    rw[l4 h (by omega) i2] at b2
    unfold rC
    simp only[Bool.and_eq_true,decide_eq_true_eq]
    exact ⟨b1,j3,by omega,b2⟩
   rcases ve (ea w ls ld zs zd sure q) (dx w ld zs zd sure) a (ls+2) with ⟨_,c2⟩ | ⟨i,c1,c2,c3,c4⟩
   · rw[c2 j j1] at hcj;cases hcj
   · have hex:bD (dC (dR w ls ld zs zd) sure a (fun j=>!sM S (ea w ls ld zs zd sure q (p+2).toNat-1-((k+1:Nat):Int)) ((j:Int)-2))) (ls+2)=true:=(bV _ _).2 ⟨i,c1,by rw[same i c1];exact c2⟩
     obtain ⟨d1,d2,d3,d4⟩:=ji (dC (dR w ls ld zs zd) sure a (fun j=>!sM S (ea w ls ld zs zd sure q (p+2).toNat-1-((k+1:Nat):Int)) ((j:Int)-2))) (ls+2) 0
     have hfi:fN (dC (dR w ls ld zs zd) sure a (fun j=>!sM S (ea w ls ld zs zd sure q (p+2).toNat-1-((k+1:Nat):Int)) ((j:Int)-2))) (ls+2) 0=i:=by
      generalize fN (dC (dR w ls ld zs zd) sure a (fun j=>!sM S (ea w ls ld zs zd sure q (p+2).toNat-1-((k+1:Nat):Int)) ((j:Int)-2))) (ls+2) 0=F at *
      by_cases e1:F<i
      · have:=d4 (by omega);rw[same F (by omega),c3 F e1] at this;cases this
      · by_cases e2:i<F
        · have:=d3 i (by omega) e2;rw[same i c1,c2] at this;cases this
        · omega
     refine ⟨?_,by omega,?_⟩
     · unfold Iw
       rw[if_pos hex,hfi,c4]
     · rw[c4,show ((i:Int)-2+2).toNat=i by omega]
       unfold rC at c2
       simp only[Bool.and_eq_true,decide_eq_true_eq] at c2
       have:=c2.2.1
       omega
theorem Jl (m:Nat) (z:Nat→Int):xQ w ls ld zs zd (cG (dR w ls ld zs zd) sure) m z=xQ w ls ld zs zd (dx w ld zs zd sure) m z:=by
 unfold xQ
 by_cases hx:bN w ls ld zs zd≠0
 · rw[if_pos hx,if_pos hx]
 · have h : bN w ls ld zs zd=0:=by omega
   rw[if_neg hx,if_neg hx]
   by_cases hm:m<2∨12<m
   · rw[if_pos hm,if_pos hm]
   · rw[if_neg hm,if_neg hm]
     cases hq:bD (nu ls z) m with
     | true=>rfl
     | false =>
       cases hi:bD (xR z) m with
       | true=>rfl
       | false =>
         have hz:∀ i,i<m→-2≤z i∧z i<ls:=fun i hi=>by
          cases hp:bx ls (z i) with
          | true=>simpa[bx] using hp
          | false =>
            have:=(bV (nu ls z) m).2 ⟨i,hi,by unfold nu;rw[hp];rfl⟩
            rw[this] at hq;cases hq
         have e:bD (zg (cG (dR w ls ld zs zd) sure) z) (m-1)=bD (zg (dx w ld zs zd sure) z) (m-1):=jR (fun k hk=>by
          unfold zg
          rw[wy h (hz k (by omega)) (hz (k+1) (by omega)) (fun x=>by
           have:bD (xR z) m=true:=(bV _ _).2 ⟨k+1,by omega,by
            unfold xR
            exact (bV _ _).2 ⟨k,by omega,by unfold F7;exact decide_eq_true x.symm⟩⟩
           rw[hi] at this;cases this)])
         rw[e]
end
end Go.Eng
end
section
namespace Go.Eng
open Go.Proofs
set_option linter.unusedVariables false
set_option linter.unusedSimpArgs false
set_option maxRecDepth 100000
def En (B A:AV) (P Q e:Int) (sure:Bool):List AV→Option (Prop×AV)
 | [b,.int .i64 p,.int .i64 q,.bool s]=>some (b=B∧p=P∧q=Q∧s=sure,.tup [A,.int .i64 e])
 | _=>none
theorem um {A B:Nat→Int}:∀ k:Nat,(∀ i,i≤k→A i=B i)→nr A k=nr B k
 | 0,h=>by show [A 0]=[B 0];rw[h 0 (by omega)]
 | k+1,h=>by
   show nr A k++[A (k+1)]=nr B k++[B (k+1)]
   rw[um k (fun i hi=>h i (by omega)),h (k+1) (by omega)]
section
variable (n:Nat) (w:Int) (ls ld lm:Nat) (zs zd zm:Nat→Int) (H:ae) (p q:Int) (sure:Bool)
theorem Mk {f k:Nat} {A:AV} {e:Int} {t:lR} (ht:t.Ok (cd k)) (h:∀ H,cd k (.fn f) [aa w ls zs ld zd,.int .i64 p,.int .i64 q,.bool sure] H=some (.tup [A,.int .i64 e],H)):(b7 t f (En (aa w ls zs ld zd) A p q e sure)).Ok (cd k):=by
 refine bI ht (fun args x v hg hp H=>?_)
 unfold En at hg
 split at hg
 · simp only[nP] at hg
   obtain ⟨rfl,rfl⟩:=hg
   obtain ⟨rfl,rfl,rfl,rfl⟩:=hp
   exact h H
 · cases hg
end
end Go.Eng
end
section
namespace Go.Eng
open Go.Proofs
set_option linter.unusedVariables false
set_option linter.unusedSimpArgs false
section
variable {w:Int} {ls ld:Nat} {zs zd:Nat→Int} {sure:Bool}
end
end Go.Eng
end
section
namespace Go.Eng
open Go.Proofs
set_option linter.unusedVariables false
set_option linter.unusedSimpArgs false
set_option maxRecDepth 100000
section
variable {w:Int} {ls ld:Nat} {zs zd:Nat→Int} {sure:Bool} {p q:Int}
theorem Ho {z:Nat→Int} {m i:Nat} (h:i<m):iA z m (z i)=true:=(bV _ _).2 ⟨i,h,decide_eq_true rfl⟩
theorem re {f g:Nat→Bool} {N:Nat} (h:∀ i,i<N→f i=g i):bD f N=bD g N:=by
 rw[Bool.eq_iff_iff,bV,bV]
 exact ⟨fun ⟨i,h1,h2⟩=>⟨i,h1,by rw[← h i h1];exact h2⟩,fun ⟨i,h1,h2⟩=>⟨i,h1,by rw[h i h1];exact h2⟩⟩
theorem Jd (m:Nat) (z:Nat→Int):Iz w ls ld zs zd (dR w ls ld zs zd) sure p q m z=AK w ls ld zs zd sure p q m z:=by
 unfold Iz AK
 by_cases he:ij w ls ld zs zd p q=0
 · obtain ⟨h,_,_,_⟩:=g7 he
   cases hx:bD (sl ls z) m with
   | true=>rfl
   | false =>
     have hz:∀ i,i<m→-2≤z i∧z i<ls:=fun i hi=>by
      cases hq:bx ls (z i) with
      | true=>simpa[bx] using hq
      | false =>
        have:=(bV (sl ls z) m).2 ⟨i,hi,by unfold sl;rw[hq];rfl⟩
        rw[this] at hx;cases hx
     have e:bD (Bz (dR w ls ld zs zd) sure ls z m) m=bD (Dy ls z m (dx w ld zs zd sure)) m:=re fun i hi=>by
      unfold Bz Dy
      refine re fun k hk=>?_
      unfold dC Gm
      by_cases e:z i=(k:Int)-2
      · have:=Ho (z:=z) hi
        rw[e] at this
        simp[this]
      · rw[wy h (hz i hi) ⟨by omega,by omega⟩ e,Bool.and_comm]
     rw[e]
 · rw[if_pos he,if_pos he]
end
section
variable (n:Nat) (w:Int) (ls ld lm:Nat) (zs zd zm:Nat→Int) (H:ae) (p q:Int) (sure:Bool)
end
end Go.Eng
end
