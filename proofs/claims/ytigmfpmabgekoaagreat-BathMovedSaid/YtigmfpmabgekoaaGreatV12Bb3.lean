/- Bath: IndexFunc and DeleteFunc over a row of the caller's (printed by mkBb3.py). -/
import Derived.Test.YtigmfpmabgekoaaGreatV12Bb2
set_option linter.unusedVariables false
set_option linter.unusedSimpArgs false
set_option maxRecDepth 100000
namespace Go.Eng
open Go.Proofs
noncomputable def gC (P:Int→Bool) (Q:Int→List AV→aa→Prop) (args:List AV) (H:aa):Tr (AV×aa) :=
 match args with
 | .int .i64 x::C=>.reqP (Q x C H) (.ok (.bool (P x),H))
 | _=>.bad
noncomputable def LL (f:FuncId) (P:Int→Bool) (Q:Int→List AV→aa→Prop):me:=fS aR f (gC P Q)
noncomputable def je (b0 b1 b2 b3 b4 b5:Nat×ak) (m:Nat) (g:Nat→Int):bm:=⟨false,[b0,b1,b2,b3,b4,b5,(0,.row (.M [.arr .i64 g m]))]⟩
noncomputable def rn (m:Nat) (j:Int):ay:=[(0,.slc 2 6 0 0 1 m none),(1,.fn (.func 87) [] [.ptr 2 0 0 0,.ptr 2 1 0 0]),(7,.int .i64 (Int.ofNat m)),(8,.int .i64 j)]
noncomputable def rl (m:Nat) (i j:Int):ay:=[(0,.slc 1 6 0 0 1 m none),(1,.fn (.func 87) [] [.ptr 1 0 0 0,.ptr 1 1 0 0]),(5,.int .i64 i),(6,.int .i64 j)]
noncomputable def jf (b0 b1 b2 b3 b4 b5 b6:Nat×ak) (m:Nat) (g:Nat→Int):bm:=⟨false,[b0,b1,b2,b3,b4,b5,b6,(0,.row (.M [.arr .i64 g m]))]⟩
noncomputable def rp (m:Nat) (j:Int):ay:=[(0,.slc 2 7 0 0 1 m none),(1,.fn (.func 87) [] [.ptr 2 0 0 0,.ptr 2 3 0 0]),(7,.int .i64 (Int.ofNat m)),(8,.int .i64 j)]
noncomputable def rm (m:Nat) (i j:Int):ay:=[(0,.slc 1 7 0 0 1 m none),(1,.fn (.func 87) [] [.ptr 1 0 0 0,.ptr 1 3 0 0]),(5,.int .i64 i),(6,.int .i64 j)]
theorem NC (n:Nat) (P:Int→Bool) (Q:Int→List AV→aa→Prop) (b0 b1 b2 b3 b4 b5:Nat×ak) (m:Nat) (g:Nat→Int) (H:aa) (j:Int):aN (bp n 88 19) (il (LL 87 P Q) n 0) aW aX (part Tryz.f88 [1,0,1,0,0]) (hints (rn m j)) (aC::aC::je b0 b1 b2 b3 b4 b5 m g::H) =
 (fun (Z0:bm)=>Tr.ite (df j (Int.ofNat m)) (Tr.req (dR j m) (Tr.req (cM 0 0) (Tr.req (bx (au 0 j 1) m) (Tr.reqP (Q (g (au 0 j 1)) [AV.ptr 2 0 0 0,AV.ptr 2 1 0 0] (aC::aC::Z0::H)) (Tr.ite (P (g (au 0 j 1))) (Tr.ok (Ex.ret,[(4,AV.int .i64 j,none)],aC::aC::Z0::H)) (Tr.ok (Ex.normal,[(0,AV.slc 2 6 0 0 1 m none,none),(1,AV.fn (Fn.func 87) [] [AV.ptr 2 0 0 0,AV.ptr 2 1 0 0],none),(7,AV.int .i64 (Int.ofNat m),none),(8,AV.int .i64 (aK .i64 j (Int.ofNat 1)),none)],aC::aC::Z0::H))))))) (Tr.ok (Ex.exit 0,[(0,AV.slc 2 6 0 0 1 m none,none),(1,AV.fn (Fn.func 87) [] [AV.ptr 2 0 0 0,AV.ptr 2 1 0 0],none),(7,AV.int .i64 (Int.ofNat m),none),(8,AV.int .i64 j,none),(9,AV.bool false,some 1)],aC::aC::Z0::H))) { lock:=false,bs:=[b0,b1,b2,b3,b4,b5,(0,ak.row (Row.M [aL.arr .i64 g m]))] }:=by kernel_rfl
theorem Rk (n:Nat) (b0 b1 b2 b3 b4 b5:Nat×ak) (m:Nat) (g:Nat→Int) (H:aa) (x:Bool) (r:Nat):bu Tryz.prog (cd n) 100000 88 Tryz.f88 (KtB.kt 88) (il aR n 0) (eP aW 0 (rn m 0) (aC::aC::je b0 b1 b2 b3 b4 b5 m g::H) (.ite x (.ok (.ret,[(4,.int .i64 (Int.ofNat r),none)],aC::aC::je b0 b1 b2 b3 b4 b5 m g::H)) (.ok (.normal,hints (rn m (Int.ofNat m)++[(9,.bool false)]),aC::aC::je b0 b1 b2 b3 b4 b5 m g::H)))) aX [(.slc 1 6 0 0 1 m none,none),(.fn (.func 87) [] [.ptr 1 0 0 0,.ptr 1 1 0 0],none)] (aC::je b0 b1 b2 b3 b4 b5 m g::H) =
 (fun (Z0:bm)=>((fun (Z1:ay)=>Tr.reqP (Z1=Z1∧aC::aC::Z0::H=aC::aC::Z0::H) (Tr.ite x (Tr.ok ((AV.int .i64 (Int.ofNat r),none),aC::Z0::H)) (Tr.ok ((AV.int .i64 (Int.negSucc 0),some 1),aC::Z0::H)))) [(0,AV.slc 2 6 0 0 1 m none),(1,AV.fn (Fn.func 87) [] [AV.ptr 2 0 0 0,AV.ptr 2 1 0 0]),(7,AV.int .i64 (Int.ofNat m)),(8,AV.int .i64 (Int.ofNat 0))])) { lock:=false,bs:=[b0,b1,b2,b3,b4,b5,(0,ak.row (Row.M [aL.arr .i64 g m]))] }:=by kernel_rfl
theorem Ns (n:Nat) (P:Int→Bool) (Q:Int→List AV→aa→Prop) (b0 b1 b2 b3 b4 b5:Nat×ak) (m:Nat) (g:Nat→Int) (H:aa) (i j:Int):aN (bp n 67 42) (il (LL 87 P Q) n 0) aW aX (part Tryz.f67 [1,1,1,0,1,0,0]) (hints (rl m i j)) (aC::je b0 b1 b2 b3 b4 b5 m g::H) =
 (fun (Z0:bm)=>((fun (Z1:Nat×AV×Option Nat)=>Tr.ite (df j (Int.ofNat m)) (Tr.req (dR j m) (Tr.req (cM 0 0) (Tr.req (bx (au 0 j 1) m) (Tr.reqP (Q (g (au 0 j 1)) [AV.ptr 1 0 0 0,AV.ptr 1 1 0 0] (aC::Z0::H)) (Tr.ite (bG (P (g (au 0 j 1)))) (Tr.req (dR i m) (Tr.req (cM 0 0) (Tr.req (bx (au 0 i 1) m) (Tr.ok (Ex.normal,[(0,AV.slc 1 6 0 0 1 m none,none),Z1,(5,AV.int .i64 (aK .i64 i (Int.ofNat 1)),none),(6,AV.int .i64 (aK .i64 j (Int.ofNat 1)),none)],aC::{ lock:=false,bs:=[b0,b1,b2,b3,b4,b5,(0,ak.row (Row.M [aL.arr .i64 (iw g (au 0 i 1) (g (au 0 j 1))) m]))] } :: H))))) (Tr.ok (Ex.normal,[(0,AV.slc 1 6 0 0 1 m none,none),Z1,(5,AV.int .i64 i,none),(6,AV.int .i64 (aK .i64 j (Int.ofNat 1)),none)],aC::Z0::H))))))) (Tr.ok (Ex.exit 0,[(0,AV.slc 1 6 0 0 1 m none,none),Z1,(5,AV.int .i64 i,none),(6,AV.int .i64 j,none),(19,AV.bool false,some 1)],aC::Z0::H))) (1,AV.fn (Fn.func 87) [] [AV.ptr 1 0 0 0,AV.ptr 1 1 0 0],none))) { lock:=false,bs:=[b0,b1,b2,b3,b4,b5,(0,ak.row (Row.M [aL.arr .i64 g m]))] }:=by kernel_rfl
theorem Rf (n:Nat) (b0 b1 b2 b3 b4 b5:Nat×ak) (m:Nat) (g g2:Nat→Int) (H:aa) (r i2:Int):bu Tryz.prog (cd n) 100000 67 Tryz.f67 (KtB.kt 67) (il (I6 aR 88 [.slc 1 6 0 0 1 m none,.fn (.func 87) [] [.ptr 1 0 0 0,.ptr 1 1 0 0]] (aC::je b0 b1 b2 b3 b4 b5 m g::H) (.ok (.int .i64 r,aC::je b0 b1 b2 b3 b4 b5 m g::H))) n 0) (eP aW 0 (rl m r (aK .i64 r (Int.ofNat 1))) (aC::je b0 b1 b2 b3 b4 b5 m g::H) (.ok (.normal,hints (rl m i2 (Int.ofNat m)++[(19,.bool false)]),aC::je b0 b1 b2 b3 b4 b5 m g2::H))) aX [(.slc 0 6 0 0 1 m none,none),(.fn (.func 87) [] [.ptr 0 0 0 0,.ptr 0 1 0 0],none)] (je b0 b1 b2 b3 b4 b5 m g::H) =
 (fun (Z0:bm)=>((fun (Z1:ay)=>Tr.reqP ([AV.slc 1 6 0 0 1 m none,AV.fn (Fn.func 87) [] [AV.ptr 1 0 0 0,AV.ptr 1 1 0 0]]=[AV.slc 1 6 0 0 1 m none,AV.fn (Fn.func 87) [] [AV.ptr 1 0 0 0,AV.ptr 1 1 0 0]]∧aC::Z0::H=aC::Z0::H) (Tr.ite (dD r (Int.negSucc 0)) (Tr.ok ((AV.slc 0 6 0 0 1 m none,none),Z0::H)) (Tr.reqP (Z1=Z1∧aC::Z0::H=aC::Z0::H) (Tr.req (jk i2 m) (Tr.req (bx 0 (dg m (dB i2))) (Tr.req (cM 0 0) (Tr.req (la (ah 0 (dB i2)) (dg m (dB i2)) 0 m) (Tr.req (jk i2 m) (Tr.ok ((AV.slc 0 6 0 0 1 (dB i2) none,none),{ lock:=false,bs:=[b0,b1,b2,b3,b4,b5,(0,ak.row (Row.M [aL.arr .i64 (fK g2 (ah 0 (dB i2)) (fun x=>Int.ofNat 0) (dg m (dB i2))) m]))] } :: H)))))))))) [(0,AV.slc 1 6 0 0 1 m none),(1,AV.fn (Fn.func 87) [] [AV.ptr 1 0 0 0,AV.ptr 1 1 0 0]),(5,AV.int .i64 r),(6,AV.int .i64 (aK .i64 r (Int.ofNat 1)))])) { lock:=false,bs:=[b0,b1,b2,b3,b4,b5,(0,ak.row (Row.M [aL.arr .i64 g m]))] }:=by kernel_rfl
theorem NW (n:Nat) (b0 b1 b2 b3 b4 b5:Nat×ak) (m:Nat) (g:Nat→Int) (H:aa):bu Tryz.prog (cd n) 100000 67 Tryz.f67 (KtB.kt 67) (il (I6 aR 88 [.slc 1 6 0 0 1 m none,.fn (.func 87) [] [.ptr 1 0 0 0,.ptr 1 1 0 0]] (aC::je b0 b1 b2 b3 b4 b5 m g::H) (.ok (.int .i64 (-1),aC::je b0 b1 b2 b3 b4 b5 m g::H))) n 0) (pZ aW 0) aX [(.slc 0 6 0 0 1 m none,none),(.fn (.func 87) [] [.ptr 0 0 0 0,.ptr 0 1 0 0],none)] (je b0 b1 b2 b3 b4 b5 m g::H) =
 (fun (Z0:bm)=>Tr.reqP ([AV.slc 1 6 0 0 1 m none,AV.fn (Fn.func 87) [] [AV.ptr 1 0 0 0,AV.ptr 1 1 0 0]]=[AV.slc 1 6 0 0 1 m none,AV.fn (Fn.func 87) [] [AV.ptr 1 0 0 0,AV.ptr 1 1 0 0]]∧aC::Z0::H=aC::Z0::H) (Tr.ite (dD (Int.negSucc 0) (Int.negSucc 0)) (Tr.ok ((AV.slc 0 6 0 0 1 m none,none),Z0::H)) Tr.bad)) { lock:=false,bs:=[b0,b1,b2,b3,b4,b5,(0,ak.row (Row.M [aL.arr .i64 g m]))] }:=by kernel_rfl
theorem ND (n:Nat) (P:Int→Bool) (Q:Int→List AV→aa→Prop) (b0 b1 b2 b3 b4 b5 b6:Nat×ak) (m:Nat) (g:Nat→Int) (H:aa) (j:Int):aN (bp n 88 19) (il (LL 87 P Q) n 0) aW aX (part Tryz.f88 [1,0,1,0,0]) (hints (rp m j)) (aC::aC::jf b0 b1 b2 b3 b4 b5 b6 m g::H) =
 (fun (Z0:bm)=>Tr.ite (df j (Int.ofNat m)) (Tr.req (dR j m) (Tr.req (cM 0 0) (Tr.req (bx (au 0 j 1) m) (Tr.reqP (Q (g (au 0 j 1)) [AV.ptr 2 0 0 0,AV.ptr 2 3 0 0] (aC::aC::Z0::H)) (Tr.ite (P (g (au 0 j 1))) (Tr.ok (Ex.ret,[(4,AV.int .i64 j,none)],aC::aC::Z0::H)) (Tr.ok (Ex.normal,[(0,AV.slc 2 7 0 0 1 m none,none),(1,AV.fn (Fn.func 87) [] [AV.ptr 2 0 0 0,AV.ptr 2 3 0 0],none),(7,AV.int .i64 (Int.ofNat m),none),(8,AV.int .i64 (aK .i64 j (Int.ofNat 1)),none)],aC::aC::Z0::H))))))) (Tr.ok (Ex.exit 0,[(0,AV.slc 2 7 0 0 1 m none,none),(1,AV.fn (Fn.func 87) [] [AV.ptr 2 0 0 0,AV.ptr 2 3 0 0],none),(7,AV.int .i64 (Int.ofNat m),none),(8,AV.int .i64 j,none),(9,AV.bool false,some 1)],aC::aC::Z0::H))) { lock:=false,bs:=[b0,b1,b2,b3,b4,b5,b6,(0,ak.row (Row.M [aL.arr .i64 g m]))] }:=by kernel_rfl
theorem Rl (n:Nat) (b0 b1 b2 b3 b4 b5 b6:Nat×ak) (m:Nat) (g:Nat→Int) (H:aa) (x:Bool) (r:Nat):bu Tryz.prog (cd n) 100000 88 Tryz.f88 (KtB.kt 88) (il aR n 0) (eP aW 0 (rp m 0) (aC::aC::jf b0 b1 b2 b3 b4 b5 b6 m g::H) (.ite x (.ok (.ret,[(4,.int .i64 (Int.ofNat r),none)],aC::aC::jf b0 b1 b2 b3 b4 b5 b6 m g::H)) (.ok (.normal,hints (rp m (Int.ofNat m)++[(9,.bool false)]),aC::aC::jf b0 b1 b2 b3 b4 b5 b6 m g::H)))) aX [(.slc 1 7 0 0 1 m none,none),(.fn (.func 87) [] [.ptr 1 0 0 0,.ptr 1 3 0 0],none)] (aC::jf b0 b1 b2 b3 b4 b5 b6 m g::H) =
 (fun (Z0:bm)=>((fun (Z1:ay)=>Tr.reqP (Z1=Z1∧aC::aC::Z0::H=aC::aC::Z0::H) (Tr.ite x (Tr.ok ((AV.int .i64 (Int.ofNat r),none),aC::Z0::H)) (Tr.ok ((AV.int .i64 (Int.negSucc 0),some 1),aC::Z0::H)))) [(0,AV.slc 2 7 0 0 1 m none),(1,AV.fn (Fn.func 87) [] [AV.ptr 2 0 0 0,AV.ptr 2 3 0 0]),(7,AV.int .i64 (Int.ofNat m)),(8,AV.int .i64 (Int.ofNat 0))])) { lock:=false,bs:=[b0,b1,b2,b3,b4,b5,b6,(0,ak.row (Row.M [aL.arr .i64 g m]))] }:=by kernel_rfl
theorem Nt (n:Nat) (P:Int→Bool) (Q:Int→List AV→aa→Prop) (b0 b1 b2 b3 b4 b5 b6:Nat×ak) (m:Nat) (g:Nat→Int) (H:aa) (i j:Int):aN (bp n 67 42) (il (LL 87 P Q) n 0) aW aX (part Tryz.f67 [1,1,1,0,1,0,0]) (hints (rm m i j)) (aC::jf b0 b1 b2 b3 b4 b5 b6 m g::H) =
 (fun (Z0:bm)=>((fun (Z1:Nat×AV×Option Nat)=>Tr.ite (df j (Int.ofNat m)) (Tr.req (dR j m) (Tr.req (cM 0 0) (Tr.req (bx (au 0 j 1) m) (Tr.reqP (Q (g (au 0 j 1)) [AV.ptr 1 0 0 0,AV.ptr 1 3 0 0] (aC::Z0::H)) (Tr.ite (bG (P (g (au 0 j 1)))) (Tr.req (dR i m) (Tr.req (cM 0 0) (Tr.req (bx (au 0 i 1) m) (Tr.ok (Ex.normal,[(0,AV.slc 1 7 0 0 1 m none,none),Z1,(5,AV.int .i64 (aK .i64 i (Int.ofNat 1)),none),(6,AV.int .i64 (aK .i64 j (Int.ofNat 1)),none)],aC::{ lock:=false,bs:=[b0,b1,b2,b3,b4,b5,b6,(0,ak.row (Row.M [aL.arr .i64 (iw g (au 0 i 1) (g (au 0 j 1))) m]))] } :: H))))) (Tr.ok (Ex.normal,[(0,AV.slc 1 7 0 0 1 m none,none),Z1,(5,AV.int .i64 i,none),(6,AV.int .i64 (aK .i64 j (Int.ofNat 1)),none)],aC::Z0::H))))))) (Tr.ok (Ex.exit 0,[(0,AV.slc 1 7 0 0 1 m none,none),Z1,(5,AV.int .i64 i,none),(6,AV.int .i64 j,none),(19,AV.bool false,some 1)],aC::Z0::H))) (1,AV.fn (Fn.func 87) [] [AV.ptr 1 0 0 0,AV.ptr 1 3 0 0],none))) { lock:=false,bs:=[b0,b1,b2,b3,b4,b5,b6,(0,ak.row (Row.M [aL.arr .i64 g m]))] }:=by kernel_rfl
theorem Rg (n:Nat) (b0 b1 b2 b3 b4 b5 b6:Nat×ak) (m:Nat) (g g2:Nat→Int) (H:aa) (r i2:Int):bu Tryz.prog (cd n) 100000 67 Tryz.f67 (KtB.kt 67) (il (I6 aR 88 [.slc 1 7 0 0 1 m none,.fn (.func 87) [] [.ptr 1 0 0 0,.ptr 1 3 0 0]] (aC::jf b0 b1 b2 b3 b4 b5 b6 m g::H) (.ok (.int .i64 r,aC::jf b0 b1 b2 b3 b4 b5 b6 m g::H))) n 0) (eP aW 0 (rm m r (aK .i64 r (Int.ofNat 1))) (aC::jf b0 b1 b2 b3 b4 b5 b6 m g::H) (.ok (.normal,hints (rm m i2 (Int.ofNat m)++[(19,.bool false)]),aC::jf b0 b1 b2 b3 b4 b5 b6 m g2::H))) aX [(.slc 0 7 0 0 1 m none,none),(.fn (.func 87) [] [.ptr 0 0 0 0,.ptr 0 3 0 0],none)] (jf b0 b1 b2 b3 b4 b5 b6 m g::H) =
 (fun (Z0:bm)=>((fun (Z1:ay)=>Tr.reqP ([AV.slc 1 7 0 0 1 m none,AV.fn (Fn.func 87) [] [AV.ptr 1 0 0 0,AV.ptr 1 3 0 0]]=[AV.slc 1 7 0 0 1 m none,AV.fn (Fn.func 87) [] [AV.ptr 1 0 0 0,AV.ptr 1 3 0 0]]∧aC::Z0::H=aC::Z0::H) (Tr.ite (dD r (Int.negSucc 0)) (Tr.ok ((AV.slc 0 7 0 0 1 m none,none),Z0::H)) (Tr.reqP (Z1=Z1∧aC::Z0::H=aC::Z0::H) (Tr.req (jk i2 m) (Tr.req (bx 0 (dg m (dB i2))) (Tr.req (cM 0 0) (Tr.req (la (ah 0 (dB i2)) (dg m (dB i2)) 0 m) (Tr.req (jk i2 m) (Tr.ok ((AV.slc 0 7 0 0 1 (dB i2) none,none),{ lock:=false,bs:=[b0,b1,b2,b3,b4,b5,b6,(0,ak.row (Row.M [aL.arr .i64 (fK g2 (ah 0 (dB i2)) (fun x=>Int.ofNat 0) (dg m (dB i2))) m]))] } :: H)))))))))) [(0,AV.slc 1 7 0 0 1 m none),(1,AV.fn (Fn.func 87) [] [AV.ptr 1 0 0 0,AV.ptr 1 3 0 0]),(5,AV.int .i64 r),(6,AV.int .i64 (aK .i64 r (Int.ofNat 1)))])) { lock:=false,bs:=[b0,b1,b2,b3,b4,b5,b6,(0,ak.row (Row.M [aL.arr .i64 g m]))] }:=by kernel_rfl
theorem NX (n:Nat) (b0 b1 b2 b3 b4 b5 b6:Nat×ak) (m:Nat) (g:Nat→Int) (H:aa):bu Tryz.prog (cd n) 100000 67 Tryz.f67 (KtB.kt 67) (il (I6 aR 88 [.slc 1 7 0 0 1 m none,.fn (.func 87) [] [.ptr 1 0 0 0,.ptr 1 3 0 0]] (aC::jf b0 b1 b2 b3 b4 b5 b6 m g::H) (.ok (.int .i64 (-1),aC::jf b0 b1 b2 b3 b4 b5 b6 m g::H))) n 0) (pZ aW 0) aX [(.slc 0 7 0 0 1 m none,none),(.fn (.func 87) [] [.ptr 0 0 0 0,.ptr 0 3 0 0],none)] (jf b0 b1 b2 b3 b4 b5 b6 m g::H) =
 (fun (Z0:bm)=>Tr.reqP ([AV.slc 1 7 0 0 1 m none,AV.fn (Fn.func 87) [] [AV.ptr 1 0 0 0,AV.ptr 1 3 0 0]]=[AV.slc 1 7 0 0 1 m none,AV.fn (Fn.func 87) [] [AV.ptr 1 0 0 0,AV.ptr 1 3 0 0]]∧aC::Z0::H=aC::Z0::H) (Tr.ite (dD (Int.negSucc 0) (Int.negSucc 0)) (Tr.ok ((AV.slc 0 7 0 0 1 m none,none),Z0::H)) Tr.bad)) { lock:=false,bs:=[b0,b1,b2,b3,b4,b5,b6,(0,ak.row (Row.M [aL.arr .i64 g m]))] }:=by kernel_rfl
theorem mB {k:Nat} {f:FuncId} {P:Int→Bool} {Q:Int→List AV→aa→Prop} (h:∀ x C H,Q x C H→cd k (.fn f) (.int .i64 x::C) H=some (.bool (P x),H)):(LL f P Q).Ok (cd k):=by
 refine ji (aO _) (fun args H x hx=>?_)
 unfold gC at hx
 split at hx
 · obtain ⟨h1,h2⟩:=Tr.cY hx
   rw[h _ _ _ h1,← Tr.ab h2]
 · exact (Tr.ae hx).elim
def cu (P:Int→Bool) (g:Nat→Int):Nat→List Int
 | 0=>[]
 | j+1=>if P (g j)=true then cu P g j else cu P g j++[g j]
theorem qG (P:Int→Bool) (g:Nat→Int) (j:Nat):(cu P g j).length≤j:=by
 induction j with
 | zero=>simp[cu]
 | succ j ih =>
   unfold cu
   split
   · omega
   · rw[List.length_append];simp only[List.length_cons,List.length_nil];omega
theorem FE (P:Int→Bool) (g:Nat→Int) (j:Nat) (h:∀ i,i<j→P (g i)=false):(cu P g j).length=j∧∀ x,x<j→(cu P g j).getD x 0=g x:=by
 induction j with
 | zero=>exact ⟨rfl,fun x h=>by omega⟩
 | succ j ih =>
   obtain ⟨h1,h2⟩:=ih (fun i hi=>h i (by omega))
   have:cu P g (j+1)=cu P g j++[g j]:=by
    show (if P (g j)=true then cu P g j else cu P g j++[g j])=_
    rw[if_neg (by rw[h j (by omega)];decide)]
   rw[this]
   refine ⟨by rw[List.length_append,h1];rfl,fun x hx=>?_⟩
   by_cases e:x<j
   · rw[← h2 x e,List.getD_eq_getElem?_getD,List.getD_eq_getElem?_getD,List.getElem?_append_left (by omega)]
   · have:x=j:=by omega
     subst this
     rw[List.getD_eq_getElem?_getD,List.getElem?_append_right (by omega),h1];simp
def gk (P:Int→Bool) (g:Nat→Int) (j x:Nat):Int:=if x<(cu P g j).length then (cu P g j).getD x 0 else g x
theorem Jc (P:Int→Bool) (g:Nat→Int) (j:Nat):gk P g j j=g j:=by
 have:=qG P g j
 unfold gk;rw[if_neg (by omega)]
theorem Jd (P:Int→Bool) (g:Nat→Int) (j:Nat) (h:P (g j)=false):iw (gk P g j) (cu P g j).length (g j)=gk P g (j+1):=by
 have e:cu P g (j+1)=cu P g j++[g j]:=by
  show (if P (g j)=true then cu P g j else cu P g j++[g j])=_
  rw[if_neg (by rw[h];decide)]
 rw[j5];funext x
 unfold gk
 rw[e,List.length_append]
 simp only[List.length_cons,List.length_nil]
 by_cases h1:x<(cu P g j).length
 · rw[if_neg (by omega),if_pos h1,if_pos (by omega),List.getD_eq_getElem?_getD,List.getD_eq_getElem?_getD,List.getElem?_append_left h1]
 · by_cases h2:x=(cu P g j).length
   · subst h2
     rw[if_pos rfl,if_pos (by omega),List.getD_eq_getElem?_getD,List.getElem?_append_right (by omega)];simp
   · rw[if_neg h2,if_neg h1,if_neg (by omega)]
theorem AT (P:Int→Bool) (g:Nat→Int) (j:Nat) (h:P (g j)=true):gk P g (j+1)=gk P g j∧cu P g (j+1)=cu P g j:=by
 have e:cu P g (j+1)=cu P g j:=by
  show (if P (g j)=true then cu P g j else cu P g j++[g j])=_
  rw[if_pos h]
 exact ⟨by funext x;unfold gk;rw[e],e⟩
theorem xw (P:Int→Bool) (g:Nat→Int) (j:Nat) (h:∀ i,i<j→P (g i)=false) (h1:P (g j)=true):(cu P g (j+1)).length=j∧gk P g (j+1)=g:=by
 obtain ⟨h2,h3⟩:=FE P g j h
 obtain ⟨h4,h5⟩:=AT P g j h1
 refine ⟨by rw[h5,h2],?_⟩
 rw[h4];funext x
 unfold gk
 split
 · rename_i h6;exact h3 x (by omega)
 · rfl
theorem Cm (P:Int→Bool) (g:Nat→Int) (j k:Nat):(cu P g (j+k)).length≤(cu P g j).length+k:=by
 induction k with
 | zero=>exact Nat.le_refl _
 | succ k ih =>
   show (if P (g (j+k))=true then cu P g (j+k) else cu P g (j+k)++[g (j+k)]).length≤_
   split
   · omega
   · rw[List.length_append];simp only[List.length_cons,List.length_nil];omega
theorem RC:∀ b,(0,b) ∈ bc (bZ Tryz.f88)→b=.loop (part Tryz.f88 [1,0,1,0,0]):=jj (by kernel_rfl)
theorem RB:∀ b,(0,b) ∈ bc (bZ Tryz.f67)→b=.loop (part Tryz.f67 [1,1,1,0,1,0,0]):=jj (by kernel_rfl)
def Az (p:Nat→Bool) (m:Nat):Int:=if iA p m=true then (fN p m 0:Int) else -1
section
variable (n:Nat) (P:Int→Bool) (Q:Int→List AV→aa→Prop) (b0 b1 b2 b3 b4 b5:Nat×ak) (m:Nat) (g:Nat→Int) (H:aa)
theorem P5 (hQ:∀ k x C H,Q x C H→cd (n+k) (.fn 87) (.int .i64 x::C) H=some (.bool (P x),H)) (hm:m≤1000) (h2:∀ j,j<m→Q (g j) [.ptr 2 0 0 0,.ptr 2 1 0 0] (aC::aC::je b0 b1 b2 b3 b4 b5 m g::H)) :
 exec (bp n 88 19) (.block 0 (.loop (part Tryz.f88 [1,0,1,0,0]))) (rn m 0) (aC::aC::je b0 b1 b2 b3 b4 b5 m g::H)=some (cond (iA (fun j=>P (g j)) m) (.ret,[(4,.int .i64 (fN (fun j=>P (g j)) m 0:Nat))],aC::aC::je b0 b1 b2 b3 b4 b5 m g::H) (.normal,rn m (Int.ofNat m)++[(9,.bool false)],aC::aC::je b0 b1 b2 b3 b4 b5 m g::H)):=by
 refine yC 0 (fun j=>rn m (j:Int)) (fun _=>aC::aC::je b0 b1 b2 b3 b4 b5 m g::H) m (fun j=>P (g j)) (fun j=>([(4,.int .i64 (j:Nat))],aC::aC::je b0 b1 b2 b3 b4 b5 m g::H)) (rn m (Int.ofNat m)++[(9,.bool false)],aC::aC::je b0 b1 b2 b3 b4 b5 m g::H) (by omega) (fun j hj=>?_) ?_
 · have ej : aK .i64 (j:Int) (Int.ofNat 1)=((j+1:Nat):Int):=by rw[bH,show Int.ofNat 1=1 from rfl];exact cr (by omega) (by omega)
   have ei:au 0 (j:Int) 1=j:=by rw[bB];omega
   have q2:=h2 j hj
   refine aD (NC n P Q b0 b1 b2 b3 b4 b5 m g H (j:Int)) (cP _ n 0 (fun k=>mB (hQ k))) (af _ _) (ag _ _) ?_
   rw[ej,ei]
   show Tr.all _ (fun x=>if P (g j)=true then _ else _)
   cases hp:P (g j) with
   | true =>
     simp only[if_true]
     refine Tr.al (fun hc=>?_) (fun hc=>?_)
     · repeat' first | (refine Tr.al (fun hc=>?_) (fun hc=>?_)<;>(try simp (disch:=omega) only[nV,nW] at hc)<;>try omega) | (refine Tr.a8 ?_ ?_;· (try simp (disch:=omega) only[nV,nW]);try omega) | (refine Tr.aw ?_ ?_;· first | exact trivial | rfl | exact ⟨rfl,rfl⟩ | exact ⟨rfl,rfl,rfl⟩ | (simp (disch:=omega) only[nV,nW];done) | ((try simp (disch:=omega) only[nV,nW]);omega)) | fail
       all_goals first
        | exact q2
        | exact Tr.aw q2 (Tr.av rfl)
        | (refine Tr.aw q2 ?_
           exact wF)
        | fail
     · simp (disch:=omega) only[nV,nW] at hc;omega
   | false =>
     simp only[Bool.false_eq_true,if_false]
     refine Tr.al (fun hc=>?_) (fun hc=>?_)
     · repeat' first | (refine Tr.al (fun hc=>?_) (fun hc=>?_)<;>(try simp (disch:=omega) only[nV,nW] at hc)<;>try omega) | (refine Tr.a8 ?_ ?_;· (try simp (disch:=omega) only[nV,nW]);try omega) | (refine Tr.aw ?_ ?_;· first | exact trivial | rfl | exact ⟨rfl,rfl⟩ | exact ⟨rfl,rfl,rfl⟩ | (simp (disch:=omega) only[nV,nW];done) | ((try simp (disch:=omega) only[nV,nW]);omega)) | fail
       all_goals first
        | exact q2
        | (refine Tr.aw q2 ?_
           exact wF)
        | fail
     · simp (disch:=omega) only[nV,nW] at hc;omega
 · obtain ⟨x,h1,rfl⟩:=aD (Q:=fun x=>x=(.exit 0,rn m (Int.ofNat m)++[(9,.bool false)],aC::aC::je b0 b1 b2 b3 b4 b5 m g::H)) (NC n P Q b0 b1 b2 b3 b4 b5 m g H (Int.ofNat m)) (cP _ n 0 (fun k=>mB (hQ k))) (af _ _) (ag _ _) (by
    refine Tr.al (fun hc=>?_) (fun hc=>Tr.av rfl)
    simp (disch:=omega) only[nV,nW] at hc;omega)
   exact h1
theorem OE (hQ:∀ k x C H,Q x C H→cd (n+k) (.fn 87) (.int .i64 x::C) H=some (.bool (P x),H)) (hm:m≤1000) (h2:∀ j,j<m→Q (g j) [.ptr 2 0 0 0,.ptr 2 1 0 0] (aC::aC::je b0 b1 b2 b3 b4 b5 m g::H)) :
 cd (n+1) (.fn 88) [.slc 1 6 0 0 1 m none,.fn (.func 87) [] [.ptr 1 0 0 0,.ptr 1 1 0 0]] (aC::je b0 b1 b2 b3 b4 b5 m g::H)=some (.int .i64 (Az (fun j=>P (g j)) m),aC::je b0 b1 b2 b3 b4 b5 m g::H):=by
 have hl:=P5 n P Q b0 b1 b2 b3 b4 b5 m g H hQ hm h2
 refine ba (n:=n) Tryz.func88 rfl rfl rfl (Rk n b0 b1 b2 b3 b4 b5 m g H (iA (fun j=>P (g j)) m) (fN (fun j=>P (g j)) m 0)) (aI n) (bz (af _ _) RC (fun x hx=>by
  refine Eq.trans hl ?_
  rcases Tr.gz hx with ⟨hc,hx⟩ | ⟨hc,hx⟩
  · rw[hc,← Tr.ab hx];rfl
  · rw[hc,← Tr.ab hx];simp only[cond_false,gi.st,aP])) (ag _ _) ?_
 refine Tr.aw ⟨rfl,rfl⟩ (Tr.al (fun hc=>Tr.av ⟨?_,rfl⟩) (fun hc=>Tr.av ⟨?_,rfl⟩))
 · unfold Az;rw[if_pos hc];rfl
 · unfold Az;rw[if_neg (by rw[hc];decide)];rfl
theorem PV (r:Nat) (hQ:∀ k x C H,Q x C H→cd (n+k) (.fn 87) (.int .i64 x::C) H=some (.bool (P x),H)) (hm:m≤1000) (h1:∀ j g',j<m→Q (g j) [.ptr 1 0 0 0,.ptr 1 1 0 0] (aC::je b0 b1 b2 b3 b4 b5 m g'::H)) (hr:r<m) (h3:∀ i,i<r→P (g i)=false) (h4:P (g r)=true) :
 exec (bp n 67 42) (.block 0 (.loop (part Tryz.f67 [1,1,1,0,1,0,0]))) (rl m (r:Int) (aK .i64 (r:Int) (Int.ofNat 1))) (aC::je b0 b1 b2 b3 b4 b5 m g::H)=some (.normal,rl m ((cu P g m).length:Int) (Int.ofNat m)++[(19,.bool false)],aC::je b0 b1 b2 b3 b4 b5 m (gk P g m)::H):=by
 obtain ⟨k1,k2⟩:=xw P g r h3 h4
 have e0:aK .i64 (r:Int) (Int.ofNat 1)=((r+1+0:Nat):Int):=by rw[bH,show Int.ofNat 1=1 from rfl];exact cr (by omega) (by omega)
 have:=j9 (n:=n) (f:=67) (nt:=42) (c:=part Tryz.f67 [1,1,1,0,1,0,0]) 0 (fun j=>rl m ((cu P g (r+1+j)).length:Int) ((r+1+j:Nat):Int)) (fun j=>aC::je b0 b1 b2 b3 b4 b5 m (gk P g (r+1+j))::H) (m-(r+1)) (rl m ((cu P g m).length:Int) (Int.ofNat m)++[(19,.bool false)],aC::je b0 b1 b2 b3 b4 b5 m (gk P g m)::H) (by omega) (fun j hj=>?_) ?_
 · rw[show r+1+0=r+1 from rfl,k1,k2] at this
   rw[e0];exact this
 · generalize hJ:r+1+j=J
   rw[show r+1+(j+1)=J+1 by omega]
   have hJm:J<m:=by omega
   have ej:aK .i64 (J:Int) (Int.ofNat 1)=((J+1:Nat):Int):=by rw[bH,show Int.ofNat 1=1 from rfl];exact cr (by omega) (by omega)
   have ei:au 0 (J:Int) 1=J:=by rw[bB];omega
   have hl:=qG P g J
   have q1:=h1 J (gk P g J) hJm
   have ga:=Jc P g J
   have ea:aK .i64 ((cu P g J).length:Int) (Int.ofNat 1)=(((cu P g J).length+1:Nat):Int):=by rw[bH,show Int.ofNat 1=1 from rfl];exact cr (by omega) (by omega)
   have ei2:au 0 ((cu P g J).length:Int) 1=(cu P g J).length:=by rw[bB];omega
   refine aD (Ns n P Q b0 b1 b2 b3 b4 b5 m (gk P g J) H ((cu P g J).length:Int) (J:Int)) (cP _ n 0 (fun k=>mB (hQ k))) (af _ _) (ag _ _) ?_
   rw[ej,ei,ga,ea,ei2]
   cases hp:P (g J) with
   | true =>
     obtain ⟨o1,o2⟩:=AT P g J hp
     rw[o1,o2]
     refine Tr.al (fun hc=>?_) (fun hc=>?_)
     · repeat' first | (refine Tr.al (fun hc=>?_) (fun hc=>?_)<;>(try simp (disch:=omega) only[nV,nW] at hc)<;>try omega) | (refine Tr.a8 ?_ ?_;· (try simp (disch:=omega) only[nV,nW]);try omega) | (refine Tr.aw ?_ ?_;· first | exact trivial | rfl | exact ⟨rfl,rfl⟩ | exact ⟨rfl,rfl,rfl⟩ | (simp (disch:=omega) only[nV,nW];done) | ((try simp (disch:=omega) only[nV,nW]);omega)) | fail
       all_goals first
        | exact q1
        | (refine Tr.aw q1 ?_
           exact wF)
        | fail
     · simp (disch:=omega) only[nV,nW] at hc;omega
   | false =>
     have o1:=Jd P g J hp
     have o2:(cu P g (J+1)).length=(cu P g J).length+1:=by
      show (if P (g J)=true then cu P g J else cu P g J++[g J]).length=_
      rw[hp,if_neg (by decide),List.length_append];rfl
     rw[o1,o2]
     refine Tr.al (fun hc=>?_) (fun hc=>?_)
     · repeat' first | (refine Tr.al (fun hc=>?_) (fun hc=>?_)<;>(try simp (disch:=omega) only[nV,nW] at hc)<;>try omega) | (refine Tr.a8 ?_ ?_;· (try simp (disch:=omega) only[nV,nW]);try omega) | (refine Tr.aw ?_ ?_;· first | exact trivial | rfl | exact ⟨rfl,rfl⟩ | exact ⟨rfl,rfl,rfl⟩ | (simp (disch:=omega) only[nV,nW];done) | ((try simp (disch:=omega) only[nV,nW]);omega)) | fail
       all_goals first
        | exact q1
        | (refine Tr.aw q1 ?_
           exact wF)
        | fail
     · simp (disch:=omega) only[nV,nW] at hc;omega
 · rw[show r+1+(m-(r+1))=m by omega]
   obtain ⟨x,h1,rfl⟩:=aD (Q:=fun x=>x=(.exit 0,rl m ((cu P g m).length:Int) (Int.ofNat m)++[(19,.bool false)],aC::je b0 b1 b2 b3 b4 b5 m (gk P g m)::H)) (Ns n P Q b0 b1 b2 b3 b4 b5 m (gk P g m) H ((cu P g m).length:Int) (Int.ofNat m)) (cP _ n 0 (fun k=>mB (hQ k))) (af _ _) (ag _ _) (by
    refine Tr.al (fun hc=>?_) (fun hc=>Tr.av rfl)
    simp (disch:=omega) only[nV,nW] at hc;omega)
   exact h1
theorem OC (hQ:∀ k x C H,Q x C H→cd (n+k) (.fn 87) (.int .i64 x::C) H=some (.bool (P x),H)) (hm:m≤1000) (h1:∀ j g',j<m→Q (g j) [.ptr 1 0 0 0,.ptr 1 1 0 0] (aC::je b0 b1 b2 b3 b4 b5 m g'::H)) (h2:∀ j,j<m→Q (g j) [.ptr 2 0 0 0,.ptr 2 1 0 0] (aC::aC::je b0 b1 b2 b3 b4 b5 m g::H)) :
 ∃ g',cd (n+2) (.fn 67) [.slc 0 6 0 0 1 m none,.fn (.func 87) [] [.ptr 0 0 0 0,.ptr 0 1 0 0]] (je b0 b1 b2 b3 b4 b5 m g::H)=some (.slc 0 6 0 0 1 (cu P g m).length none,je b0 b1 b2 b3 b4 b5 m g'::H)∧∀ x,x<(cu P g m).length→g' x=(cu P g m).getD x 0:=by
 have hc:∀ k,cd (n+1+k) (.fn 88) [.slc 1 6 0 0 1 m none,.fn (.func 87) [] [.ptr 1 0 0 0,.ptr 1 1 0 0]] (aC::je b0 b1 b2 b3 b4 b5 m g::H)=some (.int .i64 (Az (fun j=>P (g j)) m),aC::je b0 b1 b2 b3 b4 b5 m g::H):=fun k=>by
  have:=OE (n+k) P Q b0 b1 b2 b3 b4 b5 m g H (fun k2=>by rw[Nat.add_assoc];exact hQ _) hm h2
  rwa [show n+k+1=n+1+k by omega] at this
 cases he:iA (fun j=>P (g j)) m with
 | true =>
   have hi:Az (fun j=>P (g j)) m=(fN (fun j=>P (g j)) m 0:Nat):=by unfold Az;rw[if_pos he]
   have hlt:=kH he
   obtain ⟨_,_,s3,s4⟩:=iP (fun j=>P (g j)) m 0
   have s4:=s4 (by omega)
   rw[hi] at hc
   generalize fN (fun j=>P (g j)) m 0=r at *
   have hl:=PV (n+1) P Q b0 b1 b2 b3 b4 b5 m g H r (fun k=>by rw[Nat.add_assoc];exact hQ _) hm (fun j g' hj=>h1 j g' hj) hlt (fun i hi=>s3 i (by omega) hi) s4
   have hk:(cu P g m).length<m:=by
    obtain ⟨k1,_⟩:=xw P g r (fun i hi=>s3 i (by omega) hi) s4
    have:=Cm P g (r+1) (m-(r+1))
    rw[show r+1+(m-(r+1))=m by omega] at this
    omega
   refine ⟨fK (gk P g m) (cu P g m).length (fun x=>Int.ofNat 0) (m-(cu P g m).length),?_,fun x hx=>?_⟩
   · refine ba (n:=n+1) Tryz.func67 rfl rfl rfl (Rf (n+1) b0 b1 b2 b3 b4 b5 m g (gk P g m) H (r:Int) ((cu P g m).length:Int)) (cP _ (n+1) 0 (fun k=>mC (aO _) (fun x hx=>by rw[← Tr.ab hx];exact hc k))) (bz (af _ _) RB (fun x hx=>by rw[← Tr.ab hx];simp only[gi.st,aP];exact hl)) (ag _ _) ?_
     have e3:dB ((cu P g m).length:Int)=(cu P g m).length:=fR _
     rw[e3,aU,Nat.zero_add,gF]
     repeat' first | (refine Tr.al (fun hc=>?_) (fun hc=>?_)<;>(try simp (disch:=omega) only[nV,nW] at hc)<;>try omega) | (refine Tr.a8 ?_ ?_;· (try simp (disch:=omega) only[nV,nW]);try omega) | (refine Tr.aw ?_ ?_;· first | exact trivial | rfl | exact ⟨rfl,rfl⟩ | exact ⟨rfl,rfl,rfl⟩ | (simp (disch:=omega) only[nV,nW];done) | ((try simp (disch:=omega) only[nV,nW]);omega)) | fail
     all_goals first
      | exact Tr.aw ⟨rfl,rfl⟩ (by
         exact wF)
      | exact Tr.av ⟨rfl,rfl⟩
      | fail
   · rw[jR];unfold qk
     rw[if_neg (by omega)]
     unfold gk;rw[if_pos hx]
 | false =>
   have hi:Az (fun j=>P (g j)) m=-1:=by unfold Az;rw[if_neg (by rw[he];decide)]
   rw[hi] at hc
   have hn:=qo he
   obtain ⟨_,_,s3,_⟩:=iP (fun j=>P (g j)) m 0
   obtain ⟨k1,k2⟩:=FE P g m (fun i hi=>s3 i (by omega) (by omega))
   refine ⟨g,?_,fun x hx=>(k2 x (by omega)).symm⟩
   rw[k1]
   refine ba (n:=n+1) Tryz.func67 rfl rfl rfl (NW (n+1) b0 b1 b2 b3 b4 b5 m g H) (cP _ (n+1) 0 (fun k=>mC (aO _) (fun x hx=>by rw[← Tr.ab hx];exact hc k))) (iv (af _ _) 0) (ag _ _) ?_
   exact wF
end
section
variable (n:Nat) (P:Int→Bool) (Q:Int→List AV→aa→Prop) (b0 b1 b2 b3 b4 b5 b6:Nat×ak) (m:Nat) (g:Nat→Int) (H:aa)
theorem P6 (hQ:∀ k x C H,Q x C H→cd (n+k) (.fn 87) (.int .i64 x::C) H=some (.bool (P x),H)) (hm:m≤1000) (h2:∀ j,j<m→Q (g j) [.ptr 2 0 0 0,.ptr 2 3 0 0] (aC::aC::jf b0 b1 b2 b3 b4 b5 b6 m g::H)) :
 exec (bp n 88 19) (.block 0 (.loop (part Tryz.f88 [1,0,1,0,0]))) (rp m 0) (aC::aC::jf b0 b1 b2 b3 b4 b5 b6 m g::H)=some (cond (iA (fun j=>P (g j)) m) (.ret,[(4,.int .i64 (fN (fun j=>P (g j)) m 0:Nat))],aC::aC::jf b0 b1 b2 b3 b4 b5 b6 m g::H) (.normal,rp m (Int.ofNat m)++[(9,.bool false)],aC::aC::jf b0 b1 b2 b3 b4 b5 b6 m g::H)):=by
 refine yC 0 (fun j=>rp m (j:Int)) (fun _=>aC::aC::jf b0 b1 b2 b3 b4 b5 b6 m g::H) m (fun j=>P (g j)) (fun j=>([(4,.int .i64 (j:Nat))],aC::aC::jf b0 b1 b2 b3 b4 b5 b6 m g::H)) (rp m (Int.ofNat m)++[(9,.bool false)],aC::aC::jf b0 b1 b2 b3 b4 b5 b6 m g::H) (by omega) (fun j hj=>?_) ?_
 · have ej : aK .i64 (j:Int) (Int.ofNat 1)=((j+1:Nat):Int):=by rw[bH,show Int.ofNat 1=1 from rfl];exact cr (by omega) (by omega)
   have ei:au 0 (j:Int) 1=j:=by rw[bB];omega
   have q2:=h2 j hj
   refine aD (ND n P Q b0 b1 b2 b3 b4 b5 b6 m g H (j:Int)) (cP _ n 0 (fun k=>mB (hQ k))) (af _ _) (ag _ _) ?_
   rw[ej,ei]
   show Tr.all _ (fun x=>if P (g j)=true then _ else _)
   cases hp:P (g j) with
   | true =>
     simp only[if_true]
     refine Tr.al (fun hc=>?_) (fun hc=>?_)
     · repeat' first | (refine Tr.al (fun hc=>?_) (fun hc=>?_)<;>(try simp (disch:=omega) only[nV,nW] at hc)<;>try omega) | (refine Tr.a8 ?_ ?_;· (try simp (disch:=omega) only[nV,nW]);try omega) | (refine Tr.aw ?_ ?_;· first | exact trivial | rfl | exact ⟨rfl,rfl⟩ | exact ⟨rfl,rfl,rfl⟩ | (simp (disch:=omega) only[nV,nW];done) | ((try simp (disch:=omega) only[nV,nW]);omega)) | fail
       all_goals first
        | exact q2
        | exact Tr.aw q2 (Tr.av rfl)
        | (refine Tr.aw q2 ?_
           exact wF)
        | fail
     · simp (disch:=omega) only[nV,nW] at hc;omega
   | false =>
     simp only[Bool.false_eq_true,if_false]
     refine Tr.al (fun hc=>?_) (fun hc=>?_)
     · repeat' first | (refine Tr.al (fun hc=>?_) (fun hc=>?_)<;>(try simp (disch:=omega) only[nV,nW] at hc)<;>try omega) | (refine Tr.a8 ?_ ?_;· (try simp (disch:=omega) only[nV,nW]);try omega) | (refine Tr.aw ?_ ?_;· first | exact trivial | rfl | exact ⟨rfl,rfl⟩ | exact ⟨rfl,rfl,rfl⟩ | (simp (disch:=omega) only[nV,nW];done) | ((try simp (disch:=omega) only[nV,nW]);omega)) | fail
       all_goals first
        | exact q2
        | (refine Tr.aw q2 ?_
           exact wF)
        | fail
     · simp (disch:=omega) only[nV,nW] at hc;omega
 · obtain ⟨x,h1,rfl⟩:=aD (Q:=fun x=>x=(.exit 0,rp m (Int.ofNat m)++[(9,.bool false)],aC::aC::jf b0 b1 b2 b3 b4 b5 b6 m g::H)) (ND n P Q b0 b1 b2 b3 b4 b5 b6 m g H (Int.ofNat m)) (cP _ n 0 (fun k=>mB (hQ k))) (af _ _) (ag _ _) (by
    refine Tr.al (fun hc=>?_) (fun hc=>Tr.av rfl)
    simp (disch:=omega) only[nV,nW] at hc;omega)
   exact h1
theorem OF (hQ:∀ k x C H,Q x C H→cd (n+k) (.fn 87) (.int .i64 x::C) H=some (.bool (P x),H)) (hm:m≤1000) (h2:∀ j,j<m→Q (g j) [.ptr 2 0 0 0,.ptr 2 3 0 0] (aC::aC::jf b0 b1 b2 b3 b4 b5 b6 m g::H)) :
 cd (n+1) (.fn 88) [.slc 1 7 0 0 1 m none,.fn (.func 87) [] [.ptr 1 0 0 0,.ptr 1 3 0 0]] (aC::jf b0 b1 b2 b3 b4 b5 b6 m g::H)=some (.int .i64 (Az (fun j=>P (g j)) m),aC::jf b0 b1 b2 b3 b4 b5 b6 m g::H):=by
 have hl:=P6 n P Q b0 b1 b2 b3 b4 b5 b6 m g H hQ hm h2
 refine ba (n:=n) Tryz.func88 rfl rfl rfl (Rl n b0 b1 b2 b3 b4 b5 b6 m g H (iA (fun j=>P (g j)) m) (fN (fun j=>P (g j)) m 0)) (aI n) (bz (af _ _) RC (fun x hx=>by
  refine Eq.trans hl ?_
  rcases Tr.gz hx with ⟨hc,hx⟩ | ⟨hc,hx⟩
  · rw[hc,← Tr.ab hx];rfl
  · rw[hc,← Tr.ab hx];simp only[cond_false,gi.st,aP])) (ag _ _) ?_
 refine Tr.aw ⟨rfl,rfl⟩ (Tr.al (fun hc=>Tr.av ⟨?_,rfl⟩) (fun hc=>Tr.av ⟨?_,rfl⟩))
 · unfold Az;rw[if_pos hc];rfl
 · unfold Az;rw[if_neg (by rw[hc];decide)];rfl
theorem PW (r:Nat) (hQ:∀ k x C H,Q x C H→cd (n+k) (.fn 87) (.int .i64 x::C) H=some (.bool (P x),H)) (hm:m≤1000) (h1:∀ j g',j<m→Q (g j) [.ptr 1 0 0 0,.ptr 1 3 0 0] (aC::jf b0 b1 b2 b3 b4 b5 b6 m g'::H)) (hr:r<m) (h3:∀ i,i<r→P (g i)=false) (h4:P (g r)=true) :
 exec (bp n 67 42) (.block 0 (.loop (part Tryz.f67 [1,1,1,0,1,0,0]))) (rm m (r:Int) (aK .i64 (r:Int) (Int.ofNat 1))) (aC::jf b0 b1 b2 b3 b4 b5 b6 m g::H)=some (.normal,rm m ((cu P g m).length:Int) (Int.ofNat m)++[(19,.bool false)],aC::jf b0 b1 b2 b3 b4 b5 b6 m (gk P g m)::H):=by
 obtain ⟨k1,k2⟩:=xw P g r h3 h4
 have e0:aK .i64 (r:Int) (Int.ofNat 1)=((r+1+0:Nat):Int):=by rw[bH,show Int.ofNat 1=1 from rfl];exact cr (by omega) (by omega)
 have:=j9 (n:=n) (f:=67) (nt:=42) (c:=part Tryz.f67 [1,1,1,0,1,0,0]) 0 (fun j=>rm m ((cu P g (r+1+j)).length:Int) ((r+1+j:Nat):Int)) (fun j=>aC::jf b0 b1 b2 b3 b4 b5 b6 m (gk P g (r+1+j))::H) (m-(r+1)) (rm m ((cu P g m).length:Int) (Int.ofNat m)++[(19,.bool false)],aC::jf b0 b1 b2 b3 b4 b5 b6 m (gk P g m)::H) (by omega) (fun j hj=>?_) ?_
 · rw[show r+1+0=r+1 from rfl,k1,k2] at this
   rw[e0];exact this
 · generalize hJ:r+1+j=J
   rw[show r+1+(j+1)=J+1 by omega]
   have hJm:J<m:=by omega
   have ej:aK .i64 (J:Int) (Int.ofNat 1)=((J+1:Nat):Int):=by rw[bH,show Int.ofNat 1=1 from rfl];exact cr (by omega) (by omega)
   have ei:au 0 (J:Int) 1=J:=by rw[bB];omega
   have hl:=qG P g J
   have q1:=h1 J (gk P g J) hJm
   have ga:=Jc P g J
   have ea:aK .i64 ((cu P g J).length:Int) (Int.ofNat 1)=(((cu P g J).length+1:Nat):Int):=by rw[bH,show Int.ofNat 1=1 from rfl];exact cr (by omega) (by omega)
   have ei2:au 0 ((cu P g J).length:Int) 1=(cu P g J).length:=by rw[bB];omega
   refine aD (Nt n P Q b0 b1 b2 b3 b4 b5 b6 m (gk P g J) H ((cu P g J).length:Int) (J:Int)) (cP _ n 0 (fun k=>mB (hQ k))) (af _ _) (ag _ _) ?_
   rw[ej,ei,ga,ea,ei2]
   cases hp:P (g J) with
   | true =>
     obtain ⟨o1,o2⟩:=AT P g J hp
     rw[o1,o2]
     refine Tr.al (fun hc=>?_) (fun hc=>?_)
     · repeat' first | (refine Tr.al (fun hc=>?_) (fun hc=>?_)<;>(try simp (disch:=omega) only[nV,nW] at hc)<;>try omega) | (refine Tr.a8 ?_ ?_;· (try simp (disch:=omega) only[nV,nW]);try omega) | (refine Tr.aw ?_ ?_;· first | exact trivial | rfl | exact ⟨rfl,rfl⟩ | exact ⟨rfl,rfl,rfl⟩ | (simp (disch:=omega) only[nV,nW];done) | ((try simp (disch:=omega) only[nV,nW]);omega)) | fail
       all_goals first
        | exact q1
        | (refine Tr.aw q1 ?_
           exact wF)
        | fail
     · simp (disch:=omega) only[nV,nW] at hc;omega
   | false =>
     have o1:=Jd P g J hp
     have o2:(cu P g (J+1)).length=(cu P g J).length+1:=by
      show (if P (g J)=true then cu P g J else cu P g J++[g J]).length=_
      rw[hp,if_neg (by decide),List.length_append];rfl
     rw[o1,o2]
     refine Tr.al (fun hc=>?_) (fun hc=>?_)
     · repeat' first | (refine Tr.al (fun hc=>?_) (fun hc=>?_)<;>(try simp (disch:=omega) only[nV,nW] at hc)<;>try omega) | (refine Tr.a8 ?_ ?_;· (try simp (disch:=omega) only[nV,nW]);try omega) | (refine Tr.aw ?_ ?_;· first | exact trivial | rfl | exact ⟨rfl,rfl⟩ | exact ⟨rfl,rfl,rfl⟩ | (simp (disch:=omega) only[nV,nW];done) | ((try simp (disch:=omega) only[nV,nW]);omega)) | fail
       all_goals first
        | exact q1
        | (refine Tr.aw q1 ?_
           exact wF)
        | fail
     · simp (disch:=omega) only[nV,nW] at hc;omega
 · rw[show r+1+(m-(r+1))=m by omega]
   obtain ⟨x,h1,rfl⟩:=aD (Q:=fun x=>x=(.exit 0,rm m ((cu P g m).length:Int) (Int.ofNat m)++[(19,.bool false)],aC::jf b0 b1 b2 b3 b4 b5 b6 m (gk P g m)::H)) (Nt n P Q b0 b1 b2 b3 b4 b5 b6 m (gk P g m) H ((cu P g m).length:Int) (Int.ofNat m)) (cP _ n 0 (fun k=>mB (hQ k))) (af _ _) (ag _ _) (by
    refine Tr.al (fun hc=>?_) (fun hc=>Tr.av rfl)
    simp (disch:=omega) only[nV,nW] at hc;omega)
   exact h1
theorem OD (hQ:∀ k x C H,Q x C H→cd (n+k) (.fn 87) (.int .i64 x::C) H=some (.bool (P x),H)) (hm:m≤1000) (h1:∀ j g',j<m→Q (g j) [.ptr 1 0 0 0,.ptr 1 3 0 0] (aC::jf b0 b1 b2 b3 b4 b5 b6 m g'::H)) (h2:∀ j,j<m→Q (g j) [.ptr 2 0 0 0,.ptr 2 3 0 0] (aC::aC::jf b0 b1 b2 b3 b4 b5 b6 m g::H)) :
 ∃ g',cd (n+2) (.fn 67) [.slc 0 7 0 0 1 m none,.fn (.func 87) [] [.ptr 0 0 0 0,.ptr 0 3 0 0]] (jf b0 b1 b2 b3 b4 b5 b6 m g::H)=some (.slc 0 7 0 0 1 (cu P g m).length none,jf b0 b1 b2 b3 b4 b5 b6 m g'::H)∧∀ x,x<(cu P g m).length→g' x=(cu P g m).getD x 0:=by
 have hc:∀ k,cd (n+1+k) (.fn 88) [.slc 1 7 0 0 1 m none,.fn (.func 87) [] [.ptr 1 0 0 0,.ptr 1 3 0 0]] (aC::jf b0 b1 b2 b3 b4 b5 b6 m g::H)=some (.int .i64 (Az (fun j=>P (g j)) m),aC::jf b0 b1 b2 b3 b4 b5 b6 m g::H):=fun k=>by
  have:=OF (n+k) P Q b0 b1 b2 b3 b4 b5 b6 m g H (fun k2=>by rw[Nat.add_assoc];exact hQ _) hm h2
  rwa [show n+k+1=n+1+k by omega] at this
 cases he:iA (fun j=>P (g j)) m with
 | true =>
   have hi:Az (fun j=>P (g j)) m=(fN (fun j=>P (g j)) m 0:Nat):=by unfold Az;rw[if_pos he]
   have hlt:=kH he
   obtain ⟨_,_,s3,s4⟩:=iP (fun j=>P (g j)) m 0
   have s4:=s4 (by omega)
   rw[hi] at hc
   generalize fN (fun j=>P (g j)) m 0=r at *
   have hl:=PW (n+1) P Q b0 b1 b2 b3 b4 b5 b6 m g H r (fun k=>by rw[Nat.add_assoc];exact hQ _) hm (fun j g' hj=>h1 j g' hj) hlt (fun i hi=>s3 i (by omega) hi) s4
   have hk:(cu P g m).length<m:=by
    obtain ⟨k1,_⟩:=xw P g r (fun i hi=>s3 i (by omega) hi) s4
    have:=Cm P g (r+1) (m-(r+1))
    rw[show r+1+(m-(r+1))=m by omega] at this
    omega
   refine ⟨fK (gk P g m) (cu P g m).length (fun x=>Int.ofNat 0) (m-(cu P g m).length),?_,fun x hx=>?_⟩
   · refine ba (n:=n+1) Tryz.func67 rfl rfl rfl (Rg (n+1) b0 b1 b2 b3 b4 b5 b6 m g (gk P g m) H (r:Int) ((cu P g m).length:Int)) (cP _ (n+1) 0 (fun k=>mC (aO _) (fun x hx=>by rw[← Tr.ab hx];exact hc k))) (bz (af _ _) RB (fun x hx=>by rw[← Tr.ab hx];simp only[gi.st,aP];exact hl)) (ag _ _) ?_
     have e3:dB ((cu P g m).length:Int)=(cu P g m).length:=fR _
     rw[e3,aU,Nat.zero_add,gF]
     repeat' first | (refine Tr.al (fun hc=>?_) (fun hc=>?_)<;>(try simp (disch:=omega) only[nV,nW] at hc)<;>try omega) | (refine Tr.a8 ?_ ?_;· (try simp (disch:=omega) only[nV,nW]);try omega) | (refine Tr.aw ?_ ?_;· first | exact trivial | rfl | exact ⟨rfl,rfl⟩ | exact ⟨rfl,rfl,rfl⟩ | (simp (disch:=omega) only[nV,nW];done) | ((try simp (disch:=omega) only[nV,nW]);omega)) | fail
     all_goals first
      | exact Tr.aw ⟨rfl,rfl⟩ (by
         exact wF)
      | exact Tr.av ⟨rfl,rfl⟩
      | fail
   · rw[jR];unfold qk
     rw[if_neg (by omega)]
     unfold gk;rw[if_pos hx]
 | false =>
   have hi:Az (fun j=>P (g j)) m=-1:=by unfold Az;rw[if_neg (by rw[he];decide)]
   rw[hi] at hc
   have hn:=qo he
   obtain ⟨_,_,s3,_⟩:=iP (fun j=>P (g j)) m 0
   obtain ⟨k1,k2⟩:=FE P g m (fun i hi=>s3 i (by omega) (by omega))
   refine ⟨g,?_,fun x hx=>(k2 x (by omega)).symm⟩
   rw[k1]
   refine ba (n:=n+1) Tryz.func67 rfl rfl rfl (NX (n+1) b0 b1 b2 b3 b4 b5 b6 m g H) (cP _ (n+1) 0 (fun k=>mC (aO _) (fun x hx=>by rw[← Tr.ab hx];exact hc k))) (iv (af _ _) 0) (ag _ _) ?_
   exact wF
end
section
variable (n:Nat) (P:Int→Bool) (Q:Int→List AV→aa→Prop) (b0:Nat×ak) (m:Nat) (g:Nat→Int) (H:aa)
end
section
variable (n:Nat) (P:Int→Bool) (Q:Int→List AV→aa→Prop) (b0 b1:Nat×ak) (m:Nat) (g:Nat→Int) (H:aa)
end
end Go.Eng
