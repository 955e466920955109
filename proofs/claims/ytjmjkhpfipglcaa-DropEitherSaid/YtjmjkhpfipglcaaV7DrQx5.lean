/- Drop: do two places touch, as it is defined. -/
import Derived.Test.YtjmjkhpfipglcaaV7DrKx4
section
namespace Go.Eng
open Go.Proofs
set_option linter.unusedVariables false
set_option linter.unusedSimpArgs false
set_option maxRecDepth 100000
def wh (B T:AV) (side:Prop) (so:Int→Int):List AV→Option (Prop×AV)
 | [b,t,.int .i64 k]=>some (b=B∧t=T∧side,.int .i64 (so k))
 | _=>none
def Mo (B:AV) (P Q:Int) (side:Prop) (ev:Bool→AV) (tm:AV→Bool):List AV→Option (Prop×AV)
 | [b,t,.int .i64 p,.int .i64 q]=>some (b=B∧p=P∧q=Q∧side∧(t=ev false∨t=ev true),.bool (tm t))
 | _=>none
def Gc (B:AV) (P Q e:Int):List AV→Option (Prop×AV)
 | [b,.int .i64 p,.int .i64 q]=>some (b=B∧p=P∧q=Q,.int .i64 e)
 | _=>none
def AT (B:AV) (P Q:Int) (t:AV) (e:Int):List AV→Option (Prop×AV)
 | [b,.int .i64 p,.int .i64 q]=>some (b=B∧p=P∧q=Q,.tup [t,.int .i64 e])
 | _=>none
theorem OT (n:Nat) (w:Int) (ls ld lt:Nat) (zs zd tr:Nat→Int) (H:ae) (p q:Int) (so:Int→Int) (side:Prop):aW Try.prog (cd (n+2)) 100000 46 Try.f46 (Kt.kt 46) (il (b7 aG 45 (wh (aa w ls zs ld zd) (aU 1 lt tr) side so)) (n+1) 1) aJ aK [(aa w ls zs ld zd,none),(aU 1 lt tr,none),(.int .i64 p,none),(.int .i64 q,none)] H =
 (fun (Z0:AV×Option Nat)=>((fun (Z1:AV×Option Nat)=>((fun (Z2:AV×Option Nat)=>((fun (Z3:AV×Option Nat)=>Tr.ite (bA p (Int.ofNat 0)) (Tr.ite (bA q (Int.ofNat 0)) (Tr.ok ((AV.bool false,some 1),H)) (Tr.ite (bA p (Int.ofNat 0)) (Tr.reqP (aa w ls zs ld zd=aa w ls zs ld zd∧AV.slcT none (Row.M [aC.arr .i64 tr lt]) 1 lt false=AV.slcT none (Row.M [aC.arr .i64 tr lt]) 1 lt false∧side) (Tr.req (br q ls) (Tr.req (bt (al 0 q 2) (aI ls 2)) (Tr.req (bt (au (al 0 q 2) 1) (aI ls 2)) (Tr.req (cX (cB 0 0) (cB 0 1)) (Tr.ite (aF (so q) (Int.ofNat 0)) (Tr.ok ((AV.bool false,some 1),H)) (Tr.ite (aF p (Int.negSucc 0)) (Tr.ok ((AV.bool (dA (bS .i64 (zs (al 0 q 2)) (zs (al 0 q 2))) (so q)),none),H)) (Tr.ite (aF p (Int.negSucc 1)) (Tr.ok (Z2,H)) (Tr.reqP (aa w ls zs ld zd=aa w ls zs ld zd∧AV.slcT none (Row.M [aC.arr .i64 tr lt]) 1 lt false=AV.slcT none (Row.M [aC.arr .i64 tr lt]) 1 lt false∧side) (Tr.req (br p ls) (Tr.req (bt (al 0 p 2) (aI ls 2)) (Tr.req (bt (au (al 0 p 2) 1) (aI ls 2)) (Tr.req (cX (cB 0 0) (cB 0 1)) (Tr.ite (aF (so p) (Int.ofNat 0)) (Tr.ok ((AV.bool false,some 1),H)) (Tr.ite (dA (ay .i64 (bS .i64 (az .i64 (zs (al 0 q 2)) (zs (al 0 p 2))) (az .i64 (zs (al 0 q 2)) (zs (al 0 p 2)))) (bS .i64 (az .i64 (zs (au (al 0 q 2) 1)) (zs (au (al 0 p 2) 1))) (az .i64 (zs (au (al 0 q 2) 1)) (zs (au (al 0 p 2) 1))))) (ay .i64 (so q) (so p))) (Tr.ok ((AV.bool true,some 1),H)) (Tr.ok (Z0,H))))))))))))))))) (Tr.reqP (aa w ls zs ld zd=aa w ls zs ld zd∧AV.slcT none (Row.M [aC.arr .i64 tr lt]) 1 lt false=AV.slcT none (Row.M [aC.arr .i64 tr lt]) 1 lt false∧side) (Tr.req (br p ls) (Tr.req (bt (al 0 p 2) (aI ls 2)) (Tr.req (bt (au (al 0 p 2) 1) (aI ls 2)) (Tr.req (cX (cB 0 0) (cB 0 1)) (Tr.ite (aF (so p) (Int.ofNat 0)) (Tr.ok ((AV.bool false,some 1),H)) (Tr.ite (aF q (Int.negSucc 0)) (Tr.ok ((AV.bool (dA (bS .i64 (zs (al 0 p 2)) (zs (al 0 p 2))) (so p)),none),H)) (Tr.ite (aF q (Int.negSucc 1)) (Tr.ok (Z3,H)) (Tr.reqP (aa w ls zs ld zd=aa w ls zs ld zd∧AV.slcT none (Row.M [aC.arr .i64 tr lt]) 1 lt false=AV.slcT none (Row.M [aC.arr .i64 tr lt]) 1 lt false∧side) (Tr.req (br q ls) (Tr.req (bt (al 0 q 2) (aI ls 2)) (Tr.req (bt (au (al 0 q 2) 1) (aI ls 2)) (Tr.req (cX (cB 0 0) (cB 0 1)) (Tr.ite (aF (so q) (Int.ofNat 0)) (Tr.ok ((AV.bool false,some 1),H)) (Tr.ite (dA (ay .i64 (bS .i64 (az .i64 (zs (al 0 p 2)) (zs (al 0 q 2))) (az .i64 (zs (al 0 p 2)) (zs (al 0 q 2)))) (bS .i64 (az .i64 (zs (au (al 0 p 2) 1)) (zs (au (al 0 q 2) 1))) (az .i64 (zs (au (al 0 p 2) 1)) (zs (au (al 0 q 2) 1))))) (ay .i64 (so p) (so q))) (Tr.ok ((AV.bool true,some 1),H)) (Tr.ok (Z1,H))))))))))))))))))) (Tr.ite (bA p (Int.ofNat 0)) (Tr.reqP (aa w ls zs ld zd=aa w ls zs ld zd∧AV.slcT none (Row.M [aC.arr .i64 tr lt]) 1 lt false=AV.slcT none (Row.M [aC.arr .i64 tr lt]) 1 lt false∧side) (Tr.req (br q ls) (Tr.req (bt (al 0 q 2) (aI ls 2)) (Tr.req (bt (au (al 0 q 2) 1) (aI ls 2)) (Tr.req (cX (cB 0 0) (cB 0 1)) (Tr.ite (aF (so q) (Int.ofNat 0)) (Tr.ok ((AV.bool false,some 1),H)) (Tr.ite (aF p (Int.negSucc 0)) (Tr.ok ((AV.bool (dA (bS .i64 (zs (al 0 q 2)) (zs (al 0 q 2))) (so q)),none),H)) (Tr.ite (aF p (Int.negSucc 1)) (Tr.ok (Z2,H)) (Tr.reqP (aa w ls zs ld zd=aa w ls zs ld zd∧AV.slcT none (Row.M [aC.arr .i64 tr lt]) 1 lt false=AV.slcT none (Row.M [aC.arr .i64 tr lt]) 1 lt false∧side) (Tr.req (br p ls) (Tr.req (bt (al 0 p 2) (aI ls 2)) (Tr.req (bt (au (al 0 p 2) 1) (aI ls 2)) (Tr.req (cX (cB 0 0) (cB 0 1)) (Tr.ite (aF (so p) (Int.ofNat 0)) (Tr.ok ((AV.bool false,some 1),H)) (Tr.ite (dA (ay .i64 (bS .i64 (az .i64 (zs (al 0 q 2)) (zs (al 0 p 2))) (az .i64 (zs (al 0 q 2)) (zs (al 0 p 2)))) (bS .i64 (az .i64 (zs (au (al 0 q 2) 1)) (zs (au (al 0 p 2) 1))) (az .i64 (zs (au (al 0 q 2) 1)) (zs (au (al 0 p 2) 1))))) (ay .i64 (so q) (so p))) (Tr.ok ((AV.bool true,some 1),H)) (Tr.ok (Z0,H))))))))))))))))) (Tr.reqP (aa w ls zs ld zd=aa w ls zs ld zd∧AV.slcT none (Row.M [aC.arr .i64 tr lt]) 1 lt false=AV.slcT none (Row.M [aC.arr .i64 tr lt]) 1 lt false∧side) (Tr.req (br p ls) (Tr.req (bt (al 0 p 2) (aI ls 2)) (Tr.req (bt (au (al 0 p 2) 1) (aI ls 2)) (Tr.req (cX (cB 0 0) (cB 0 1)) (Tr.ite (aF (so p) (Int.ofNat 0)) (Tr.ok ((AV.bool false,some 1),H)) (Tr.ite (aF q (Int.negSucc 0)) (Tr.ok ((AV.bool (dA (bS .i64 (zs (al 0 p 2)) (zs (al 0 p 2))) (so p)),none),H)) (Tr.ite (aF q (Int.negSucc 1)) (Tr.ok (Z3,H)) (Tr.reqP (aa w ls zs ld zd=aa w ls zs ld zd∧AV.slcT none (Row.M [aC.arr .i64 tr lt]) 1 lt false=AV.slcT none (Row.M [aC.arr .i64 tr lt]) 1 lt false∧side) (Tr.req (br q ls) (Tr.req (bt (al 0 q 2) (aI ls 2)) (Tr.req (bt (au (al 0 q 2) 1) (aI ls 2)) (Tr.req (cX (cB 0 0) (cB 0 1)) (Tr.ite (aF (so q) (Int.ofNat 0)) (Tr.ok ((AV.bool false,some 1),H)) (Tr.ite (dA (ay .i64 (bS .i64 (az .i64 (zs (al 0 p 2)) (zs (al 0 q 2))) (az .i64 (zs (al 0 p 2)) (zs (al 0 q 2)))) (bS .i64 (az .i64 (zs (au (al 0 p 2) 1)) (zs (au (al 0 q 2) 1))) (az .i64 (zs (au (al 0 p 2) 1)) (zs (au (al 0 q 2) 1))))) (ay .i64 (so p) (so q))) (Tr.ok ((AV.bool true,some 1),H)) (Tr.ok (Z1,H))))))))))))))))))) (AV.bool (dA (bS .i64 (az .i64 w (zs (al 0 p 2))) (az .i64 w (zs (al 0 p 2)))) (so p)),none))) (AV.bool (dA (bS .i64 (az .i64 w (zs (al 0 q 2))) (az .i64 w (zs (al 0 q 2)))) (so q)),none))) (AV.bool (dA (bS .i64 (az .i64 (az .i64 (ay .i64 (bS .i64 (az .i64 (zs (al 0 p 2)) (zs (al 0 q 2))) (az .i64 (zs (al 0 p 2)) (zs (al 0 q 2)))) (bS .i64 (az .i64 (zs (au (al 0 p 2) 1)) (zs (au (al 0 q 2) 1))) (az .i64 (zs (au (al 0 p 2) 1)) (zs (au (al 0 q 2) 1))))) (so p)) (so q)) (az .i64 (az .i64 (ay .i64 (bS .i64 (az .i64 (zs (al 0 p 2)) (zs (al 0 q 2))) (az .i64 (zs (al 0 p 2)) (zs (al 0 q 2)))) (bS .i64 (az .i64 (zs (au (al 0 p 2) 1)) (zs (au (al 0 q 2) 1))) (az .i64 (zs (au (al 0 p 2) 1)) (zs (au (al 0 q 2) 1))))) (so p)) (so q))) (bS .i64 (bS .i64 (Int.ofNat 4) (so p)) (so q))),none))) (AV.bool (dA (bS .i64 (az .i64 (az .i64 (ay .i64 (bS .i64 (az .i64 (zs (al 0 q 2)) (zs (al 0 p 2))) (az .i64 (zs (al 0 q 2)) (zs (al 0 p 2)))) (bS .i64 (az .i64 (zs (au (al 0 q 2) 1)) (zs (au (al 0 p 2) 1))) (az .i64 (zs (au (al 0 q 2) 1)) (zs (au (al 0 p 2) 1))))) (so q)) (so p)) (az .i64 (az .i64 (ay .i64 (bS .i64 (az .i64 (zs (al 0 q 2)) (zs (al 0 p 2))) (az .i64 (zs (al 0 q 2)) (zs (al 0 p 2)))) (bS .i64 (az .i64 (zs (au (al 0 q 2) 1)) (zs (au (al 0 p 2) 1))) (az .i64 (zs (au (al 0 q 2) 1)) (zs (au (al 0 p 2) 1))))) (so q)) (so p))) (bS .i64 (bS .i64 (Int.ofNat 4) (so q)) (so p))),none):=by kernel_rfl
theorem OU (n:Nat) (w:Int) (ls ld:Nat) (zs zd:Nat→Int) (H:ae) (p q:Int) (so:Int→Int) (side:Prop):aW Try.prog (cd (n+2)) 100000 46 Try.f46 (Kt.kt 46) (il (b7 aG 45 (wh (aa w ls zs ld zd) .nils side so)) (n+1) 1) aJ aK [(aa w ls zs ld zd,none),(.nils,none),(.int .i64 p,none),(.int .i64 q,none)] H =
 (fun (Z0:AV×Option Nat)=>((fun (Z1:AV×Option Nat)=>((fun (Z2:AV×Option Nat)=>((fun (Z3:AV×Option Nat)=>Tr.ite (bA p (Int.ofNat 0)) (Tr.ite (bA q (Int.ofNat 0)) (Tr.ok ((AV.bool false,some 1),H)) (Tr.ite (bA p (Int.ofNat 0)) (Tr.reqP (aa w ls zs ld zd=aa w ls zs ld zd∧AV.nils=AV.nils∧side) (Tr.req (br q ls) (Tr.req (bt (al 0 q 2) (aI ls 2)) (Tr.req (bt (au (al 0 q 2) 1) (aI ls 2)) (Tr.req (cX (cB 0 0) (cB 0 1)) (Tr.ite (aF (so q) (Int.ofNat 0)) (Tr.ok ((AV.bool false,some 1),H)) (Tr.ite (aF p (Int.negSucc 0)) (Tr.ok ((AV.bool (dA (bS .i64 (zs (al 0 q 2)) (zs (al 0 q 2))) (so q)),none),H)) (Tr.ite (aF p (Int.negSucc 1)) (Tr.ok (Z2,H)) (Tr.reqP (aa w ls zs ld zd=aa w ls zs ld zd∧AV.nils=AV.nils∧side) (Tr.req (br p ls) (Tr.req (bt (al 0 p 2) (aI ls 2)) (Tr.req (bt (au (al 0 p 2) 1) (aI ls 2)) (Tr.req (cX (cB 0 0) (cB 0 1)) (Tr.ite (aF (so p) (Int.ofNat 0)) (Tr.ok ((AV.bool false,some 1),H)) (Tr.ite (dA (ay .i64 (bS .i64 (az .i64 (zs (al 0 q 2)) (zs (al 0 p 2))) (az .i64 (zs (al 0 q 2)) (zs (al 0 p 2)))) (bS .i64 (az .i64 (zs (au (al 0 q 2) 1)) (zs (au (al 0 p 2) 1))) (az .i64 (zs (au (al 0 q 2) 1)) (zs (au (al 0 p 2) 1))))) (ay .i64 (so q) (so p))) (Tr.ok ((AV.bool true,some 1),H)) (Tr.ok (Z0,H))))))))))))))))) (Tr.reqP (aa w ls zs ld zd=aa w ls zs ld zd∧AV.nils=AV.nils∧side) (Tr.req (br p ls) (Tr.req (bt (al 0 p 2) (aI ls 2)) (Tr.req (bt (au (al 0 p 2) 1) (aI ls 2)) (Tr.req (cX (cB 0 0) (cB 0 1)) (Tr.ite (aF (so p) (Int.ofNat 0)) (Tr.ok ((AV.bool false,some 1),H)) (Tr.ite (aF q (Int.negSucc 0)) (Tr.ok ((AV.bool (dA (bS .i64 (zs (al 0 p 2)) (zs (al 0 p 2))) (so p)),none),H)) (Tr.ite (aF q (Int.negSucc 1)) (Tr.ok (Z3,H)) (Tr.reqP (aa w ls zs ld zd=aa w ls zs ld zd∧AV.nils=AV.nils∧side) (Tr.req (br q ls) (Tr.req (bt (al 0 q 2) (aI ls 2)) (Tr.req (bt (au (al 0 q 2) 1) (aI ls 2)) (Tr.req (cX (cB 0 0) (cB 0 1)) (Tr.ite (aF (so q) (Int.ofNat 0)) (Tr.ok ((AV.bool false,some 1),H)) (Tr.ite (dA (ay .i64 (bS .i64 (az .i64 (zs (al 0 p 2)) (zs (al 0 q 2))) (az .i64 (zs (al 0 p 2)) (zs (al 0 q 2)))) (bS .i64 (az .i64 (zs (au (al 0 p 2) 1)) (zs (au (al 0 q 2) 1))) (az .i64 (zs (au (al 0 p 2) 1)) (zs (au (al 0 q 2) 1))))) (ay .i64 (so p) (so q))) (Tr.ok ((AV.bool true,some 1),H)) (Tr.ok (Z1,H))))))))))))))))))) (Tr.ite (bA p (Int.ofNat 0)) (Tr.reqP (aa w ls zs ld zd=aa w ls zs ld zd∧AV.nils=AV.nils∧side) (Tr.req (br q ls) (Tr.req (bt (al 0 q 2) (aI ls 2)) (Tr.req (bt (au (al 0 q 2) 1) (aI ls 2)) (Tr.req (cX (cB 0 0) (cB 0 1)) (Tr.ite (aF (so q) (Int.ofNat 0)) (Tr.ok ((AV.bool false,some 1),H)) (Tr.ite (aF p (Int.negSucc 0)) (Tr.ok ((AV.bool (dA (bS .i64 (zs (al 0 q 2)) (zs (al 0 q 2))) (so q)),none),H)) (Tr.ite (aF p (Int.negSucc 1)) (Tr.ok (Z2,H)) (Tr.reqP (aa w ls zs ld zd=aa w ls zs ld zd∧AV.nils=AV.nils∧side) (Tr.req (br p ls) (Tr.req (bt (al 0 p 2) (aI ls 2)) (Tr.req (bt (au (al 0 p 2) 1) (aI ls 2)) (Tr.req (cX (cB 0 0) (cB 0 1)) (Tr.ite (aF (so p) (Int.ofNat 0)) (Tr.ok ((AV.bool false,some 1),H)) (Tr.ite (dA (ay .i64 (bS .i64 (az .i64 (zs (al 0 q 2)) (zs (al 0 p 2))) (az .i64 (zs (al 0 q 2)) (zs (al 0 p 2)))) (bS .i64 (az .i64 (zs (au (al 0 q 2) 1)) (zs (au (al 0 p 2) 1))) (az .i64 (zs (au (al 0 q 2) 1)) (zs (au (al 0 p 2) 1))))) (ay .i64 (so q) (so p))) (Tr.ok ((AV.bool true,some 1),H)) (Tr.ok (Z0,H))))))))))))))))) (Tr.reqP (aa w ls zs ld zd=aa w ls zs ld zd∧AV.nils=AV.nils∧side) (Tr.req (br p ls) (Tr.req (bt (al 0 p 2) (aI ls 2)) (Tr.req (bt (au (al 0 p 2) 1) (aI ls 2)) (Tr.req (cX (cB 0 0) (cB 0 1)) (Tr.ite (aF (so p) (Int.ofNat 0)) (Tr.ok ((AV.bool false,some 1),H)) (Tr.ite (aF q (Int.negSucc 0)) (Tr.ok ((AV.bool (dA (bS .i64 (zs (al 0 p 2)) (zs (al 0 p 2))) (so p)),none),H)) (Tr.ite (aF q (Int.negSucc 1)) (Tr.ok (Z3,H)) (Tr.reqP (aa w ls zs ld zd=aa w ls zs ld zd∧AV.nils=AV.nils∧side) (Tr.req (br q ls) (Tr.req (bt (al 0 q 2) (aI ls 2)) (Tr.req (bt (au (al 0 q 2) 1) (aI ls 2)) (Tr.req (cX (cB 0 0) (cB 0 1)) (Tr.ite (aF (so q) (Int.ofNat 0)) (Tr.ok ((AV.bool false,some 1),H)) (Tr.ite (dA (ay .i64 (bS .i64 (az .i64 (zs (al 0 p 2)) (zs (al 0 q 2))) (az .i64 (zs (al 0 p 2)) (zs (al 0 q 2)))) (bS .i64 (az .i64 (zs (au (al 0 p 2) 1)) (zs (au (al 0 q 2) 1))) (az .i64 (zs (au (al 0 p 2) 1)) (zs (au (al 0 q 2) 1))))) (ay .i64 (so p) (so q))) (Tr.ok ((AV.bool true,some 1),H)) (Tr.ok (Z1,H))))))))))))))))))) (AV.bool (dA (bS .i64 (az .i64 w (zs (al 0 p 2))) (az .i64 w (zs (al 0 p 2)))) (so p)),none))) (AV.bool (dA (bS .i64 (az .i64 w (zs (al 0 q 2))) (az .i64 w (zs (al 0 q 2)))) (so q)),none))) (AV.bool (dA (bS .i64 (az .i64 (az .i64 (ay .i64 (bS .i64 (az .i64 (zs (al 0 p 2)) (zs (al 0 q 2))) (az .i64 (zs (al 0 p 2)) (zs (al 0 q 2)))) (bS .i64 (az .i64 (zs (au (al 0 p 2) 1)) (zs (au (al 0 q 2) 1))) (az .i64 (zs (au (al 0 p 2) 1)) (zs (au (al 0 q 2) 1))))) (so p)) (so q)) (az .i64 (az .i64 (ay .i64 (bS .i64 (az .i64 (zs (al 0 p 2)) (zs (al 0 q 2))) (az .i64 (zs (al 0 p 2)) (zs (al 0 q 2)))) (bS .i64 (az .i64 (zs (au (al 0 p 2) 1)) (zs (au (al 0 q 2) 1))) (az .i64 (zs (au (al 0 p 2) 1)) (zs (au (al 0 q 2) 1))))) (so p)) (so q))) (bS .i64 (bS .i64 (Int.ofNat 4) (so p)) (so q))),none))) (AV.bool (dA (bS .i64 (az .i64 (az .i64 (ay .i64 (bS .i64 (az .i64 (zs (al 0 q 2)) (zs (al 0 p 2))) (az .i64 (zs (al 0 q 2)) (zs (al 0 p 2)))) (bS .i64 (az .i64 (zs (au (al 0 q 2) 1)) (zs (au (al 0 p 2) 1))) (az .i64 (zs (au (al 0 q 2) 1)) (zs (au (al 0 p 2) 1))))) (so q)) (so p)) (az .i64 (az .i64 (ay .i64 (bS .i64 (az .i64 (zs (al 0 q 2)) (zs (al 0 p 2))) (az .i64 (zs (al 0 q 2)) (zs (al 0 p 2)))) (bS .i64 (az .i64 (zs (au (al 0 q 2) 1)) (zs (au (al 0 p 2) 1))) (az .i64 (zs (au (al 0 q 2) 1)) (zs (au (al 0 p 2) 1))))) (so q)) (so p))) (bS .i64 (bS .i64 (Int.ofNat 4) (so q)) (so p))),none):=by kernel_rfl
theorem R2 (n:Nat) (w:Int) (ls ld:Nat) (zs zd:Nat→Int) (H:ae) (p:Int):aW Try.prog (cd (n+2)) 100000 87 Try.f87 (Kt.kt 87) (il aG (n+1) 1) aJ aK [(aa w ls zs ld zd,none),(.int .i64 p,none)] H =
 Tr.ite (aF p (Int.negSucc 0)) (Tr.ok ((AV.bool true,some 1),H)) (Tr.ite (aF p (Int.negSucc 1)) (Tr.ok ((AV.bool true,some 1),H)) (Tr.ite (dA (Int.ofNat 0) p) (Tr.ok ((AV.bool (bA p (Int.ofNat ls)),none),H)) (Tr.ok ((AV.bool false,some 1),H)))):=by kernel_rfl
theorem RW (n:Nat) (w:Int) (ls ld:Nat) (zs zd:Nat→Int) (H:ae) (p q:Int) (side:Prop) (ev:Bool→AV) (tm:AV→Bool):aW Try.prog (cd (n+4)) 100000 71 Try.f71 (Kt.kt 71) (il (b7 (b7 aG 61 (Mp (aa w ls zs ld zd) side ev)) 46 (Mo (aa w ls zs ld zd) p q side ev tm)) (n+3) 1) aJ aK [(aa w ls zs ld zd,none),(.int .i64 p,none),(.int .i64 q,none)] H =
 Tr.reqP (aa w ls zs ld zd=aa w ls zs ld zd∧side) (Tr.reqP (aa w ls zs ld zd=aa w ls zs ld zd∧p=p∧q=q∧side∧(ev false=ev false∨ev false=ev true)) (Tr.ite (tm (ev false)) (Tr.ok ((AV.int .i64 (Int.ofNat 2),some 1),H)) (Tr.reqP (aa w ls zs ld zd=aa w ls zs ld zd∧side) (Tr.reqP (aa w ls zs ld zd=aa w ls zs ld zd∧p=p∧q=q∧side∧(ev true=ev false∨ev true=ev true)) (Tr.ite (tm (ev true)) (Tr.ok ((AV.int .i64 (Int.ofNat 1),some 1),H)) (Tr.ok ((AV.int .i64 (Int.ofNat 0),some 1),H))))))):=by kernel_rfl
end Go.Eng
end
section
namespace Go.Eng
open Go.Proofs
set_option linter.unusedVariables false
set_option linter.unusedSimpArgs false
set_option maxRecDepth 100000
theorem qa {k M:Int} (h1:-M≤k) (h2:k≤M):0≤k*k∧k*k≤M*M:=by
 by_cases h:0≤k
 · exact ⟨Int.mul_nonneg h h,Int.mul_le_mul h2 h2 h (by omega)⟩
 · have e:k*k=(-k)*(-k):=(Int.neg_mul_neg k k).symm
   rw[e]
   exact ⟨Int.mul_nonneg (by omega) (by omega),Int.mul_le_mul (by omega) (by omega) (by omega) (by omega)⟩
def Ak (zs:Nat→Int) (j:Nat):Prop:=1≤zs (j*2)∧zs (j*2)≤1000∧0≤zs (j*2+1)∧zs (j*2+1)≤1000
def dk (a c x y x' y':Int):Bool :=
 let wr:=IntKind.i64.wrap
 let d:=wr (wr (wr (x-x')*wr (x-x'))+wr (wr (y-y')*wr (y-y')))
 decide (d≤wr (a+c)) || decide (wr (wr (wr (d-a)-c)*wr (wr (d-a)-c))≤wr (wr (4*a)*c))
theorem cA {k:Int} (h1:-9223372036854775808≤k) (h2:k≤9223372036854775807):IntKind.i64.wrap k=k:=Go.IntWalk.i64_in _ (by omega)
theorem nD {a c x y x' y':Int} (ha:0≤a∧a≤1000000) (hc:0≤c∧c≤1000000) (hx:0≤x∧x≤1000) (hy:0≤y∧y≤1000) (hx':0≤x'∧x'≤1000) (hy':0≤y'∧y'≤1000) :
 kZ a c x y x' y'=if c=0 then false else dk a c x y x' y':=by
 have s1:=qa (k:=x-x') (M:=1000) (by omega) (by omega)
 have s2:=qa (k:=y-y') (M:=1000) (by omega) (by omega)
 have e1:IntKind.i64.wrap (x-x')=x-x':=cA (by omega) (by omega)
 have e2:IntKind.i64.wrap (y-y')=y-y':=cA (by omega) (by omega)
 unfold kZ dk
 simp only[e1,e2]
 generalize (x-x')*(x-x')=X at s1 ⊢
 generalize (y-y')*(y-y')=Y at s2 ⊢
 rw[cA (k:=X) (by omega) (by omega),cA (k:=Y) (by omega) (by omega),cA (k:=X+Y) (by omega) (by omega),cA (k:=X+Y-a) (by omega) (by omega),cA (k:=X+Y-a-c) (by omega) (by omega),cA (k:=a+c) (by omega) (by omega)]
 by_cases h0:c=0
 · rw[if_pos h0,decide_eq_false (by omega:¬ 0<c)];rfl
 · rw[if_neg h0,decide_eq_true (by omega:0<c),Bool.true_and]
   congr 1
   by_cases h:X+Y≤a+c
   · rw[decide_eq_true h,decide_eq_true (by omega)]
   · rw[decide_eq_false h,decide_eq_false (by omega)]
section
variable (n:Nat) (w:Int) (ls ld:Nat) (zs zd:Nat→Int) (H:ae) (p q:Int) (so:Int→Int)
structure jA (ls:Nat) (zs:Nat→Int) (so:Int→Int) (p q:Int):Prop where
 hp:-2≤p∧p<ls
 hq:-2≤q∧q<ls
 spot:∀ j,j<ls→Ak zs j
 size:∀ s,0≤so s∧so s≤1000000
def h9 (w:Int) (zs:Nat→Int) (so:Int→Int) (s o:Int):Bool :=
 if so s=0 then false
 else if o=-1 then decide (IntKind.i64.wrap (zs (s.toNat*2)*zs (s.toNat*2))≤so s)
 else if o=-2 then decide (IntKind.i64.wrap (IntKind.i64.wrap (w-zs (s.toNat*2))*IntKind.i64.wrap (w-zs (s.toNat*2)))≤so s)
 else if so o=0 then false
 else dk (so s) (so o) (zs (s.toNat*2)) (zs (s.toNat*2+1)) (zs (o.toNat*2)) (zs (o.toNat*2+1))
def c6 (w:Int) (zs:Nat→Int) (so:Int→Int) (p q:Int):Bool :=
 if p<0∧q<0 then false else if p<0 then h9 w zs so q p else h9 w zs so p q
theorem xH (h:jA ls zs so p q):c6 w zs so p q=aV w zs so p q:=by
 obtain ⟨hp,hq,hsp,hsz⟩:=h
 have key:∀ s o:Int,0≤s→s<ls→-2≤o→o<ls→h9 w zs so s o=(if so s=0 then false
  else if o=-2 then decide (IntKind.i64.wrap (IntKind.i64.wrap (w-zs (s.toNat*2))*IntKind.i64.wrap (w-zs (s.toNat*2)))≤so s)
  else if 0≤o then kZ (so s) (so o) (zs (s.toNat*2)) (zs (s.toNat*2+1)) (zs (o.toNat*2)) (zs (o.toNat*2+1))
  else decide (IntKind.i64.wrap (zs (s.toNat*2)*zs (s.toNat*2))≤so s)):=by
  intro s o h0 h1 h2 h3
  unfold h9
  by_cases e0:so s=0
  · rw[if_pos e0,if_pos e0]
  · rw[if_neg e0,if_neg e0]
    by_cases e1:o=-1
    · rw[if_pos e1,if_neg (show ¬ o=-2 by omega),if_neg (show ¬ 0≤o by omega)]
    · rw[if_neg e1]
      by_cases e2:o=-2
      · rw[if_pos e2,if_pos e2]
      · rw[if_neg e2,if_neg e2,if_pos (show 0≤o by omega)]
        obtain ⟨a1,a2,a3,a4⟩:=hsp s.toNat (by omega)
        obtain ⟨b1,b2,b3,b4⟩:=hsp o.toNat (by omega)
        exact (nD (hsz s) (hsz o) ⟨by omega,a2⟩ ⟨a3,a4⟩ ⟨by omega,b2⟩ ⟨b3,b4⟩).symm
 unfold c6 aV
 by_cases h1:p<0<;>by_cases h2:q<0
 · simp only[h1,h2,and_self,if_true]
 · simp only[h1,h2,and_false,if_false,if_true]
   exact key q p (by omega) hq.2 hp.1 hp.2
 · simp only[h1,h2,false_and,if_false]
   exact key p q (by omega) hp.2 hq.1 hq.2
 · simp only[h1,h2,false_and,if_false]
   exact key p q (by omega) hp.2 hq.1 hq.2
end
end Go.Eng
end
section
namespace Go.Eng
open Go.Proofs
set_option linter.unusedVariables false
set_option linter.unusedSimpArgs false
set_option maxRecDepth 100000
section
variable (n:Nat) (w:Int) (ls ld:Nat) (zs zd:Nat→Int) (H:ae) (p q:Int) (so:Int→Int)
theorem C4 (lt:Nat) (tr:Nat→Int) (h:jA ls zs so p q):∃ y,(aW Try.prog (cd (n+2)) 100000 46 Try.f46 (Kt.kt 46) (il (b7 aG 45 (wh (aa w ls zs ld zd) (aU 1 lt tr) True so)) (n+1) 1) aJ aK [(aa w ls zs ld zd,none),(aU 1 lt tr,none),(.int .i64 p,none),(.int .i64 q,none)] H).run=some y∧(y.1.1,y.2)=(AV.bool (c6 w zs so p q),H):=by
 rw[OT n w ls ld lt zs zd tr H p q so True]
 have e1:Int.negSucc 0=-1:=rfl
 have e2:Int.negSucc 1=-2:=rfl
 obtain ⟨hp,hq,hsp,hsz⟩:=h
 by_cases h1:p<0<;>by_cases h2:q<0
 · refine ⟨_,by simp (disch:=omega) only[nX,nS,aP,e1,e2,aQ,bu,bj,eq_self,and_true,true_and];rfl,?_⟩
   simp only[c6,h9,dk,h1,h2,and_self,and_false,false_and,and_true,if_true,if_false];try rfl
 · by_cases h3:so q=0
   · refine ⟨_,by simp (disch:=omega) only[nX,nS,aP,e1,e2,aQ,bu,bj,eq_self,and_true,true_and];rfl,?_⟩
     simp only[c6,h9,dk,h1,h2,and_self,and_false,false_and,and_true,if_true,if_false,h3];try rfl
   · by_cases h4:p=-1
     · refine ⟨_,by simp (disch:=omega) only[nX,nS,aP,e1,e2,aQ,bu,bj,eq_self,and_true,true_and];rfl,?_⟩
       simp only[c6,h9,dk,h1,h2,and_self,and_false,false_and,and_true,if_true,if_false,h3,h4];try rfl
     · by_cases h5:p=-2
       · refine ⟨_,by simp (disch:=omega) only[nX,nS,aP,e1,e2,aQ,bu,bj,eq_self,and_true,true_and];rfl,?_⟩
         simp only[c6,h9,dk,h1,h2,and_self,and_false,false_and,and_true,if_true,if_false,h3,h4,h5,show ¬ (-2:Int)=-1 by decide];try rfl
       · exfalso;omega
 · by_cases h3:so p=0
   · refine ⟨_,by simp (disch:=omega) only[nX,nS,aP,e1,e2,aQ,bu,bj,eq_self,and_true,true_and];rfl,?_⟩
     simp only[c6,h9,dk,h1,h2,and_self,and_false,false_and,and_true,if_true,if_false,h3];try rfl
   · by_cases h4:q=-1
     · refine ⟨_,by simp (disch:=omega) only[nX,nS,aP,e1,e2,aQ,bu,bj,eq_self,and_true,true_and];rfl,?_⟩
       simp only[c6,h9,dk,h1,h2,and_self,and_false,false_and,and_true,if_true,if_false,h3,h4];try rfl
     · by_cases h5:q=-2
       · refine ⟨_,by simp (disch:=omega) only[nX,nS,aP,e1,e2,aQ,bu,bj,eq_self,and_true,true_and];rfl,?_⟩
         simp only[c6,h9,dk,h1,h2,and_self,and_false,false_and,and_true,if_true,if_false,h3,h4,h5,show ¬ (-2:Int)=-1 by decide];try rfl
       · exfalso;omega
 · by_cases h3:so p=0
   · refine ⟨_,by simp (disch:=omega) only[nX,nS,aP,e1,e2,aQ,bu,bj,eq_self,and_true,true_and];rfl,?_⟩
     simp only[c6,h9,dk,h1,h2,and_self,and_false,false_and,and_true,if_true,if_false,h3];try rfl
   · have h4:¬ q=-1:=by omega
     have h5:¬ q=-2:=by omega
     by_cases h6:so q=0
     · refine ⟨_,by simp (disch:=omega) only[nX,nS,aP,e1,e2,aQ,bu,bj,eq_self,and_true,true_and];rfl,?_⟩
       simp only[c6,h9,dk,h1,h2,and_self,and_false,false_and,and_true,if_true,if_false,h3,h4,h5,h6];try rfl
     · by_cases h7:IntKind.i64.wrap (IntKind.i64.wrap (IntKind.i64.wrap (zs (p.toNat*2)-zs (q.toNat*2))*IntKind.i64.wrap (zs (p.toNat*2)-zs (q.toNat*2)))+IntKind.i64.wrap (IntKind.i64.wrap (zs (p.toNat*2+1)-zs (q.toNat*2+1))*IntKind.i64.wrap (zs (p.toNat*2+1)-zs (q.toNat*2+1))))≤IntKind.i64.wrap (so p+so q)
       · refine ⟨_,by simp (disch:=omega) only[nX,nS,aP,e1,e2,aQ,bu,bj,eq_self,and_true,true_and];rfl,?_⟩
         simp only[c6,h9,dk,h1,h2,and_self,and_false,false_and,and_true,if_true,if_false,h3,h4,h5,h6,decide_eq_true h7,Bool.true_or];try rfl
       · refine ⟨_,by simp (disch:=omega) only[nX,nS,aP,e1,e2,aQ,bu,bj,eq_self,and_true,true_and];rfl,?_⟩
         simp only[c6,h9,dk,h1,h2,and_self,and_false,false_and,and_true,if_true,if_false,h3,h4,h5,h6,decide_eq_false h7,Bool.false_or];try rfl
theorem C5 (h:jA ls zs so p q):∃ y,(aW Try.prog (cd (n+2)) 100000 46 Try.f46 (Kt.kt 46) (il (b7 aG 45 (wh (aa w ls zs ld zd) .nils True so)) (n+1) 1) aJ aK [(aa w ls zs ld zd,none),(.nils,none),(.int .i64 p,none),(.int .i64 q,none)] H).run=some y∧(y.1.1,y.2)=(AV.bool (c6 w zs so p q),H):=by
 rw[OU n w ls ld zs zd H p q so True]
 have e1:Int.negSucc 0=-1:=rfl
 have e2:Int.negSucc 1=-2:=rfl
 obtain ⟨hp,hq,hsp,hsz⟩:=h
 by_cases h1:p<0<;>by_cases h2:q<0
 · refine ⟨_,by simp (disch:=omega) only[nX,nS,aP,e1,e2,aQ,bu,bj,eq_self,and_true,true_and];rfl,?_⟩
   simp only[c6,h9,dk,h1,h2,and_self,and_false,false_and,and_true,if_true,if_false];try rfl
 · by_cases h3:so q=0
   · refine ⟨_,by simp (disch:=omega) only[nX,nS,aP,e1,e2,aQ,bu,bj,eq_self,and_true,true_and];rfl,?_⟩
     simp only[c6,h9,dk,h1,h2,and_self,and_false,false_and,and_true,if_true,if_false,h3];try rfl
   · by_cases h4:p=-1
     · refine ⟨_,by simp (disch:=omega) only[nX,nS,aP,e1,e2,aQ,bu,bj,eq_self,and_true,true_and];rfl,?_⟩
       simp only[c6,h9,dk,h1,h2,and_self,and_false,false_and,and_true,if_true,if_false,h3,h4];try rfl
     · by_cases h5:p=-2
       · refine ⟨_,by simp (disch:=omega) only[nX,nS,aP,e1,e2,aQ,bu,bj,eq_self,and_true,true_and];rfl,?_⟩
         simp only[c6,h9,dk,h1,h2,and_self,and_false,false_and,and_true,if_true,if_false,h3,h4,h5,show ¬ (-2:Int)=-1 by decide];try rfl
       · exfalso;omega
 · by_cases h3:so p=0
   · refine ⟨_,by simp (disch:=omega) only[nX,nS,aP,e1,e2,aQ,bu,bj,eq_self,and_true,true_and];rfl,?_⟩
     simp only[c6,h9,dk,h1,h2,and_self,and_false,false_and,and_true,if_true,if_false,h3];try rfl
   · by_cases h4:q=-1
     · refine ⟨_,by simp (disch:=omega) only[nX,nS,aP,e1,e2,aQ,bu,bj,eq_self,and_true,true_and];rfl,?_⟩
       simp only[c6,h9,dk,h1,h2,and_self,and_false,false_and,and_true,if_true,if_false,h3,h4];try rfl
     · by_cases h5:q=-2
       · refine ⟨_,by simp (disch:=omega) only[nX,nS,aP,e1,e2,aQ,bu,bj,eq_self,and_true,true_and];rfl,?_⟩
         simp only[c6,h9,dk,h1,h2,and_self,and_false,false_and,and_true,if_true,if_false,h3,h4,h5,show ¬ (-2:Int)=-1 by decide];try rfl
       · exfalso;omega
 · by_cases h3:so p=0
   · refine ⟨_,by simp (disch:=omega) only[nX,nS,aP,e1,e2,aQ,bu,bj,eq_self,and_true,true_and];rfl,?_⟩
     simp only[c6,h9,dk,h1,h2,and_self,and_false,false_and,and_true,if_true,if_false,h3];try rfl
   · have h4:¬ q=-1:=by omega
     have h5:¬ q=-2:=by omega
     by_cases h6:so q=0
     · refine ⟨_,by simp (disch:=omega) only[nX,nS,aP,e1,e2,aQ,bu,bj,eq_self,and_true,true_and];rfl,?_⟩
       simp only[c6,h9,dk,h1,h2,and_self,and_false,false_and,and_true,if_true,if_false,h3,h4,h5,h6];try rfl
     · by_cases h7:IntKind.i64.wrap (IntKind.i64.wrap (IntKind.i64.wrap (zs (p.toNat*2)-zs (q.toNat*2))*IntKind.i64.wrap (zs (p.toNat*2)-zs (q.toNat*2)))+IntKind.i64.wrap (IntKind.i64.wrap (zs (p.toNat*2+1)-zs (q.toNat*2+1))*IntKind.i64.wrap (zs (p.toNat*2+1)-zs (q.toNat*2+1))))≤IntKind.i64.wrap (so p+so q)
       · refine ⟨_,by simp (disch:=omega) only[nX,nS,aP,e1,e2,aQ,bu,bj,eq_self,and_true,true_and];rfl,?_⟩
         simp only[c6,h9,dk,h1,h2,and_self,and_false,false_and,and_true,if_true,if_false,h3,h4,h5,h6,decide_eq_true h7,Bool.true_or];try rfl
       · refine ⟨_,by simp (disch:=omega) only[nX,nS,aP,e1,e2,aQ,bu,bj,eq_self,and_true,true_and];rfl,?_⟩
         simp only[c6,h9,dk,h1,h2,and_self,and_false,false_and,and_true,if_true,if_false,h3,h4,h5,h6,decide_eq_false h7,Bool.false_or];try rfl
end
end Go.Eng
end
section
namespace Go.Eng
open Go.Proofs
set_option linter.unusedVariables false
set_option linter.unusedSimpArgs false
set_option maxRecDepth 100000
def Du (B:AV) (pl:Int→Bool):List AV→Option (Prop×AV)
 | [b,.int .i64 p]=>some (b=B,.bool (pl p))
 | _=>none
theorem RV (n:Nat) (w:Int) (ls ld:Nat) (zs zd:Nat→Int) (H:ae) (p q e:Int) (pl:Int→Bool):aW Try.prog (cd (n+4)) 100000 70 Try.f70 (Kt.kt 70) (il (b7 (b7 aG 20 (vB (aa w ls zs ld zd) e)) 87 (Du (aa w ls zs ld zd) pl)) (n+3) 1) aJ aK [(aa w ls zs ld zd,none),(.int .i64 p,none),(.int .i64 q,none)] H =
 Tr.reqP (aa w ls zs ld zd=aa w ls zs ld zd) (Tr.ite (aD (aF e (Int.ofNat 0))) (Tr.reqP (aa w ls zs ld zd=aa w ls zs ld zd) (Tr.ok ((AV.int .i64 e,none),H))) (Tr.reqP (aa w ls zs ld zd=aa w ls zs ld zd) (Tr.ite (aD (pl p)) (Tr.ok ((AV.int .i64 (Int.ofNat 2),some 1),H)) (Tr.reqP (aa w ls zs ld zd=aa w ls zs ld zd) (Tr.ite (aD (pl q)) (Tr.ok ((AV.int .i64 (Int.ofNat 2),some 1),H)) (Tr.ite (aF p q) (Tr.ok ((AV.int .i64 (Int.ofNat 2),some 1),H)) (Tr.ok ((AV.int .i64 (Int.ofNat 0),some 1),H)))))))):=by kernel_rfl
theorem RU (n:Nat) (w:Int) (ls ld:Nat) (zs zd sz kd:Nat→Int) (H:ae) (p q e:Int) (side:Prop):aW Try.prog (cd (n+13)) 100000 68 Try.f68 (Kt.kt 68) (il (b7 (b7 aG 19 (vB (aa w ls zs ld zd) e)) 77 (Lo (aa w ls zs ld zd) side (gu w ls ld zs zd sz kd))) (n+11) 2) aJ aK [(aa w ls zs ld zd,none),(.int .i64 p,none),(.int .i64 q,none)] H =
 (fun (Z0:AV×Option Nat)=>Tr.reqP (aa w ls zs ld zd=aa w ls zs ld zd) (Tr.ite (aD (aF e (Int.ofNat 0))) (Tr.ite (aD (aF e (Int.ofNat 0))) (Tr.ok ((AV.tup [AV.nilp,AV.int .i64 e],none),H)) (Tr.ite (dA (Int.negSucc 1) p) Tr.bad (Tr.ok (Z0,H)))) (Tr.reqP (aa w ls zs ld zd=aa w ls zs ld zd∧side) (Tr.ite (aD (aF (Int.ofNat 0) (Int.ofNat 0))) (Tr.ok ((AV.tup [AV.nilp,AV.int .i64 (Int.ofNat 0)],none),H)) (Tr.ite (dA (Int.negSucc 1) p) (Tr.ite (aD (bA p (Int.ofNat ls))) (Tr.ok (Z0,H)) (Tr.ite (dA (Int.negSucc 1) q) (Tr.ite (aD (bA q (Int.ofNat ls))) (Tr.ok (Z0,H)) (Tr.ite (aF p q) (Tr.ok (Z0,H)) (Tr.ok ((AV.tup [AV.ptrT (some 0) (Row.M [aC.one (AV.int .i64 w),aC.one (aU 2 ls zs),aC.one (aU 3 ld zd),aC.one (AV.slcT none (Row.M [aC.arr .i64 sz (aI ls 2)]) 2 ls true),aC.arr .i64 kd 144]) 0,AV.int .i64 (Int.ofNat 0)],none),H)))) (Tr.ok (Z0,H)))) (Tr.ok (Z0,H))))))) (AV.tup [AV.nilp,AV.int .i64 (Int.ofNat 2)],none):=by kernel_rfl
def bx (ls:Nat) (p:Int):Bool:=decide (-2≤p) && decide (p<ls)
def ij (w:Int) (ls ld:Nat) (zs zd:Nat→Int) (p q:Int):Int :=
 if bN w ls ld zs zd≠0 then bN w ls ld zs zd else if bx ls p=true∧bx ls q=true∧p≠q then 0 else 2
def jZ (w:Int) (ld:Nat) (zs zd:Nat→Int) (p q:Int):Int :=
 if aV w zs (lN false zd ld) p q then 2 else if aV w zs (lN true zd ld) p q then 1 else 0
section
variable (n:Nat) (w:Int) (ls ld:Nat) (zs zd:Nat→Int) (H:ae) (p q:Int)
theorem Mr (h:Bool) (h2:ld<2 ^ 16):(il (b7 aG 45 (wh (aa w ls zs ld zd) (ra h zd ld) True (lN h zd ld))) (n+1) 1).Ok (cd (n+2)):=by
 refine bQ _ (n+1) 1 (fun k=>bI (bB _) (fun args p v hg hp H=>?_))
 unfold wh at hg
 split at hg
 · simp only[nP] at hg
   obtain ⟨rfl,rfl⟩:=hg
   obtain ⟨rfl,rfl,_⟩:=hp
   rw[show n+1+k=n+k+1 by omega]
   exact Ja (n+k) w ls ld zs zd H _ h h2
 · cases hg
theorem Ph (h:Bool) (h2:ld<2 ^ 16) (hB:jA ls zs (lN h zd ld) p q):cd (n+3) (.fn 46) [aa w ls zs ld zd,ra h zd ld,.int .i64 p,.int .i64 q] H=some (.bool (aV w zs (lN h zd ld) p q),H):=by
 rw[← xH w ls zs p q _ hB]
 have hi:=Mr n w ls ld zs zd h h2
 cases ld with
 | zero =>
   obtain ⟨y,hy1,hy2⟩:=C5 n w ls 0 zs zd H p q (lN h zd 0) hB
   have:=nN (n:=n+2) Try.func46 rfl rfl (args:=[(aa w ls zs 0 zd,none),(.nils,none),(.int .i64 p,none),(.int .i64 q,none)]) rfl hi (ah _ _) (ai _ _) hy1
   rw[hy2] at this
   exact this
 | succ m =>
   obtain ⟨y,hy1,hy2⟩:=C4 n w ls (m+1) zs zd H p q (lN h zd (m+1)) (m+1) (upto (jb h zd) (m+1)) hB
   have:=nN (n:=n+2) Try.func46 rfl rfl (args:=[(aa w ls zs (m+1) zd,none),(aU 1 (m+1) (upto (jb h zd) (m+1)),none),(.int .i64 p,none),(.int .i64 q,none)]) rfl hi (ah _ _) (ai _ _) hy1
   rw[hy2] at this
   exact this
def xX (ls ld:Nat) (zs zd:Nat→Int) (p q:Int):Prop:=ld<2 ^ 16∧∀ h,jA ls zs (lN h zd ld) p q
theorem Mt:(il (b7 (b7 aG 61 (Mp (aa w ls zs ld zd) (xX ls ld zs zd p q) (fun h=>ra h zd ld))) 46 (Mo (aa w ls zs ld zd) p q (xX ls ld zs zd p q) (fun h=>ra h zd ld) (fun t=>aV w zs (Ku zd ld t) p q))) (n+3) 1).Ok (cd (n+4)):=by
 refine bQ _ (n+3) 1 (fun k=>bI (bI (bB _) (fun args p v hg hp H=>?_)) (fun args p v hg hp H=>?_))
 · unfold Mp at hg
   split at hg
   · simp only[nP] at hg
     obtain ⟨rfl,rfl⟩:=hg
     obtain ⟨rfl,h2,_⟩:=hp
     rw[show n+3+k=n+2+k+1 by omega]
     exact PO _ w ls ld zs zd H _ h2
   · cases hg
 · unfold Mo at hg
   split at hg
   · simp only[nP] at hg
     obtain ⟨rfl,rfl⟩:=hg
     obtain ⟨rfl,rfl,rfl,⟨h2,hB⟩,ht⟩:=hp
     have e:∀ h,Ku zd ld (ra h zd ld)=lN h zd ld:=fun h=>funext fun s=>Ai ld zd s h
     rw[show n+3+k=n+k+3 by omega]
     rcases ht with rfl | rfl
     · rw[e];exact Ph _ w ls ld zs zd H _ _ _ h2 (hB _)
     · rw[e];exact Ph _ w ls ld zs zd H _ _ _ h2 (hB _)
   · cases hg
theorem PR (hK:xX ls ld zs zd p q):cd (n+5) (.fn 71) [aa w ls zs ld zd,.int .i64 p,.int .i64 q] H=some (.int .i64 (jZ w ld zs zd p q),H):=by
 have e:∀ h,Ku zd ld (ra h zd ld)=lN h zd ld:=fun h=>funext fun s=>Ai ld zd s h
 refine gw (n:=n+4) Try.func71 rfl rfl rfl (RW n w ls ld zs zd H p q (xX ls ld zs zd p q) (fun h=>ra h zd ld) (fun t=>aV w zs (Ku zd ld t) p q)) (Mt n w ls ld zs zd p q) (ah _ _) (ai _ _) (y:=((.int .i64 (jZ w ld zs zd p q),some 1),H)) ?_
 rw[Tr.bc ⟨rfl,hK⟩,Tr.bc ⟨rfl,rfl,rfl,hK,.inl rfl⟩,Tr.run_ite,e]
 unfold jZ
 cases aV w zs (lN false zd ld) p q
 · rw[cond_false,Tr.bc ⟨rfl,hK⟩,Tr.bc ⟨rfl,rfl,rfl,hK,.inr rfl⟩,Tr.run_ite,e]
   cases aV w zs (lN true zd ld) p q<;>rfl
 · rfl
theorem Md:cd (n+3) (.fn 87) [aa w ls zs ld zd,.int .i64 p] H=some (.bool (bx ls p),H):=by
 obtain ⟨y,hy1,hy2⟩:∃ y,(aW Try.prog (cd (n+2)) 100000 87 Try.f87 (Kt.kt 87) (il aG (n+1) 1) aJ aK [(aa w ls zs ld zd,none),(.int .i64 p,none)] H).run=some y∧(y.1.1,y.2)=(AV.bool (bx ls p),H):=by
  rw[R2]
  have e1:Int.negSucc 0=-1:=rfl
  have e2:Int.negSucc 1=-2:=rfl
  unfold bx
  by_cases h1:p=-1
  · refine ⟨_,by simp (disch:=omega) only[nX,nS,aP,e1,e2];rfl,?_⟩
    rw[decide_eq_true (by omega),decide_eq_true (by omega)];rfl
  · by_cases h2:p=-2
    · refine ⟨_,by simp (disch:=omega) only[nX,nS,aP,e1,e2];rfl,?_⟩
      rw[decide_eq_true (by omega),decide_eq_true (by omega)];rfl
    · by_cases h3:0≤p
      · by_cases h4:p<(ls:Int)
        · refine ⟨_,by simp (disch:=omega) only[nX,nS,aP,e1,e2];rfl,?_⟩
          rw[decide_eq_true (by omega),decide_eq_true (by omega)];rfl
        · refine ⟨_,by simp (disch:=omega) only[nX,nS,aP,e1,e2];rfl,?_⟩
          rw[decide_eq_true (by omega),decide_eq_false (by omega)];rfl
      · refine ⟨_,by simp (disch:=omega) only[nX,nS,aP,e1,e2];rfl,?_⟩
        rw[decide_eq_false (by omega)];rfl
 have:=nN (n:=n+2) Try.func87 rfl rfl (args:=[(aa w ls zs ld zd,none),(.int .i64 p,none)]) rfl (bU (n+1) 1) (ah _ _) (ai _ _) hy1
 rw[hy2] at this
 exact this
end
end Go.Eng
end
section
namespace Go.Eng
open Go.Proofs
set_option linter.unusedVariables false
set_option linter.unusedSimpArgs false
set_option maxRecDepth 100000
theorem iL {w:Int} {ls ld:Nat} {zs zd:Nat→Int} (h:bN w ls ld zs zd=0):ls≤10∧ld≤40∧2≤w∧w≤1000∧(∀ j,j<ls→kY w zs j=false)∧∀ j,j<ld→fF ls zd j=false:=by
 have h1:=za w ls ld zs zd h
 have hn:∀ (f:Nat→Bool) (N:Nat),bD f N=false→∀ j,j<N→f j=false:=fun f N hf j hj=>by
  cases hq:f j with
  | false=>rfl
  | true=>rw[(bV _ _).2 ⟨j,hj,hq⟩] at hf;cases hf
 unfold bN at h
 cases b1:bD (kY w zs) ls<;>cases b2:bD (fun i=>bD (qi zs i) i) ls<;>cases b3:bD (fF ls zd) ld <;>
  rw[b1,b2,b3] at h <;>
  by_cases e1:w<2<;>by_cases e2:1000<w<;>by_cases e3:10<ls<;>by_cases e4:40<ld<;>simp[e1,e2,e3,e4] at h
 exact ⟨h1.1,h1.2,by omega,by omega,hn _ _ b1,hn _ _ b3⟩
theorem Bq {ls ld:Nat} {zd:Nat→Int} (hd:∀ j,j<ld→fF ls zd j=false) (hl:ld≤100) (h:Bool) (s:Int):0≤lN h zd ld s∧lN h zd ld s≤1000000:=by
 have key:∀ j,j≤ld→0≤im zd (upto (jb h zd) ld) s j∧im zd (upto (jb h zd) ld) s j≤10000*j:=by
  intro j
  induction j with
  | zero=>intro _;exact ⟨Int.le_refl _,Int.le_refl _⟩
  | succ j ih =>
    intro hj
    obtain ⟨i1,i2⟩:=ih (by omega)
    have b:=hd j (by omega)
    simp only[fF,Bool.or_eq_false_iff,decide_eq_false_iff_not] at b
    have u:1≤upto (jb h zd) ld j∧upto (jb h zd) ld j≤10000:=by
     unfold upto;rw[if_pos (by omega)]
     have e2:zd (j*3+1+1)=zd (j*3+2):=rfl
     have e3:jb h zd j=zd (j*3+1)∨jb h zd j=zd (j*3+2):=by
      cases h
      · exact .inl rfl
      · exact .inr rfl
     omega
    unfold im
    by_cases e:zd (j*3)=s
    · rw[if_pos e,cA (by omega) (by omega)];omega
    · rw[if_neg e];omega
 have:=key ld (Nat.le_refl _)
 unfold lN
 omega
theorem pc {w:Int} {ls ld:Nat} {zs zd:Nat→Int} {p q:Int} (h:bN w ls ld zs zd=0) (hp:bx ls p=true) (hq:bx ls q=true):xX ls ld zs zd p q:=by
 obtain ⟨h1,h2,h3,h4,h5,h6⟩:=iL h
 simp only[bx,Bool.and_eq_true,decide_eq_true_eq] at hp hq
 refine ⟨by omega,fun b=>⟨hp,hq,fun j hj=>?_,fun s=>Bq h6 (by omega) b s⟩⟩
 have:=h5 j hj
 simp only[kY,Bool.or_eq_false_iff,decide_eq_false_iff_not] at this
 unfold Ak
 omega
theorem qb {w:Int} {zs:Nat→Int} {f g:Int→Int} {p q:Int} (h:∀ s,0≤s→f s=g s):aV w zs f p q=aV w zs g p q:=by
 unfold aV
 by_cases h1:p<0<;>by_cases h2:q<0
 · simp only[h1,h2,and_self,if_true]
 · simp only[h1,h2,and_false,if_false,if_true]
   rw[h q (by omega),if_neg (show ¬ 0≤p by omega)]
   by_cases e:g q=0
   · rw[if_pos e,if_pos e]
   · rw[if_neg e,if_neg e,if_neg (show ¬ 0≤p by omega)]
 · simp only[h1,h2,false_and,if_false]
   rw[h p (by omega),if_neg (show ¬ 0≤q by omega),if_neg (show ¬ 0≤q by omega)]
 · simp only[h1,h2,false_and,if_false]
   rw[h p (by omega),h q (by omega)]
def kv (w:Int) (zs sz:Nat→Int) (p q d:Int):Int :=
 if p=q then d else if aV w zs (fun s=>sz (s.toNat*2)) p q then 2 else if aV w zs (fun s=>sz (s.toNat*2+1)) p q then 1 else d
theorem Ey {w:Int} {zs sz:Nat→Int} {p q p0 q0:Int} {kd:Nat→Int} (hp:-2≤p) (hp0:-2≤p0) (hq:-2≤q∧q<10) (hq0:-2≤q0∧q0<10) :
 Cq w zs sz p q kd (uN p0 q0)=if p=p0∧q=q0 then kv w zs sz p q (kd (uN p0 q0)) else kd (uN p0 q0):=by
 by_cases e:p=p0∧q=q0
 · obtain ⟨rfl,rfl⟩:=e
   rw[if_pos ⟨rfl,rfl⟩]
   unfold Cq kv
   split
   · rfl
   · split
     · simp only[if_true]
     · split
       · simp only[if_true]
       · rfl
 · rw[if_neg e]
   have ne:uN p0 q0≠uN p q:=by unfold uN;omega
   unfold Cq
   split
   · rfl
   · split
     · simp only[if_neg ne]
     · split
       · simp only[if_neg ne]
       · rfl
theorem zJ {w:Int} {zs sz:Nat→Int} {p p0 q0:Int} {kd:Nat→Int} (hp:-2≤p) (hp0:-2≤p0) (hq0:-2≤q0∧q0<10):∀ N:Nat,N≤12 →
 sL w zs sz p kd N (uN p0 q0)=if p=p0∧q0+2<N then kv w zs sz p q0 (kd (uN p0 q0)) else kd (uN p0 q0)
 | 0,_=>by rw[if_neg (by omega)];rfl
 | N + 1,hN=>by
   have ih:=zJ (w:=w) (zs:=zs) (sz:=sz) (kd:=kd) hp hp0 hq0 N (by omega)
   show Cq w zs sz p ((N:Int)-2) (sL w zs sz p kd N) (uN p0 q0)=_
   rw[Ey hp hp0 ⟨by omega,by omega⟩ hq0,ih]
   by_cases e:p=p0
   · by_cases e1:(N:Int)-2=q0
     · rw[if_pos ⟨e,e1⟩,if_neg (show ¬ (p=p0∧q0+2<(N:Int)) by omega),if_pos (show p=p0∧q0+2<((N+1:Nat):Int) by omega),e1]
     · rw[if_neg (show ¬ (p=p0∧(N:Int)-2=q0) by omega)]
       by_cases e2:q0+2<(N:Int)
       · rw[if_pos ⟨e,e2⟩,if_pos (show p=p0∧q0+2<((N+1:Nat):Int) by omega)]
       · rw[if_neg (show ¬ (p=p0∧q0+2<(N:Int)) by omega),if_neg (show ¬ (p=p0∧q0+2<((N+1:Nat):Int)) by omega)]
   · rw[if_neg (fun h=>e h.1),if_neg (fun h=>e h.1),if_neg (fun h=>e h.1)]
theorem uL {w:Int} {ls:Nat} {zs sz:Nat→Int} {p0 q0:Int} (hls:ls≤10) (hp0:-2≤p0) (hq0:-2≤q0∧q0<ls):∀ N:Nat,N≤12 →
 rK w ls zs sz N (uN p0 q0)=if p0+2<N then kv w zs sz p0 q0 0 else 0
 | 0,_=>by rw[if_neg (by omega)];rfl
 | N + 1,hN=>by
   have ih:=uL (w:=w) (zs:=zs) (sz:=sz) hls hp0 hq0 N (by omega)
   show sL w zs sz ((N:Int)-2) (rK w ls zs sz N) (ls+2) (uN p0 q0)=_
   rw[zJ (by omega) hp0 ⟨hq0.1,by omega⟩ (ls+2) (by omega),ih]
   by_cases e:(N:Int)-2=p0
   · rw[if_pos (show (N:Int)-2=p0∧q0+2<((ls+2:Nat):Int) by omega),if_neg (show ¬ p0+2<(N:Int) by omega),if_pos (show p0+2<((N+1:Nat):Int) by omega),e]
   · rw[if_neg (fun h=>e h.1)]
     by_cases e2:p0+2<(N:Int)
     · rw[if_pos e2,if_pos (show p0+2<((N+1:Nat):Int) by omega)]
     · rw[if_neg e2,if_neg (show ¬ p0+2<((N+1:Nat):Int) by omega)]
theorem Hs {w:Int} {ls ld:Nat} {zs zd:Nat→Int} {p q:Int} (h:bN w ls ld zs zd=0) (hp:bx ls p=true) (hq:bx ls q=true) (hpq:p≠q) :
 rK w ls zs (ft zd ld) (ls+2) (uN p q)=jZ w ld zs zd p q:=by
 have hc:=eY h
 simp only[bx,Bool.and_eq_true,decide_eq_true_eq] at hp hq
 rw[uL hc.1 hp.1 hq (ls+2) (by omega),if_pos (by omega)]
 unfold kv jZ
 rw[if_neg hpq]
 have hs:∀ b:Bool,∀ s:Int,0≤s→(cond b (ft zd ld (s.toNat*2+1)) (ft zd ld (s.toNat*2)))=lN b zd ld s:=fun b s h0=>by
  have:=Ao zd ld s.toNat (fun j hj=>(hc.2.2 j hj).1) ld (Nat.le_refl _)
  have e:((s.toNat:Nat):Int)=s:=by omega
  rw[e] at this
  cases b
  · exact this.1
  · exact this.2
 rw[qb (f:=fun s=>ft zd ld (s.toNat*2)) (g:=lN false zd ld) (fun s h0=>hs false s h0),qb (f:=fun s=>ft zd ld (s.toNat*2+1)) (g:=lN true zd ld) (fun s h0=>hs true s h0)]
end Go.Eng
end
