/- Drop: do two places touch, as it is defined. -/
import Derived.Test.YtjmjkhpfipglcaaV6DrLx3
section
namespace Go.Eng
open Go.Proofs
set_option linter.unusedVariables false
set_option linter.unusedSimpArgs false
set_option maxRecDepth 100000
def g45t (B T : AV) (side : Prop) (so : Int → Int) : List AV → Option (Prop × AV)
 | [b, t, .int .i64 k] => some (b = B ∧ t = T ∧ side, .int .i64 (so k))
 | _ => none
def g46 (B : AV) (P Q : Int) (side : Prop) (ev : Bool → AV) (tm : AV → Bool) : List AV → Option (Prop × AV)
 | [b, t, .int .i64 p, .int .i64 q] => some (b = B ∧ p = P ∧ q = Q ∧ side ∧ (t = ev false ∨ t = ev true), .bool (tm t))
 | _ => none
def g70 (B : AV) (P Q e : Int) : List AV → Option (Prop × AV)
 | [b, .int .i64 p, .int .i64 q] => some (b = B ∧ p = P ∧ q = Q, .int .i64 e)
 | _ => none
def g68 (B : AV) (P Q : Int) (t : AV) (e : Int) : List AV → Option (Prop × AV)
 | [b, .int .i64 p, .int .i64 q] => some (b = B ∧ p = P ∧ q = Q, .tup [t, .int .i64 e])
 | _ => none
theorem u46a (n : Nat) (w : Int) (ls ld lt : Nat) (zs zd tr : Nat → Int) (H : Heap) (p q : Int) (so : Int → Int) (side : Prop) : bodyT Try.prog (cd (n+2)) 100000 46 Try.f46 (Kt.kt 46) (il (ctG noCt 45 (g45t (bathA w ls zs ld zd) (slA 1 lt tr) side so)) (n+1) 1) noBT noRT [(bathA w ls zs ld zd, none), (slA 1 lt tr, none), (.int .i64 p, none), (.int .i64 q, none)] H =
 (fun (Z0 : AV × Option Nat) => ((fun (Z1 : AV × Option Nat) => ((fun (Z2 : AV × Option Nat) => ((fun (Z3 : AV × Option Nat) => Tr.ite (ltI p (Int.ofNat 0)) (Tr.ite (ltI q (Int.ofNat 0)) (Tr.ok ((AV.bool false, some 1), H)) (Tr.ite (ltI p (Int.ofNat 0)) (Tr.reqP (bathA w ls zs ld zd = bathA w ls zs ld zd ∧ AV.slcT none (Row.M [Seg.arr .i64 tr lt]) 1 lt false = AV.slcT none (Row.M [Seg.arr .i64 tr lt]) 1 lt false ∧ side) (Tr.req (inI q ls) (Tr.req (ltN (idO 0 q 2) (mulO ls 2)) (Tr.req (ltN (addO (idO 0 q 2) 1) (mulO ls 2)) (Tr.req (andB (leN 0 0) (leN 0 1)) (Tr.ite (eqI (so q) (Int.ofNat 0)) (Tr.ok ((AV.bool false, some 1), H)) (Tr.ite (eqI p (Int.negSucc 0)) (Tr.ok ((AV.bool (leI (mulI .i64 (zs (idO 0 q 2)) (zs (idO 0 q 2))) (so q)), none), H)) (Tr.ite (eqI p (Int.negSucc 1)) (Tr.ok (Z2, H)) (Tr.reqP (bathA w ls zs ld zd = bathA w ls zs ld zd ∧ AV.slcT none (Row.M [Seg.arr .i64 tr lt]) 1 lt false = AV.slcT none (Row.M [Seg.arr .i64 tr lt]) 1 lt false ∧ side) (Tr.req (inI p ls) (Tr.req (ltN (idO 0 p 2) (mulO ls 2)) (Tr.req (ltN (addO (idO 0 p 2) 1) (mulO ls 2)) (Tr.req (andB (leN 0 0) (leN 0 1)) (Tr.ite (eqI (so p) (Int.ofNat 0)) (Tr.ok ((AV.bool false, some 1), H)) (Tr.ite (leI (addI .i64 (mulI .i64 (subI .i64 (zs (idO 0 q 2)) (zs (idO 0 p 2))) (subI .i64 (zs (idO 0 q 2)) (zs (idO 0 p 2)))) (mulI .i64 (subI .i64 (zs (addO (idO 0 q 2) 1)) (zs (addO (idO 0 p 2) 1))) (subI .i64 (zs (addO (idO 0 q 2) 1)) (zs (addO (idO 0 p 2) 1))))) (addI .i64 (so q) (so p))) (Tr.ok ((AV.bool true, some 1), H)) (Tr.ok (Z0, H))))))))))))))))) (Tr.reqP (bathA w ls zs ld zd = bathA w ls zs ld zd ∧ AV.slcT none (Row.M [Seg.arr .i64 tr lt]) 1 lt false = AV.slcT none (Row.M [Seg.arr .i64 tr lt]) 1 lt false ∧ side) (Tr.req (inI p ls) (Tr.req (ltN (idO 0 p 2) (mulO ls 2)) (Tr.req (ltN (addO (idO 0 p 2) 1) (mulO ls 2)) (Tr.req (andB (leN 0 0) (leN 0 1)) (Tr.ite (eqI (so p) (Int.ofNat 0)) (Tr.ok ((AV.bool false, some 1), H)) (Tr.ite (eqI q (Int.negSucc 0)) (Tr.ok ((AV.bool (leI (mulI .i64 (zs (idO 0 p 2)) (zs (idO 0 p 2))) (so p)), none), H)) (Tr.ite (eqI q (Int.negSucc 1)) (Tr.ok (Z3, H)) (Tr.reqP (bathA w ls zs ld zd = bathA w ls zs ld zd ∧ AV.slcT none (Row.M [Seg.arr .i64 tr lt]) 1 lt false = AV.slcT none (Row.M [Seg.arr .i64 tr lt]) 1 lt false ∧ side) (Tr.req (inI q ls) (Tr.req (ltN (idO 0 q 2) (mulO ls 2)) (Tr.req (ltN (addO (idO 0 q 2) 1) (mulO ls 2)) (Tr.req (andB (leN 0 0) (leN 0 1)) (Tr.ite (eqI (so q) (Int.ofNat 0)) (Tr.ok ((AV.bool false, some 1), H)) (Tr.ite (leI (addI .i64 (mulI .i64 (subI .i64 (zs (idO 0 p 2)) (zs (idO 0 q 2))) (subI .i64 (zs (idO 0 p 2)) (zs (idO 0 q 2)))) (mulI .i64 (subI .i64 (zs (addO (idO 0 p 2) 1)) (zs (addO (idO 0 q 2) 1))) (subI .i64 (zs (addO (idO 0 p 2) 1)) (zs (addO (idO 0 q 2) 1))))) (addI .i64 (so p) (so q))) (Tr.ok ((AV.bool true, some 1), H)) (Tr.ok (Z1, H))))))))))))))))))) (Tr.ite (ltI p (Int.ofNat 0)) (Tr.reqP (bathA w ls zs ld zd = bathA w ls zs ld zd ∧ AV.slcT none (Row.M [Seg.arr .i64 tr lt]) 1 lt false = AV.slcT none (Row.M [Seg.arr .i64 tr lt]) 1 lt false ∧ side) (Tr.req (inI q ls) (Tr.req (ltN (idO 0 q 2) (mulO ls 2)) (Tr.req (ltN (addO (idO 0 q 2) 1) (mulO ls 2)) (Tr.req (andB (leN 0 0) (leN 0 1)) (Tr.ite (eqI (so q) (Int.ofNat 0)) (Tr.ok ((AV.bool false, some 1), H)) (Tr.ite (eqI p (Int.negSucc 0)) (Tr.ok ((AV.bool (leI (mulI .i64 (zs (idO 0 q 2)) (zs (idO 0 q 2))) (so q)), none), H)) (Tr.ite (eqI p (Int.negSucc 1)) (Tr.ok (Z2, H)) (Tr.reqP (bathA w ls zs ld zd = bathA w ls zs ld zd ∧ AV.slcT none (Row.M [Seg.arr .i64 tr lt]) 1 lt false = AV.slcT none (Row.M [Seg.arr .i64 tr lt]) 1 lt false ∧ side) (Tr.req (inI p ls) (Tr.req (ltN (idO 0 p 2) (mulO ls 2)) (Tr.req (ltN (addO (idO 0 p 2) 1) (mulO ls 2)) (Tr.req (andB (leN 0 0) (leN 0 1)) (Tr.ite (eqI (so p) (Int.ofNat 0)) (Tr.ok ((AV.bool false, some 1), H)) (Tr.ite (leI (addI .i64 (mulI .i64 (subI .i64 (zs (idO 0 q 2)) (zs (idO 0 p 2))) (subI .i64 (zs (idO 0 q 2)) (zs (idO 0 p 2)))) (mulI .i64 (subI .i64 (zs (addO (idO 0 q 2) 1)) (zs (addO (idO 0 p 2) 1))) (subI .i64 (zs (addO (idO 0 q 2) 1)) (zs (addO (idO 0 p 2) 1))))) (addI .i64 (so q) (so p))) (Tr.ok ((AV.bool true, some 1), H)) (Tr.ok (Z0, H))))))))))))))))) (Tr.reqP (bathA w ls zs ld zd = bathA w ls zs ld zd ∧ AV.slcT none (Row.M [Seg.arr .i64 tr lt]) 1 lt false = AV.slcT none (Row.M [Seg.arr .i64 tr lt]) 1 lt false ∧ side) (Tr.req (inI p ls) (Tr.req (ltN (idO 0 p 2) (mulO ls 2)) (Tr.req (ltN (addO (idO 0 p 2) 1) (mulO ls 2)) (Tr.req (andB (leN 0 0) (leN 0 1)) (Tr.ite (eqI (so p) (Int.ofNat 0)) (Tr.ok ((AV.bool false, some 1), H)) (Tr.ite (eqI q (Int.negSucc 0)) (Tr.ok ((AV.bool (leI (mulI .i64 (zs (idO 0 p 2)) (zs (idO 0 p 2))) (so p)), none), H)) (Tr.ite (eqI q (Int.negSucc 1)) (Tr.ok (Z3, H)) (Tr.reqP (bathA w ls zs ld zd = bathA w ls zs ld zd ∧ AV.slcT none (Row.M [Seg.arr .i64 tr lt]) 1 lt false = AV.slcT none (Row.M [Seg.arr .i64 tr lt]) 1 lt false ∧ side) (Tr.req (inI q ls) (Tr.req (ltN (idO 0 q 2) (mulO ls 2)) (Tr.req (ltN (addO (idO 0 q 2) 1) (mulO ls 2)) (Tr.req (andB (leN 0 0) (leN 0 1)) (Tr.ite (eqI (so q) (Int.ofNat 0)) (Tr.ok ((AV.bool false, some 1), H)) (Tr.ite (leI (addI .i64 (mulI .i64 (subI .i64 (zs (idO 0 p 2)) (zs (idO 0 q 2))) (subI .i64 (zs (idO 0 p 2)) (zs (idO 0 q 2)))) (mulI .i64 (subI .i64 (zs (addO (idO 0 p 2) 1)) (zs (addO (idO 0 q 2) 1))) (subI .i64 (zs (addO (idO 0 p 2) 1)) (zs (addO (idO 0 q 2) 1))))) (addI .i64 (so p) (so q))) (Tr.ok ((AV.bool true, some 1), H)) (Tr.ok (Z1, H))))))))))))))))))) (AV.bool (leI (mulI .i64 (subI .i64 w (zs (idO 0 p 2))) (subI .i64 w (zs (idO 0 p 2)))) (so p)), none))) (AV.bool (leI (mulI .i64 (subI .i64 w (zs (idO 0 q 2))) (subI .i64 w (zs (idO 0 q 2)))) (so q)), none))) (AV.bool (leI (mulI .i64 (subI .i64 (subI .i64 (addI .i64 (mulI .i64 (subI .i64 (zs (idO 0 p 2)) (zs (idO 0 q 2))) (subI .i64 (zs (idO 0 p 2)) (zs (idO 0 q 2)))) (mulI .i64 (subI .i64 (zs (addO (idO 0 p 2) 1)) (zs (addO (idO 0 q 2) 1))) (subI .i64 (zs (addO (idO 0 p 2) 1)) (zs (addO (idO 0 q 2) 1))))) (so p)) (so q)) (subI .i64 (subI .i64 (addI .i64 (mulI .i64 (subI .i64 (zs (idO 0 p 2)) (zs (idO 0 q 2))) (subI .i64 (zs (idO 0 p 2)) (zs (idO 0 q 2)))) (mulI .i64 (subI .i64 (zs (addO (idO 0 p 2) 1)) (zs (addO (idO 0 q 2) 1))) (subI .i64 (zs (addO (idO 0 p 2) 1)) (zs (addO (idO 0 q 2) 1))))) (so p)) (so q))) (mulI .i64 (mulI .i64 (Int.ofNat 4) (so p)) (so q))), none))) (AV.bool (leI (mulI .i64 (subI .i64 (subI .i64 (addI .i64 (mulI .i64 (subI .i64 (zs (idO 0 q 2)) (zs (idO 0 p 2))) (subI .i64 (zs (idO 0 q 2)) (zs (idO 0 p 2)))) (mulI .i64 (subI .i64 (zs (addO (idO 0 q 2) 1)) (zs (addO (idO 0 p 2) 1))) (subI .i64 (zs (addO (idO 0 q 2) 1)) (zs (addO (idO 0 p 2) 1))))) (so q)) (so p)) (subI .i64 (subI .i64 (addI .i64 (mulI .i64 (subI .i64 (zs (idO 0 q 2)) (zs (idO 0 p 2))) (subI .i64 (zs (idO 0 q 2)) (zs (idO 0 p 2)))) (mulI .i64 (subI .i64 (zs (addO (idO 0 q 2) 1)) (zs (addO (idO 0 p 2) 1))) (subI .i64 (zs (addO (idO 0 q 2) 1)) (zs (addO (idO 0 p 2) 1))))) (so q)) (so p))) (mulI .i64 (mulI .i64 (Int.ofNat 4) (so q)) (so p))), none) := by kernel_rfl
theorem u46b (n : Nat) (w : Int) (ls ld : Nat) (zs zd : Nat → Int) (H : Heap) (p q : Int) (so : Int → Int) (side : Prop) : bodyT Try.prog (cd (n+2)) 100000 46 Try.f46 (Kt.kt 46) (il (ctG noCt 45 (g45t (bathA w ls zs ld zd) .nils side so)) (n+1) 1) noBT noRT [(bathA w ls zs ld zd, none), (.nils, none), (.int .i64 p, none), (.int .i64 q, none)] H =
 (fun (Z0 : AV × Option Nat) => ((fun (Z1 : AV × Option Nat) => ((fun (Z2 : AV × Option Nat) => ((fun (Z3 : AV × Option Nat) => Tr.ite (ltI p (Int.ofNat 0)) (Tr.ite (ltI q (Int.ofNat 0)) (Tr.ok ((AV.bool false, some 1), H)) (Tr.ite (ltI p (Int.ofNat 0)) (Tr.reqP (bathA w ls zs ld zd = bathA w ls zs ld zd ∧ AV.nils = AV.nils ∧ side) (Tr.req (inI q ls) (Tr.req (ltN (idO 0 q 2) (mulO ls 2)) (Tr.req (ltN (addO (idO 0 q 2) 1) (mulO ls 2)) (Tr.req (andB (leN 0 0) (leN 0 1)) (Tr.ite (eqI (so q) (Int.ofNat 0)) (Tr.ok ((AV.bool false, some 1), H)) (Tr.ite (eqI p (Int.negSucc 0)) (Tr.ok ((AV.bool (leI (mulI .i64 (zs (idO 0 q 2)) (zs (idO 0 q 2))) (so q)), none), H)) (Tr.ite (eqI p (Int.negSucc 1)) (Tr.ok (Z2, H)) (Tr.reqP (bathA w ls zs ld zd = bathA w ls zs ld zd ∧ AV.nils = AV.nils ∧ side) (Tr.req (inI p ls) (Tr.req (ltN (idO 0 p 2) (mulO ls 2)) (Tr.req (ltN (addO (idO 0 p 2) 1) (mulO ls 2)) (Tr.req (andB (leN 0 0) (leN 0 1)) (Tr.ite (eqI (so p) (Int.ofNat 0)) (Tr.ok ((AV.bool false, some 1), H)) (Tr.ite (leI (addI .i64 (mulI .i64 (subI .i64 (zs (idO 0 q 2)) (zs (idO 0 p 2))) (subI .i64 (zs (idO 0 q 2)) (zs (idO 0 p 2)))) (mulI .i64 (subI .i64 (zs (addO (idO 0 q 2) 1)) (zs (addO (idO 0 p 2) 1))) (subI .i64 (zs (addO (idO 0 q 2) 1)) (zs (addO (idO 0 p 2) 1))))) (addI .i64 (so q) (so p))) (Tr.ok ((AV.bool true, some 1), H)) (Tr.ok (Z0, H))))))))))))))))) (Tr.reqP (bathA w ls zs ld zd = bathA w ls zs ld zd ∧ AV.nils = AV.nils ∧ side) (Tr.req (inI p ls) (Tr.req (ltN (idO 0 p 2) (mulO ls 2)) (Tr.req (ltN (addO (idO 0 p 2) 1) (mulO ls 2)) (Tr.req (andB (leN 0 0) (leN 0 1)) (Tr.ite (eqI (so p) (Int.ofNat 0)) (Tr.ok ((AV.bool false, some 1), H)) (Tr.ite (eqI q (Int.negSucc 0)) (Tr.ok ((AV.bool (leI (mulI .i64 (zs (idO 0 p 2)) (zs (idO 0 p 2))) (so p)), none), H)) (Tr.ite (eqI q (Int.negSucc 1)) (Tr.ok (Z3, H)) (Tr.reqP (bathA w ls zs ld zd = bathA w ls zs ld zd ∧ AV.nils = AV.nils ∧ side) (Tr.req (inI q ls) (Tr.req (ltN (idO 0 q 2) (mulO ls 2)) (Tr.req (ltN (addO (idO 0 q 2) 1) (mulO ls 2)) (Tr.req (andB (leN 0 0) (leN 0 1)) (Tr.ite (eqI (so q) (Int.ofNat 0)) (Tr.ok ((AV.bool false, some 1), H)) (Tr.ite (leI (addI .i64 (mulI .i64 (subI .i64 (zs (idO 0 p 2)) (zs (idO 0 q 2))) (subI .i64 (zs (idO 0 p 2)) (zs (idO 0 q 2)))) (mulI .i64 (subI .i64 (zs (addO (idO 0 p 2) 1)) (zs (addO (idO 0 q 2) 1))) (subI .i64 (zs (addO (idO 0 p 2) 1)) (zs (addO (idO 0 q 2) 1))))) (addI .i64 (so p) (so q))) (Tr.ok ((AV.bool true, some 1), H)) (Tr.ok (Z1, H))))))))))))))))))) (Tr.ite (ltI p (Int.ofNat 0)) (Tr.reqP (bathA w ls zs ld zd = bathA w ls zs ld zd ∧ AV.nils = AV.nils ∧ side) (Tr.req (inI q ls) (Tr.req (ltN (idO 0 q 2) (mulO ls 2)) (Tr.req (ltN (addO (idO 0 q 2) 1) (mulO ls 2)) (Tr.req (andB (leN 0 0) (leN 0 1)) (Tr.ite (eqI (so q) (Int.ofNat 0)) (Tr.ok ((AV.bool false, some 1), H)) (Tr.ite (eqI p (Int.negSucc 0)) (Tr.ok ((AV.bool (leI (mulI .i64 (zs (idO 0 q 2)) (zs (idO 0 q 2))) (so q)), none), H)) (Tr.ite (eqI p (Int.negSucc 1)) (Tr.ok (Z2, H)) (Tr.reqP (bathA w ls zs ld zd = bathA w ls zs ld zd ∧ AV.nils = AV.nils ∧ side) (Tr.req (inI p ls) (Tr.req (ltN (idO 0 p 2) (mulO ls 2)) (Tr.req (ltN (addO (idO 0 p 2) 1) (mulO ls 2)) (Tr.req (andB (leN 0 0) (leN 0 1)) (Tr.ite (eqI (so p) (Int.ofNat 0)) (Tr.ok ((AV.bool false, some 1), H)) (Tr.ite (leI (addI .i64 (mulI .i64 (subI .i64 (zs (idO 0 q 2)) (zs (idO 0 p 2))) (subI .i64 (zs (idO 0 q 2)) (zs (idO 0 p 2)))) (mulI .i64 (subI .i64 (zs (addO (idO 0 q 2) 1)) (zs (addO (idO 0 p 2) 1))) (subI .i64 (zs (addO (idO 0 q 2) 1)) (zs (addO (idO 0 p 2) 1))))) (addI .i64 (so q) (so p))) (Tr.ok ((AV.bool true, some 1), H)) (Tr.ok (Z0, H))))))))))))))))) (Tr.reqP (bathA w ls zs ld zd = bathA w ls zs ld zd ∧ AV.nils = AV.nils ∧ side) (Tr.req (inI p ls) (Tr.req (ltN (idO 0 p 2) (mulO ls 2)) (Tr.req (ltN (addO (idO 0 p 2) 1) (mulO ls 2)) (Tr.req (andB (leN 0 0) (leN 0 1)) (Tr.ite (eqI (so p) (Int.ofNat 0)) (Tr.ok ((AV.bool false, some 1), H)) (Tr.ite (eqI q (Int.negSucc 0)) (Tr.ok ((AV.bool (leI (mulI .i64 (zs (idO 0 p 2)) (zs (idO 0 p 2))) (so p)), none), H)) (Tr.ite (eqI q (Int.negSucc 1)) (Tr.ok (Z3, H)) (Tr.reqP (bathA w ls zs ld zd = bathA w ls zs ld zd ∧ AV.nils = AV.nils ∧ side) (Tr.req (inI q ls) (Tr.req (ltN (idO 0 q 2) (mulO ls 2)) (Tr.req (ltN (addO (idO 0 q 2) 1) (mulO ls 2)) (Tr.req (andB (leN 0 0) (leN 0 1)) (Tr.ite (eqI (so q) (Int.ofNat 0)) (Tr.ok ((AV.bool false, some 1), H)) (Tr.ite (leI (addI .i64 (mulI .i64 (subI .i64 (zs (idO 0 p 2)) (zs (idO 0 q 2))) (subI .i64 (zs (idO 0 p 2)) (zs (idO 0 q 2)))) (mulI .i64 (subI .i64 (zs (addO (idO 0 p 2) 1)) (zs (addO (idO 0 q 2) 1))) (subI .i64 (zs (addO (idO 0 p 2) 1)) (zs (addO (idO 0 q 2) 1))))) (addI .i64 (so p) (so q))) (Tr.ok ((AV.bool true, some 1), H)) (Tr.ok (Z1, H))))))))))))))))))) (AV.bool (leI (mulI .i64 (subI .i64 w (zs (idO 0 p 2))) (subI .i64 w (zs (idO 0 p 2)))) (so p)), none))) (AV.bool (leI (mulI .i64 (subI .i64 w (zs (idO 0 q 2))) (subI .i64 w (zs (idO 0 q 2)))) (so q)), none))) (AV.bool (leI (mulI .i64 (subI .i64 (subI .i64 (addI .i64 (mulI .i64 (subI .i64 (zs (idO 0 p 2)) (zs (idO 0 q 2))) (subI .i64 (zs (idO 0 p 2)) (zs (idO 0 q 2)))) (mulI .i64 (subI .i64 (zs (addO (idO 0 p 2) 1)) (zs (addO (idO 0 q 2) 1))) (subI .i64 (zs (addO (idO 0 p 2) 1)) (zs (addO (idO 0 q 2) 1))))) (so p)) (so q)) (subI .i64 (subI .i64 (addI .i64 (mulI .i64 (subI .i64 (zs (idO 0 p 2)) (zs (idO 0 q 2))) (subI .i64 (zs (idO 0 p 2)) (zs (idO 0 q 2)))) (mulI .i64 (subI .i64 (zs (addO (idO 0 p 2) 1)) (zs (addO (idO 0 q 2) 1))) (subI .i64 (zs (addO (idO 0 p 2) 1)) (zs (addO (idO 0 q 2) 1))))) (so p)) (so q))) (mulI .i64 (mulI .i64 (Int.ofNat 4) (so p)) (so q))), none))) (AV.bool (leI (mulI .i64 (subI .i64 (subI .i64 (addI .i64 (mulI .i64 (subI .i64 (zs (idO 0 q 2)) (zs (idO 0 p 2))) (subI .i64 (zs (idO 0 q 2)) (zs (idO 0 p 2)))) (mulI .i64 (subI .i64 (zs (addO (idO 0 q 2) 1)) (zs (addO (idO 0 p 2) 1))) (subI .i64 (zs (addO (idO 0 q 2) 1)) (zs (addO (idO 0 p 2) 1))))) (so q)) (so p)) (subI .i64 (subI .i64 (addI .i64 (mulI .i64 (subI .i64 (zs (idO 0 q 2)) (zs (idO 0 p 2))) (subI .i64 (zs (idO 0 q 2)) (zs (idO 0 p 2)))) (mulI .i64 (subI .i64 (zs (addO (idO 0 q 2) 1)) (zs (addO (idO 0 p 2) 1))) (subI .i64 (zs (addO (idO 0 q 2) 1)) (zs (addO (idO 0 p 2) 1))))) (so q)) (so p))) (mulI .i64 (mulI .i64 (Int.ofNat 4) (so q)) (so p))), none) := by kernel_rfl
theorem u87 (n : Nat) (w : Int) (ls ld : Nat) (zs zd : Nat → Int) (H : Heap) (p : Int) : bodyT Try.prog (cd (n+2)) 100000 87 Try.f87 (Kt.kt 87) (il noCt (n+1) 1) noBT noRT [(bathA w ls zs ld zd, none), (.int .i64 p, none)] H =
 Tr.ite (eqI p (Int.negSucc 0)) (Tr.ok ((AV.bool true, some 1), H)) (Tr.ite (eqI p (Int.negSucc 1)) (Tr.ok ((AV.bool true, some 1), H)) (Tr.ite (leI (Int.ofNat 0) p) (Tr.ok ((AV.bool (ltI p (Int.ofNat ls)), none), H)) (Tr.ok ((AV.bool false, some 1), H)))) := by kernel_rfl
theorem u71 (n : Nat) (w : Int) (ls ld : Nat) (zs zd : Nat → Int) (H : Heap) (p q : Int) (side : Prop) (ev : Bool → AV) (tm : AV → Bool) : bodyT Try.prog (cd (n+4)) 100000 71 Try.f71 (Kt.kt 71) (il (ctG (ctG noCt 61 (g61 (bathA w ls zs ld zd) side ev)) 46 (g46 (bathA w ls zs ld zd) p q side ev tm)) (n+3) 1) noBT noRT [(bathA w ls zs ld zd, none), (.int .i64 p, none), (.int .i64 q, none)] H =
 Tr.reqP (bathA w ls zs ld zd = bathA w ls zs ld zd ∧ side) (Tr.reqP (bathA w ls zs ld zd = bathA w ls zs ld zd ∧ p = p ∧ q = q ∧ side ∧ (ev false = ev false ∨ ev false = ev true)) (Tr.ite (tm (ev false)) (Tr.ok ((AV.int .i64 (Int.ofNat 2), some 1), H)) (Tr.reqP (bathA w ls zs ld zd = bathA w ls zs ld zd ∧ side) (Tr.reqP (bathA w ls zs ld zd = bathA w ls zs ld zd ∧ p = p ∧ q = q ∧ side ∧ (ev true = ev false ∨ ev true = ev true)) (Tr.ite (tm (ev true)) (Tr.ok ((AV.int .i64 (Int.ofNat 1), some 1), H)) (Tr.ok ((AV.int .i64 (Int.ofNat 0), some 1), H))))))) := by kernel_rfl
end Go.Eng
end
section
namespace Go.Eng
open Go.Proofs
set_option linter.unusedVariables false
set_option linter.unusedSimpArgs false
set_option maxRecDepth 100000
theorem sq_le {k M : Int} (h1 : -M ≤ k) (h2 : k ≤ M) : 0 ≤ k * k ∧ k * k ≤ M * M := by
 by_cases h : 0 ≤ k
 · exact ⟨Int.mul_nonneg h h, Int.mul_le_mul h2 h2 h (by omega)⟩
 · have e : k * k = (-k) * (-k) := (Int.neg_mul_neg k k).symm
   rw [e]
   exact ⟨Int.mul_nonneg (by omega) (by omega), Int.mul_le_mul (by omega) (by omega) (by omega) (by omega)⟩
def spotB (zs : Nat → Int) (j : Nat) : Prop := 1 ≤ zs (j * 2) ∧ zs (j * 2) ≤ 1000 ∧ 0 ≤ zs (j * 2 + 1) ∧ zs (j * 2 + 1) ≤ 1000
def bothR (a c x y x' y' : Int) : Bool :=
 let wr := IntKind.i64.wrap
 let d := wr (wr (wr (x - x') * wr (x - x')) + wr (wr (y - y') * wr (y - y')))
 decide (d ≤ wr (a + c)) || decide (wr (wr (wr (d - a) - c) * wr (wr (d - a) - c)) ≤ wr (wr (4 * a) * c))
theorem wr_in {k : Int} (h1 : -9223372036854775808 ≤ k) (h2 : k ≤ 9223372036854775807) : IntKind.i64.wrap k = k := Go.IntWalk.i64_in _ (by omega)
theorem both_eq {a c x y x' y' : Int} (ha : 0 ≤ a ∧ a ≤ 1000000) (hc : 0 ≤ c ∧ c ≤ 1000000) (hx : 0 ≤ x ∧ x ≤ 1000) (hy : 0 ≤ y ∧ y ≤ 1000) (hx' : 0 ≤ x' ∧ x' ≤ 1000) (hy' : 0 ≤ y' ∧ y' ≤ 1000) :
 bothT a c x y x' y' = if c = 0 then false else bothR a c x y x' y' := by
 have s1 := sq_le (k := x - x') (M := 1000) (by omega) (by omega)
 have s2 := sq_le (k := y - y') (M := 1000) (by omega) (by omega)
 have e1 : IntKind.i64.wrap (x - x') = x - x' := wr_in (by omega) (by omega)
 have e2 : IntKind.i64.wrap (y - y') = y - y' := wr_in (by omega) (by omega)
 unfold bothT bothR
 simp only [e1, e2]
 generalize (x - x') * (x - x') = X at s1 ⊢
 generalize (y - y') * (y - y') = Y at s2 ⊢
 rw [wr_in (k := X) (by omega) (by omega), wr_in (k := Y) (by omega) (by omega), wr_in (k := X + Y) (by omega) (by omega), wr_in (k := X + Y - a) (by omega) (by omega), wr_in (k := X + Y - a - c) (by omega) (by omega), wr_in (k := a + c) (by omega) (by omega)]
 by_cases h0 : c = 0
 · rw [if_pos h0, decide_eq_false (by omega : ¬ 0 < c)]; rfl
 · rw [if_neg h0, decide_eq_true (by omega : 0 < c), Bool.true_and]
   congr 1
   by_cases h : X + Y ≤ a + c
   · rw [decide_eq_true h, decide_eq_true (by omega)]
   · rw [decide_eq_false h, decide_eq_false (by omega)]
section
variable (n : Nat) (w : Int) (ls ld : Nat) (zs zd : Nat → Int) (H : Heap) (p q : Int) (so : Int → Int)
structure TouchB (ls : Nat) (zs : Nat → Int) (so : Int → Int) (p q : Int) : Prop where
 hp : -2 ≤ p ∧ p < ls
 hq : -2 ≤ q ∧ q < ls
 spot : ∀ j, j < ls → spotB zs j
 size : ∀ s, 0 ≤ so s ∧ so s ≤ 1000000
def tchR (w : Int) (zs : Nat → Int) (so : Int → Int) (s o : Int) : Bool :=
 if so s = 0 then false
 else if o = -1 then decide (IntKind.i64.wrap (zs (s.toNat * 2) * zs (s.toNat * 2)) ≤ so s)
 else if o = -2 then decide (IntKind.i64.wrap (IntKind.i64.wrap (w - zs (s.toNat * 2)) * IntKind.i64.wrap (w - zs (s.toNat * 2))) ≤ so s)
 else if so o = 0 then false
 else bothR (so s) (so o) (zs (s.toNat * 2)) (zs (s.toNat * 2 + 1)) (zs (o.toNat * 2)) (zs (o.toNat * 2 + 1))
def touchR (w : Int) (zs : Nat → Int) (so : Int → Int) (p q : Int) : Bool :=
 if p < 0 ∧ q < 0 then false else if p < 0 then tchR w zs so q p else tchR w zs so p q
theorem touch_eq (h : TouchB ls zs so p q) : touchR w zs so p q = touchT w zs so p q := by
 obtain ⟨hp, hq, hsp, hsz⟩ := h
 have key : ∀ s o : Int, 0 ≤ s → s < ls → -2 ≤ o → o < ls → tchR w zs so s o = (if so s = 0 then false
  else if o = -2 then decide (IntKind.i64.wrap (IntKind.i64.wrap (w - zs (s.toNat * 2)) * IntKind.i64.wrap (w - zs (s.toNat * 2))) ≤ so s)
  else if 0 ≤ o then bothT (so s) (so o) (zs (s.toNat * 2)) (zs (s.toNat * 2 + 1)) (zs (o.toNat * 2)) (zs (o.toNat * 2 + 1))
  else decide (IntKind.i64.wrap (zs (s.toNat * 2) * zs (s.toNat * 2)) ≤ so s)) := by
  intro s o h0 h1 h2 h3
  unfold tchR
  by_cases e0 : so s = 0
  · rw [if_pos e0, if_pos e0]
  · rw [if_neg e0, if_neg e0]
    by_cases e1 : o = -1
    · rw [if_pos e1, if_neg (show ¬ o = -2 by omega), if_neg (show ¬ 0 ≤ o by omega)]
    · rw [if_neg e1]
      by_cases e2 : o = -2
      · rw [if_pos e2, if_pos e2]
      · rw [if_neg e2, if_neg e2, if_pos (show 0 ≤ o by omega)]
        obtain ⟨a1, a2, a3, a4⟩ := hsp s.toNat (by omega)
        obtain ⟨b1, b2, b3, b4⟩ := hsp o.toNat (by omega)
        exact (both_eq (hsz s) (hsz o) ⟨by omega, a2⟩ ⟨a3, a4⟩ ⟨by omega, b2⟩ ⟨b3, b4⟩).symm
 unfold touchR touchT
 by_cases h1 : p < 0 <;> by_cases h2 : q < 0
 · simp only [h1, h2, and_self, if_true]
 · simp only [h1, h2, and_false, if_false, if_true]
   exact key q p (by omega) hq.2 hp.1 hp.2
 · simp only [h1, h2, false_and, if_false]
   exact key p q (by omega) hp.2 hq.1 hq.2
 · simp only [h1, h2, false_and, if_false]
   exact key p q (by omega) hp.2 hq.1 hq.2
end
end Go.Eng
end
section
namespace Go.Eng
open Go.Proofs
set_option linter.unusedVariables false
set_option linter.unusedSimpArgs false
set_option maxRecDepth 100000
section
variable (n : Nat) (w : Int) (ls ld : Nat) (zs zd : Nat → Int) (H : Heap) (p q : Int) (so : Int → Int)
theorem run46a (lt : Nat) (tr : Nat → Int) (h : TouchB ls zs so p q) : ∃ y, (bodyT Try.prog (cd (n+2)) 100000 46 Try.f46 (Kt.kt 46) (il (ctG noCt 45 (g45t (bathA w ls zs ld zd) (slA 1 lt tr) True so)) (n+1) 1) noBT noRT [(bathA w ls zs ld zd, none), (slA 1 lt tr, none), (.int .i64 p, none), (.int .i64 q, none)] H).run = some y ∧ (y.1.1, y.2) = (AV.bool (touchR w zs so p q), H) := by
 rw [u46a n w ls ld lt zs zd tr H p q so True]
 have e1 : Int.negSucc 0 = -1 := rfl
 have e2 : Int.negSucc 1 = -2 := rfl
 obtain ⟨hp, hq, hsp, hsz⟩ := h
 by_cases h1 : p < 0 <;> by_cases h2 : q < 0
 · refine ⟨_, by simp (disch := omega) only [Tr.run_ite, Tr.run_req, Tr.run_ok, nS, eqI_dec, decide_eq_true, decide_eq_false, cond_true, cond_false, Int.ofNat_eq_natCast, wrap_j, ver0, eqI_dec, e1, e2, subI_eq, mulI_eq, run_reqT, eq_self, and_true, true_and]; rfl, ?_⟩
   simp only [touchR, tchR, bothR, h1, h2, and_self, and_false, false_and, and_true, if_true, if_false]; try rfl
 · by_cases h3 : so q = 0
   · refine ⟨_, by simp (disch := omega) only [Tr.run_ite, Tr.run_req, Tr.run_ok, nS, eqI_dec, decide_eq_true, decide_eq_false, cond_true, cond_false, Int.ofNat_eq_natCast, wrap_j, ver0, eqI_dec, e1, e2, subI_eq, mulI_eq, run_reqT, eq_self, and_true, true_and]; rfl, ?_⟩
     simp only [touchR, tchR, bothR, h1, h2, and_self, and_false, false_and, and_true, if_true, if_false, h3]; try rfl
   · by_cases h4 : p = -1
     · refine ⟨_, by simp (disch := omega) only [Tr.run_ite, Tr.run_req, Tr.run_ok, nS, eqI_dec, decide_eq_true, decide_eq_false, cond_true, cond_false, Int.ofNat_eq_natCast, wrap_j, ver0, eqI_dec, e1, e2, subI_eq, mulI_eq, run_reqT, eq_self, and_true, true_and]; rfl, ?_⟩
       simp only [touchR, tchR, bothR, h1, h2, and_self, and_false, false_and, and_true, if_true, if_false, h3, h4]; try rfl
     · by_cases h5 : p = -2
       · refine ⟨_, by simp (disch := omega) only [Tr.run_ite, Tr.run_req, Tr.run_ok, nS, eqI_dec, decide_eq_true, decide_eq_false, cond_true, cond_false, Int.ofNat_eq_natCast, wrap_j, ver0, eqI_dec, e1, e2, subI_eq, mulI_eq, run_reqT, eq_self, and_true, true_and]; rfl, ?_⟩
         simp only [touchR, tchR, bothR, h1, h2, and_self, and_false, false_and, and_true, if_true, if_false, h3, h4, h5, show ¬ (-2 : Int) = -1 by decide]; try rfl
       · exfalso; omega
 · by_cases h3 : so p = 0
   · refine ⟨_, by simp (disch := omega) only [Tr.run_ite, Tr.run_req, Tr.run_ok, nS, eqI_dec, decide_eq_true, decide_eq_false, cond_true, cond_false, Int.ofNat_eq_natCast, wrap_j, ver0, eqI_dec, e1, e2, subI_eq, mulI_eq, run_reqT, eq_self, and_true, true_and]; rfl, ?_⟩
     simp only [touchR, tchR, bothR, h1, h2, and_self, and_false, false_and, and_true, if_true, if_false, h3]; try rfl
   · by_cases h4 : q = -1
     · refine ⟨_, by simp (disch := omega) only [Tr.run_ite, Tr.run_req, Tr.run_ok, nS, eqI_dec, decide_eq_true, decide_eq_false, cond_true, cond_false, Int.ofNat_eq_natCast, wrap_j, ver0, eqI_dec, e1, e2, subI_eq, mulI_eq, run_reqT, eq_self, and_true, true_and]; rfl, ?_⟩
       simp only [touchR, tchR, bothR, h1, h2, and_self, and_false, false_and, and_true, if_true, if_false, h3, h4]; try rfl
     · by_cases h5 : q = -2
       · refine ⟨_, by simp (disch := omega) only [Tr.run_ite, Tr.run_req, Tr.run_ok, nS, eqI_dec, decide_eq_true, decide_eq_false, cond_true, cond_false, Int.ofNat_eq_natCast, wrap_j, ver0, eqI_dec, e1, e2, subI_eq, mulI_eq, run_reqT, eq_self, and_true, true_and]; rfl, ?_⟩
         simp only [touchR, tchR, bothR, h1, h2, and_self, and_false, false_and, and_true, if_true, if_false, h3, h4, h5, show ¬ (-2 : Int) = -1 by decide]; try rfl
       · exfalso; omega
 · by_cases h3 : so p = 0
   · refine ⟨_, by simp (disch := omega) only [Tr.run_ite, Tr.run_req, Tr.run_ok, nS, eqI_dec, decide_eq_true, decide_eq_false, cond_true, cond_false, Int.ofNat_eq_natCast, wrap_j, ver0, eqI_dec, e1, e2, subI_eq, mulI_eq, run_reqT, eq_self, and_true, true_and]; rfl, ?_⟩
     simp only [touchR, tchR, bothR, h1, h2, and_self, and_false, false_and, and_true, if_true, if_false, h3]; try rfl
   · have h4 : ¬ q = -1 := by omega
     have h5 : ¬ q = -2 := by omega
     by_cases h6 : so q = 0
     · refine ⟨_, by simp (disch := omega) only [Tr.run_ite, Tr.run_req, Tr.run_ok, nS, eqI_dec, decide_eq_true, decide_eq_false, cond_true, cond_false, Int.ofNat_eq_natCast, wrap_j, ver0, eqI_dec, e1, e2, subI_eq, mulI_eq, run_reqT, eq_self, and_true, true_and]; rfl, ?_⟩
       simp only [touchR, tchR, bothR, h1, h2, and_self, and_false, false_and, and_true, if_true, if_false, h3, h4, h5, h6]; try rfl
     · by_cases h7 : IntKind.i64.wrap (IntKind.i64.wrap (IntKind.i64.wrap (zs (p.toNat * 2) - zs (q.toNat * 2)) * IntKind.i64.wrap (zs (p.toNat * 2) - zs (q.toNat * 2))) + IntKind.i64.wrap (IntKind.i64.wrap (zs (p.toNat * 2 + 1) - zs (q.toNat * 2 + 1)) * IntKind.i64.wrap (zs (p.toNat * 2 + 1) - zs (q.toNat * 2 + 1)))) ≤ IntKind.i64.wrap (so p + so q)
       · refine ⟨_, by simp (disch := omega) only [Tr.run_ite, Tr.run_req, Tr.run_ok, nS, eqI_dec, decide_eq_true, decide_eq_false, cond_true, cond_false, Int.ofNat_eq_natCast, wrap_j, ver0, eqI_dec, e1, e2, subI_eq, mulI_eq, run_reqT, eq_self, and_true, true_and]; rfl, ?_⟩
         simp only [touchR, tchR, bothR, h1, h2, and_self, and_false, false_and, and_true, if_true, if_false, h3, h4, h5, h6, decide_eq_true h7, Bool.true_or]; try rfl
       · refine ⟨_, by simp (disch := omega) only [Tr.run_ite, Tr.run_req, Tr.run_ok, nS, eqI_dec, decide_eq_true, decide_eq_false, cond_true, cond_false, Int.ofNat_eq_natCast, wrap_j, ver0, eqI_dec, e1, e2, subI_eq, mulI_eq, run_reqT, eq_self, and_true, true_and]; rfl, ?_⟩
         simp only [touchR, tchR, bothR, h1, h2, and_self, and_false, false_and, and_true, if_true, if_false, h3, h4, h5, h6, decide_eq_false h7, Bool.false_or]; try rfl
theorem run46b (h : TouchB ls zs so p q) : ∃ y, (bodyT Try.prog (cd (n+2)) 100000 46 Try.f46 (Kt.kt 46) (il (ctG noCt 45 (g45t (bathA w ls zs ld zd) .nils True so)) (n+1) 1) noBT noRT [(bathA w ls zs ld zd, none), (.nils, none), (.int .i64 p, none), (.int .i64 q, none)] H).run = some y ∧ (y.1.1, y.2) = (AV.bool (touchR w zs so p q), H) := by
 rw [u46b n w ls ld zs zd H p q so True]
 have e1 : Int.negSucc 0 = -1 := rfl
 have e2 : Int.negSucc 1 = -2 := rfl
 obtain ⟨hp, hq, hsp, hsz⟩ := h
 by_cases h1 : p < 0 <;> by_cases h2 : q < 0
 · refine ⟨_, by simp (disch := omega) only [Tr.run_ite, Tr.run_req, Tr.run_ok, nS, eqI_dec, decide_eq_true, decide_eq_false, cond_true, cond_false, Int.ofNat_eq_natCast, wrap_j, ver0, eqI_dec, e1, e2, subI_eq, mulI_eq, run_reqT, eq_self, and_true, true_and]; rfl, ?_⟩
   simp only [touchR, tchR, bothR, h1, h2, and_self, and_false, false_and, and_true, if_true, if_false]; try rfl
 · by_cases h3 : so q = 0
   · refine ⟨_, by simp (disch := omega) only [Tr.run_ite, Tr.run_req, Tr.run_ok, nS, eqI_dec, decide_eq_true, decide_eq_false, cond_true, cond_false, Int.ofNat_eq_natCast, wrap_j, ver0, eqI_dec, e1, e2, subI_eq, mulI_eq, run_reqT, eq_self, and_true, true_and]; rfl, ?_⟩
     simp only [touchR, tchR, bothR, h1, h2, and_self, and_false, false_and, and_true, if_true, if_false, h3]; try rfl
   · by_cases h4 : p = -1
     · refine ⟨_, by simp (disch := omega) only [Tr.run_ite, Tr.run_req, Tr.run_ok, nS, eqI_dec, decide_eq_true, decide_eq_false, cond_true, cond_false, Int.ofNat_eq_natCast, wrap_j, ver0, eqI_dec, e1, e2, subI_eq, mulI_eq, run_reqT, eq_self, and_true, true_and]; rfl, ?_⟩
       simp only [touchR, tchR, bothR, h1, h2, and_self, and_false, false_and, and_true, if_true, if_false, h3, h4]; try rfl
     · by_cases h5 : p = -2
       · refine ⟨_, by simp (disch := omega) only [Tr.run_ite, Tr.run_req, Tr.run_ok, nS, eqI_dec, decide_eq_true, decide_eq_false, cond_true, cond_false, Int.ofNat_eq_natCast, wrap_j, ver0, eqI_dec, e1, e2, subI_eq, mulI_eq, run_reqT, eq_self, and_true, true_and]; rfl, ?_⟩
         simp only [touchR, tchR, bothR, h1, h2, and_self, and_false, false_and, and_true, if_true, if_false, h3, h4, h5, show ¬ (-2 : Int) = -1 by decide]; try rfl
       · exfalso; omega
 · by_cases h3 : so p = 0
   · refine ⟨_, by simp (disch := omega) only [Tr.run_ite, Tr.run_req, Tr.run_ok, nS, eqI_dec, decide_eq_true, decide_eq_false, cond_true, cond_false, Int.ofNat_eq_natCast, wrap_j, ver0, eqI_dec, e1, e2, subI_eq, mulI_eq, run_reqT, eq_self, and_true, true_and]; rfl, ?_⟩
     simp only [touchR, tchR, bothR, h1, h2, and_self, and_false, false_and, and_true, if_true, if_false, h3]; try rfl
   · by_cases h4 : q = -1
     · refine ⟨_, by simp (disch := omega) only [Tr.run_ite, Tr.run_req, Tr.run_ok, nS, eqI_dec, decide_eq_true, decide_eq_false, cond_true, cond_false, Int.ofNat_eq_natCast, wrap_j, ver0, eqI_dec, e1, e2, subI_eq, mulI_eq, run_reqT, eq_self, and_true, true_and]; rfl, ?_⟩
       simp only [touchR, tchR, bothR, h1, h2, and_self, and_false, false_and, and_true, if_true, if_false, h3, h4]; try rfl
     · by_cases h5 : q = -2
       · refine ⟨_, by simp (disch := omega) only [Tr.run_ite, Tr.run_req, Tr.run_ok, nS, eqI_dec, decide_eq_true, decide_eq_false, cond_true, cond_false, Int.ofNat_eq_natCast, wrap_j, ver0, eqI_dec, e1, e2, subI_eq, mulI_eq, run_reqT, eq_self, and_true, true_and]; rfl, ?_⟩
         simp only [touchR, tchR, bothR, h1, h2, and_self, and_false, false_and, and_true, if_true, if_false, h3, h4, h5, show ¬ (-2 : Int) = -1 by decide]; try rfl
       · exfalso; omega
 · by_cases h3 : so p = 0
   · refine ⟨_, by simp (disch := omega) only [Tr.run_ite, Tr.run_req, Tr.run_ok, nS, eqI_dec, decide_eq_true, decide_eq_false, cond_true, cond_false, Int.ofNat_eq_natCast, wrap_j, ver0, eqI_dec, e1, e2, subI_eq, mulI_eq, run_reqT, eq_self, and_true, true_and]; rfl, ?_⟩
     simp only [touchR, tchR, bothR, h1, h2, and_self, and_false, false_and, and_true, if_true, if_false, h3]; try rfl
   · have h4 : ¬ q = -1 := by omega
     have h5 : ¬ q = -2 := by omega
     by_cases h6 : so q = 0
     · refine ⟨_, by simp (disch := omega) only [Tr.run_ite, Tr.run_req, Tr.run_ok, nS, eqI_dec, decide_eq_true, decide_eq_false, cond_true, cond_false, Int.ofNat_eq_natCast, wrap_j, ver0, eqI_dec, e1, e2, subI_eq, mulI_eq, run_reqT, eq_self, and_true, true_and]; rfl, ?_⟩
       simp only [touchR, tchR, bothR, h1, h2, and_self, and_false, false_and, and_true, if_true, if_false, h3, h4, h5, h6]; try rfl
     · by_cases h7 : IntKind.i64.wrap (IntKind.i64.wrap (IntKind.i64.wrap (zs (p.toNat * 2) - zs (q.toNat * 2)) * IntKind.i64.wrap (zs (p.toNat * 2) - zs (q.toNat * 2))) + IntKind.i64.wrap (IntKind.i64.wrap (zs (p.toNat * 2 + 1) - zs (q.toNat * 2 + 1)) * IntKind.i64.wrap (zs (p.toNat * 2 + 1) - zs (q.toNat * 2 + 1)))) ≤ IntKind.i64.wrap (so p + so q)
       · refine ⟨_, by simp (disch := omega) only [Tr.run_ite, Tr.run_req, Tr.run_ok, nS, eqI_dec, decide_eq_true, decide_eq_false, cond_true, cond_false, Int.ofNat_eq_natCast, wrap_j, ver0, eqI_dec, e1, e2, subI_eq, mulI_eq, run_reqT, eq_self, and_true, true_and]; rfl, ?_⟩
         simp only [touchR, tchR, bothR, h1, h2, and_self, and_false, false_and, and_true, if_true, if_false, h3, h4, h5, h6, decide_eq_true h7, Bool.true_or]; try rfl
       · refine ⟨_, by simp (disch := omega) only [Tr.run_ite, Tr.run_req, Tr.run_ok, nS, eqI_dec, decide_eq_true, decide_eq_false, cond_true, cond_false, Int.ofNat_eq_natCast, wrap_j, ver0, eqI_dec, e1, e2, subI_eq, mulI_eq, run_reqT, eq_self, and_true, true_and]; rfl, ?_⟩
         simp only [touchR, tchR, bothR, h1, h2, and_self, and_false, false_and, and_true, if_true, if_false, h3, h4, h5, h6, decide_eq_false h7, Bool.false_or]; try rfl
end
end Go.Eng
end
section
namespace Go.Eng
open Go.Proofs
set_option linter.unusedVariables false
set_option linter.unusedSimpArgs false
set_option maxRecDepth 100000
def g87 (B : AV) (pl : Int → Bool) : List AV → Option (Prop × AV)
 | [b, .int .i64 p] => some (b = B, .bool (pl p))
 | _ => none
theorem u70 (n : Nat) (w : Int) (ls ld : Nat) (zs zd : Nat → Int) (H : Heap) (p q e : Int) (pl : Int → Bool) : bodyT Try.prog (cd (n+4)) 100000 70 Try.f70 (Kt.kt 70) (il (ctG (ctG noCt 20 (g20 (bathA w ls zs ld zd) e)) 87 (g87 (bathA w ls zs ld zd) pl)) (n+3) 1) noBT noRT [(bathA w ls zs ld zd, none), (.int .i64 p, none), (.int .i64 q, none)] H =
 Tr.reqP (bathA w ls zs ld zd = bathA w ls zs ld zd) (Tr.ite (notB (eqI e (Int.ofNat 0))) (Tr.reqP (bathA w ls zs ld zd = bathA w ls zs ld zd) (Tr.ok ((AV.int .i64 e, none), H))) (Tr.reqP (bathA w ls zs ld zd = bathA w ls zs ld zd) (Tr.ite (notB (pl p)) (Tr.ok ((AV.int .i64 (Int.ofNat 2), some 1), H)) (Tr.reqP (bathA w ls zs ld zd = bathA w ls zs ld zd) (Tr.ite (notB (pl q)) (Tr.ok ((AV.int .i64 (Int.ofNat 2), some 1), H)) (Tr.ite (eqI p q) (Tr.ok ((AV.int .i64 (Int.ofNat 2), some 1), H)) (Tr.ok ((AV.int .i64 (Int.ofNat 0), some 1), H)))))))) := by kernel_rfl
theorem u68 (n : Nat) (w : Int) (ls ld : Nat) (zs zd sz kd : Nat → Int) (H : Heap) (p q e : Int) (side : Prop) : bodyT Try.prog (cd (n+13)) 100000 68 Try.f68 (Kt.kt 68) (il (ctG (ctG noCt 19 (g20 (bathA w ls zs ld zd) e)) 77 (g77 (bathA w ls zs ld zd) side (tabV w ls ld zs zd sz kd))) (n+11) 2) noBT noRT [(bathA w ls zs ld zd, none), (.int .i64 p, none), (.int .i64 q, none)] H =
 (fun (Z0 : AV × Option Nat) => Tr.reqP (bathA w ls zs ld zd = bathA w ls zs ld zd) (Tr.ite (notB (eqI e (Int.ofNat 0))) (Tr.ite (notB (eqI e (Int.ofNat 0))) (Tr.ok ((AV.tup [AV.nilp, AV.int .i64 e], none), H)) (Tr.ite (leI (Int.negSucc 1) p) Tr.bad (Tr.ok (Z0, H)))) (Tr.reqP (bathA w ls zs ld zd = bathA w ls zs ld zd ∧ side) (Tr.ite (notB (eqI (Int.ofNat 0) (Int.ofNat 0))) (Tr.ok ((AV.tup [AV.nilp, AV.int .i64 (Int.ofNat 0)], none), H)) (Tr.ite (leI (Int.negSucc 1) p) (Tr.ite (notB (ltI p (Int.ofNat ls))) (Tr.ok (Z0, H)) (Tr.ite (leI (Int.negSucc 1) q) (Tr.ite (notB (ltI q (Int.ofNat ls))) (Tr.ok (Z0, H)) (Tr.ite (eqI p q) (Tr.ok (Z0, H)) (Tr.ok ((AV.tup [AV.ptrT (some 0) (Row.M [Seg.one (AV.int .i64 w), Seg.one (slA 2 ls zs), Seg.one (slA 3 ld zd), Seg.one (AV.slcT none (Row.M [Seg.arr .i64 sz (mulO ls 2)]) 2 ls true), Seg.arr .i64 kd 144]) 0, AV.int .i64 (Int.ofNat 0)], none), H)))) (Tr.ok (Z0, H)))) (Tr.ok (Z0, H))))))) (AV.tup [AV.nilp, AV.int .i64 (Int.ofNat 2)], none) := by kernel_rfl
def isPl (ls : Nat) (p : Int) : Bool := decide (-2 ≤ p) && decide (p < ls)
def plE (w : Int) (ls ld : Nat) (zs zd : Nat → Int) (p q : Int) : Int :=
 if chkB w ls ld zs zd ≠ 0 then chkB w ls ld zs zd else if isPl ls p = true ∧ isPl ls q = true ∧ p ≠ q then 0 else 2
def kndR (w : Int) (ld : Nat) (zs zd : Nat → Int) (p q : Int) : Int :=
 if touchT w zs (szE false zd ld) p q then 2 else if touchT w zs (szE true zd ld) p q then 1 else 0
section
variable (n : Nat) (w : Int) (ls ld : Nat) (zs zd : Nat → Int) (H : Heap) (p q : Int)
theorem il46 (h : Bool) (h2 : ld < 2 ^ 16) : (il (ctG noCt 45 (g45t (bathA w ls zs ld zd) (endV h zd ld) True (szE h zd ld))) (n+1) 1).Ok (cd (n + 2)) := by
 refine il_ok _ (n + 1) 1 (fun k => ctG_ok (noCt_ok _) (fun args p v hg hp H => ?_))
 unfold g45t at hg
 split at hg
 · simp only [Option.some.injEq, Prod.mk.injEq] at hg
   obtain ⟨rfl, rfl⟩ := hg
   obtain ⟨rfl, rfl, _⟩ := hp
   rw [show n + 1 + k = n + k + 1 by omega]
   exact c45e (n + k) w ls ld zs zd H _ h h2
 · cases hg
theorem c46 (h : Bool) (h2 : ld < 2 ^ 16) (hB : TouchB ls zs (szE h zd ld) p q) : cd (n + 3) (.fn 46) [bathA w ls zs ld zd, endV h zd ld, .int .i64 p, .int .i64 q] H = some (.bool (touchT w zs (szE h zd ld) p q), H) := by
 rw [← touch_eq w ls zs p q _ hB]
 have hi := il46 n w ls ld zs zd h h2
 cases ld with
 | zero =>
   obtain ⟨y, hy1, hy2⟩ := run46b n w ls 0 zs zd H p q (szE h zd 0) hB
   have := fn_ok (n := n + 2) Try.func46 rfl rfl (args := [(bathA w ls zs 0 zd, none), (.nils, none), (.int .i64 p, none), (.int .i64 q, none)]) rfl hi (noBT_ok _ _) (noRT_ok _ _) hy1
   rw [hy2] at this
   exact this
 | succ m =>
   obtain ⟨y, hy1, hy2⟩ := run46a n w ls (m + 1) zs zd H p q (szE h zd (m + 1)) (m + 1) (upto (endS h zd) (m + 1)) hB
   have := fn_ok (n := n + 2) Try.func46 rfl rfl (args := [(bathA w ls zs (m + 1) zd, none), (slA 1 (m + 1) (upto (endS h zd) (m + 1)), none), (.int .i64 p, none), (.int .i64 q, none)]) rfl hi (noBT_ok _ _) (noRT_ok _ _) hy1
   rw [hy2] at this
   exact this
def KndB (ls ld : Nat) (zs zd : Nat → Int) (p q : Int) : Prop := ld < 2 ^ 16 ∧ ∀ h, TouchB ls zs (szE h zd ld) p q
theorem il71 : (il (ctG (ctG noCt 61 (g61 (bathA w ls zs ld zd) (KndB ls ld zs zd p q) (fun h => endV h zd ld))) 46 (g46 (bathA w ls zs ld zd) p q (KndB ls ld zs zd p q) (fun h => endV h zd ld) (fun t => touchT w zs (smV zd ld t) p q))) (n+3) 1).Ok (cd (n + 4)) := by
 refine il_ok _ (n + 3) 1 (fun k => ctG_ok (ctG_ok (noCt_ok _) (fun args p v hg hp H => ?_)) (fun args p v hg hp H => ?_))
 · unfold g61 at hg
   split at hg
   · simp only [Option.some.injEq, Prod.mk.injEq] at hg
     obtain ⟨rfl, rfl⟩ := hg
     obtain ⟨rfl, h2, _⟩ := hp
     rw [show n + 3 + k = n + 2 + k + 1 by omega]
     exact c61 _ w ls ld zs zd H _ h2
   · cases hg
 · unfold g46 at hg
   split at hg
   · simp only [Option.some.injEq, Prod.mk.injEq] at hg
     obtain ⟨rfl, rfl⟩ := hg
     obtain ⟨rfl, rfl, rfl, ⟨h2, hB⟩, ht⟩ := hp
     have e : ∀ h, smV zd ld (endV h zd ld) = szE h zd ld := fun h => funext fun s => smV_end ld zd s h
     rw [show n + 3 + k = n + k + 3 by omega]
     rcases ht with rfl | rfl
     · rw [e]; exact c46 _ w ls ld zs zd H _ _ _ h2 (hB _)
     · rw [e]; exact c46 _ w ls ld zs zd H _ _ _ h2 (hB _)
   · cases hg
theorem c71 (hK : KndB ls ld zs zd p q) : cd (n + 5) (.fn 71) [bathA w ls zs ld zd, .int .i64 p, .int .i64 q] H = some (.int .i64 (kndR w ld zs zd p q), H) := by
 have e : ∀ h, smV zd ld (endV h zd ld) = szE h zd ld := fun h => funext fun s => smV_end ld zd s h
 refine fn_of (n := n + 4) Try.func71 rfl rfl rfl (u71 n w ls ld zs zd H p q (KndB ls ld zs zd p q) (fun h => endV h zd ld) (fun t => touchT w zs (smV zd ld t) p q)) (il71 n w ls ld zs zd p q) (noBT_ok _ _) (noRT_ok _ _) (y := ((.int .i64 (kndR w ld zs zd p q), some 1), H)) ?_
 rw [Tr.run_reqP ⟨rfl, hK⟩, Tr.run_reqP ⟨rfl, rfl, rfl, hK, .inl rfl⟩, Tr.run_ite, e]
 unfold kndR
 cases touchT w zs (szE false zd ld) p q
 · rw [cond_false, Tr.run_reqP ⟨rfl, hK⟩, Tr.run_reqP ⟨rfl, rfl, rfl, hK, .inr rfl⟩, Tr.run_ite, e]
   cases touchT w zs (szE true zd ld) p q <;> rfl
 · rfl
theorem c87 : cd (n + 3) (.fn 87) [bathA w ls zs ld zd, .int .i64 p] H = some (.bool (isPl ls p), H) := by
 obtain ⟨y, hy1, hy2⟩ : ∃ y, (bodyT Try.prog (cd (n+2)) 100000 87 Try.f87 (Kt.kt 87) (il noCt (n+1) 1) noBT noRT [(bathA w ls zs ld zd, none), (.int .i64 p, none)] H).run = some y ∧ (y.1.1, y.2) = (AV.bool (isPl ls p), H) := by
  rw [u87]
  have e1 : Int.negSucc 0 = -1 := rfl
  have e2 : Int.negSucc 1 = -2 := rfl
  unfold isPl
  by_cases h1 : p = -1
  · refine ⟨_, by simp (disch := omega) only [Tr.run_ite, Tr.run_req, Tr.run_ok, nS, eqI_dec, decide_eq_true, decide_eq_false, cond_true, cond_false, Int.ofNat_eq_natCast, wrap_j, ver0, eqI_dec, e1, e2]; rfl, ?_⟩
    rw [decide_eq_true (by omega), decide_eq_true (by omega)]; rfl
  · by_cases h2 : p = -2
    · refine ⟨_, by simp (disch := omega) only [Tr.run_ite, Tr.run_req, Tr.run_ok, nS, eqI_dec, decide_eq_true, decide_eq_false, cond_true, cond_false, Int.ofNat_eq_natCast, wrap_j, ver0, eqI_dec, e1, e2]; rfl, ?_⟩
      rw [decide_eq_true (by omega), decide_eq_true (by omega)]; rfl
    · by_cases h3 : 0 ≤ p
      · by_cases h4 : p < (ls : Int)
        · refine ⟨_, by simp (disch := omega) only [Tr.run_ite, Tr.run_req, Tr.run_ok, nS, eqI_dec, decide_eq_true, decide_eq_false, cond_true, cond_false, Int.ofNat_eq_natCast, wrap_j, ver0, eqI_dec, e1, e2]; rfl, ?_⟩
          rw [decide_eq_true (by omega), decide_eq_true (by omega)]; rfl
        · refine ⟨_, by simp (disch := omega) only [Tr.run_ite, Tr.run_req, Tr.run_ok, nS, eqI_dec, decide_eq_true, decide_eq_false, cond_true, cond_false, Int.ofNat_eq_natCast, wrap_j, ver0, eqI_dec, e1, e2]; rfl, ?_⟩
          rw [decide_eq_true (by omega), decide_eq_false (by omega)]; rfl
      · refine ⟨_, by simp (disch := omega) only [Tr.run_ite, Tr.run_req, Tr.run_ok, nS, eqI_dec, decide_eq_true, decide_eq_false, cond_true, cond_false, Int.ofNat_eq_natCast, wrap_j, ver0, eqI_dec, e1, e2]; rfl, ?_⟩
        rw [decide_eq_false (by omega)]; rfl
 have := fn_ok (n := n + 2) Try.func87 rfl rfl (args := [(bathA w ls zs ld zd, none), (.int .i64 p, none)]) rfl (il_no (n + 1) 1) (noBT_ok _ _) (noRT_ok _ _) hy1
 rw [hy2] at this
 exact this
end
end Go.Eng
end
