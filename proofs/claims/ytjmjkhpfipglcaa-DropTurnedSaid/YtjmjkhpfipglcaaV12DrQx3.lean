/- Drop: do two places touch, as it is defined. -/
import Derived.Test.YtjmjkhpfipglcaaV12DrMx2
section
namespace Go.Eng
open Go.Proofs
set_option linter.unusedVariables false
set_option linter.unusedSimpArgs false
set_option maxRecDepth 100000
def g45t (B T : AV) (side : Prop) (so : Int → Int) : List AV → Option (Prop × AV)
  | [b, t, .int .i64 k] => some (b = B ∧ t = T ∧ side, .int .i64 (so k))
  | _ => none
def g46 (B : AV) (P Q : Int) (side : Prop) (ev : Bool → AV) (tm : AV → Bool) : List AV → Option (Prop × AV)
  | [b, t, .int .i64 p, .int .i64 q] => some (b = B ∧ p = P ∧ q = Q ∧ side ∧ (t = ev false ∨ t = ev true), .bool (tm t))
  | _ => none
def g70 (B : AV) (P Q e : Int) : List AV → Option (Prop × AV)
  | [b, .int .i64 p, .int .i64 q] => some (b = B ∧ p = P ∧ q = Q, .int .i64 e)
  | _ => none
def g68 (B : AV) (P Q : Int) (t : AV) (e : Int) : List AV → Option (Prop × AV)
  | [b, .int .i64 p, .int .i64 q] => some (b = B ∧ p = P ∧ q = Q, .tup [t, .int .i64 e])
  | _ => none
theorem u46a (n : Nat) (w : Int) (ls ld lt : Nat) (zs zd tr : Nat → Int) (H : Heap) (p q : Int) (so : Int → Int) (side : Prop) : bodyT Try.prog (cd (n+2)) 100000 46 Try.f46 (Kt.kt 46) (il (ctG noCt 45 (g45t (bathA w ls zs ld zd) (slA 1 lt tr) side so)) (n+1) 1) noBT noRT [(bathA w ls zs ld zd, none), (slA 1 lt tr, none), (.int .i64 p, none), (.int .i64 q, none)] H =
  Tr.ite (ltI p (Int.ofNat 0)) (Tr.ite (ltI q (Int.ofNat 0)) (Tr.ok ((AV.bool false, some 1), H)) (Tr.ite (ltI p (Int.ofNat 0)) (Tr.reqP (bathA w ls zs ld zd = bathA w ls zs ld zd ∧ AV.slcT none (Row.M [Seg.arr .i64 tr lt]) 1 lt false = AV.slcT none (Row.M [Seg.arr .i64 tr lt]) 1 lt false ∧ side) (Tr.req (inI q ls) (Tr.req (ltN (idO 0 q 2) (mulO ls 2)) (Tr.req (ltN (addO (idO 0 q 2) 1) (mulO ls 2)) (Tr.req (andB (leN 0 0) (leN 0 1)) (Tr.ite (eqI (so q) (Int.ofNat 0)) (Tr.ok ((AV.bool false, some 1), H)) (Tr.ite (eqI p (Int.negSucc 0)) (Tr.ok ((AV.bool (leI (mulI .i64 (zs (idO 0 q 2)) (zs (idO 0 q 2))) (so q)), none), H)) (Tr.ite (eqI p (Int.negSucc 1)) (Tr.ok ((AV.bool (leI (mulI .i64 (subI .i64 w (zs (idO 0 q 2))) (subI .i64 w (zs (idO 0 q 2)))) (so q)), none), H)) (Tr.reqP (bathA w ls zs ld zd = bathA w ls zs ld zd ∧ AV.slcT none (Row.M [Seg.arr .i64 tr lt]) 1 lt false = AV.slcT none (Row.M [Seg.arr .i64 tr lt]) 1 lt false ∧ side) (Tr.req (inI p ls) (Tr.req (ltN (idO 0 p 2) (mulO ls 2)) (Tr.req (ltN (addO (idO 0 p 2) 1) (mulO ls 2)) (Tr.req (andB (leN 0 0) (leN 0 1)) (Tr.ite (eqI (so p) (Int.ofNat 0)) (Tr.ok ((AV.bool false, some 1), H)) (Tr.ite (leI (addI .i64 (mulI .i64 (subI .i64 (zs (idO 0 q 2)) (zs (idO 0 p 2))) (subI .i64 (zs (idO 0 q 2)) (zs (idO 0 p 2)))) (mulI .i64 (subI .i64 (zs (addO (idO 0 q 2) 1)) (zs (addO (idO 0 p 2) 1))) (subI .i64 (zs (addO (idO 0 q 2) 1)) (zs (addO (idO 0 p 2) 1))))) (addI .i64 (so q) (so p))) (Tr.ok ((AV.bool true, some 1), H)) (Tr.ok ((AV.bool (leI (mulI .i64 (subI .i64 (subI .i64 (addI .i64 (mulI .i64 (subI .i64 (zs (idO 0 q 2)) (zs (idO 0 p 2))) (subI .i64 (zs (idO 0 q 2)) (zs (idO 0 p 2)))) (mulI .i64 (subI .i64 (zs (addO (idO 0 q 2) 1)) (zs (addO (idO 0 p 2) 1))) (subI .i64 (zs (addO (idO 0 q 2) 1)) (zs (addO (idO 0 p 2) 1))))) (so q)) (so p)) (subI .i64 (subI .i64 (addI .i64 (mulI .i64 (subI .i64 (zs (idO 0 q 2)) (zs (idO 0 p 2))) (subI .i64 (zs (idO 0 q 2)) (zs (idO 0 p 2)))) (mulI .i64 (subI .i64 (zs (addO (idO 0 q 2) 1)) (zs (addO (idO 0 p 2) 1))) (subI .i64 (zs (addO (idO 0 q 2) 1)) (zs (addO (idO 0 p 2) 1))))) (so q)) (so p))) (mulI .i64 (mulI .i64 (Int.ofNat 4) (so q)) (so p))), none), H))))))))))))))))) (Tr.reqP (bathA w ls zs ld zd = bathA w ls zs ld zd ∧ AV.slcT none (Row.M [Seg.arr .i64 tr lt]) 1 lt false = AV.slcT none (Row.M [Seg.arr .i64 tr lt]) 1 lt false ∧ side) (Tr.req (inI p ls) (Tr.req (ltN (idO 0 p 2) (mulO ls 2)) (Tr.req (ltN (addO (idO 0 p 2) 1) (mulO ls 2)) (Tr.req (andB (leN 0 0) (leN 0 1)) (Tr.ite (eqI (so p) (Int.ofNat 0)) (Tr.ok ((AV.bool false, some 1), H)) (Tr.ite (eqI q (Int.negSucc 0)) (Tr.ok ((AV.bool (leI (mulI .i64 (zs (idO 0 p 2)) (zs (idO 0 p 2))) (so p)), none), H)) (Tr.ite (eqI q (Int.negSucc 1)) (Tr.ok ((AV.bool (leI (mulI .i64 (subI .i64 w (zs (idO 0 p 2))) (subI .i64 w (zs (idO 0 p 2)))) (so p)), none), H)) (Tr.reqP (bathA w ls zs ld zd = bathA w ls zs ld zd ∧ AV.slcT none (Row.M [Seg.arr .i64 tr lt]) 1 lt false = AV.slcT none (Row.M [Seg.arr .i64 tr lt]) 1 lt false ∧ side) (Tr.req (inI q ls) (Tr.req (ltN (idO 0 q 2) (mulO ls 2)) (Tr.req (ltN (addO (idO 0 q 2) 1) (mulO ls 2)) (Tr.req (andB (leN 0 0) (leN 0 1)) (Tr.ite (eqI (so q) (Int.ofNat 0)) (Tr.ok ((AV.bool false, some 1), H)) (Tr.ite (leI (addI .i64 (mulI .i64 (subI .i64 (zs (idO 0 p 2)) (zs (idO 0 q 2))) (subI .i64 (zs (idO 0 p 2)) (zs (idO 0 q 2)))) (mulI .i64 (subI .i64 (zs (addO (idO 0 p 2) 1)) (zs (addO (idO 0 q 2) 1))) (subI .i64 (zs (addO (idO 0 p 2) 1)) (zs (addO (idO 0 q 2) 1))))) (addI .i64 (so p) (so q))) (Tr.ok ((AV.bool true, some 1), H)) (Tr.ok ((AV.bool (leI (mulI .i64 (subI .i64 (subI .i64 (addI .i64 (mulI .i64 (subI .i64 (zs (idO 0 p 2)) (zs (idO 0 q 2))) (subI .i64 (zs (idO 0 p 2)) (zs (idO 0 q 2)))) (mulI .i64 (subI .i64 (zs (addO (idO 0 p 2) 1)) (zs (addO (idO 0 q 2) 1))) (subI .i64 (zs (addO (idO 0 p 2) 1)) (zs (addO (idO 0 q 2) 1))))) (so p)) (so q)) (subI .i64 (subI .i64 (addI .i64 (mulI .i64 (subI .i64 (zs (idO 0 p 2)) (zs (idO 0 q 2))) (subI .i64 (zs (idO 0 p 2)) (zs (idO 0 q 2)))) (mulI .i64 (subI .i64 (zs (addO (idO 0 p 2) 1)) (zs (addO (idO 0 q 2) 1))) (subI .i64 (zs (addO (idO 0 p 2) 1)) (zs (addO (idO 0 q 2) 1))))) (so p)) (so q))) (mulI .i64 (mulI .i64 (Int.ofNat 4) (so p)) (so q))), none), H))))))))))))))))))) (Tr.ite (ltI p (Int.ofNat 0)) (Tr.reqP (bathA w ls zs ld zd = bathA w ls zs ld zd ∧ AV.slcT none (Row.M [Seg.arr .i64 tr lt]) 1 lt false = AV.slcT none (Row.M [Seg.arr .i64 tr lt]) 1 lt false ∧ side) (Tr.req (inI q ls) (Tr.req (ltN (idO 0 q 2) (mulO ls 2)) (Tr.req (ltN (addO (idO 0 q 2) 1) (mulO ls 2)) (Tr.req (andB (leN 0 0) (leN 0 1)) (Tr.ite (eqI (so q) (Int.ofNat 0)) (Tr.ok ((AV.bool false, some 1), H)) (Tr.ite (eqI p (Int.negSucc 0)) (Tr.ok ((AV.bool (leI (mulI .i64 (zs (idO 0 q 2)) (zs (idO 0 q 2))) (so q)), none), H)) (Tr.ite (eqI p (Int.negSucc 1)) (Tr.ok ((AV.bool (leI (mulI .i64 (subI .i64 w (zs (idO 0 q 2))) (subI .i64 w (zs (idO 0 q 2)))) (so q)), none), H)) (Tr.reqP (bathA w ls zs ld zd = bathA w ls zs ld zd ∧ AV.slcT none (Row.M [Seg.arr .i64 tr lt]) 1 lt false = AV.slcT none (Row.M [Seg.arr .i64 tr lt]) 1 lt false ∧ side) (Tr.req (inI p ls) (Tr.req (ltN (idO 0 p 2) (mulO ls 2)) (Tr.req (ltN (addO (idO 0 p 2) 1) (mulO ls 2)) (Tr.req (andB (leN 0 0) (leN 0 1)) (Tr.ite (eqI (so p) (Int.ofNat 0)) (Tr.ok ((AV.bool false, some 1), H)) (Tr.ite (leI (addI .i64 (mulI .i64 (subI .i64 (zs (idO 0 q 2)) (zs (idO 0 p 2))) (subI .i64 (zs (idO 0 q 2)) (zs (idO 0 p 2)))) (mulI .i64 (subI .i64 (zs (addO (idO 0 q 2) 1)) (zs (addO (idO 0 p 2) 1))) (subI .i64 (zs (addO (idO 0 q 2) 1)) (zs (addO (idO 0 p 2) 1))))) (addI .i64 (so q) (so p))) (Tr.ok ((AV.bool true, some 1), H)) (Tr.ok ((AV.bool (leI (mulI .i64 (subI .i64 (subI .i64 (addI .i64 (mulI .i64 (subI .i64 (zs (idO 0 q 2)) (zs (idO 0 p 2))) (subI .i64 (zs (idO 0 q 2)) (zs (idO 0 p 2)))) (mulI .i64 (subI .i64 (zs (addO (idO 0 q 2) 1)) (zs (addO (idO 0 p 2) 1))) (subI .i64 (zs (addO (idO 0 q 2) 1)) (zs (addO (idO 0 p 2) 1))))) (so q)) (so p)) (subI .i64 (subI .i64 (addI .i64 (mulI .i64 (subI .i64 (zs (idO 0 q 2)) (zs (idO 0 p 2))) (subI .i64 (zs (idO 0 q 2)) (zs (idO 0 p 2)))) (mulI .i64 (subI .i64 (zs (addO (idO 0 q 2) 1)) (zs (addO (idO 0 p 2) 1))) (subI .i64 (zs (addO (idO 0 q 2) 1)) (zs (addO (idO 0 p 2) 1))))) (so q)) (so p))) (mulI .i64 (mulI .i64 (Int.ofNat 4) (so q)) (so p))), none), H))))))))))))))))) (Tr.reqP (bathA w ls zs ld zd = bathA w ls zs ld zd ∧ AV.slcT none (Row.M [Seg.arr .i64 tr lt]) 1 lt false = AV.slcT none (Row.M [Seg.arr .i64 tr lt]) 1 lt false ∧ side) (Tr.req (inI p ls) (Tr.req (ltN (idO 0 p 2) (mulO ls 2)) (Tr.req (ltN (addO (idO 0 p 2) 1) (mulO ls 2)) (Tr.req (andB (leN 0 0) (leN 0 1)) (Tr.ite (eqI (so p) (Int.ofNat 0)) (Tr.ok ((AV.bool false, some 1), H)) (Tr.ite (eqI q (Int.negSucc 0)) (Tr.ok ((AV.bool (leI (mulI .i64 (zs (idO 0 p 2)) (zs (idO 0 p 2))) (so p)), none), H)) (Tr.ite (eqI q (Int.negSucc 1)) (Tr.ok ((AV.bool (leI (mulI .i64 (subI .i64 w (zs (idO 0 p 2))) (subI .i64 w (zs (idO 0 p 2)))) (so p)), none), H)) (Tr.reqP (bathA w ls zs ld zd = bathA w ls zs ld zd ∧ AV.slcT none (Row.M [Seg.arr .i64 tr lt]) 1 lt false = AV.slcT none (Row.M [Seg.arr .i64 tr lt]) 1 lt false ∧ side) (Tr.req (inI q ls) (Tr.req (ltN (idO 0 q 2) (mulO ls 2)) (Tr.req (ltN (addO (idO 0 q 2) 1) (mulO ls 2)) (Tr.req (andB (leN 0 0) (leN 0 1)) (Tr.ite (eqI (so q) (Int.ofNat 0)) (Tr.ok ((AV.bool false, some 1), H)) (Tr.ite (leI (addI .i64 (mulI .i64 (subI .i64 (zs (idO 0 p 2)) (zs (idO 0 q 2))) (subI .i64 (zs (idO 0 p 2)) (zs (idO 0 q 2)))) (mulI .i64 (subI .i64 (zs (addO (idO 0 p 2) 1)) (zs (addO (idO 0 q 2) 1))) (subI .i64 (zs (addO (idO 0 p 2) 1)) (zs (addO (idO 0 q 2) 1))))) (addI .i64 (so p) (so q))) (Tr.ok ((AV.bool true, some 1), H)) (Tr.ok ((AV.bool (leI (mulI .i64 (subI .i64 (subI .i64 (addI .i64 (mulI .i64 (subI .i64 (zs (idO 0 p 2)) (zs (idO 0 q 2))) (subI .i64 (zs (idO 0 p 2)) (zs (idO 0 q 2)))) (mulI .i64 (subI .i64 (zs (addO (idO 0 p 2) 1)) (zs (addO (idO 0 q 2) 1))) (subI .i64 (zs (addO (idO 0 p 2) 1)) (zs (addO (idO 0 q 2) 1))))) (so p)) (so q)) (subI .i64 (subI .i64 (addI .i64 (mulI .i64 (subI .i64 (zs (idO 0 p 2)) (zs (idO 0 q 2))) (subI .i64 (zs (idO 0 p 2)) (zs (idO 0 q 2)))) (mulI .i64 (subI .i64 (zs (addO (idO 0 p 2) 1)) (zs (addO (idO 0 q 2) 1))) (subI .i64 (zs (addO (idO 0 p 2) 1)) (zs (addO (idO 0 q 2) 1))))) (so p)) (so q))) (mulI .i64 (mulI .i64 (Int.ofNat 4) (so p)) (so q))), none), H)))))))))))))))))) := by kernel_rfl
theorem u46b (n : Nat) (w : Int) (ls ld : Nat) (zs zd : Nat → Int) (H : Heap) (p q : Int) (so : Int → Int) (side : Prop) : bodyT Try.prog (cd (n+2)) 100000 46 Try.f46 (Kt.kt 46) (il (ctG noCt 45 (g45t (bathA w ls zs ld zd) .nils side so)) (n+1) 1) noBT noRT [(bathA w ls zs ld zd, none), (.nils, none), (.int .i64 p, none), (.int .i64 q, none)] H =
  Tr.ite (ltI p (Int.ofNat 0)) (Tr.ite (ltI q (Int.ofNat 0)) (Tr.ok ((AV.bool false, some 1), H)) (Tr.ite (ltI p (Int.ofNat 0)) (Tr.reqP (bathA w ls zs ld zd = bathA w ls zs ld zd ∧ AV.nils = AV.nils ∧ side) (Tr.req (inI q ls) (Tr.req (ltN (idO 0 q 2) (mulO ls 2)) (Tr.req (ltN (addO (idO 0 q 2) 1) (mulO ls 2)) (Tr.req (andB (leN 0 0) (leN 0 1)) (Tr.ite (eqI (so q) (Int.ofNat 0)) (Tr.ok ((AV.bool false, some 1), H)) (Tr.ite (eqI p (Int.negSucc 0)) (Tr.ok ((AV.bool (leI (mulI .i64 (zs (idO 0 q 2)) (zs (idO 0 q 2))) (so q)), none), H)) (Tr.ite (eqI p (Int.negSucc 1)) (Tr.ok ((AV.bool (leI (mulI .i64 (subI .i64 w (zs (idO 0 q 2))) (subI .i64 w (zs (idO 0 q 2)))) (so q)), none), H)) (Tr.reqP (bathA w ls zs ld zd = bathA w ls zs ld zd ∧ AV.nils = AV.nils ∧ side) (Tr.req (inI p ls) (Tr.req (ltN (idO 0 p 2) (mulO ls 2)) (Tr.req (ltN (addO (idO 0 p 2) 1) (mulO ls 2)) (Tr.req (andB (leN 0 0) (leN 0 1)) (Tr.ite (eqI (so p) (Int.ofNat 0)) (Tr.ok ((AV.bool false, some 1), H)) (Tr.ite (leI (addI .i64 (mulI .i64 (subI .i64 (zs (idO 0 q 2)) (zs (idO 0 p 2))) (subI .i64 (zs (idO 0 q 2)) (zs (idO 0 p 2)))) (mulI .i64 (subI .i64 (zs (addO (idO 0 q 2) 1)) (zs (addO (idO 0 p 2) 1))) (subI .i64 (zs (addO (idO 0 q 2) 1)) (zs (addO (idO 0 p 2) 1))))) (addI .i64 (so q) (so p))) (Tr.ok ((AV.bool true, some 1), H)) (Tr.ok ((AV.bool (leI (mulI .i64 (subI .i64 (subI .i64 (addI .i64 (mulI .i64 (subI .i64 (zs (idO 0 q 2)) (zs (idO 0 p 2))) (subI .i64 (zs (idO 0 q 2)) (zs (idO 0 p 2)))) (mulI .i64 (subI .i64 (zs (addO (idO 0 q 2) 1)) (zs (addO (idO 0 p 2) 1))) (subI .i64 (zs (addO (idO 0 q 2) 1)) (zs (addO (idO 0 p 2) 1))))) (so q)) (so p)) (subI .i64 (subI .i64 (addI .i64 (mulI .i64 (subI .i64 (zs (idO 0 q 2)) (zs (idO 0 p 2))) (subI .i64 (zs (idO 0 q 2)) (zs (idO 0 p 2)))) (mulI .i64 (subI .i64 (zs (addO (idO 0 q 2) 1)) (zs (addO (idO 0 p 2) 1))) (subI .i64 (zs (addO (idO 0 q 2) 1)) (zs (addO (idO 0 p 2) 1))))) (so q)) (so p))) (mulI .i64 (mulI .i64 (Int.ofNat 4) (so q)) (so p))), none), H))))))))))))))))) (Tr.reqP (bathA w ls zs ld zd = bathA w ls zs ld zd ∧ AV.nils = AV.nils ∧ side) (Tr.req (inI p ls) (Tr.req (ltN (idO 0 p 2) (mulO ls 2)) (Tr.req (ltN (addO (idO 0 p 2) 1) (mulO ls 2)) (Tr.req (andB (leN 0 0) (leN 0 1)) (Tr.ite (eqI (so p) (Int.ofNat 0)) (Tr.ok ((AV.bool false, some 1), H)) (Tr.ite (eqI q (Int.negSucc 0)) (Tr.ok ((AV.bool (leI (mulI .i64 (zs (idO 0 p 2)) (zs (idO 0 p 2))) (so p)), none), H)) (Tr.ite (eqI q (Int.negSucc 1)) (Tr.ok ((AV.bool (leI (mulI .i64 (subI .i64 w (zs (idO 0 p 2))) (subI .i64 w (zs (idO 0 p 2)))) (so p)), none), H)) (Tr.reqP (bathA w ls zs ld zd = bathA w ls zs ld zd ∧ AV.nils = AV.nils ∧ side) (Tr.req (inI q ls) (Tr.req (ltN (idO 0 q 2) (mulO ls 2)) (Tr.req (ltN (addO (idO 0 q 2) 1) (mulO ls 2)) (Tr.req (andB (leN 0 0) (leN 0 1)) (Tr.ite (eqI (so q) (Int.ofNat 0)) (Tr.ok ((AV.bool false, some 1), H)) (Tr.ite (leI (addI .i64 (mulI .i64 (subI .i64 (zs (idO 0 p 2)) (zs (idO 0 q 2))) (subI .i64 (zs (idO 0 p 2)) (zs (idO 0 q 2)))) (mulI .i64 (subI .i64 (zs (addO (idO 0 p 2) 1)) (zs (addO (idO 0 q 2) 1))) (subI .i64 (zs (addO (idO 0 p 2) 1)) (zs (addO (idO 0 q 2) 1))))) (addI .i64 (so p) (so q))) (Tr.ok ((AV.bool true, some 1), H)) (Tr.ok ((AV.bool (leI (mulI .i64 (subI .i64 (subI .i64 (addI .i64 (mulI .i64 (subI .i64 (zs (idO 0 p 2)) (zs (idO 0 q 2))) (subI .i64 (zs (idO 0 p 2)) (zs (idO 0 q 2)))) (mulI .i64 (subI .i64 (zs (addO (idO 0 p 2) 1)) (zs (addO (idO 0 q 2) 1))) (subI .i64 (zs (addO (idO 0 p 2) 1)) (zs (addO (idO 0 q 2) 1))))) (so p)) (so q)) (subI .i64 (subI .i64 (addI .i64 (mulI .i64 (subI .i64 (zs (idO 0 p 2)) (zs (idO 0 q 2))) (subI .i64 (zs (idO 0 p 2)) (zs (idO 0 q 2)))) (mulI .i64 (subI .i64 (zs (addO (idO 0 p 2) 1)) (zs (addO (idO 0 q 2) 1))) (subI .i64 (zs (addO (idO 0 p 2) 1)) (zs (addO (idO 0 q 2) 1))))) (so p)) (so q))) (mulI .i64 (mulI .i64 (Int.ofNat 4) (so p)) (so q))), none), H))))))))))))))))))) (Tr.ite (ltI p (Int.ofNat 0)) (Tr.reqP (bathA w ls zs ld zd = bathA w ls zs ld zd ∧ AV.nils = AV.nils ∧ side) (Tr.req (inI q ls) (Tr.req (ltN (idO 0 q 2) (mulO ls 2)) (Tr.req (ltN (addO (idO 0 q 2) 1) (mulO ls 2)) (Tr.req (andB (leN 0 0) (leN 0 1)) (Tr.ite (eqI (so q) (Int.ofNat 0)) (Tr.ok ((AV.bool false, some 1), H)) (Tr.ite (eqI p (Int.negSucc 0)) (Tr.ok ((AV.bool (leI (mulI .i64 (zs (idO 0 q 2)) (zs (idO 0 q 2))) (so q)), none), H)) (Tr.ite (eqI p (Int.negSucc 1)) (Tr.ok ((AV.bool (leI (mulI .i64 (subI .i64 w (zs (idO 0 q 2))) (subI .i64 w (zs (idO 0 q 2)))) (so q)), none), H)) (Tr.reqP (bathA w ls zs ld zd = bathA w ls zs ld zd ∧ AV.nils = AV.nils ∧ side) (Tr.req (inI p ls) (Tr.req (ltN (idO 0 p 2) (mulO ls 2)) (Tr.req (ltN (addO (idO 0 p 2) 1) (mulO ls 2)) (Tr.req (andB (leN 0 0) (leN 0 1)) (Tr.ite (eqI (so p) (Int.ofNat 0)) (Tr.ok ((AV.bool false, some 1), H)) (Tr.ite (leI (addI .i64 (mulI .i64 (subI .i64 (zs (idO 0 q 2)) (zs (idO 0 p 2))) (subI .i64 (zs (idO 0 q 2)) (zs (idO 0 p 2)))) (mulI .i64 (subI .i64 (zs (addO (idO 0 q 2) 1)) (zs (addO (idO 0 p 2) 1))) (subI .i64 (zs (addO (idO 0 q 2) 1)) (zs (addO (idO 0 p 2) 1))))) (addI .i64 (so q) (so p))) (Tr.ok ((AV.bool true, some 1), H)) (Tr.ok ((AV.bool (leI (mulI .i64 (subI .i64 (subI .i64 (addI .i64 (mulI .i64 (subI .i64 (zs (idO 0 q 2)) (zs (idO 0 p 2))) (subI .i64 (zs (idO 0 q 2)) (zs (idO 0 p 2)))) (mulI .i64 (subI .i64 (zs (addO (idO 0 q 2) 1)) (zs (addO (idO 0 p 2) 1))) (subI .i64 (zs (addO (idO 0 q 2) 1)) (zs (addO (idO 0 p 2) 1))))) (so q)) (so p)) (subI .i64 (subI .i64 (addI .i64 (mulI .i64 (subI .i64 (zs (idO 0 q 2)) (zs (idO 0 p 2))) (subI .i64 (zs (idO 0 q 2)) (zs (idO 0 p 2)))) (mulI .i64 (subI .i64 (zs (addO (idO 0 q 2) 1)) (zs (addO (idO 0 p 2) 1))) (subI .i64 (zs (addO (idO 0 q 2) 1)) (zs (addO (idO 0 p 2) 1))))) (so q)) (so p))) (mulI .i64 (mulI .i64 (Int.ofNat 4) (so q)) (so p))), none), H))))))))))))))))) (Tr.reqP (bathA w ls zs ld zd = bathA w ls zs ld zd ∧ AV.nils = AV.nils ∧ side) (Tr.req (inI p ls) (Tr.req (ltN (idO 0 p 2) (mulO ls 2)) (Tr.req (ltN (addO (idO 0 p 2) 1) (mulO ls 2)) (Tr.req (andB (leN 0 0) (leN 0 1)) (Tr.ite (eqI (so p) (Int.ofNat 0)) (Tr.ok ((AV.bool false, some 1), H)) (Tr.ite (eqI q (Int.negSucc 0)) (Tr.ok ((AV.bool (leI (mulI .i64 (zs (idO 0 p 2)) (zs (idO 0 p 2))) (so p)), none), H)) (Tr.ite (eqI q (Int.negSucc 1)) (Tr.ok ((AV.bool (leI (mulI .i64 (subI .i64 w (zs (idO 0 p 2))) (subI .i64 w (zs (idO 0 p 2)))) (so p)), none), H)) (Tr.reqP (bathA w ls zs ld zd = bathA w ls zs ld zd ∧ AV.nils = AV.nils ∧ side) (Tr.req (inI q ls) (Tr.req (ltN (idO 0 q 2) (mulO ls 2)) (Tr.req (ltN (addO (idO 0 q 2) 1) (mulO ls 2)) (Tr.req (andB (leN 0 0) (leN 0 1)) (Tr.ite (eqI (so q) (Int.ofNat 0)) (Tr.ok ((AV.bool false, some 1), H)) (Tr.ite (leI (addI .i64 (mulI .i64 (subI .i64 (zs (idO 0 p 2)) (zs (idO 0 q 2))) (subI .i64 (zs (idO 0 p 2)) (zs (idO 0 q 2)))) (mulI .i64 (subI .i64 (zs (addO (idO 0 p 2) 1)) (zs (addO (idO 0 q 2) 1))) (subI .i64 (zs (addO (idO 0 p 2) 1)) (zs (addO (idO 0 q 2) 1))))) (addI .i64 (so p) (so q))) (Tr.ok ((AV.bool true, some 1), H)) (Tr.ok ((AV.bool (leI (mulI .i64 (subI .i64 (subI .i64 (addI .i64 (mulI .i64 (subI .i64 (zs (idO 0 p 2)) (zs (idO 0 q 2))) (subI .i64 (zs (idO 0 p 2)) (zs (idO 0 q 2)))) (mulI .i64 (subI .i64 (zs (addO (idO 0 p 2) 1)) (zs (addO (idO 0 q 2) 1))) (subI .i64 (zs (addO (idO 0 p 2) 1)) (zs (addO (idO 0 q 2) 1))))) (so p)) (so q)) (subI .i64 (subI .i64 (addI .i64 (mulI .i64 (subI .i64 (zs (idO 0 p 2)) (zs (idO 0 q 2))) (subI .i64 (zs (idO 0 p 2)) (zs (idO 0 q 2)))) (mulI .i64 (subI .i64 (zs (addO (idO 0 p 2) 1)) (zs (addO (idO 0 q 2) 1))) (subI .i64 (zs (addO (idO 0 p 2) 1)) (zs (addO (idO 0 q 2) 1))))) (so p)) (so q))) (mulI .i64 (mulI .i64 (Int.ofNat 4) (so p)) (so q))), none), H)))))))))))))))))) := by kernel_rfl
theorem u87 (n : Nat) (w : Int) (ls ld : Nat) (zs zd : Nat → Int) (H : Heap) (p : Int) : bodyT Try.prog (cd (n+2)) 100000 87 Try.f87 (Kt.kt 87) (il noCt (n+1) 1) noBT noRT [(bathA w ls zs ld zd, none), (.int .i64 p, none)] H =
  Tr.ite (eqI p (Int.negSucc 0)) (Tr.ok ((AV.bool true, some 1), H)) (Tr.ite (eqI p (Int.negSucc 1)) (Tr.ok ((AV.bool true, some 1), H)) (Tr.ite (leI (Int.ofNat 0) p) (Tr.ok ((AV.bool (ltI p (Int.ofNat ls)), none), H)) (Tr.ok ((AV.bool false, some 1), H)))) := by kernel_rfl
theorem u71 (n : Nat) (w : Int) (ls ld : Nat) (zs zd : Nat → Int) (H : Heap) (p q : Int) (side : Prop) (ev : Bool → AV) (tm : AV → Bool) : bodyT Try.prog (cd (n+4)) 100000 71 Try.f71 (Kt.kt 71) (il (ctG (ctG noCt 61 (g61 (bathA w ls zs ld zd) side ev)) 46 (g46 (bathA w ls zs ld zd) p q side ev tm)) (n+3) 1) noBT noRT [(bathA w ls zs ld zd, none), (.int .i64 p, none), (.int .i64 q, none)] H =
  Tr.reqP (bathA w ls zs ld zd = bathA w ls zs ld zd ∧ side) (Tr.reqP (bathA w ls zs ld zd = bathA w ls zs ld zd ∧ p = p ∧ q = q ∧ side ∧ (ev false = ev false ∨ ev false = ev true)) (Tr.ite (tm (ev false)) (Tr.ok ((AV.int .i64 (Int.ofNat 2), some 1), H)) (Tr.reqP (bathA w ls zs ld zd = bathA w ls zs ld zd ∧ side) (Tr.reqP (bathA w ls zs ld zd = bathA w ls zs ld zd ∧ p = p ∧ q = q ∧ side ∧ (ev true = ev false ∨ ev true = ev true)) (Tr.ite (tm (ev true)) (Tr.ok ((AV.int .i64 (Int.ofNat 1), some 1), H)) (Tr.ok ((AV.int .i64 (Int.ofNat 0), some 1), H))))))) := by kernel_rfl
theorem u22 (n : Nat) (w : Int) (ls ld : Nat) (zs zd : Nat → Int) (H : Heap) (p q e k : Int) : bodyT Try.prog (cd (n+6)) 100000 22 Try.f22 (Kt.kt 22) (il (ctG (ctG noCt 70 (g70 (bathA w ls zs ld zd) p q e)) 71 (g70 (bathA w ls zs ld zd) p q k)) (n+5) 1) noBT noRT [(bathA w ls zs ld zd, none), (.int .i64 p, none), (.int .i64 q, none)] H =
  Tr.reqP (bathA w ls zs ld zd = bathA w ls zs ld zd ∧ p = p ∧ q = q) (Tr.ite (notB (eqI e (Int.ofNat 0))) (Tr.reqP (bathA w ls zs ld zd = bathA w ls zs ld zd ∧ p = p ∧ q = q) (Tr.ok ((AV.tup [AV.int .i64 (Int.ofNat 0), AV.int .i64 e], none), H))) (Tr.reqP (bathA w ls zs ld zd = bathA w ls zs ld zd ∧ p = p ∧ q = q) (Tr.ok ((AV.tup [AV.int .i64 k, AV.int .i64 (Int.ofNat 0)], none), H)))) := by kernel_rfl
theorem u21a (n : Nat) (w : Int) (ls ld : Nat) (zs zd : Nat → Int) (H : Heap) (p q e : Int) : bodyT Try.prog (cd (n+15)) 100000 21 Try.f21 (Kt.kt 21) (il (ctG noCt 68 (g68 (bathA w ls zs ld zd) p q .nilp e)) (n+14) 1) noBT noRT [(bathA w ls zs ld zd, none), (.int .i64 p, none), (.int .i64 q, none)] H =
  Tr.reqP (bathA w ls zs ld zd = bathA w ls zs ld zd ∧ p = p ∧ q = q) (Tr.ite (notB (eqI e (Int.ofNat 0))) (Tr.ok ((AV.tup [AV.int .i64 (Int.ofNat 0), AV.int .i64 e], none), H)) Tr.bad) := by kernel_rfl
theorem u21b (n : Nat) (w : Int) (ls ld : Nat) (zs zd sz kd : Nat → Int) (H : Heap) (p q : Int) : bodyT Try.prog (cd (n+15)) 100000 21 Try.f21 (Kt.kt 21) (il (ctG noCt 68 (g68 (bathA w ls zs ld zd) p q (tabV w ls ld zs zd sz kd) 0)) (n+14) 1) noBT noRT [(bathA w ls zs ld zd, none), (.int .i64 p, none), (.int .i64 q, none)] H =
  Tr.reqP (bathA w ls zs ld zd = bathA w ls zs ld zd ∧ p = p ∧ q = q) (Tr.ite (notB (eqI (Int.ofNat 0) (Int.ofNat 0))) (Tr.ok ((AV.tup [AV.int .i64 (Int.ofNat 0), AV.int .i64 (Int.ofNat 0)], none), H)) (Tr.req (inI (addI .i64 p (Int.ofNat 2)) 12) (Tr.req (inI (addI .i64 q (Int.ofNat 2)) 12) (Tr.req (inO (idO (idO 4 (addI .i64 p (Int.ofNat 2)) 12) (addI .i64 q (Int.ofNat 2)) 1) 1 4 144) (Tr.ok ((AV.tup [AV.int .i64 (kd (subO (idO (idO 4 (addI .i64 p (Int.ofNat 2)) 12) (addI .i64 q (Int.ofNat 2)) 1) 4)), AV.int .i64 (Int.ofNat 0)], none), H)))))) := by kernel_rfl
end Go.Eng
end
section
namespace Go.Eng
open Go.Proofs
set_option linter.unusedVariables false
set_option linter.unusedSimpArgs false
set_option maxRecDepth 100000
theorem sq_le {k M : Int} (h1 : -M ≤ k) (h2 : k ≤ M) : 0 ≤ k * k ∧ k * k ≤ M * M := by
  by_cases h : 0 ≤ k
  · exact ⟨Int.mul_nonneg h h, Int.mul_le_mul h2 h2 h (by omega)⟩
  · have e : k * k = (-k) * (-k) := (Int.neg_mul_neg k k).symm
    rw [e]
    exact ⟨Int.mul_nonneg (by omega) (by omega), Int.mul_le_mul (by omega) (by omega) (by omega) (by omega)⟩
/-- A spot is where spots may be. -/
def spotB (zs : Nat → Int) (j : Nat) : Prop := 1 ≤ zs (j * 2) ∧ zs (j * 2) ≤ 1000 ∧ 0 ≤ zs (j * 2 + 1) ∧ zs (j * 2 + 1) ≤ 1000
/-- Do two spots touch, as it is defined? -/
def bothR (a c x y x' y' : Int) : Bool :=
  let wr := IntKind.i64.wrap
  let d := wr (wr (wr (x - x') * wr (x - x')) + wr (wr (y - y') * wr (y - y')))
  decide (d ≤ wr (a + c)) || decide (wr (wr (wr (d - a) - c) * wr (wr (d - a) - c)) ≤ wr (wr (4 * a) * c))
theorem wr_in {k : Int} (h1 : -9223372036854775808 ≤ k) (h2 : k ≤ 9223372036854775807) : IntKind.i64.wrap k = k := Go.IntWalk.i64_in _ (by omega)
theorem both_eq {a c x y x' y' : Int} (ha : 0 ≤ a ∧ a ≤ 1000000) (hc : 0 ≤ c ∧ c ≤ 1000000) (hx : 0 ≤ x ∧ x ≤ 1000) (hy : 0 ≤ y ∧ y ≤ 1000) (hx' : 0 ≤ x' ∧ x' ≤ 1000) (hy' : 0 ≤ y' ∧ y' ≤ 1000) :
    bothT a c x y x' y' = if c = 0 then false else bothR a c x y x' y' := by
  have s1 := sq_le (k := x - x') (M := 1000) (by omega) (by omega)
  have s2 := sq_le (k := y - y') (M := 1000) (by omega) (by omega)
  have e1 : IntKind.i64.wrap (x - x') = x - x' := wr_in (by omega) (by omega)
  have e2 : IntKind.i64.wrap (y - y') = y - y' := wr_in (by omega) (by omega)
  unfold bothT bothR
  simp only [e1, e2]
  generalize (x - x') * (x - x') = X at s1 ⊢
  generalize (y - y') * (y - y') = Y at s2 ⊢
  rw [wr_in (k := X) (by omega) (by omega), wr_in (k := Y) (by omega) (by omega), wr_in (k := X + Y) (by omega) (by omega), wr_in (k := X + Y - a) (by omega) (by omega), wr_in (k := X + Y - a - c) (by omega) (by omega), wr_in (k := a + c) (by omega) (by omega)]
  by_cases h0 : c = 0
  · rw [if_pos h0, decide_eq_false (by omega : ¬ 0 < c)]; rfl
  · rw [if_neg h0, decide_eq_true (by omega : 0 < c), Bool.true_and]
    congr 1
    by_cases h : X + Y ≤ a + c
    · rw [decide_eq_true h, decide_eq_true (by omega)]
    · rw [decide_eq_false h, decide_eq_false (by omega)]
section
variable (n : Nat) (w : Int) (ls ld : Nat) (zs zd : Nat → Int) (H : Heap) (p q : Int) (so : Int → Int)
/-- What makes the answer of Touches right. -/
structure TouchB (ls : Nat) (zs : Nat → Int) (so : Int → Int) (p q : Int) : Prop where
  hp : -2 ≤ p ∧ p < ls
  hq : -2 ≤ q ∧ q < ls
  spot : ∀ j, j < ls → spotB zs j
  size : ∀ s, 0 ≤ so s ∧ so s ≤ 1000000
theorem TouchB.get {ls : Nat} {zs : Nat → Int} {so : Int → Int} {p q : Int} (h : TouchB ls zs so p q) (s : Int) (h0 : 0 ≤ s) (h1 : s < ls) : spotB zs s.toNat := h.spot _ (by omega)
def tchR (w : Int) (zs : Nat → Int) (so : Int → Int) (s o : Int) : Bool :=
  if so s = 0 then false
  else if o = -1 then decide (IntKind.i64.wrap (zs (s.toNat * 2) * zs (s.toNat * 2)) ≤ so s)
  else if o = -2 then decide (IntKind.i64.wrap (IntKind.i64.wrap (w - zs (s.toNat * 2)) * IntKind.i64.wrap (w - zs (s.toNat * 2))) ≤ so s)
  else if so o = 0 then false
  else bothR (so s) (so o) (zs (s.toNat * 2)) (zs (s.toNat * 2 + 1)) (zs (o.toNat * 2)) (zs (o.toNat * 2 + 1))
def touchR (w : Int) (zs : Nat → Int) (so : Int → Int) (p q : Int) : Bool :=
  if p < 0 ∧ q < 0 then false else if p < 0 then tchR w zs so q p else tchR w zs so p q
theorem touch_eq (h : TouchB ls zs so p q) : touchR w zs so p q = touchT w zs so p q := by
  obtain ⟨hp, hq, hsp, hsz⟩ := h
  have key : ∀ s o : Int, 0 ≤ s → s < ls → -2 ≤ o → o < ls → tchR w zs so s o = (if so s = 0 then false
    else if o = -2 then decide (IntKind.i64.wrap (IntKind.i64.wrap (w - zs (s.toNat * 2)) * IntKind.i64.wrap (w - zs (s.toNat * 2))) ≤ so s)
    else if 0 ≤ o then bothT (so s) (so o) (zs (s.toNat * 2)) (zs (s.toNat * 2 + 1)) (zs (o.toNat * 2)) (zs (o.toNat * 2 + 1))
    else decide (IntKind.i64.wrap (zs (s.toNat * 2) * zs (s.toNat * 2)) ≤ so s)) := by
    intro s o h0 h1 h2 h3
    unfold tchR
    by_cases e0 : so s = 0
    · rw [if_pos e0, if_pos e0]
    · rw [if_neg e0, if_neg e0]
      by_cases e1 : o = -1
      · rw [if_pos e1, if_neg (show ¬ o = -2 by omega), if_neg (show ¬ 0 ≤ o by omega)]
      · rw [if_neg e1]
        by_cases e2 : o = -2
        · rw [if_pos e2, if_pos e2]
        · rw [if_neg e2, if_neg e2, if_pos (show 0 ≤ o by omega)]
          obtain ⟨a1, a2, a3, a4⟩ := hsp s.toNat (by omega)
          obtain ⟨b1, b2, b3, b4⟩ := hsp o.toNat (by omega)
          exact (both_eq (hsz s) (hsz o) ⟨by omega, a2⟩ ⟨a3, a4⟩ ⟨by omega, b2⟩ ⟨b3, b4⟩).symm
  unfold touchR touchT
  by_cases h1 : p < 0 <;> by_cases h2 : q < 0
  · simp only [h1, h2, and_self, if_true]
  · simp only [h1, h2, and_false, if_false, if_true]
    exact key q p (by omega) hq.2 hp.1 hp.2
  · simp only [h1, h2, false_and, if_false]
    exact key p q (by omega) hp.2 hq.1 hq.2
  · simp only [h1, h2, false_and, if_false]
    exact key p q (by omega) hp.2 hq.1 hq.2
end
end Go.Eng
end
section
namespace Go.Eng
open Go.Proofs
set_option linter.unusedVariables false
set_option linter.unusedSimpArgs false
set_option maxRecDepth 100000
section
variable (n : Nat) (w : Int) (ls ld : Nat) (zs zd : Nat → Int) (H : Heap) (p q : Int) (so : Int → Int)
theorem run46a (lt : Nat) (tr : Nat → Int) (h : TouchB ls zs so p q) : ∃ y, (bodyT Try.prog (cd (n+2)) 100000 46 Try.f46 (Kt.kt 46) (il (ctG noCt 45 (g45t (bathA w ls zs ld zd) (slA 1 lt tr) True so)) (n+1) 1) noBT noRT [(bathA w ls zs ld zd, none), (slA 1 lt tr, none), (.int .i64 p, none), (.int .i64 q, none)] H).run = some y ∧ (y.1.1, y.2) = (AV.bool (touchR w zs so p q), H) := by
  rw [u46a n w ls ld lt zs zd tr H p q so True]
  have e1 : Int.negSucc 0 = -1 := rfl
  have e2 : Int.negSucc 1 = -2 := rfl
  obtain ⟨hp, hq, hsp, hsz⟩ := h
  by_cases h1 : p < 0 <;> by_cases h2 : q < 0
  · refine ⟨_, by simp (disch := omega) only [Tr.run_ite, Tr.run_req, Tr.run_ok, nS, eqI_dec, decide_eq_true, decide_eq_false, cond_true, cond_false, Int.ofNat_eq_natCast, wrap_j, ver0, eqI_dec, e1, e2, subI_eq, mulI_eq, run_reqT, eq_self, and_true, true_and]; rfl, ?_⟩
    simp only [touchR, tchR, bothR, h1, h2, and_self, and_false, false_and, and_true, if_true, if_false]; try rfl
  · by_cases h3 : so q = 0
    · refine ⟨_, by simp (disch := omega) only [Tr.run_ite, Tr.run_req, Tr.run_ok, nS, eqI_dec, decide_eq_true, decide_eq_false, cond_true, cond_false, Int.ofNat_eq_natCast, wrap_j, ver0, eqI_dec, e1, e2, subI_eq, mulI_eq, run_reqT, eq_self, and_true, true_and]; rfl, ?_⟩
      simp only [touchR, tchR, bothR, h1, h2, and_self, and_false, false_and, and_true, if_true, if_false, h3]; try rfl
    · by_cases h4 : p = -1
      · refine ⟨_, by simp (disch := omega) only [Tr.run_ite, Tr.run_req, Tr.run_ok, nS, eqI_dec, decide_eq_true, decide_eq_false, cond_true, cond_false, Int.ofNat_eq_natCast, wrap_j, ver0, eqI_dec, e1, e2, subI_eq, mulI_eq, run_reqT, eq_self, and_true, true_and]; rfl, ?_⟩
        simp only [touchR, tchR, bothR, h1, h2, and_self, and_false, false_and, and_true, if_true, if_false, h3, h4]; try rfl
      · by_cases h5 : p = -2
        · refine ⟨_, by simp (disch := omega) only [Tr.run_ite, Tr.run_req, Tr.run_ok, nS, eqI_dec, decide_eq_true, decide_eq_false, cond_true, cond_false, Int.ofNat_eq_natCast, wrap_j, ver0, eqI_dec, e1, e2, subI_eq, mulI_eq, run_reqT, eq_self, and_true, true_and]; rfl, ?_⟩
          simp only [touchR, tchR, bothR, h1, h2, and_self, and_false, false_and, and_true, if_true, if_false, h3, h4, h5, show ¬ (-2 : Int) = -1 by decide]; try rfl
        · exfalso; omega
  · by_cases h3 : so p = 0
    · refine ⟨_, by simp (disch := omega) only [Tr.run_ite, Tr.run_req, Tr.run_ok, nS, eqI_dec, decide_eq_true, decide_eq_false, cond_true, cond_false, Int.ofNat_eq_natCast, wrap_j, ver0, eqI_dec, e1, e2, subI_eq, mulI_eq, run_reqT, eq_self, and_true, true_and]; rfl, ?_⟩
      simp only [touchR, tchR, bothR, h1, h2, and_self, and_false, false_and, and_true, if_true, if_false, h3]; try rfl
    · by_cases h4 : q = -1
      · refine ⟨_, by simp (disch := omega) only [Tr.run_ite, Tr.run_req, Tr.run_ok, nS, eqI_dec, decide_eq_true, decide_eq_false, cond_true, cond_false, Int.ofNat_eq_natCast, wrap_j, ver0, eqI_dec, e1, e2, subI_eq, mulI_eq, run_reqT, eq_self, and_true, true_and]; rfl, ?_⟩
        simp only [touchR, tchR, bothR, h1, h2, and_self, and_false, false_and, and_true, if_true, if_false, h3, h4]; try rfl
      · by_cases h5 : q = -2
        · refine ⟨_, by simp (disch := omega) only [Tr.run_ite, Tr.run_req, Tr.run_ok, nS, eqI_dec, decide_eq_true, decide_eq_false, cond_true, cond_false, Int.ofNat_eq_natCast, wrap_j, ver0, eqI_dec, e1, e2, subI_eq, mulI_eq, run_reqT, eq_self, and_true, true_and]; rfl, ?_⟩
          simp only [touchR, tchR, bothR, h1, h2, and_self, and_false, false_and, and_true, if_true, if_false, h3, h4, h5, show ¬ (-2 : Int) = -1 by decide]; try rfl
        · exfalso; omega
  · by_cases h3 : so p = 0
    · refine ⟨_, by simp (disch := omega) only [Tr.run_ite, Tr.run_req, Tr.run_ok, nS, eqI_dec, decide_eq_true, decide_eq_false, cond_true, cond_false, Int.ofNat_eq_natCast, wrap_j, ver0, eqI_dec, e1, e2, subI_eq, mulI_eq, run_reqT, eq_self, and_true, true_and]; rfl, ?_⟩
      simp only [touchR, tchR, bothR, h1, h2, and_self, and_false, false_and, and_true, if_true, if_false, h3]; try rfl
    · have h4 : ¬ q = -1 := by omega
      have h5 : ¬ q = -2 := by omega
      by_cases h6 : so q = 0
      · refine ⟨_, by simp (disch := omega) only [Tr.run_ite, Tr.run_req, Tr.run_ok, nS, eqI_dec, decide_eq_true, decide_eq_false, cond_true, cond_false, Int.ofNat_eq_natCast, wrap_j, ver0, eqI_dec, e1, e2, subI_eq, mulI_eq, run_reqT, eq_self, and_true, true_and]; rfl, ?_⟩
        simp only [touchR, tchR, bothR, h1, h2, and_self, and_false, false_and, and_true, if_true, if_false, h3, h4, h5, h6]; try rfl
      · by_cases h7 : IntKind.i64.wrap (IntKind.i64.wrap (IntKind.i64.wrap (zs (p.toNat * 2) - zs (q.toNat * 2)) * IntKind.i64.wrap (zs (p.toNat * 2) - zs (q.toNat * 2))) + IntKind.i64.wrap (IntKind.i64.wrap (zs (p.toNat * 2 + 1) - zs (q.toNat * 2 + 1)) * IntKind.i64.wrap (zs (p.toNat * 2 + 1) - zs (q.toNat * 2 + 1)))) ≤ IntKind.i64.wrap (so p + so q)
        · refine ⟨_, by simp (disch := omega) only [Tr.run_ite, Tr.run_req, Tr.run_ok, nS, eqI_dec, decide_eq_true, decide_eq_false, cond_true, cond_false, Int.ofNat_eq_natCast, wrap_j, ver0, eqI_dec, e1, e2, subI_eq, mulI_eq, run_reqT, eq_self, and_true, true_and]; rfl, ?_⟩
          simp only [touchR, tchR, bothR, h1, h2, and_self, and_false, false_and, and_true, if_true, if_false, h3, h4, h5, h6, decide_eq_true h7, Bool.true_or]; try rfl
        · refine ⟨_, by simp (disch := omega) only [Tr.run_ite, Tr.run_req, Tr.run_ok, nS, eqI_dec, decide_eq_true, decide_eq_false, cond_true, cond_false, Int.ofNat_eq_natCast, wrap_j, ver0, eqI_dec, e1, e2, subI_eq, mulI_eq, run_reqT, eq_self, and_true, true_and]; rfl, ?_⟩
          simp only [touchR, tchR, bothR, h1, h2, and_self, and_false, false_and, and_true, if_true, if_false, h3, h4, h5, h6, decide_eq_false h7, Bool.false_or]; try rfl
theorem run46b (h : TouchB ls zs so p q) : ∃ y, (bodyT Try.prog (cd (n+2)) 100000 46 Try.f46 (Kt.kt 46) (il (ctG noCt 45 (g45t (bathA w ls zs ld zd) .nils True so)) (n+1) 1) noBT noRT [(bathA w ls zs ld zd, none), (.nils, none), (.int .i64 p, none), (.int .i64 q, none)] H).run = some y ∧ (y.1.1, y.2) = (AV.bool (touchR w zs so p q), H) := by
  rw [u46b n w ls ld zs zd H p q so True]
  have e1 : Int.negSucc 0 = -1 := rfl
  have e2 : Int.negSucc 1 = -2 := rfl
  obtain ⟨hp, hq, hsp, hsz⟩ := h
  by_cases h1 : p < 0 <;> by_cases h2 : q < 0
  · refine ⟨_, by simp (disch := omega) only [Tr.run_ite, Tr.run_req, Tr.run_ok, nS, eqI_dec, decide_eq_true, decide_eq_false, cond_true, cond_false, Int.ofNat_eq_natCast, wrap_j, ver0, eqI_dec, e1, e2, subI_eq, mulI_eq, run_reqT, eq_self, and_true, true_and]; rfl, ?_⟩
    simp only [touchR, tchR, bothR, h1, h2, and_self, and_false, false_and, and_true, if_true, if_false]; try rfl
  · by_cases h3 : so q = 0
    · refine ⟨_, by simp (disch := omega) only [Tr.run_ite, Tr.run_req, Tr.run_ok, nS, eqI_dec, decide_eq_true, decide_eq_false, cond_true, cond_false, Int.ofNat_eq_natCast, wrap_j, ver0, eqI_dec, e1, e2, subI_eq, mulI_eq, run_reqT, eq_self, and_true, true_and]; rfl, ?_⟩
      simp only [touchR, tchR, bothR, h1, h2, and_self, and_false, false_and, and_true, if_true, if_false, h3]; try rfl
    · by_cases h4 : p = -1
      · refine ⟨_, by simp (disch := omega) only [Tr.run_ite, Tr.run_req, Tr.run_ok, nS, eqI_dec, decide_eq_true, decide_eq_false, cond_true, cond_false, Int.ofNat_eq_natCast, wrap_j, ver0, eqI_dec, e1, e2, subI_eq, mulI_eq, run_reqT, eq_self, and_true, true_and]; rfl, ?_⟩
        simp only [touchR, tchR, bothR, h1, h2, and_self, and_false, false_and, and_true, if_true, if_false, h3, h4]; try rfl
      · by_cases h5 : p = -2
        · refine ⟨_, by simp (disch := omega) only [Tr.run_ite, Tr.run_req, Tr.run_ok, nS, eqI_dec, decide_eq_true, decide_eq_false, cond_true, cond_false, Int.ofNat_eq_natCast, wrap_j, ver0, eqI_dec, e1, e2, subI_eq, mulI_eq, run_reqT, eq_self, and_true, true_and]; rfl, ?_⟩
          simp only [touchR, tchR, bothR, h1, h2, and_self, and_false, false_and, and_true, if_true, if_false, h3, h4, h5, show ¬ (-2 : Int) = -1 by decide]; try rfl
        · exfalso; omega
  · by_cases h3 : so p = 0
    · refine ⟨_, by simp (disch := omega) only [Tr.run_ite, Tr.run_req, Tr.run_ok, nS, eqI_dec, decide_eq_true, decide_eq_false, cond_true, cond_false, Int.ofNat_eq_natCast, wrap_j, ver0, eqI_dec, e1, e2, subI_eq, mulI_eq, run_reqT, eq_self, and_true, true_and]; rfl, ?_⟩
      simp only [touchR, tchR, bothR, h1, h2, and_self, and_false, false_and, and_true, if_true, if_false, h3]; try rfl
    · by_cases h4 : q = -1
      · refine ⟨_, by simp (disch := omega) only [Tr.run_ite, Tr.run_req, Tr.run_ok, nS, eqI_dec, decide_eq_true, decide_eq_false, cond_true, cond_false, Int.ofNat_eq_natCast, wrap_j, ver0, eqI_dec, e1, e2, subI_eq, mulI_eq, run_reqT, eq_self, and_true, true_and]; rfl, ?_⟩
        simp only [touchR, tchR, bothR, h1, h2, and_self, and_false, false_and, and_true, if_true, if_false, h3, h4]; try rfl
      · by_cases h5 : q = -2
        · refine ⟨_, by simp (disch := omega) only [Tr.run_ite, Tr.run_req, Tr.run_ok, nS, eqI_dec, decide_eq_true, decide_eq_false, cond_true, cond_false, Int.ofNat_eq_natCast, wrap_j, ver0, eqI_dec, e1, e2, subI_eq, mulI_eq, run_reqT, eq_self, and_true, true_and]; rfl, ?_⟩
          simp only [touchR, tchR, bothR, h1, h2, and_self, and_false, false_and, and_true, if_true, if_false, h3, h4, h5, show ¬ (-2 : Int) = -1 by decide]; try rfl
        · exfalso; omega
  · by_cases h3 : so p = 0
    · refine ⟨_, by simp (disch := omega) only [Tr.run_ite, Tr.run_req, Tr.run_ok, nS, eqI_dec, decide_eq_true, decide_eq_false, cond_true, cond_false, Int.ofNat_eq_natCast, wrap_j, ver0, eqI_dec, e1, e2, subI_eq, mulI_eq, run_reqT, eq_self, and_true, true_and]; rfl, ?_⟩
      simp only [touchR, tchR, bothR, h1, h2, and_self, and_false, false_and, and_true, if_true, if_false, h3]; try rfl
    · have h4 : ¬ q = -1 := by omega
      have h5 : ¬ q = -2 := by omega
      by_cases h6 : so q = 0
      · refine ⟨_, by simp (disch := omega) only [Tr.run_ite, Tr.run_req, Tr.run_ok, nS, eqI_dec, decide_eq_true, decide_eq_false, cond_true, cond_false, Int.ofNat_eq_natCast, wrap_j, ver0, eqI_dec, e1, e2, subI_eq, mulI_eq, run_reqT, eq_self, and_true, true_and]; rfl, ?_⟩
        simp only [touchR, tchR, bothR, h1, h2, and_self, and_false, false_and, and_true, if_true, if_false, h3, h4, h5, h6]; try rfl
      · by_cases h7 : IntKind.i64.wrap (IntKind.i64.wrap (IntKind.i64.wrap (zs (p.toNat * 2) - zs (q.toNat * 2)) * IntKind.i64.wrap (zs (p.toNat * 2) - zs (q.toNat * 2))) + IntKind.i64.wrap (IntKind.i64.wrap (zs (p.toNat * 2 + 1) - zs (q.toNat * 2 + 1)) * IntKind.i64.wrap (zs (p.toNat * 2 + 1) - zs (q.toNat * 2 + 1)))) ≤ IntKind.i64.wrap (so p + so q)
        · refine ⟨_, by simp (disch := omega) only [Tr.run_ite, Tr.run_req, Tr.run_ok, nS, eqI_dec, decide_eq_true, decide_eq_false, cond_true, cond_false, Int.ofNat_eq_natCast, wrap_j, ver0, eqI_dec, e1, e2, subI_eq, mulI_eq, run_reqT, eq_self, and_true, true_and]; rfl, ?_⟩
          simp only [touchR, tchR, bothR, h1, h2, and_self, and_false, false_and, and_true, if_true, if_false, h3, h4, h5, h6, decide_eq_true h7, Bool.true_or]; try rfl
        · refine ⟨_, by simp (disch := omega) only [Tr.run_ite, Tr.run_req, Tr.run_ok, nS, eqI_dec, decide_eq_true, decide_eq_false, cond_true, cond_false, Int.ofNat_eq_natCast, wrap_j, ver0, eqI_dec, e1, e2, subI_eq, mulI_eq, run_reqT, eq_self, and_true, true_and]; rfl, ?_⟩
          simp only [touchR, tchR, bothR, h1, h2, and_self, and_false, false_and, and_true, if_true, if_false, h3, h4, h5, h6, decide_eq_false h7, Bool.false_or]; try rfl
end
end Go.Eng
end
