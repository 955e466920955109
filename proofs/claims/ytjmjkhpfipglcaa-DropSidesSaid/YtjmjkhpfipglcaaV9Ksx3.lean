/- Drop: the law DropSides. -/
import Derived.Test.YtjmjkhpfipglcaaV9Kpx10
import Derived.Test.YtjmjkhpfipglcaaV9Kqx2
import Derived.Test.YtjmjkhpfipglcaaV9DrLx3
import Derived.Test.YtjmjkhpfipglcaaV9EngPostx4
import Derived.Test.YtjmjkhpfipglcaaRows
import Derived.Test.YtjmjkhpfipglcaaChecked
import Derived.ProofKit
import Derived.Test.YtjmjkhpfipglcaaV9EngYx4
import Derived.Test.YtjmjkhpfipglcaaV9EngTgx3
import Derived.Test.YtjmjkhpfipglcaaProg
import Derived.KernelRfl
section
namespace Go.Eng
open Go.Proofs
set_option linter.unusedVariables false
set_option linter.unusedSimpArgs false
set_option maxRecDepth 100000
def g34 (B A : AV) (P Q e : Int) (sure : Bool) : List AV → Option (Prop × AV)
 | [b, .int .i64 p, .int .i64 q, .bool s] => some (b = B ∧ p = P ∧ q = Q ∧ s = sure, .tup [A, .int .i64 e])
 | _ => none
def g36 (B A : AV) (e : Int) (sure : Bool) : List AV → Option (Prop × AV)
 | [b, .bool s] => some (b = B ∧ s = sure, .tup [A, .int .i64 e])
 | _ => none
def g39 (B S : AV) (P Q e : Int) (sure : Bool) (N : Nat) : List AV → Option (Prop × AV)
 | [b, .int .i64 p, .int .i64 q, x, .bool s] => some (b = B ∧ p = P ∧ q = Q ∧ x = S ∧ s = sure ∧ leN N 1000 = true, .int .i64 e)
 | _ => none
def gTT (A C : AV) : List AV → Option (Prop × AV)
 | [a, c] => some (a = A ∧ c = C, .bool true)
 | _ => none
theorem u31s (n : Nat) (H : Heap) (p : Int) (z : Nat → Int) : bodyT Try.prog (cd n) 100000 31 Try.f31 (Kt.kt 31) (il noCt n 0) noBT noRT [(slI p, none), (sl1 1 z false, none)] H =
 Tr.ite (notB (eqI (Int.ofNat 1) (Int.ofNat 1))) (Tr.ok ((AV.bool false, some 1), H)) (Tr.ite (ltI (Int.ofNat 0) (Int.ofNat 1)) (Tr.req (inI (Int.ofNat 0) 1) (Tr.req (inI (Int.ofNat 0) 1) (Tr.req (ltN 0 1) (Tr.ite (notB (eqI p (z 0))) (Tr.ok ((AV.bool false, some 1), H)) (Tr.ite (ltI (Int.ofNat 1) (Int.ofNat 1)) (Tr.req (inI (Int.ofNat 1) 1) Tr.bad) (Tr.ok ((AV.bool true, some 1), H))))))) (Tr.ok ((AV.bool true, some 1), H))) := by kernel_rfl
theorem u7nn (n : Nat) (w : Int) (ls ld lm : Nat) (zs zd zm : Nat → Int) (H : Heap) (p q e1 e2 e3 : Int) (sure : Bool) : bodyT Try.prog (cd (n+19)) 100000 7 Try.f7 (Kt.kt 7) (il (ctG (ctG (ctG (ctG (ctG (ctG (ctG (ctG (ctG noCt 16 g16) 34 (g34 (bathA w ls zs ld zd) .nils p q e1 sure)) 35 (g34 (bathA w ls zs ld zd) .nils p q e1 sure)) 36 (g36 (bathA w ls zs ld zd) .nils e2 sure)) 37 (g36 (bathA w ls zs ld zd) .nils e2 sure)) 31 (gTT .nils .nils)) 38 (gTT .nils .nils)) 39 (g39 (bathA w ls zs ld zd) (sl1 lm zm false) p q e3 sure lm)) 40 (g39 (bathA w ls zs ld zd) (sl1 lm zm false) p q e3 sure lm)) (n+18) 1) noBT noRT [(bathA w ls zs ld zd, none), (.int .i64 p, none), (.int .i64 q, none), (sl1 lm zm false, none), (.bool sure, none)] H =
 Tr.ite (ltI (Int.ofNat 15) (Int.ofNat ls)) (Tr.reqP True (Tr.ok ((AV.bool true, none), H))) (Tr.ite (ltI (Int.ofNat 50) (Int.ofNat ld)) (Tr.reqP True (Tr.ok ((AV.bool true, none), H))) (Tr.ite (ltI (Int.ofNat 20) (Int.ofNat lm)) (Tr.reqP True (Tr.ok ((AV.bool true, none), H))) (Tr.reqP (bathA w ls zs ld zd = bathA w ls zs ld zd ∧ p = p ∧ q = q ∧ sure = sure) (Tr.reqP (bathA w ls zs ld zd = bathA w ls zs ld zd ∧ p = p ∧ q = q ∧ sure = sure) (Tr.reqP (bathA w ls zs ld zd = bathA w ls zs ld zd ∧ sure = sure) (Tr.reqP (bathA w ls zs ld zd = bathA w ls zs ld zd ∧ sure = sure) (Tr.reqP (AV.nils = AV.nils ∧ AV.nils = AV.nils) (Tr.ite true (Tr.ite (eqI e1 e1) (Tr.reqP (AV.nils = AV.nils ∧ AV.nils = AV.nils) (Tr.ite true (Tr.ite (eqI e2 e2) (Tr.reqP (bathA w ls zs ld zd = bathA w ls zs ld zd ∧ p = p ∧ q = q ∧ AV.slcT none (Row.M [Seg.arr .i64 zm lm]) 1 lm false = AV.slcT none (Row.M [Seg.arr .i64 zm lm]) 1 lm false ∧ sure = sure ∧ leN lm 1000 = true) (Tr.reqP (bathA w ls zs ld zd = bathA w ls zs ld zd ∧ p = p ∧ q = q ∧ AV.slcT none (Row.M [Seg.arr .i64 zm lm]) 1 lm false = AV.slcT none (Row.M [Seg.arr .i64 zm lm]) 1 lm false ∧ sure = sure ∧ leN lm 1000 = true) (Tr.ite (eqI e3 e3) (Tr.reqP True (Tr.ok ((AV.bool true, none), H))) (Tr.ok ((AV.bool false, some 1), H))))) (Tr.ok ((AV.bool false, some 1), H))) (Tr.ok ((AV.bool false, some 1), H)))) (Tr.ok ((AV.bool false, some 1), H))) (Tr.ok ((AV.bool false, some 1), H)))))))))) := by kernel_rfl
theorem u7nf (n : Nat) (w : Int) (ls ld lm : Nat) (zs zd zm : Nat → Int) (H : Heap) (p q e1 e2 e3 : Int) (sure : Bool) (k : Nat) (f1 : Nat → Nat → Int) (f2 : Nat → Nat) : bodyT Try.prog (cd (n+19)) 100000 7 Try.f7 (Kt.kt 7) (il (ctG (ctG (ctG (ctG (ctG (ctG (ctG (ctG (ctG noCt 16 g16) 34 (g34 (bathA w ls zs ld zd) .nils p q e1 sure)) 35 (g34 (bathA w ls zs ld zd) .nils p q e1 sure)) 36 (g36 (bathA w ls zs ld zd) (slF k f1 f2) e2 sure)) 37 (g36 (bathA w ls zs ld zd) (slF k f1 f2) e2 sure)) 31 (gTT .nils .nils)) 38 (gTT (slF k f1 f2) (slF k f1 f2))) 39 (g39 (bathA w ls zs ld zd) (sl1 lm zm false) p q e3 sure lm)) 40 (g39 (bathA w ls zs ld zd) (sl1 lm zm false) p q e3 sure lm)) (n+18) 1) noBT noRT [(bathA w ls zs ld zd, none), (.int .i64 p, none), (.int .i64 q, none), (sl1 lm zm false, none), (.bool sure, none)] H =
 (fun (Z0 : Row) => Tr.ite (ltI (Int.ofNat 15) (Int.ofNat ls)) (Tr.reqP True (Tr.ok ((AV.bool true, none), H))) (Tr.ite (ltI (Int.ofNat 50) (Int.ofNat ld)) (Tr.reqP True (Tr.ok ((AV.bool true, none), H))) (Tr.ite (ltI (Int.ofNat 20) (Int.ofNat lm)) (Tr.reqP True (Tr.ok ((AV.bool true, none), H))) (Tr.reqP (bathA w ls zs ld zd = bathA w ls zs ld zd ∧ p = p ∧ q = q ∧ sure = sure) (Tr.reqP (bathA w ls zs ld zd = bathA w ls zs ld zd ∧ p = p ∧ q = q ∧ sure = sure) (Tr.reqP (bathA w ls zs ld zd = bathA w ls zs ld zd ∧ sure = sure) (Tr.reqP (bathA w ls zs ld zd = bathA w ls zs ld zd ∧ sure = sure) (Tr.reqP (AV.nils = AV.nils ∧ AV.nils = AV.nils) (Tr.ite true (Tr.ite (eqI e1 e1) (Tr.reqP (AV.slcT none Z0 1 k false = AV.slcT none Z0 1 k false ∧ AV.slcT none Z0 1 k false = AV.slcT none Z0 1 k false) (Tr.ite true (Tr.ite (eqI e2 e2) (Tr.reqP (bathA w ls zs ld zd = bathA w ls zs ld zd ∧ p = p ∧ q = q ∧ AV.slcT none (Row.M [Seg.arr .i64 zm lm]) 1 lm false = AV.slcT none (Row.M [Seg.arr .i64 zm lm]) 1 lm false ∧ sure = sure ∧ leN lm 1000 = true) (Tr.reqP (bathA w ls zs ld zd = bathA w ls zs ld zd ∧ p = p ∧ q = q ∧ AV.slcT none (Row.M [Seg.arr .i64 zm lm]) 1 lm false = AV.slcT none (Row.M [Seg.arr .i64 zm lm]) 1 lm false ∧ sure = sure ∧ leN lm 1000 = true) (Tr.ite (eqI e3 e3) (Tr.reqP True (Tr.ok ((AV.bool true, none), H))) (Tr.ok ((AV.bool false, some 1), H))))) (Tr.ok ((AV.bool false, some 1), H))) (Tr.ok ((AV.bool false, some 1), H)))) (Tr.ok ((AV.bool false, some 1), H))) (Tr.ok ((AV.bool false, some 1), H))))))))))) (Row.F (fun j => AV.slcT none (Row.M [Seg.arr .i64 (f1 j) (f2 j)]) 1 (f2 j) false) k) := by kernel_rfl
theorem u7sn (n : Nat) (w : Int) (ls ld lm : Nat) (zs zd zm : Nat → Int) (H : Heap) (p q e1 e2 e3 : Int) (sure : Bool) (z : Nat → Int) : bodyT Try.prog (cd (n+19)) 100000 7 Try.f7 (Kt.kt 7) (il (ctG (ctG (ctG (ctG (ctG (ctG (ctG (ctG (ctG noCt 16 g16) 34 (g34 (bathA w ls zs ld zd) (slI p) p q e1 sure)) 35 (g34 (bathA w ls zs ld zd) (sl1 1 z false) p q e1 sure)) 36 (g36 (bathA w ls zs ld zd) .nils e2 sure)) 37 (g36 (bathA w ls zs ld zd) .nils e2 sure)) 31 (gTT (slI p) (sl1 1 z false))) 38 (gTT .nils .nils)) 39 (g39 (bathA w ls zs ld zd) (sl1 lm zm false) p q e3 sure lm)) 40 (g39 (bathA w ls zs ld zd) (sl1 lm zm false) p q e3 sure lm)) (n+18) 1) noBT noRT [(bathA w ls zs ld zd, none), (.int .i64 p, none), (.int .i64 q, none), (sl1 lm zm false, none), (.bool sure, none)] H =
 Tr.ite (ltI (Int.ofNat 15) (Int.ofNat ls)) (Tr.reqP True (Tr.ok ((AV.bool true, none), H))) (Tr.ite (ltI (Int.ofNat 50) (Int.ofNat ld)) (Tr.reqP True (Tr.ok ((AV.bool true, none), H))) (Tr.ite (ltI (Int.ofNat 20) (Int.ofNat lm)) (Tr.reqP True (Tr.ok ((AV.bool true, none), H))) (Tr.reqP (bathA w ls zs ld zd = bathA w ls zs ld zd ∧ p = p ∧ q = q ∧ sure = sure) (Tr.reqP (bathA w ls zs ld zd = bathA w ls zs ld zd ∧ p = p ∧ q = q ∧ sure = sure) (Tr.reqP (bathA w ls zs ld zd = bathA w ls zs ld zd ∧ sure = sure) (Tr.reqP (bathA w ls zs ld zd = bathA w ls zs ld zd ∧ sure = sure) (Tr.reqP (AV.slcT none (Row.I .i64 [p]) 1 1 true = AV.slcT none (Row.I .i64 [p]) 1 1 true ∧ AV.slcT none (Row.M [Seg.arr .i64 z 1]) 1 1 false = AV.slcT none (Row.M [Seg.arr .i64 z 1]) 1 1 false) (Tr.ite true (Tr.ite (eqI e1 e1) (Tr.reqP (AV.nils = AV.nils ∧ AV.nils = AV.nils) (Tr.ite true (Tr.ite (eqI e2 e2) (Tr.reqP (bathA w ls zs ld zd = bathA w ls zs ld zd ∧ p = p ∧ q = q ∧ AV.slcT none (Row.M [Seg.arr .i64 zm lm]) 1 lm false = AV.slcT none (Row.M [Seg.arr .i64 zm lm]) 1 lm false ∧ sure = sure ∧ leN lm 1000 = true) (Tr.reqP (bathA w ls zs ld zd = bathA w ls zs ld zd ∧ p = p ∧ q = q ∧ AV.slcT none (Row.M [Seg.arr .i64 zm lm]) 1 lm false = AV.slcT none (Row.M [Seg.arr .i64 zm lm]) 1 lm false ∧ sure = sure ∧ leN lm 1000 = true) (Tr.ite (eqI e3 e3) (Tr.reqP True (Tr.ok ((AV.bool true, none), H))) (Tr.ok ((AV.bool false, some 1), H))))) (Tr.ok ((AV.bool false, some 1), H))) (Tr.ok ((AV.bool false, some 1), H)))) (Tr.ok ((AV.bool false, some 1), H))) (Tr.ok ((AV.bool false, some 1), H)))))))))) := by kernel_rfl
theorem u7sf (n : Nat) (w : Int) (ls ld lm : Nat) (zs zd zm : Nat → Int) (H : Heap) (p q e1 e2 e3 : Int) (sure : Bool) (z : Nat → Int) (k : Nat) (f1 : Nat → Nat → Int) (f2 : Nat → Nat) : bodyT Try.prog (cd (n+19)) 100000 7 Try.f7 (Kt.kt 7) (il (ctG (ctG (ctG (ctG (ctG (ctG (ctG (ctG (ctG noCt 16 g16) 34 (g34 (bathA w ls zs ld zd) (slI p) p q e1 sure)) 35 (g34 (bathA w ls zs ld zd) (sl1 1 z false) p q e1 sure)) 36 (g36 (bathA w ls zs ld zd) (slF k f1 f2) e2 sure)) 37 (g36 (bathA w ls zs ld zd) (slF k f1 f2) e2 sure)) 31 (gTT (slI p) (sl1 1 z false))) 38 (gTT (slF k f1 f2) (slF k f1 f2))) 39 (g39 (bathA w ls zs ld zd) (sl1 lm zm false) p q e3 sure lm)) 40 (g39 (bathA w ls zs ld zd) (sl1 lm zm false) p q e3 sure lm)) (n+18) 1) noBT noRT [(bathA w ls zs ld zd, none), (.int .i64 p, none), (.int .i64 q, none), (sl1 lm zm false, none), (.bool sure, none)] H =
 (fun (Z0 : Row) => Tr.ite (ltI (Int.ofNat 15) (Int.ofNat ls)) (Tr.reqP True (Tr.ok ((AV.bool true, none), H))) (Tr.ite (ltI (Int.ofNat 50) (Int.ofNat ld)) (Tr.reqP True (Tr.ok ((AV.bool true, none), H))) (Tr.ite (ltI (Int.ofNat 20) (Int.ofNat lm)) (Tr.reqP True (Tr.ok ((AV.bool true, none), H))) (Tr.reqP (bathA w ls zs ld zd = bathA w ls zs ld zd ∧ p = p ∧ q = q ∧ sure = sure) (Tr.reqP (bathA w ls zs ld zd = bathA w ls zs ld zd ∧ p = p ∧ q = q ∧ sure = sure) (Tr.reqP (bathA w ls zs ld zd = bathA w ls zs ld zd ∧ sure = sure) (Tr.reqP (bathA w ls zs ld zd = bathA w ls zs ld zd ∧ sure = sure) (Tr.reqP (AV.slcT none (Row.I .i64 [p]) 1 1 true = AV.slcT none (Row.I .i64 [p]) 1 1 true ∧ AV.slcT none (Row.M [Seg.arr .i64 z 1]) 1 1 false = AV.slcT none (Row.M [Seg.arr .i64 z 1]) 1 1 false) (Tr.ite true (Tr.ite (eqI e1 e1) (Tr.reqP (AV.slcT none Z0 1 k false = AV.slcT none Z0 1 k false ∧ AV.slcT none Z0 1 k false = AV.slcT none Z0 1 k false) (Tr.ite true (Tr.ite (eqI e2 e2) (Tr.reqP (bathA w ls zs ld zd = bathA w ls zs ld zd ∧ p = p ∧ q = q ∧ AV.slcT none (Row.M [Seg.arr .i64 zm lm]) 1 lm false = AV.slcT none (Row.M [Seg.arr .i64 zm lm]) 1 lm false ∧ sure = sure ∧ leN lm 1000 = true) (Tr.reqP (bathA w ls zs ld zd = bathA w ls zs ld zd ∧ p = p ∧ q = q ∧ AV.slcT none (Row.M [Seg.arr .i64 zm lm]) 1 lm false = AV.slcT none (Row.M [Seg.arr .i64 zm lm]) 1 lm false ∧ sure = sure ∧ leN lm 1000 = true) (Tr.ite (eqI e3 e3) (Tr.reqP True (Tr.ok ((AV.bool true, none), H))) (Tr.ok ((AV.bool false, some 1), H))))) (Tr.ok ((AV.bool false, some 1), H))) (Tr.ok ((AV.bool false, some 1), H)))) (Tr.ok ((AV.bool false, some 1), H))) (Tr.ok ((AV.bool false, some 1), H))))))))))) (Row.F (fun j => AV.slcT none (Row.M [Seg.arr .i64 (f1 j) (f2 j)]) 1 (f2 j) false) k) := by kernel_rfl
theorem u7ln (n : Nat) (w : Int) (ls ld lm : Nat) (zs zd zm : Nat → Int) (H : Heap) (p q e1 e2 e3 : Int) (sure : Bool) (m : Nat) (z : Nat → Int) : bodyT Try.prog (cd (n+19)) 100000 7 Try.f7 (Kt.kt 7) (il (ctG (ctG (ctG (ctG (ctG (ctG (ctG (ctG (ctG noCt 16 g16) 34 (g34 (bathA w ls zs ld zd) (sl1 m z false) p q e1 sure)) 35 (g34 (bathA w ls zs ld zd) (sl1 m z false) p q e1 sure)) 36 (g36 (bathA w ls zs ld zd) .nils e2 sure)) 37 (g36 (bathA w ls zs ld zd) .nils e2 sure)) 31 (gTT (sl1 m z false) (sl1 m z false))) 38 (gTT .nils .nils)) 39 (g39 (bathA w ls zs ld zd) (sl1 lm zm false) p q e3 sure lm)) 40 (g39 (bathA w ls zs ld zd) (sl1 lm zm false) p q e3 sure lm)) (n+18) 1) noBT noRT [(bathA w ls zs ld zd, none), (.int .i64 p, none), (.int .i64 q, none), (sl1 lm zm false, none), (.bool sure, none)] H =
 Tr.ite (ltI (Int.ofNat 15) (Int.ofNat ls)) (Tr.reqP True (Tr.ok ((AV.bool true, none), H))) (Tr.ite (ltI (Int.ofNat 50) (Int.ofNat ld)) (Tr.reqP True (Tr.ok ((AV.bool true, none), H))) (Tr.ite (ltI (Int.ofNat 20) (Int.ofNat lm)) (Tr.reqP True (Tr.ok ((AV.bool true, none), H))) (Tr.reqP (bathA w ls zs ld zd = bathA w ls zs ld zd ∧ p = p ∧ q = q ∧ sure = sure) (Tr.reqP (bathA w ls zs ld zd = bathA w ls zs ld zd ∧ p = p ∧ q = q ∧ sure = sure) (Tr.reqP (bathA w ls zs ld zd = bathA w ls zs ld zd ∧ sure = sure) (Tr.reqP (bathA w ls zs ld zd = bathA w ls zs ld zd ∧ sure = sure) (Tr.reqP (AV.slcT none (Row.M [Seg.arr .i64 z m]) 1 m false = AV.slcT none (Row.M [Seg.arr .i64 z m]) 1 m false ∧ AV.slcT none (Row.M [Seg.arr .i64 z m]) 1 m false = AV.slcT none (Row.M [Seg.arr .i64 z m]) 1 m false) (Tr.ite true (Tr.ite (eqI e1 e1) (Tr.reqP (AV.nils = AV.nils ∧ AV.nils = AV.nils) (Tr.ite true (Tr.ite (eqI e2 e2) (Tr.reqP (bathA w ls zs ld zd = bathA w ls zs ld zd ∧ p = p ∧ q = q ∧ AV.slcT none (Row.M [Seg.arr .i64 zm lm]) 1 lm false = AV.slcT none (Row.M [Seg.arr .i64 zm lm]) 1 lm false ∧ sure = sure ∧ leN lm 1000 = true) (Tr.reqP (bathA w ls zs ld zd = bathA w ls zs ld zd ∧ p = p ∧ q = q ∧ AV.slcT none (Row.M [Seg.arr .i64 zm lm]) 1 lm false = AV.slcT none (Row.M [Seg.arr .i64 zm lm]) 1 lm false ∧ sure = sure ∧ leN lm 1000 = true) (Tr.ite (eqI e3 e3) (Tr.reqP True (Tr.ok ((AV.bool true, none), H))) (Tr.ok ((AV.bool false, some 1), H))))) (Tr.ok ((AV.bool false, some 1), H))) (Tr.ok ((AV.bool false, some 1), H)))) (Tr.ok ((AV.bool false, some 1), H))) (Tr.ok ((AV.bool false, some 1), H)))))))))) := by kernel_rfl
theorem u7lf (n : Nat) (w : Int) (ls ld lm : Nat) (zs zd zm : Nat → Int) (H : Heap) (p q e1 e2 e3 : Int) (sure : Bool) (m : Nat) (z : Nat → Int) (k : Nat) (f1 : Nat → Nat → Int) (f2 : Nat → Nat) : bodyT Try.prog (cd (n+19)) 100000 7 Try.f7 (Kt.kt 7) (il (ctG (ctG (ctG (ctG (ctG (ctG (ctG (ctG (ctG noCt 16 g16) 34 (g34 (bathA w ls zs ld zd) (sl1 m z false) p q e1 sure)) 35 (g34 (bathA w ls zs ld zd) (sl1 m z false) p q e1 sure)) 36 (g36 (bathA w ls zs ld zd) (slF k f1 f2) e2 sure)) 37 (g36 (bathA w ls zs ld zd) (slF k f1 f2) e2 sure)) 31 (gTT (sl1 m z false) (sl1 m z false))) 38 (gTT (slF k f1 f2) (slF k f1 f2))) 39 (g39 (bathA w ls zs ld zd) (sl1 lm zm false) p q e3 sure lm)) 40 (g39 (bathA w ls zs ld zd) (sl1 lm zm false) p q e3 sure lm)) (n+18) 1) noBT noRT [(bathA w ls zs ld zd, none), (.int .i64 p, none), (.int .i64 q, none), (sl1 lm zm false, none), (.bool sure, none)] H =
 (fun (Z0 : Row) => Tr.ite (ltI (Int.ofNat 15) (Int.ofNat ls)) (Tr.reqP True (Tr.ok ((AV.bool true, none), H))) (Tr.ite (ltI (Int.ofNat 50) (Int.ofNat ld)) (Tr.reqP True (Tr.ok ((AV.bool true, none), H))) (Tr.ite (ltI (Int.ofNat 20) (Int.ofNat lm)) (Tr.reqP True (Tr.ok ((AV.bool true, none), H))) (Tr.reqP (bathA w ls zs ld zd = bathA w ls zs ld zd ∧ p = p ∧ q = q ∧ sure = sure) (Tr.reqP (bathA w ls zs ld zd = bathA w ls zs ld zd ∧ p = p ∧ q = q ∧ sure = sure) (Tr.reqP (bathA w ls zs ld zd = bathA w ls zs ld zd ∧ sure = sure) (Tr.reqP (bathA w ls zs ld zd = bathA w ls zs ld zd ∧ sure = sure) (Tr.reqP (AV.slcT none (Row.M [Seg.arr .i64 z m]) 1 m false = AV.slcT none (Row.M [Seg.arr .i64 z m]) 1 m false ∧ AV.slcT none (Row.M [Seg.arr .i64 z m]) 1 m false = AV.slcT none (Row.M [Seg.arr .i64 z m]) 1 m false) (Tr.ite true (Tr.ite (eqI e1 e1) (Tr.reqP (AV.slcT none Z0 1 k false = AV.slcT none Z0 1 k false ∧ AV.slcT none Z0 1 k false = AV.slcT none Z0 1 k false) (Tr.ite true (Tr.ite (eqI e2 e2) (Tr.reqP (bathA w ls zs ld zd = bathA w ls zs ld zd ∧ p = p ∧ q = q ∧ AV.slcT none (Row.M [Seg.arr .i64 zm lm]) 1 lm false = AV.slcT none (Row.M [Seg.arr .i64 zm lm]) 1 lm false ∧ sure = sure ∧ leN lm 1000 = true) (Tr.reqP (bathA w ls zs ld zd = bathA w ls zs ld zd ∧ p = p ∧ q = q ∧ AV.slcT none (Row.M [Seg.arr .i64 zm lm]) 1 lm false = AV.slcT none (Row.M [Seg.arr .i64 zm lm]) 1 lm false ∧ sure = sure ∧ leN lm 1000 = true) (Tr.ite (eqI e3 e3) (Tr.reqP True (Tr.ok ((AV.bool true, none), H))) (Tr.ok ((AV.bool false, some 1), H))))) (Tr.ok ((AV.bool false, some 1), H))) (Tr.ok ((AV.bool false, some 1), H)))) (Tr.ok ((AV.bool false, some 1), H))) (Tr.ok ((AV.bool false, some 1), H))))))))))) (Row.F (fun j => AV.slcT none (Row.M [Seg.arr .i64 (f1 j) (f2 j)]) 1 (f2 j) false) k) := by kernel_rfl
theorem c31s (n : Nat) (H : Heap) (p : Int) (z : Nat → Int) (h : z 0 = p) : cd (n + 1) (.fn 31) [slI p, sl1 1 z false] H = some (.bool true, H) := by
 refine fn_all (n := n) Try.func31 rfl rfl rfl (u31s n H p z) (il_no0 n) (noBT_ok _ _) (noRT_ok _ _) ?_
 repeat' first | (refine Tr.all_ite (fun hc => ?_) (fun hc => ?_) <;> (try simp (disch := omega) only [nV, mulO_eq, Int.cast_ofNat_Int, eq_self, h] at hc) <;> (try (exfalso; omega))) | (refine Tr.all_req ?_ ?_; · ((try simp (disch := omega) only [nV, mulO_eq, Int.cast_ofNat_Int, eq_self, h]); try omega)) | (refine Tr.all_reqP ?_ ?_; · first | exact trivial | rfl | exact ⟨rfl, rfl⟩ | exact ⟨rfl, rfl, rfl⟩ | (simp (disch := omega) only [nV, mulO_eq, Int.cast_ofNat_Int, eq_self, h]; done) | ((try simp (disch := omega) only [nV, mulO_eq, Int.cast_ofNat_Int, eq_self, h]); omega)) | fail
 all_goals exact Tr.all_ok ⟨rfl, rfl⟩
section
variable {w : Int} {ls ld : Nat} {zs zd : Nat → Int} {sure : Bool} {p q : Int}
theorem inN_of {z : Nat → Int} {m i : Nat} (h : i < m) : inN z m (z i) = true := (exN_iff _ _).2 ⟨i, h, decide_eq_true rfl⟩
theorem exN_congr' {f g : Nat → Bool} {N : Nat} (h : ∀ i, i < N → f i = g i) : exN f N = exN g N := by
 rw [Bool.eq_iff_iff, exN_iff, exN_iff]
 exact ⟨fun ⟨i, h1, h2⟩ => ⟨i, h1, by rw [← h i h1]; exact h2⟩, fun ⟨i, h1, h2⟩ => ⟨i, h1, by rw [h i h1]; exact h2⟩⟩
theorem cs_eq (m : Nat) (z : Nat → Int) : csP w ls ld zs zd (kdT w ls ld zs zd) sure p q m z = csE w ls ld zs zd sure p q m z := by
 unfold csP csE
 by_cases he : plE w ls ld zs zd p q = 0
 · obtain ⟨h, _, _, _⟩ := plE_zero he
   cases hx : exN (sdO ls z) m with
   | true => rfl
   | false =>
     have hz : ∀ i, i < m → -2 ≤ z i ∧ z i < ls := fun i hi => by
      cases hq : isPl ls (z i) with
      | true => simpa [isPl] using hq
      | false =>
        have := (exN_iff (sdO ls z) m).2 ⟨i, hi, by unfold sdO; rw [hq]; rfl⟩
        rw [this] at hx; cases hx
     have e : exN (sdP (kdT w ls ld zs zd) sure ls z m) m = exN (sdI ls z m (hlF w ld zs zd sure)) m := exN_congr' fun i hi => by
      unfold sdP sdI
      refine exN_congr' fun k hk => ?_
      unfold nrH sdK
      by_cases e : z i = (k : Int) - 2
      · have := inN_of (z := z) hi
        rw [e] at this
        simp [this]
      · rw [hlK_F h (hz i hi) ⟨by omega, by omega⟩ e, Bool.and_comm]
     rw [e]
 · rw [if_pos he, if_pos he]
theorem sd_cases : ∃ e1 A1 A2, sidP w ls ld zs zd sure p q = .tup [A1, .int .i64 e1] ∧ sidA w ls ld zs zd sure p q = .tup [A2, .int .i64 e1] ∧
 ((A1 = .nils ∧ A2 = .nils) ∨ (∃ z, A1 = slI p ∧ A2 = sl1 1 z false ∧ z 0 = p) ∨ (∃ m z, m ≤ 1000 ∧ A1 = sl1 m z false ∧ A2 = sl1 m z false)) := by
 unfold sidP sidA
 by_cases he : plE w ls ld zs zd p q = 0
 · obtain ⟨h, h1, h2, h3⟩ := plE_zero he
   have hc := chk_drops h
   simp only [isPl, Bool.and_eq_true, decide_eq_true_eq] at h1
   have hj := gp_jn (sure := sure) h h1
   have hlen : (jnL w ls ld zs zd sure p).length ≤ ls + 2 := plL_len _ _
   have hg : gpL (kdT w ls ld zs zd) sure ls p = srtL p (grT w ls ld zs zd sure p) := rfl
   rw [hg] at hj
   rw [if_neg (show ¬ (plE w ls ld zs zd p q ≠ 0) from fun x => x he), if_neg (show ¬ (plE w ls ld zs zd p q ≠ 0) from fun x => x he), ← hj]
   rw [← hj] at hlen
   generalize grT w ls ld zs zd sure p = L at *
   cases L with
   | nil =>
     have i1 : inG p q [] = false := decide_eq_false (fun x => h3 x.symm)
     have i2 : inN (lstO (srtL p [])) (srtL p []).length q = false := by
      cases hq : inN (lstO (srtL p [])) (srtL p []).length q with
      | false => rfl
      | true =>
        obtain ⟨i, i1, i2⟩ := (exN_iff _ _).1 hq
        have i1 : i < 1 := i1
        have : i = 0 := by omega
        subst this
        have i2 := of_decide_eq_true i2
        rw [lst_val] at i2
        exact absurd i2 h3
     rw [i1, i2]
     exact ⟨0, _, _, rfl, rfl, .inr (.inl ⟨_, rfl, rfl, by rw [lst_val]; rfl⟩)⟩
   | cons y r =>
     have i1 : inG p q (y :: r) = inN (lstO (srtL p (y :: r))) (srtL p (y :: r)).length q := by
      rw [lst_srt, srtL_len]; rfl
     rw [i1]
     cases inN (lstO (srtL p (y :: r))) (srtL p (y :: r)).length q with
     | true => exact ⟨11, _, _, rfl, rfl, .inl ⟨rfl, rfl⟩⟩
     | false => exact ⟨0, _, _, rfl, rfl, .inr (.inr ⟨_, _, by omega, grpV_more p y r, rfl⟩)⟩
 · rw [if_pos he, if_pos he]
   exact ⟨_, _, _, rfl, rfl, .inl ⟨rfl, rfl⟩⟩
theorem gr_mem : ∀ j, ∀ l ∈ grL w ls ld zs zd sure j, l.length ≤ ls + 2
 | 0, l, h => by cases h
 | j + 1, l, h => by
   have ih := gr_mem j
   have e : grL w ls ld zs zd sure (j + 1) = if grB w ls ld zs zd sure j = true then grL w ls ld zs zd sure j ++ [jnL w ls ld zs zd sure ((j : Int) - 2)] else grL w ls ld zs zd sure j := rfl
   rw [e] at h
   split at h
   · rcases List.mem_append.1 h with x | x
     · exact ih l x
     · rw [List.mem_singleton.1 x]; exact plL_len _ _
   · exact ih l h
theorem gr_cases : ∃ e2 C, gpA w ls ld zs zd sure = .tup [C, .int .i64 e2] ∧ groA w ls ld zs zd sure = .tup [C, .int .i64 e2] ∧
 (C = .nils ∨ ∃ k f1 f2, k ≤ 1000 ∧ (∀ j, f2 j ≤ 1000) ∧ C = slF k f1 f2) := by
 rw [gpA_groA]
 unfold groA
 by_cases h : chkB w ls ld zs zd = 0
 · have hc := chk_drops h
   rw [if_neg (fun x => x h)]
   have h1 := grL_len w ls ld zs zd sure (ls + 2)
   refine ⟨_, _, rfl, rfl, .inr ⟨_, _, _, by omega, fun j => ?_, rfl⟩⟩
   have hm := gr_mem (w := w) (ls := ls) (ld := ld) (zs := zs) (zd := zd) (sure := sure) (ls + 2)
   generalize grL w ls ld zs zd sure (ls + 2) = L at *
   have : elL L j ∈ L ∨ elL L j = [] := by
    unfold elL
    rw [List.getD_eq_getElem?_getD]
    by_cases hj : j < L.length
    · left; rw [List.getElem?_eq_getElem hj]; exact List.getElem_mem _
    · rw [List.getElem?_eq_none (by omega)]
      cases L with
      | nil => right; rfl
      | cons x r => left; simp [List.getLastD]
   unfold el2
   rcases this with x | x
   · have := hm _ x; omega
   · rw [x]; exact Nat.zero_le _
 · rw [if_pos h]
   exact ⟨_, _, rfl, rfl, .inl rfl⟩
end
section
variable (n : Nat) (w : Int) (ls ld lm : Nat) (zs zd zm : Nat → Int) (H : Heap) (p q : Int) (sure : Bool)
theorem ct34 {f k : Nat} {A : AV} {e : Int} {t : Ctr} (ht : t.Ok (cd k)) (h : ∀ H, cd k (.fn f) [bathA w ls zs ld zd, .int .i64 p, .int .i64 q, .bool sure] H = some (.tup [A, .int .i64 e], H)) : (ctG t f (g34 (bathA w ls zs ld zd) A p q e sure)).Ok (cd k) := by
 refine ctG_ok ht (fun args x v hg hp H => ?_)
 unfold g34 at hg
 split at hg
 · simp only [Option.some.injEq, Prod.mk.injEq] at hg
   obtain ⟨rfl, rfl⟩ := hg
   obtain ⟨rfl, rfl, rfl, rfl⟩ := hp
   exact h H
 · cases hg
theorem ct36 {f k : Nat} {A : AV} {e : Int} {t : Ctr} (ht : t.Ok (cd k)) (h : ∀ H, cd k (.fn f) [bathA w ls zs ld zd, .bool sure] H = some (.tup [A, .int .i64 e], H)) : (ctG t f (g36 (bathA w ls zs ld zd) A e sure)).Ok (cd k) := by
 refine ctG_ok ht (fun args x v hg hp H => ?_)
 unfold g36 at hg
 split at hg
 · simp only [Option.some.injEq, Prod.mk.injEq] at hg
   obtain ⟨rfl, rfl⟩ := hg
   obtain ⟨rfl, rfl⟩ := hp
   exact h H
 · cases hg
theorem ct39 {f k : Nat} {e : Int} {t : Ctr} (ht : t.Ok (cd k)) (h : lm ≤ 1000 → ∀ H, cd k (.fn f) [bathA w ls zs ld zd, .int .i64 p, .int .i64 q, sl1 lm zm false, .bool sure] H = some (.int .i64 e, H)) : (ctG t f (g39 (bathA w ls zs ld zd) (sl1 lm zm false) p q e sure lm)).Ok (cd k) := by
 refine ctG_ok ht (fun args x v hg hp H => ?_)
 unfold g39 at hg
 split at hg
 · simp only [Option.some.injEq, Prod.mk.injEq] at hg
   obtain ⟨rfl, rfl⟩ := hg
   obtain ⟨rfl, rfl, rfl, rfl, rfl, h5⟩ := hp
   rw [leN_eq, decide_eq_true_eq] at h5
   exact h h5 H
 · cases hg
theorem ctTT {f k : Nat} {A C : AV} {t : Ctr} (ht : t.Ok (cd k)) (h : ∀ H, cd k (.fn f) [A, C] H = some (.bool true, H)) : (ctG t f (gTT A C)).Ok (cd k) := by
 refine ctG_ok ht (fun args x v hg hp H => ?_)
 unfold gTT at hg
 split at hg
 · simp only [Option.some.injEq, Prod.mk.injEq] at hg
   obtain ⟨rfl, rfl⟩ := hg
   obtain ⟨rfl, rfl⟩ := hp
   exact h H
 · cases hg
theorem ct7 (k : Nat) {A1 A2 C : AV} {e1 e2 : Int} (h1 : sidP w ls ld zs zd sure p q = .tup [A1, .int .i64 e1]) (h2 : sidA w ls ld zs zd sure p q = .tup [A2, .int .i64 e1]) (h3 : gpA w ls ld zs zd sure = .tup [C, .int .i64 e2]) (h4 : groA w ls ld zs zd sure = .tup [C, .int .i64 e2])
 (h5 : ∀ n H, cd (n + 1) (.fn 31) [A1, A2] H = some (.bool true, H)) (h6 : ∀ n H, cd (n + 2) (.fn 38) [C, C] H = some (.bool true, H)) : (ctG (ctG (ctG (ctG (ctG (ctG (ctG (ctG (ctG noCt 16 g16) 34 (g34 (bathA w ls zs ld zd) A1 p q e1 sure)) 35 (g34 (bathA w ls zs ld zd) A2 p q e1 sure)) 36 (g36 (bathA w ls zs ld zd) C e2 sure)) 37 (g36 (bathA w ls zs ld zd) C e2 sure)) 31 (gTT A1 A2)) 38 (gTT C C)) 39 (g39 (bathA w ls zs ld zd) (sl1 lm zm false) p q (csE w ls ld zs zd sure p q lm zm) sure lm)) 40 (g39 (bathA w ls zs ld zd) (sl1 lm zm false) p q (csE w ls ld zs zd sure p q lm zm) sure lm)).Ok (cd (n + 18 + k)) := by
 refine ct39 _ _ _ _ _ _ _ _ _ _ (ct39 _ _ _ _ _ _ _ _ _ _ (ctTT (ctTT (ct36 _ _ _ _ _ _ (ct36 _ _ _ _ _ _ (ct34 _ _ _ _ _ _ _ _ (ct34 _ _ _ _ _ _ _ _ ?_ (fun H => ?_)) (fun H => ?_)) (fun H => ?_)) (fun H => ?_)) (fun H => ?_)) (fun H => ?_)) (fun hm H => ?_)) (fun hm H => ?_)
 · rw [show n + 18 + k = n + 17 + k + 1 by omega]; exact ctW (noCt_ok _)
 · rw [show n + 18 + k = n + 3 + k + 15 by omega, ← h1]; exact c34 _ w ls ld zs zd H p q sure
 · rw [show n + 18 + k = n + 9 + k + 9 by omega, ← h2]; exact c35 _ w ls ld zs zd H sure p q
 · rw [show n + 18 + k = n + 2 + k + 16 by omega, ← h3]; exact c36 _ w ls ld zs zd H sure
 · rw [show n + 18 + k = n + 9 + k + 9 by omega, ← h4]; exact c37 _ w ls ld zs zd H sure
 · rw [show n + 18 + k = n + 17 + k + 1 by omega]; exact h5 _ H
 · rw [show n + 18 + k = n + 16 + k + 2 by omega]; exact h6 _ H
 · rw [show n + 18 + k = n + 3 + k + 15 by omega, ← cs_eq]; exact c39 _ w ls ld lm zs zd zm H p q sure hm
 · rw [show n + 18 + k = n + 10 + k + 8 by omega]; exact c40 _ w ls ld lm zs zd zm H p q sure false hm
theorem c7 : cd (n + 20) (.fn 7) [bathA w ls zs ld zd, .int .i64 p, .int .i64 q, sl1 lm zm false, .bool sure] H = some (.bool true, H) := by
 obtain ⟨e1, A1, A2, h1, h2, hA⟩ := sd_cases (w := w) (ls := ls) (ld := ld) (zs := zs) (zd := zd) (sure := sure) (p := p) (q := q)
 obtain ⟨e2, C, h3, h4, hC⟩ := gr_cases (w := w) (ls := ls) (ld := ld) (zs := zs) (zd := zd) (sure := sure)
 have h6 : ∀ n H, cd (n + 2) (.fn 38) [C, C] H = some (.bool true, H) := fun n H => by
  rcases hC with rfl | ⟨k, f1, f2, g1, g2, rfl⟩
  · exact c38n (n + 1) H
  · exact c38 n H k f1 f2 g1 g2
 have h5 : ∀ n H, cd (n + 1) (.fn 31) [A1, A2] H = some (.bool true, H) := fun n H => by
  rcases hA with ⟨rfl, rfl⟩ | ⟨z, rfl, rfl, hz⟩ | ⟨m, z, hm, rfl, rfl⟩
  · exact c31n n H
  · exact c31s n H p z hz
  · exact c31 n H m z z false false hm (fun _ _ => rfl)
 have hct := fun k => ct7 n w ls ld lm zs zd zm p q sure k h1 h2 h3 h4 h5 h6
 rcases hA with ⟨rfl, rfl⟩ | ⟨z, rfl, rfl, hz⟩ | ⟨m, z, hm, rfl, rfl⟩ <;> rcases hC with rfl | ⟨k, f1, f2, g1, g2, rfl⟩
 · refine fn_all (n := n + 19) Try.func7 rfl rfl rfl (u7nn n w ls ld lm zs zd zm H p q e1 e2 (csE w ls ld zs zd sure p q lm zm) sure) (il_ok _ (n + 18) 1 hct) (noBT_ok _ _) (noRT_ok _ _) ?_
   repeat' first | (refine Tr.all_ite (fun hc => ?_) (fun hc => ?_) <;> (try simp (disch := omega) only [nV, mulO_eq, Int.cast_ofNat_Int, eq_self, and_self, and_true, true_and] at hc) <;> (try (exfalso; omega))) | (refine Tr.all_req ?_ ?_; · ((try simp (disch := omega) only [nV, mulO_eq, Int.cast_ofNat_Int, eq_self, and_self, and_true, true_and]); try omega)) | (refine Tr.all_reqP ?_ ?_; · first | exact trivial | rfl | exact ⟨rfl, rfl⟩ | exact ⟨rfl, rfl, rfl⟩ | (simp (disch := omega) only [nV, mulO_eq, Int.cast_ofNat_Int, eq_self, and_self, and_true, true_and]; done) | ((try simp (disch := omega) only [nV, mulO_eq, Int.cast_ofNat_Int, eq_self, and_self, and_true, true_and]); omega)) | fail
   all_goals exact Tr.all_ok ⟨rfl, rfl⟩
 · refine fn_all (n := n + 19) Try.func7 rfl rfl rfl (u7nf n w ls ld lm zs zd zm H p q e1 e2 (csE w ls ld zs zd sure p q lm zm) sure k f1 f2) (il_ok _ (n + 18) 1 hct) (noBT_ok _ _) (noRT_ok _ _) ?_
   repeat' first | (refine Tr.all_ite (fun hc => ?_) (fun hc => ?_) <;> (try simp (disch := omega) only [nV, mulO_eq, Int.cast_ofNat_Int, eq_self, and_self, and_true, true_and] at hc) <;> (try (exfalso; omega))) | (refine Tr.all_req ?_ ?_; · ((try simp (disch := omega) only [nV, mulO_eq, Int.cast_ofNat_Int, eq_self, and_self, and_true, true_and]); try omega)) | (refine Tr.all_reqP ?_ ?_; · first | exact trivial | rfl | exact ⟨rfl, rfl⟩ | exact ⟨rfl, rfl, rfl⟩ | (simp (disch := omega) only [nV, mulO_eq, Int.cast_ofNat_Int, eq_self, and_self, and_true, true_and]; done) | ((try simp (disch := omega) only [nV, mulO_eq, Int.cast_ofNat_Int, eq_self, and_self, and_true, true_and]); omega)) | fail
   all_goals exact Tr.all_ok ⟨rfl, rfl⟩
 · refine fn_all (n := n + 19) Try.func7 rfl rfl rfl (u7sn n w ls ld lm zs zd zm H p q e1 e2 (csE w ls ld zs zd sure p q lm zm) sure z) (il_ok _ (n + 18) 1 hct) (noBT_ok _ _) (noRT_ok _ _) ?_
   repeat' first | (refine Tr.all_ite (fun hc => ?_) (fun hc => ?_) <;> (try simp (disch := omega) only [nV, mulO_eq, Int.cast_ofNat_Int, eq_self, and_self, and_true, true_and] at hc) <;> (try (exfalso; omega))) | (refine Tr.all_req ?_ ?_; · ((try simp (disch := omega) only [nV, mulO_eq, Int.cast_ofNat_Int, eq_self, and_self, and_true, true_and]); try omega)) | (refine Tr.all_reqP ?_ ?_; · first | exact trivial | rfl | exact ⟨rfl, rfl⟩ | exact ⟨rfl, rfl, rfl⟩ | (simp (disch := omega) only [nV, mulO_eq, Int.cast_ofNat_Int, eq_self, and_self, and_true, true_and]; done) | ((try simp (disch := omega) only [nV, mulO_eq, Int.cast_ofNat_Int, eq_self, and_self, and_true, true_and]); omega)) | fail
   all_goals exact Tr.all_ok ⟨rfl, rfl⟩
 · refine fn_all (n := n + 19) Try.func7 rfl rfl rfl (u7sf n w ls ld lm zs zd zm H p q e1 e2 (csE w ls ld zs zd sure p q lm zm) sure z k f1 f2) (il_ok _ (n + 18) 1 hct) (noBT_ok _ _) (noRT_ok _ _) ?_
   repeat' first | (refine Tr.all_ite (fun hc => ?_) (fun hc => ?_) <;> (try simp (disch := omega) only [nV, mulO_eq, Int.cast_ofNat_Int, eq_self, and_self, and_true, true_and] at hc) <;> (try (exfalso; omega))) | (refine Tr.all_req ?_ ?_; · ((try simp (disch := omega) only [nV, mulO_eq, Int.cast_ofNat_Int, eq_self, and_self, and_true, true_and]); try omega)) | (refine Tr.all_reqP ?_ ?_; · first | exact trivial | rfl | exact ⟨rfl, rfl⟩ | exact ⟨rfl, rfl, rfl⟩ | (simp (disch := omega) only [nV, mulO_eq, Int.cast_ofNat_Int, eq_self, and_self, and_true, true_and]; done) | ((try simp (disch := omega) only [nV, mulO_eq, Int.cast_ofNat_Int, eq_self, and_self, and_true, true_and]); omega)) | fail
   all_goals exact Tr.all_ok ⟨rfl, rfl⟩
 · refine fn_all (n := n + 19) Try.func7 rfl rfl rfl (u7ln n w ls ld lm zs zd zm H p q e1 e2 (csE w ls ld zs zd sure p q lm zm) sure m z) (il_ok _ (n + 18) 1 hct) (noBT_ok _ _) (noRT_ok _ _) ?_
   repeat' first | (refine Tr.all_ite (fun hc => ?_) (fun hc => ?_) <;> (try simp (disch := omega) only [nV, mulO_eq, Int.cast_ofNat_Int, eq_self, and_self, and_true, true_and] at hc) <;> (try (exfalso; omega))) | (refine Tr.all_req ?_ ?_; · ((try simp (disch := omega) only [nV, mulO_eq, Int.cast_ofNat_Int, eq_self, and_self, and_true, true_and]); try omega)) | (refine Tr.all_reqP ?_ ?_; · first | exact trivial | rfl | exact ⟨rfl, rfl⟩ | exact ⟨rfl, rfl, rfl⟩ | (simp (disch := omega) only [nV, mulO_eq, Int.cast_ofNat_Int, eq_self, and_self, and_true, true_and]; done) | ((try simp (disch := omega) only [nV, mulO_eq, Int.cast_ofNat_Int, eq_self, and_self, and_true, true_and]); omega)) | fail
   all_goals exact Tr.all_ok ⟨rfl, rfl⟩
 · refine fn_all (n := n + 19) Try.func7 rfl rfl rfl (u7lf n w ls ld lm zs zd zm H p q e1 e2 (csE w ls ld zs zd sure p q lm zm) sure m z k f1 f2) (il_ok _ (n + 18) 1 hct) (noBT_ok _ _) (noRT_ok _ _) ?_
   repeat' first | (refine Tr.all_ite (fun hc => ?_) (fun hc => ?_) <;> (try simp (disch := omega) only [nV, mulO_eq, Int.cast_ofNat_Int, eq_self, and_self, and_true, true_and] at hc) <;> (try (exfalso; omega))) | (refine Tr.all_req ?_ ?_; · ((try simp (disch := omega) only [nV, mulO_eq, Int.cast_ofNat_Int, eq_self, and_self, and_true, true_and]); try omega)) | (refine Tr.all_reqP ?_ ?_; · first | exact trivial | rfl | exact ⟨rfl, rfl⟩ | exact ⟨rfl, rfl, rfl⟩ | (simp (disch := omega) only [nV, mulO_eq, Int.cast_ofNat_Int, eq_self, and_self, and_true, true_and]; done) | ((try simp (disch := omega) only [nV, mulO_eq, Int.cast_ofNat_Int, eq_self, and_self, and_true, true_and]); omega)) | fail
   all_goals exact Tr.all_ok ⟨rfl, rfl⟩
end
end Go.Eng
end
section
namespace Go.Eng
open Go.Proofs Go.ChangeShapes
set_option linter.unusedVariables false
set_option maxRecDepth 100000

theorem toM {p : Pst} {M : Mu} {k : IntKind} {z : Nat → Int} {N sz len : Nat} {full : Bool} {v : Value} (h : VRel p M (.slcT none (.F (fun j => .int k (z j)) N) sz len full) v) : VRel p M (.slcT none (.M [.arr k z N]) sz len full) v := by
 cases h with
 | slcN => exact .slcN
 | slcT vs h0 h1 hv hl hf hx =>
   have e : ∀ j, j < (Row.M [Seg.arr k z N]).len → j < N := fun j hj => by simpa [Row.len, lenM, segLen] using hj
   refine .slcT vs (fun j hj => h0 j (e j hj)) (fun j hj => h1 j (e j hj)) (fun j hj => ?_) hl hf hx
   have := hv j (e j hj)
   simp only [Row.get, getM, if_pos (e j hj)] at this ⊢
   exact this.anyInt _ _
theorem flat2 : FlatI Try.prog 2 1 := flat_int Try.underlying2
theorem flat3 : FlatI Try.prog 3 1 := flat_int Try.underlying3
theorem flat74 : FlatI Try.prog 74 2 := flat_struct2 Try.underlying74 flat2 flat2 rfl rfl (by kernel_rfl) (by kernel_rfl) (by kernel_rfl)
theorem flat29 : FlatI Try.prog 29 2 := flat_struct2 Try.underlying29 flat2 flat2 rfl rfl (by kernel_rfl) (by kernel_rfl) (by kernel_rfl)
theorem flat62 : FlatI Try.prog 62 3 := flat_struct2 Try.underlying62 flat3 flat29 rfl rfl (by kernel_rfl) (by kernel_rfl) (by kernel_rfl)

theorem slice_spot {P : Program} {w : World} {r : Reach} {base : Nat} {t e : TypeId} {v : Value} (ht : P.underlying t = some (.slice e)) (h : Cell.okWide P w r base t v) : ∀ a l c, v = .slice (some a) l c → a.spot = none := by
 rintro a l c rfl
 simp only [Cell.okWide, ht, Cell.ok] at h
 exact h.2.2.2.1

theorem slice_arg {t e n : Nat} (ht : Try.prog.underlying t = some (.slice e)) (he : FlatI Try.prog e n) (hn : 0 < n) (hc : Try.prog.cellsOf e = n) {H : Type} {enc : TypeId × Value → H} {w : World} {r : Reach} {b0 base : Nat} {sp : Nat → Bool} {held : Bool} {fuel : Nat} {v : Value} {x : DataW H × List MemPlace}
 (hv : Cell.okWide Try.prog w r b0 t v) (h : DataW.trod enc Try.prog w base sp held fuel t [v] = some x) : ∃ len z, VRel (Pw w) Mu.no (slA n len z) v ∧ v.oneCell' = true := by
 rcases slice_flat ht he hn hc (slice_spot ht hv) h with rfl | ⟨zs, len, h1, h2⟩
 · exact ⟨0, fun _ => 0, .slcN, rfl⟩
 · refine ⟨len, zs, ?_, ?_⟩
   · unfold slA
     rw [mulS_eq]
     exact toM h1
   · cases h1 <;> rfl

theorem bath_arg {H : Type} {enc : TypeId × Value → H} {w : World} {r : Reach} {b0 base : Nat} {sp : Nat → Bool} {held : Bool} {v : Value} {d : DataW H} {ps : List MemPlace} (hv : Value.okWide Try.prog w r b0 25 v) (h : DataW.Trod enc Try.prog w base sp held 25 v d ps) :
 ∃ (wd : Int) (ls : Nat) (zs : Nat → Int) (ld : Nat) (zd : Nat → Int), VRel (Pw w) Mu.no (bathA wd ls zs ld zd) v := by
 have hts : Try.prog.cellTypes Try.prog.depth 25 = some [2, 22, 23] := by kernel_rfl
 have hc25 : Try.prog.cellsOf 25 = 3 := by kernel_rfl
 have hc2 : Try.prog.cellsOf 2 = 1 := by kernel_rfl
 have hc22 : Try.prog.cellsOf 22 = 1 := by kernel_rfl
 have hc23 : Try.prog.cellsOf 23 = 1 := by kernel_rfl
 have hc74 : Try.prog.cellsOf 74 = 2 := by kernel_rfl
 have hc62 : Try.prog.cellsOf 62 = 3 := by kernel_rfl
 simp only [Value.okWide, Try.underlying25] at hv
 obtain ⟨cs, rfl, hsz, ts, ht, _, hcell⟩ := hv
 rw [hts] at ht
 obtain rfl := Option.some.inj ht
 rw [hc25] at hsz
 obtain ⟨fuel, hf⟩ := h
 obtain ⟨xs, n, _, _, _, hxl, hfield⟩ := DataW.trod_struct Try.underlying25 hf
 have e3 : ∃ c0 c1 c2, cs = #[c0, c1, c2] := by
  refine ⟨cs[0], cs[1], cs[2], ?_⟩
  apply Array.ext
  · simpa using hsz
  · intro i h1 h2
    simp at h2
    match i, h2 with
    | 0, _ => rfl
    | 1, _ => rfl
    | 2, _ => rfl
 obtain ⟨c0, c1, c2, rfl⟩ := e3
 have some_of : ∀ i, i < 3 → ∃ y, xs[i]? = some y := fun i hi => by
  have : i < xs.length := by rw [hxl]; simpa using hi
  exact ⟨xs[i], List.getElem?_eq_getElem this⟩
 obtain ⟨y0, hy0⟩ := some_of 0 (by omega)
 obtain ⟨y1, hy1⟩ := some_of 1 (by omega)
 obtain ⟨y2, hy2⟩ := some_of 2 (by omega)
 have f0 := hfield 0 _ rfl
 have f1 := hfield 1 _ rfl
 have f2 := hfield 2 _ rfl
 rw [hy0] at f0
 rw [hy1] at f1
 rw [hy2] at f2
 simp only [Value.cells] at f0 f1 f2
 have g0 : DataW.trod enc Try.prog w base sp held n 2 [c0] = some y0 := by simpa [hc2] using f0
 have g1 : DataW.trod enc Try.prog w base sp held n 22 [c1] = some y1 := by simpa [hc22] using f1
 have g2 : DataW.trod enc Try.prog w base sp held n 23 [c2] = some y2 := by simpa [hc23] using f2
 obtain ⟨wd, e0, _, hw⟩ := DataW.trod_int Try.underlying2 g0
 simp only [List.cons.injEq, and_true] at e0
 subst e0
 obtain ⟨u1, hu1, k1⟩ := hcell 1 c1 rfl
 obtain ⟨u2, hu2, k2⟩ := hcell 2 c2 rfl
 simp at hu1 hu2
 subst hu1; subst hu2
 obtain ⟨ls, zs, r1, o1⟩ := slice_arg Try.underlying22 flat74 (by omega) hc74 k1 g1
 obtain ⟨ld, zd, r2, o2⟩ := slice_arg Try.underlying23 flat62 (by omega) hc62 k2 g2
 refine ⟨wd, ls, zs, ld, zd, ?_⟩
 refine .agg rfl (fun j hj => ?_) (fun j hj => ?_)
 · have hj' : j < 3 := hj
   match j, hj' with
   | 0, _ => rfl
   | 1, _ => exact o1
   | 2, _ => exact o2
 · have hj' : j < 3 := hj
   match j, hj' with
   | 0, _ => exact .int _ _
   | 1, _ => exact r1
   | 2, _ => exact r2

end Go.Eng
end
section
namespace Go.Proofs.Ytjmjkhpfipglcaa.Known
open Go.Eng Go.Proofs
set_option maxRecDepth 100000
theorem named : Named Try.prog := by
 have h : (Try.prog.funcs.toList.all fun fn => fn.body.isNone || !(fn.name == "runtime.NumGoroutine")) = true := by kernel_rfl
 intro f fn hf hb
 have := List.all_eq_true.1 h fn (by simpa using Array.mem_of_getElem? hf)
 rw [hb] at this
 simpa using this
theorem mixed : Try.prog.follows .mixedOrders = true := by kernel_rfl
def bathB : AV := .agg (.G [.int .i64 100, .slcT none (.I .i64 [20, 50, 50, 50, 80, 50]) 2 3 true, .slcT none (.I .i64 [0, 100, 144, 1, 225, 400, 0, 200, 300, 2, 100, 100]) 3 4 true])
def bathC : AV := .agg (.G [.int .i64 100, .slcT none (.I .i64 [20, 50, 50, 50, 80, 50]) 2 3 true, .slcT none (.I .i64 [0, 100, 144, 2, 100, 100]) 3 2 true])
def E0 : Ora := ⟨77, [bathB], .ptrT (some 0) (.G [.int .i64 100, .slcT none (.I .i64 [20, 50, 50, 50, 80, 50]) 2 3 true, .slcT none (.I .i64 [0, 100, 144, 1, 225, 400, 0, 200, 300, 2, 100, 100]) 3 4 true, .slcT none (.I .i64 [300, 444, 225, 400, 100, 100]) 2 3 true, .int .i64 0, .int .i64 0, .int .i64 0, .int .i64 0, .int .i64 0, .int .i64 0, .int .i64 0, .int .i64 0, .int .i64 0, .int .i64 0, .int .i64 0, .int .i64 0, .int .i64 0, .int .i64 0, .int .i64 1, .int .i64 0, .int .i64 0, .int .i64 0, .int .i64 0, .int .i64 0, .int .i64 0, .int .i64 0, .int .i64 0, .int .i64 0, .int .i64 0, .int .i64 1, .int .i64 0, .int .i64 2, .int .i64 0, .int .i64 0, .int .i64 0, .int .i64 0, .int .i64 0, .int .i64 0, .int .i64 0, .int .i64 0, .int .i64 0, .int .i64 0, .int .i64 2, .int .i64 0, .int .i64 1, .int .i64 0, .int .i64 0, .int .i64 0, .int .i64 0, .int .i64 0, .int .i64 0, .int .i64 0, .int .i64 0, .int .i64 0, .int .i64 0, .int .i64 1, .int .i64 0, .int .i64 0, .int .i64 0, .int .i64 0, .int .i64 0, .int .i64 0, .int .i64 0, .int .i64 0, .int .i64 0, .int .i64 0, .int .i64 0, .int .i64 0, .int .i64 0, .int .i64 0, .int .i64 0, .int .i64 0, .int .i64 0, .int .i64 0, .int .i64 0, .int .i64 0, .int .i64 0, .int .i64 0, .int .i64 0, .int .i64 0, .int .i64 0, .int .i64 0, .int .i64 0, .int .i64 0, .int .i64 0, .int .i64 0, .int .i64 0, .int .i64 0, .int .i64 0, .int .i64 0, .int .i64 0, .int .i64 0, .int .i64 0, .int .i64 0, .int .i64 0, .int .i64 0, .int .i64 0, .int .i64 0, .int .i64 0, .int .i64 0, .int .i64 0, .int .i64 0, .int .i64 0, .int .i64 0, .int .i64 0, .int .i64 0, .int .i64 0, .int .i64 0, .int .i64 0, .int .i64 0, .int .i64 0, .int .i64 0, .int .i64 0, .int .i64 0, .int .i64 0, .int .i64 0, .int .i64 0, .int .i64 0, .int .i64 0, .int .i64 0, .int .i64 0, .int .i64 0, .int .i64 0, .int .i64 0, .int .i64 0, .int .i64 0, .int .i64 0, .int .i64 0, .int .i64 0, .int .i64 0, .int .i64 0, .int .i64 0, .int .i64 0, .int .i64 0, .int .i64 0, .int .i64 0, .int .i64 0, .int .i64 0, .int .i64 0, .int .i64 0, .int .i64 0, .int .i64 0, .int .i64 0, .int .i64 0, .int .i64 0, .int .i64 0, .int .i64 0, .int .i64 0]) 0⟩
def E1 : Ora := ⟨77, [bathC], .ptrT (some 0) (.G [.int .i64 100, .slcT none (.I .i64 [20, 50, 50, 50, 80, 50]) 2 3 true, .slcT none (.I .i64 [0, 100, 144, 2, 100, 100]) 3 2 true, .slcT none (.I .i64 [100, 144, 0, 0, 100, 100]) 2 3 true, .int .i64 0, .int .i64 0, .int .i64 0, .int .i64 0, .int .i64 0, .int .i64 0, .int .i64 0, .int .i64 0, .int .i64 0, .int .i64 0, .int .i64 0, .int .i64 0, .int .i64 0, .int .i64 0, .int .i64 0, .int .i64 0, .int .i64 0, .int .i64 0, .int .i64 0, .int .i64 0, .int .i64 0, .int .i64 0, .int .i64 0, .int .i64 0, .int .i64 0, .int .i64 0, .int .i64 0, .int .i64 0, .int .i64 0, .int .i64 0, .int .i64 0, .int .i64 0, .int .i64 0, .int .i64 0, .int .i64 0, .int .i64 0, .int .i64 0, .int .i64 0, .int .i64 0, .int .i64 0, .int .i64 0, .int .i64 0, .int .i64 0, .int .i64 0, .int .i64 0, .int .i64 0, .int .i64 0, .int .i64 0, .int .i64 0, .int .i64 0, .int .i64 0, .int .i64 0, .int .i64 0, .int .i64 0, .int .i64 0, .int .i64 0, .int .i64 0, .int .i64 0, .int .i64 0, .int .i64 0, .int .i64 0, .int .i64 0, .int .i64 0, .int .i64 0, .int .i64 0, .int .i64 0, .int .i64 0, .int .i64 0, .int .i64 0, .int .i64 0, .int .i64 0, .int .i64 0, .int .i64 0, .int .i64 0, .int .i64 0, .int .i64 0, .int .i64 0, .int .i64 0, .int .i64 0, .int .i64 0, .int .i64 0, .int .i64 0, .int .i64 0, .int .i64 0, .int .i64 0, .int .i64 0, .int .i64 0, .int .i64 0, .int .i64 0, .int .i64 0, .int .i64 0, .int .i64 0, .int .i64 0, .int .i64 0, .int .i64 0, .int .i64 0, .int .i64 0, .int .i64 0, .int .i64 0, .int .i64 0, .int .i64 0, .int .i64 0, .int .i64 0, .int .i64 0, .int .i64 0, .int .i64 0, .int .i64 0, .int .i64 0, .int .i64 0, .int .i64 0, .int .i64 0, .int .i64 0, .int .i64 0, .int .i64 0, .int .i64 0, .int .i64 0, .int .i64 0, .int .i64 0, .int .i64 0, .int .i64 0, .int .i64 0, .int .i64 0, .int .i64 0, .int .i64 0, .int .i64 0, .int .i64 0, .int .i64 0, .int .i64 0, .int .i64 0, .int .i64 0, .int .i64 0, .int .i64 0, .int .i64 0, .int .i64 0, .int .i64 0, .int .i64 0, .int .i64 0, .int .i64 0, .int .i64 0, .int .i64 0, .int .i64 0, .int .i64 0, .int .i64 0, .int .i64 0]) 0⟩
theorem none_ok : ∀ e ∈ ([] : List Ora), OneOk Try.prog e := fun e h => by cases h
theorem ok0 : OneOk Try.prog E0 := one_of named mixed none_ok Kt.kt 100000 40 (H' := [⟨true, []⟩]) (by kernel_rfl) (by kernel_rfl)
theorem ok1 : OneOk Try.prog E1 := one_of named mixed none_ok Kt.kt 100000 40 (H' := [⟨true, []⟩]) (by kernel_rfl) (by kernel_rfl)
def tab1 : List Ora := [E0, E1]
theorem tab1_ok : ∀ e ∈ tab1, OneOk Try.prog e := by
 intro e h
 simp only [tab1, List.mem_cons, List.not_mem_nil, or_false] at h
 rcases h with rfl | rfl
 · exact ok0
 · exact ok1
end Go.Proofs.Ytjmjkhpfipglcaa.Known
end
