/- Drop: Beside of the definitions. -/
import Derived.Test.YtjmjkhpfipglcaaV4DrY
import Derived.Test.YtjmjkhpfipglcaaV4DrW
namespace Go.Eng
open Go.Proofs
set_option linter.unusedVariables false
set_option linter.unusedSimpArgs false
set_option maxRecDepth 100000
noncomputable def fr24 (p q s i : Int) : Frm := [(1, AV.int .i64 p), (2, AV.int .i64 q), (3, AV.ptr 0 0 0 0), (8, AV.int .i64 s), (10, AV.int .i64 i)]
def g75 (B : AV) (ld : Nat) (fi : Int → Bool) : List AV → Option (Prop × AV)
  | [b, .int .i64 p] => some (b = B ∧ inI p ld = true, .bool (fi p))
  | _ => none
theorem w24 (n : Nat) (w : Int) (ls ld : Nat) (zs zd : Nat → Int) (H : Heap) (p q e : Int) : bodyT Try.prog (cd (n+6)) 100000 24 Try.f24 (Kt.kt 24) (il (ctG (ctG (ctG noCt 20 (g20 (bathA w ls zs ld zd) e)) 75 fun _ => none) 71 fun _ => none) (n+5) 1) noBT noRT [(bathA w ls zs ld zd, none), (.int .i64 p, none), (.int .i64 q, none)] H =
  Tr.reqP (AV.agg (Row.G [AV.int IntKind.i64 w, AV.slcT none (Row.M [Seg.arr IntKind.i64 zs (mulO ls 2)]) 2 ls false, AV.slcT none (Row.M [Seg.arr IntKind.i64 zd (mulO ld 3)]) 3 ld false]) = AV.agg (Row.G [AV.int IntKind.i64 w, AV.slcT none (Row.M [Seg.arr IntKind.i64 zs (mulO ls 2)]) 2 ls false, AV.slcT none (Row.M [Seg.arr IntKind.i64 zd (mulO ld 3)]) 3 ld false]))
    (Tr.ite (notB (eqI e (Int.ofNat 0)))
      (Tr.reqP (AV.agg (Row.G [AV.int IntKind.i64 w, AV.slcT none (Row.M [Seg.arr IntKind.i64 zs (mulO ls 2)]) 2 ls false, AV.slcT none (Row.M [Seg.arr IntKind.i64 zd (mulO ld 3)]) 3 ld false]) = AV.agg (Row.G [AV.int IntKind.i64 w, AV.slcT none (Row.M [Seg.arr IntKind.i64 zs (mulO ls 2)]) 2 ls false, AV.slcT none (Row.M [Seg.arr IntKind.i64 zd (mulO ld 3)]) 3 ld false]))
        (Tr.ok ((AV.tup [AV.int IntKind.i64 (Int.ofNat 0), AV.int IntKind.i64 e], none), H)))
      (Tr.ite (leI (Int.ofNat 0) p)
        (Tr.ite (notB (ltI p (Int.ofNat ld))) (Tr.ok ((AV.tup [AV.int IntKind.i64 (Int.ofNat 0), AV.int IntKind.i64 (Int.ofNat 2)], none), H))
          (Tr.ite (leI (Int.ofNat 0) q)
            (Tr.ite (notB (ltI q (Int.ofNat ld))) (Tr.ok ((AV.tup [AV.int IntKind.i64 (Int.ofNat 0), AV.int IntKind.i64 (Int.ofNat 2)], none), H))
              (Tr.ite (eqI p q) (Tr.ok ((AV.tup [AV.int IntKind.i64 (Int.ofNat 0), AV.int IntKind.i64 (Int.ofNat 2)], none), H))
                (Tr.req (inI p ld)
                  (Tr.req (ltN (idO 0 p 3) (mulO ld 3))
                    (Tr.req (inI q ld)
                      (Tr.req (ltN (idO 0 q 3) (mulO ld 3))
                        (Tr.ite (eqI (zd (idO 0 p 3)) (zd (idO 0 q 3)))
                          (Tr.ite (ltI (addI IntKind.i64 (minO p q) (Int.ofNat 1)) (maxO p q))
                            (Tr.req (inI (addI IntKind.i64 (minO p q) (Int.ofNat 1)) ld)
                              (Tr.req (ltN (idO 0 (addI IntKind.i64 (minO p q) (Int.ofNat 1)) 3) (mulO ld 3))
                                (Tr.ite (eqI (zd (idO 0 (addI IntKind.i64 (minO p q) (Int.ofNat 1)) 3)) (zd (idO 0 p 3))) (Tr.ok ((AV.tup [AV.int IntKind.i64 (Int.ofNat 0), AV.int IntKind.i64 (Int.ofNat 0)], none), H))
                                  (Tr.ite (ltI (addI IntKind.i64 (addI IntKind.i64 (minO p q) (Int.ofNat 1)) (Int.ofNat 1)) (maxO p q))
                                    (Tr.req (inI (addI IntKind.i64 (addI IntKind.i64 (minO p q) (Int.ofNat 1)) (Int.ofNat 1)) ld)
                                      (Tr.req (ltN (idO 0 (addI IntKind.i64 (addI IntKind.i64 (minO p q) (Int.ofNat 1)) (Int.ofNat 1)) 3) (mulO ld 3))
                                        (Tr.ite (eqI (zd (idO 0 (addI IntKind.i64 (addI IntKind.i64 (minO p q) (Int.ofNat 1)) (Int.ofNat 1)) 3)) (zd (idO 0 p 3))) (Tr.ok ((AV.tup [AV.int IntKind.i64 (Int.ofNat 0), AV.int IntKind.i64 (Int.ofNat 0)], none), H))
                                          (Tr.ite (ltI (addI IntKind.i64 (addI IntKind.i64 (addI IntKind.i64 (minO p q) (Int.ofNat 1)) (Int.ofNat 1)) (Int.ofNat 1)) (maxO p q))
                                            (Tr.req (inI (addI IntKind.i64 (addI IntKind.i64 (addI IntKind.i64 (minO p q) (Int.ofNat 1)) (Int.ofNat 1)) (Int.ofNat 1)) ld)
                                              (Tr.req (ltN (idO 0 (addI IntKind.i64 (addI IntKind.i64 (addI IntKind.i64 (minO p q) (Int.ofNat 1)) (Int.ofNat 1)) (Int.ofNat 1)) 3) (mulO ld 3))
                                                (Tr.ite (eqI (zd (idO 0 (addI IntKind.i64 (addI IntKind.i64 (addI IntKind.i64 (minO p q) (Int.ofNat 1)) (Int.ofNat 1)) (Int.ofNat 1)) 3)) (zd (idO 0 p 3))) (Tr.ok ((AV.tup [AV.int IntKind.i64 (Int.ofNat 0), AV.int IntKind.i64 (Int.ofNat 0)], none), H))
                                                  (Tr.ite (ltI (addI IntKind.i64 (addI IntKind.i64 (addI IntKind.i64 (addI IntKind.i64 (minO p q) (Int.ofNat 1)) (Int.ofNat 1)) (Int.ofNat 1)) (Int.ofNat 1)) (maxO p q))
                                                    (Tr.req (inI (addI IntKind.i64 (addI IntKind.i64 (addI IntKind.i64 (addI IntKind.i64 (minO p q) (Int.ofNat 1)) (Int.ofNat 1)) (Int.ofNat 1)) (Int.ofNat 1)) ld)
                                                      (Tr.req (ltN (idO 0 (addI IntKind.i64 (addI IntKind.i64 (addI IntKind.i64 (addI IntKind.i64 (minO p q) (Int.ofNat 1)) (Int.ofNat 1)) (Int.ofNat 1)) (Int.ofNat 1)) 3) (mulO ld 3))
                                                        (Tr.ite (eqI (zd (idO 0 (addI IntKind.i64 (addI IntKind.i64 (addI IntKind.i64 (addI IntKind.i64 (minO p q) (Int.ofNat 1)) (Int.ofNat 1)) (Int.ofNat 1)) (Int.ofNat 1)) 3)) (zd (idO 0 p 3))) (Tr.ok ((AV.tup [AV.int IntKind.i64 (Int.ofNat 0), AV.int IntKind.i64 (Int.ofNat 0)], none), H))
                                                          (Tr.ite (ltI (addI IntKind.i64 (addI IntKind.i64 (addI IntKind.i64 (addI IntKind.i64 (addI IntKind.i64 (minO p q) (Int.ofNat 1)) (Int.ofNat 1)) (Int.ofNat 1)) (Int.ofNat 1)) (Int.ofNat 1)) (maxO p q))
                                                            (Tr.req (inI (addI IntKind.i64 (addI IntKind.i64 (addI IntKind.i64 (addI IntKind.i64 (addI IntKind.i64 (minO p q) (Int.ofNat 1)) (Int.ofNat 1)) (Int.ofNat 1)) (Int.ofNat 1)) (Int.ofNat 1)) ld)
                                                              (Tr.req (ltN (idO 0 (addI IntKind.i64 (addI IntKind.i64 (addI IntKind.i64 (addI IntKind.i64 (addI IntKind.i64 (minO p q) (Int.ofNat 1)) (Int.ofNat 1)) (Int.ofNat 1)) (Int.ofNat 1)) (Int.ofNat 1)) 3) (mulO ld 3))
                                                                (Tr.ite (eqI (zd (idO 0 (addI IntKind.i64 (addI IntKind.i64 (addI IntKind.i64 (addI IntKind.i64 (addI IntKind.i64 (minO p q) (Int.ofNat 1)) (Int.ofNat 1)) (Int.ofNat 1)) (Int.ofNat 1)) (Int.ofNat 1)) 3)) (zd (idO 0 p 3))) (Tr.ok ((AV.tup [AV.int IntKind.i64 (Int.ofNat 0), AV.int IntKind.i64 (Int.ofNat 0)], none), H))
                                                                  (Tr.ite (ltI (addI IntKind.i64 (addI IntKind.i64 (addI IntKind.i64 (addI IntKind.i64 (addI IntKind.i64 (addI IntKind.i64 (minO p q) (Int.ofNat 1)) (Int.ofNat 1)) (Int.ofNat 1)) (Int.ofNat 1)) (Int.ofNat 1)) (Int.ofNat 1)) (maxO p q))
                                                                    (Tr.req (inI (addI IntKind.i64 (addI IntKind.i64 (addI IntKind.i64 (addI IntKind.i64 (addI IntKind.i64 (addI IntKind.i64 (minO p q) (Int.ofNat 1)) (Int.ofNat 1)) (Int.ofNat 1)) (Int.ofNat 1)) (Int.ofNat 1)) (Int.ofNat 1)) ld)
                                                                      (Tr.req (ltN (idO 0 (addI IntKind.i64 (addI IntKind.i64 (addI IntKind.i64 (addI IntKind.i64 (addI IntKind.i64 (addI IntKind.i64 (minO p q) (Int.ofNat 1)) (Int.ofNat 1)) (Int.ofNat 1)) (Int.ofNat 1)) (Int.ofNat 1)) (Int.ofNat 1)) 3) (mulO ld 3))
                                                                        (Tr.ite (eqI (zd (idO 0 (addI IntKind.i64 (addI IntKind.i64 (addI IntKind.i64 (addI IntKind.i64 (addI IntKind.i64 (addI IntKind.i64 (minO p q) (Int.ofNat 1)) (Int.ofNat 1)) (Int.ofNat 1)) (Int.ofNat 1)) (Int.ofNat 1)) (Int.ofNat 1)) 3)) (zd (idO 0 p 3)))
                                                                          (Tr.ok ((AV.tup [AV.int IntKind.i64 (Int.ofNat 0), AV.int IntKind.i64 (Int.ofNat 0)], none), H))
                                                                          (Tr.ite (ltI (addI IntKind.i64 (addI IntKind.i64 (addI IntKind.i64 (addI IntKind.i64 (addI IntKind.i64 (addI IntKind.i64 (addI IntKind.i64 (minO p q) (Int.ofNat 1)) (Int.ofNat 1)) (Int.ofNat 1)) (Int.ofNat 1)) (Int.ofNat 1)) (Int.ofNat 1)) (Int.ofNat 1)) (maxO p q))
                                                                            (Tr.req (inI (addI IntKind.i64 (addI IntKind.i64 (addI IntKind.i64 (addI IntKind.i64 (addI IntKind.i64 (addI IntKind.i64 (addI IntKind.i64 (minO p q) (Int.ofNat 1)) (Int.ofNat 1)) (Int.ofNat 1)) (Int.ofNat 1)) (Int.ofNat 1)) (Int.ofNat 1)) (Int.ofNat 1)) ld)
                                                                              (Tr.req (ltN (idO 0 (addI IntKind.i64 (addI IntKind.i64 (addI IntKind.i64 (addI IntKind.i64 (addI IntKind.i64 (addI IntKind.i64 (addI IntKind.i64 (minO p q) (Int.ofNat 1)) (Int.ofNat 1)) (Int.ofNat 1)) (Int.ofNat 1)) (Int.ofNat 1)) (Int.ofNat 1)) (Int.ofNat 1)) 3) (mulO ld 3))
                                                                                (Tr.ite (eqI (zd (idO 0 (addI IntKind.i64 (addI IntKind.i64 (addI IntKind.i64 (addI IntKind.i64 (addI IntKind.i64 (addI IntKind.i64 (addI IntKind.i64 (minO p q) (Int.ofNat 1)) (Int.ofNat 1)) (Int.ofNat 1)) (Int.ofNat 1)) (Int.ofNat 1)) (Int.ofNat 1)) (Int.ofNat 1)) 3)) (zd (idO 0 p 3)))
                                                                                  (Tr.ok ((AV.tup [AV.int IntKind.i64 (Int.ofNat 0), AV.int IntKind.i64 (Int.ofNat 0)], none), H))
                                                                                  (Tr.ite (ltI (addI IntKind.i64 (addI IntKind.i64 (addI IntKind.i64 (addI IntKind.i64 (addI IntKind.i64 (addI IntKind.i64 (addI IntKind.i64 (addI IntKind.i64 (minO p q) (Int.ofNat 1)) (Int.ofNat 1)) (Int.ofNat 1)) (Int.ofNat 1)) (Int.ofNat 1)) (Int.ofNat 1)) (Int.ofNat 1)) (Int.ofNat 1)) (maxO p q))
                                                                                    (Tr.req (inI (addI IntKind.i64 (addI IntKind.i64 (addI IntKind.i64 (addI IntKind.i64 (addI IntKind.i64 (addI IntKind.i64 (addI IntKind.i64 (addI IntKind.i64 (minO p q) (Int.ofNat 1)) (Int.ofNat 1)) (Int.ofNat 1)) (Int.ofNat 1)) (Int.ofNat 1)) (Int.ofNat 1)) (Int.ofNat 1)) (Int.ofNat 1)) ld)
                                                                                      (Tr.req (ltN (idO 0 (addI IntKind.i64 (addI IntKind.i64 (addI IntKind.i64 (addI IntKind.i64 (addI IntKind.i64 (addI IntKind.i64 (addI IntKind.i64 (addI IntKind.i64 (minO p q) (Int.ofNat 1)) (Int.ofNat 1)) (Int.ofNat 1)) (Int.ofNat 1)) (Int.ofNat 1)) (Int.ofNat 1)) (Int.ofNat 1)) (Int.ofNat 1)) 3) (mulO ld 3))
                                                                                        (Tr.ite
                                                                                          (eqI (zd (idO 0 (addI IntKind.i64 (addI IntKind.i64 (addI IntKind.i64 (addI IntKind.i64 (addI IntKind.i64 (addI IntKind.i64 (addI IntKind.i64 (addI IntKind.i64 (minO p q) (Int.ofNat 1)) (Int.ofNat 1)) (Int.ofNat 1)) (Int.ofNat 1)) (Int.ofNat 1)) (Int.ofNat 1)) (Int.ofNat 1)) (Int.ofNat 1)) 3)) (zd (idO 0 p 3)))
                                                                                          (Tr.ok ((AV.tup [AV.int IntKind.i64 (Int.ofNat 0), AV.int IntKind.i64 (Int.ofNat 0)], none), H))
                                                                                          (Tr.ite
                                                                                            (ltI
                                                                                              (addI IntKind.i64 (addI IntKind.i64 (addI IntKind.i64 (addI IntKind.i64 (addI IntKind.i64 (addI IntKind.i64 (addI IntKind.i64 (addI IntKind.i64 (addI IntKind.i64 (minO p q) (Int.ofNat 1)) (Int.ofNat 1)) (Int.ofNat 1)) (Int.ofNat 1)) (Int.ofNat 1)) (Int.ofNat 1)) (Int.ofNat 1)) (Int.ofNat 1)) (Int.ofNat 1))
                                                                                              (maxO p q))
                                                                                            (Tr.req
                                                                                              (inI
                                                                                                (addI IntKind.i64 (addI IntKind.i64 (addI IntKind.i64 (addI IntKind.i64 (addI IntKind.i64 (addI IntKind.i64 (addI IntKind.i64 (addI IntKind.i64 (addI IntKind.i64 (minO p q) (Int.ofNat 1)) (Int.ofNat 1)) (Int.ofNat 1)) (Int.ofNat 1)) (Int.ofNat 1)) (Int.ofNat 1)) (Int.ofNat 1)) (Int.ofNat 1))
                                                                                                  (Int.ofNat 1))
                                                                                                ld)
                                                                                              (Tr.req
                                                                                                (ltN
                                                                                                  (idO 0
                                                                                                    (addI IntKind.i64 (addI IntKind.i64 (addI IntKind.i64 (addI IntKind.i64 (addI IntKind.i64 (addI IntKind.i64 (addI IntKind.i64 (addI IntKind.i64 (addI IntKind.i64 (minO p q) (Int.ofNat 1)) (Int.ofNat 1)) (Int.ofNat 1)) (Int.ofNat 1)) (Int.ofNat 1)) (Int.ofNat 1)) (Int.ofNat 1)) (Int.ofNat 1))
                                                                                                      (Int.ofNat 1))
                                                                                                    3)
                                                                                                  (mulO ld 3))
                                                                                                (Tr.ite
                                                                                                  (eqI
                                                                                                    (zd
                                                                                                      (idO 0
                                                                                                        (addI IntKind.i64 (addI IntKind.i64 (addI IntKind.i64 (addI IntKind.i64 (addI IntKind.i64 (addI IntKind.i64 (addI IntKind.i64 (addI IntKind.i64 (addI IntKind.i64 (minO p q) (Int.ofNat 1)) (Int.ofNat 1)) (Int.ofNat 1)) (Int.ofNat 1)) (Int.ofNat 1)) (Int.ofNat 1)) (Int.ofNat 1)) (Int.ofNat 1))
                                                                                                          (Int.ofNat 1))
                                                                                                        3))
                                                                                                    (zd (idO 0 p 3)))
                                                                                                  (Tr.ok ((AV.tup [AV.int IntKind.i64 (Int.ofNat 0), AV.int IntKind.i64 (Int.ofNat 0)], none), H))
                                                                                                  (Tr.ite
                                                                                                    (ltI
                                                                                                      (addI IntKind.i64
                                                                                                        (addI IntKind.i64 (addI IntKind.i64 (addI IntKind.i64 (addI IntKind.i64 (addI IntKind.i64 (addI IntKind.i64 (addI IntKind.i64 (addI IntKind.i64 (addI IntKind.i64 (minO p q) (Int.ofNat 1)) (Int.ofNat 1)) (Int.ofNat 1)) (Int.ofNat 1)) (Int.ofNat 1)) (Int.ofNat 1)) (Int.ofNat 1)) (Int.ofNat 1))
                                                                                                          (Int.ofNat 1))
                                                                                                        (Int.ofNat 1))
                                                                                                      (maxO p q))
                                                                                                    (Tr.req
                                                                                                      (inI
                                                                                                        (addI IntKind.i64
                                                                                                          (addI IntKind.i64 (addI IntKind.i64 (addI IntKind.i64 (addI IntKind.i64 (addI IntKind.i64 (addI IntKind.i64 (addI IntKind.i64 (addI IntKind.i64 (addI IntKind.i64 (minO p q) (Int.ofNat 1)) (Int.ofNat 1)) (Int.ofNat 1)) (Int.ofNat 1)) (Int.ofNat 1)) (Int.ofNat 1)) (Int.ofNat 1)) (Int.ofNat 1))
                                                                                                            (Int.ofNat 1))
                                                                                                          (Int.ofNat 1))
                                                                                                        ld)
                                                                                                      (Tr.req
                                                                                                        (ltN
                                                                                                          (idO 0
                                                                                                            (addI IntKind.i64
                                                                                                              (addI IntKind.i64 (addI IntKind.i64 (addI IntKind.i64 (addI IntKind.i64 (addI IntKind.i64 (addI IntKind.i64 (addI IntKind.i64 (addI IntKind.i64 (addI IntKind.i64 (minO p q) (Int.ofNat 1)) (Int.ofNat 1)) (Int.ofNat 1)) (Int.ofNat 1)) (Int.ofNat 1)) (Int.ofNat 1)) (Int.ofNat 1)) (Int.ofNat 1))
                                                                                                                (Int.ofNat 1))
                                                                                                              (Int.ofNat 1))
                                                                                                            3)
                                                                                                          (mulO ld 3))
                                                                                                        (Tr.ite
                                                                                                          (eqI
                                                                                                            (zd
                                                                                                              (idO 0
                                                                                                                (addI IntKind.i64
                                                                                                                  (addI IntKind.i64
                                                                                                                    (addI IntKind.i64 (addI IntKind.i64 (addI IntKind.i64 (addI IntKind.i64 (addI IntKind.i64 (addI IntKind.i64 (addI IntKind.i64 (addI IntKind.i64 (minO p q) (Int.ofNat 1)) (Int.ofNat 1)) (Int.ofNat 1)) (Int.ofNat 1)) (Int.ofNat 1)) (Int.ofNat 1)) (Int.ofNat 1)) (Int.ofNat 1))
                                                                                                                    (Int.ofNat 1))
                                                                                                                  (Int.ofNat 1))
                                                                                                                3))
                                                                                                            (zd (idO 0 p 3)))
                                                                                                          (Tr.ok ((AV.tup [AV.int IntKind.i64 (Int.ofNat 0), AV.int IntKind.i64 (Int.ofNat 0)], none), H))
                                                                                                          (Tr.ite
                                                                                                            (ltI
                                                                                                              (addI IntKind.i64
                                                                                                                (addI IntKind.i64
                                                                                                                  (addI IntKind.i64
                                                                                                                    (addI IntKind.i64 (addI IntKind.i64 (addI IntKind.i64 (addI IntKind.i64 (addI IntKind.i64 (addI IntKind.i64 (addI IntKind.i64 (addI IntKind.i64 (minO p q) (Int.ofNat 1)) (Int.ofNat 1)) (Int.ofNat 1)) (Int.ofNat 1)) (Int.ofNat 1)) (Int.ofNat 1)) (Int.ofNat 1)) (Int.ofNat 1))
                                                                                                                    (Int.ofNat 1))
                                                                                                                  (Int.ofNat 1))
                                                                                                                (Int.ofNat 1))
                                                                                                              (maxO p q))
                                                                                                            (Tr.req
                                                                                                              (inI
                                                                                                                (addI IntKind.i64
                                                                                                                  (addI IntKind.i64
                                                                                                                    (addI IntKind.i64
                                                                                                                      (addI IntKind.i64 (addI IntKind.i64 (addI IntKind.i64 (addI IntKind.i64 (addI IntKind.i64 (addI IntKind.i64 (addI IntKind.i64 (addI IntKind.i64 (minO p q) (Int.ofNat 1)) (Int.ofNat 1)) (Int.ofNat 1)) (Int.ofNat 1)) (Int.ofNat 1)) (Int.ofNat 1)) (Int.ofNat 1)) (Int.ofNat 1))
                                                                                                                      (Int.ofNat 1))
                                                                                                                    (Int.ofNat 1))
                                                                                                                  (Int.ofNat 1))
                                                                                                                ld)
                                                                                                              (Tr.req
                                                                                                                (ltN
                                                                                                                  (idO 0
                                                                                                                    (addI IntKind.i64
                                                                                                                      (addI IntKind.i64
                                                                                                                        (addI IntKind.i64
                                                                                                                          (addI IntKind.i64 (addI IntKind.i64 (addI IntKind.i64 (addI IntKind.i64 (addI IntKind.i64 (addI IntKind.i64 (addI IntKind.i64 (addI IntKind.i64 (minO p q) (Int.ofNat 1)) (Int.ofNat 1)) (Int.ofNat 1)) (Int.ofNat 1)) (Int.ofNat 1)) (Int.ofNat 1)) (Int.ofNat 1)) (Int.ofNat 1))
                                                                                                                          (Int.ofNat 1))
                                                                                                                        (Int.ofNat 1))
                                                                                                                      (Int.ofNat 1))
                                                                                                                    3)
                                                                                                                  (mulO ld 3))
                                                                                                                (Tr.ite
                                                                                                                  (eqI
                                                                                                                    (zd
                                                                                                                      (idO 0
                                                                                                                        (addI IntKind.i64
                                                                                                                          (addI IntKind.i64
                                                                                                                            (addI IntKind.i64
                                                                                                                              (addI IntKind.i64 (addI IntKind.i64 (addI IntKind.i64 (addI IntKind.i64 (addI IntKind.i64 (addI IntKind.i64 (addI IntKind.i64 (addI IntKind.i64 (minO p q) (Int.ofNat 1)) (Int.ofNat 1)) (Int.ofNat 1)) (Int.ofNat 1)) (Int.ofNat 1)) (Int.ofNat 1)) (Int.ofNat 1)) (Int.ofNat 1))
                                                                                                                              (Int.ofNat 1))
                                                                                                                            (Int.ofNat 1))
                                                                                                                          (Int.ofNat 1))
                                                                                                                        3))
                                                                                                                    (zd (idO 0 p 3)))
                                                                                                                  (Tr.ok ((AV.tup [AV.int IntKind.i64 (Int.ofNat 0), AV.int IntKind.i64 (Int.ofNat 0)], none), H))
                                                                                                                  (Tr.ite
                                                                                                                    (ltI
                                                                                                                      (addI IntKind.i64
                                                                                                                        (addI IntKind.i64
                                                                                                                          (addI IntKind.i64
                                                                                                                            (addI IntKind.i64
                                                                                                                              (addI IntKind.i64 (addI IntKind.i64 (addI IntKind.i64 (addI IntKind.i64 (addI IntKind.i64 (addI IntKind.i64 (addI IntKind.i64 (addI IntKind.i64 (minO p q) (Int.ofNat 1)) (Int.ofNat 1)) (Int.ofNat 1)) (Int.ofNat 1)) (Int.ofNat 1)) (Int.ofNat 1)) (Int.ofNat 1)) (Int.ofNat 1))
                                                                                                                              (Int.ofNat 1))
                                                                                                                            (Int.ofNat 1))
                                                                                                                          (Int.ofNat 1))
                                                                                                                        (Int.ofNat 1))
                                                                                                                      (maxO p q))
                                                                                                                    (Tr.req
                                                                                                                      (inI
                                                                                                                        (addI IntKind.i64
                                                                                                                          (addI IntKind.i64
                                                                                                                            (addI IntKind.i64
                                                                                                                              (addI IntKind.i64
                                                                                                                                (addI IntKind.i64 (addI IntKind.i64 (addI IntKind.i64 (addI IntKind.i64 (addI IntKind.i64 (addI IntKind.i64 (addI IntKind.i64 (addI IntKind.i64 (minO p q) (Int.ofNat 1)) (Int.ofNat 1)) (Int.ofNat 1)) (Int.ofNat 1)) (Int.ofNat 1)) (Int.ofNat 1)) (Int.ofNat 1)) (Int.ofNat 1))
                                                                                                                                (Int.ofNat 1))
                                                                                                                              (Int.ofNat 1))
                                                                                                                            (Int.ofNat 1))
                                                                                                                          (Int.ofNat 1))
                                                                                                                        ld)
                                                                                                                      (Tr.req
                                                                                                                        (ltN
                                                                                                                          (idO 0
                                                                                                                            (addI IntKind.i64
                                                                                                                              (addI IntKind.i64
                                                                                                                                (addI IntKind.i64
                                                                                                                                  (addI IntKind.i64
                                                                                                                                    (addI IntKind.i64 (addI IntKind.i64 (addI IntKind.i64 (addI IntKind.i64 (addI IntKind.i64 (addI IntKind.i64 (addI IntKind.i64 (addI IntKind.i64 (minO p q) (Int.ofNat 1)) (Int.ofNat 1)) (Int.ofNat 1)) (Int.ofNat 1)) (Int.ofNat 1)) (Int.ofNat 1)) (Int.ofNat 1))
                                                                                                                                      (Int.ofNat 1))
                                                                                                                                    (Int.ofNat 1))
                                                                                                                                  (Int.ofNat 1))
                                                                                                                                (Int.ofNat 1))
                                                                                                                              (Int.ofNat 1))
                                                                                                                            3)
                                                                                                                          (mulO ld 3))
                                                                                                                        (Tr.ite
                                                                                                                          (eqI
                                                                                                                            (zd
                                                                                                                              (idO 0
                                                                                                                                (addI IntKind.i64
                                                                                                                                  (addI IntKind.i64
                                                                                                                                    (addI IntKind.i64
                                                                                                                                      (addI IntKind.i64
                                                                                                                                        (addI IntKind.i64 (addI IntKind.i64 (addI IntKind.i64 (addI IntKind.i64 (addI IntKind.i64 (addI IntKind.i64 (addI IntKind.i64 (addI IntKind.i64 (minO p q) (Int.ofNat 1)) (Int.ofNat 1)) (Int.ofNat 1)) (Int.ofNat 1)) (Int.ofNat 1)) (Int.ofNat 1)) (Int.ofNat 1))
                                                                                                                                          (Int.ofNat 1))
                                                                                                                                        (Int.ofNat 1))
                                                                                                                                      (Int.ofNat 1))
                                                                                                                                    (Int.ofNat 1))
                                                                                                                                  (Int.ofNat 1))
                                                                                                                                3))
                                                                                                                            (zd (idO 0 p 3)))
                                                                                                                          (Tr.ok ((AV.tup [AV.int IntKind.i64 (Int.ofNat 0), AV.int IntKind.i64 (Int.ofNat 0)], none), H)) Tr.bad)))
                                                                                                                    (Tr.ok ((AV.tup [AV.int IntKind.i64 (Int.ofNat 2), AV.int IntKind.i64 (Int.ofNat 0)], none), H))))))
                                                                                                            (Tr.ok ((AV.tup [AV.int IntKind.i64 (Int.ofNat 2), AV.int IntKind.i64 (Int.ofNat 0)], none), H))))))
                                                                                                    (Tr.ok ((AV.tup [AV.int IntKind.i64 (Int.ofNat 2), AV.int IntKind.i64 (Int.ofNat 0)], none), H))))))
                                                                                            (Tr.ok ((AV.tup [AV.int IntKind.i64 (Int.ofNat 2), AV.int IntKind.i64 (Int.ofNat 0)], none), H))))))
                                                                                    (Tr.ok ((AV.tup [AV.int IntKind.i64 (Int.ofNat 2), AV.int IntKind.i64 (Int.ofNat 0)], none), H))))))
                                                                            (Tr.ok ((AV.tup [AV.int IntKind.i64 (Int.ofNat 2), AV.int IntKind.i64 (Int.ofNat 0)], none), H))))))
                                                                    (Tr.ok ((AV.tup [AV.int IntKind.i64 (Int.ofNat 2), AV.int IntKind.i64 (Int.ofNat 0)], none), H))))))
                                                            (Tr.ok ((AV.tup [AV.int IntKind.i64 (Int.ofNat 2), AV.int IntKind.i64 (Int.ofNat 0)], none), H))))))
                                                    (Tr.ok ((AV.tup [AV.int IntKind.i64 (Int.ofNat 2), AV.int IntKind.i64 (Int.ofNat 0)], none), H))))))
                                            (Tr.ok ((AV.tup [AV.int IntKind.i64 (Int.ofNat 2), AV.int IntKind.i64 (Int.ofNat 0)], none), H))))))
                                    (Tr.ok ((AV.tup [AV.int IntKind.i64 (Int.ofNat 2), AV.int IntKind.i64 (Int.ofNat 0)], none), H))))))
                            (Tr.ok ((AV.tup [AV.int IntKind.i64 (Int.ofNat 2), AV.int IntKind.i64 (Int.ofNat 0)], none), H)))
                          Tr.bad)))))))
            (Tr.ok ((AV.tup [AV.int IntKind.i64 (Int.ofNat 0), AV.int IntKind.i64 (Int.ofNat 2)], none), H))))
        (Tr.ok ((AV.tup [AV.int IntKind.i64 (Int.ofNat 0), AV.int IntKind.i64 (Int.ofNat 2)], none), H)))) := by kernel_rfl
theorem t24 (n : Nat) (w : Int) (ls ld : Nat) (zs zd : Nat → Int) (H : Heap) (p q s i : Int) : execT (cxD (n+6) 24 79) (il noCt (n+5) 1) noBT noRT (part Try.f24 [1,1,1,1,0,1,0,0,1,0,0]) (hints (fr24 p q s i)) (lvB w ls ld zs zd :: H) =
  Tr.ite (ltI i (maxO p q))
    (Tr.req (inI i ld)
      (Tr.req (ltN (idO 0 i 3) (mulO ld 3))
        (Tr.ite (eqI (zd (idO 0 i 3)) s) (Tr.ok (Ex.ret, [(6, AV.int IntKind.i64 (Int.ofNat 0), some 1), (7, AV.int IntKind.i64 (Int.ofNat 0), some 1)], { lock := false, bs := [(0, Blk.row (Row.G [AV.int IntKind.i64 w, AV.slcT none (Row.M [Seg.arr IntKind.i64 zs (mulO ls 2)]) 2 ls false, AV.slcT none (Row.M [Seg.arr IntKind.i64 zd (mulO ld 3)]) 3 ld false]))] } :: H))
          (Tr.ok
            (Ex.normal, [(1, AV.int IntKind.i64 p, none), (2, AV.int IntKind.i64 q, none), (3, AV.ptr 0 0 0 0, none), (8, AV.int IntKind.i64 s, none), (10, AV.int IntKind.i64 (addI IntKind.i64 i (Int.ofNat 1)), none)],
              { lock := false, bs := [(0, Blk.row (Row.G [AV.int IntKind.i64 w, AV.slcT none (Row.M [Seg.arr IntKind.i64 zs (mulO ls 2)]) 2 ls false, AV.slcT none (Row.M [Seg.arr IntKind.i64 zd (mulO ld 3)]) 3 ld false]))] } :: H)))))
    (Tr.ok
      (Ex.exit 0, [(1, AV.int IntKind.i64 p, none), (2, AV.int IntKind.i64 q, none), (3, AV.ptr 0 0 0 0, none), (8, AV.int IntKind.i64 s, none), (10, AV.int IntKind.i64 i, none), (54, AV.bool false, some 1)],
        { lock := false, bs := [(0, Blk.row (Row.G [AV.int IntKind.i64 w, AV.slcT none (Row.M [Seg.arr IntKind.i64 zs (mulO ls 2)]) 2 ls false, AV.slcT none (Row.M [Seg.arr IntKind.i64 zd (mulO ld 3)]) 3 ld false]))] } :: H)) := by kernel_rfl
theorem u24 (n : Nat) (w : Int) (ls ld : Nat) (zs zd : Nat → Int) (H : Heap) (p q e k a b : Int) (side : Prop) (fi : Int → Bool) (qq : Bool) (s0 i0 i1 : Int) : bodyT Try.prog (cd (n+6)) 100000 24 Try.f24 (Kt.kt 24) (il (ctG (ctG (ctG noCt 20 (g20 (bathA w ls zs ld zd) e)) 75 (g75 (bathA w ls zs ld zd) ld fi)) 71 (g71 (bathA w ls zs ld zd) a b k side)) (n+5) 1) (blkE noBT 0 (fr24 p q s0 i0) (lvB w ls ld zs zd :: H) (Tr.ite qq (Tr.ok (.ret, hints [(6, AV.int .i64 (Int.ofNat 0)), (7, AV.int .i64 (Int.ofNat 0))], lvB w ls ld zs zd :: H)) (Tr.ok (.normal, hints (fr24 p q s0 i1 ++ [(54, AV.bool false)]), lvB w ls ld zs zd :: H)))) noRT [(bathA w ls zs ld zd, none), (.int .i64 p, none), (.int .i64 q, none)] H =
  Tr.reqP (AV.agg (Row.G [AV.int IntKind.i64 w, AV.slcT none (Row.M [Seg.arr IntKind.i64 zs (mulO ls 2)]) 2 ls false, AV.slcT none (Row.M [Seg.arr IntKind.i64 zd (mulO ld 3)]) 3 ld false]) = AV.agg (Row.G [AV.int IntKind.i64 w, AV.slcT none (Row.M [Seg.arr IntKind.i64 zs (mulO ls 2)]) 2 ls false, AV.slcT none (Row.M [Seg.arr IntKind.i64 zd (mulO ld 3)]) 3 ld false]))
    (Tr.ite (notB (eqI e (Int.ofNat 0)))
      (Tr.reqP (AV.agg (Row.G [AV.int IntKind.i64 w, AV.slcT none (Row.M [Seg.arr IntKind.i64 zs (mulO ls 2)]) 2 ls false, AV.slcT none (Row.M [Seg.arr IntKind.i64 zd (mulO ld 3)]) 3 ld false]) = AV.agg (Row.G [AV.int IntKind.i64 w, AV.slcT none (Row.M [Seg.arr IntKind.i64 zs (mulO ls 2)]) 2 ls false, AV.slcT none (Row.M [Seg.arr IntKind.i64 zd (mulO ld 3)]) 3 ld false]))
        (Tr.ok ((AV.tup [AV.int IntKind.i64 (Int.ofNat 0), AV.int IntKind.i64 e], none), H)))
      (Tr.ite (leI (Int.ofNat 0) p)
        (Tr.ite (notB (ltI p (Int.ofNat ld))) (Tr.ok ((AV.tup [AV.int IntKind.i64 (Int.ofNat 0), AV.int IntKind.i64 (Int.ofNat 2)], none), H))
          (Tr.ite (leI (Int.ofNat 0) q)
            (Tr.ite (notB (ltI q (Int.ofNat ld))) (Tr.ok ((AV.tup [AV.int IntKind.i64 (Int.ofNat 0), AV.int IntKind.i64 (Int.ofNat 2)], none), H))
              (Tr.ite (eqI p q) (Tr.ok ((AV.tup [AV.int IntKind.i64 (Int.ofNat 0), AV.int IntKind.i64 (Int.ofNat 2)], none), H))
                (Tr.req (inI p ld)
                  (Tr.req (ltN (idO 0 p 3) (mulO ld 3))
                    (Tr.req (inI q ld)
                      (Tr.req (ltN (idO 0 q 3) (mulO ld 3))
                        (Tr.ite (eqI (zd (idO 0 p 3)) (zd (idO 0 q 3)))
                          (Tr.reqP
                            ([(1, AV.int IntKind.i64 p), (2, AV.int IntKind.i64 q), (3, AV.ptr 0 0 0 0), (8, AV.int IntKind.i64 (zd (idO 0 p 3))), (10, AV.int IntKind.i64 (addI IntKind.i64 (minO p q) (Int.ofNat 1)))] = [(1, AV.int IntKind.i64 p), (2, AV.int IntKind.i64 q), (3, AV.ptr 0 0 0 0), (8, AV.int IntKind.i64 s0), (10, AV.int IntKind.i64 i0)] ∧
                              { lock := false, bs := [(0, Blk.row (Row.G [AV.int IntKind.i64 w, AV.slcT none (Row.M [Seg.arr IntKind.i64 zs (mulO ls 2)]) 2 ls false, AV.slcT none (Row.M [Seg.arr IntKind.i64 zd (mulO ld 3)]) 3 ld false]))] } :: H =
                                { lock := false, bs := [(0, Blk.row (Row.G [AV.int IntKind.i64 w, AV.slcT none (Row.M [Seg.arr IntKind.i64 zs (mulO ls 2)]) 2 ls false, AV.slcT none (Row.M [Seg.arr IntKind.i64 zd (mulO ld 3)]) 3 ld false]))] } :: H)
                            (Tr.ite qq (Tr.ok ((AV.tup [AV.int IntKind.i64 (Int.ofNat 0), AV.int IntKind.i64 (Int.ofNat 0)], none), H)) (Tr.ok ((AV.tup [AV.int IntKind.i64 (Int.ofNat 2), AV.int IntKind.i64 (Int.ofNat 0)], none), H))))
                          (Tr.reqP
                            (AV.agg (Row.G [AV.int IntKind.i64 w, AV.slcT none (Row.M [Seg.arr IntKind.i64 zs (mulO ls 2)]) 2 ls false, AV.slcT none (Row.M [Seg.arr IntKind.i64 zd (mulO ld 3)]) 3 ld false]) = AV.agg (Row.G [AV.int IntKind.i64 w, AV.slcT none (Row.M [Seg.arr IntKind.i64 zs (mulO ls 2)]) 2 ls false, AV.slcT none (Row.M [Seg.arr IntKind.i64 zd (mulO ld 3)]) 3 ld false]) ∧
                              inI p ld = true)
                            (Tr.ite (notB (fi p)) (Tr.ok ((AV.tup [AV.int IntKind.i64 (Int.ofNat 0), AV.int IntKind.i64 (Int.ofNat 0)], none), H))
                              (Tr.reqP
                                (AV.agg (Row.G [AV.int IntKind.i64 w, AV.slcT none (Row.M [Seg.arr IntKind.i64 zs (mulO ls 2)]) 2 ls false, AV.slcT none (Row.M [Seg.arr IntKind.i64 zd (mulO ld 3)]) 3 ld false]) = AV.agg (Row.G [AV.int IntKind.i64 w, AV.slcT none (Row.M [Seg.arr IntKind.i64 zs (mulO ls 2)]) 2 ls false, AV.slcT none (Row.M [Seg.arr IntKind.i64 zd (mulO ld 3)]) 3 ld false]) ∧
                                  inI q ld = true)
                                (Tr.ite (notB (fi q)) (Tr.ok ((AV.tup [AV.int IntKind.i64 (Int.ofNat 0), AV.int IntKind.i64 (Int.ofNat 0)], none), H))
                                  (Tr.reqP
                                    (AV.agg (Row.G [AV.int IntKind.i64 w, AV.slcT none (Row.M [Seg.arr IntKind.i64 zs (mulO ls 2)]) 2 ls false, AV.slcT none (Row.M [Seg.arr IntKind.i64 zd (mulO ld 3)]) 3 ld false]) = AV.agg (Row.G [AV.int IntKind.i64 w, AV.slcT none (Row.M [Seg.arr IntKind.i64 zs (mulO ls 2)]) 2 ls false, AV.slcT none (Row.M [Seg.arr IntKind.i64 zd (mulO ld 3)]) 3 ld false]) ∧
                                      zd (idO 0 p 3) = a ∧ zd (idO 0 q 3) = b ∧ side)
                                    (Tr.ok ((AV.tup [AV.int IntKind.i64 k, AV.int IntKind.i64 (Int.ofNat 0)], none), H))))))))))))))
            (Tr.ok ((AV.tup [AV.int IntKind.i64 (Int.ofNat 0), AV.int IntKind.i64 (Int.ofNat 2)], none), H))))
        (Tr.ok ((AV.tup [AV.int IntKind.i64 (Int.ofNat 0), AV.int IntKind.i64 (Int.ofNat 2)], none), H)))) := by kernel_rfl
theorem b24 : ∀ b, (0, b) ∈ blocksOf (bodyOf Try.f24) → b = .loop (part Try.f24 [1,1,1,1,0,1,0,0,1,0,0]) := by
  have : ((blocksOf (bodyOf Try.f24)).filter fun x => Nat.beq x.1 0) = [(0, .loop (part Try.f24 [1,1,1,1,0,1,0,0,1,0,0]))] := by kernel_rfl
  intro b hb
  have hm : (0, b) ∈ ((blocksOf (bodyOf Try.f24)).filter fun x => Nat.beq x.1 0) := List.mem_filter.2 ⟨hb, rfl⟩
  rw [this] at hm; simpa using hm
section
variable (n : Nat) (w : Int) (ls ld : Nat) (zs zd : Nat → Int) (H : Heap) (p q : Int)
theorem l24 (h1 : ld ≤ 40) (s : Int) (hr : 0 ≤ p ∧ p < ld ∧ 0 ≤ q ∧ q < ld ∧ p ≠ q) (x : Res) (hx : (Tr.ite (exN (eqD (shO zd (((min p q).toNat + 1) * 3)) s) ((max p q).toNat - ((min p q).toNat + 1))) (Tr.ok (.ret, hints [(6, AV.int .i64 (Int.ofNat 0)), (7, AV.int .i64 (Int.ofNat 0))], lvB w ls ld zs zd :: H)) (Tr.ok (.normal, hints (fr24 p q s (max p q) ++ [(54, AV.bool false)]), lvB w ls ld zs zd :: H))).run = some x) :
    exec (cxD (n + 6) 24 79) (.block 0 (.loop (part Try.f24 [1,1,1,1,0,1,0,0,1,0,0]))) (fr24 p q s (min p q + 1)) (lvB w ls ld zs zd :: H) = some x.st := by
  have e0 : min p q + 1 = ((min p q).toNat + 1 + 0 : Nat) := by omega
  have e1 : max p q = ((min p q).toNat + 1 + ((max p q).toNat - ((min p q).toNat + 1)) : Nat) := by omega
  rw [e0]
  refine findL (il_no (n + 5) 1) (noBT_ok _ _) (noRT_ok _ _) 0 (fun j => fr24 p q s ((min p q).toNat + 1 + j : Nat)) (fun _ => lvB w ls ld zs zd :: H) ((max p q).toNat - ((min p q).toNat + 1)) (eqD (shO zd (((min p q).toNat + 1) * 3)) s) (fun _ => ([(6, AV.int .i64 (Int.ofNat 0)), (7, AV.int .i64 (Int.ofNat 0))], lvB w ls ld zs zd :: H)) (fr24 p q s (max p q) ++ [(54, AV.bool false)], lvB w ls ld zs zd :: H) (by omega) (fun j hj => ?_) ?_ x hx
  · rw [t24]
    have ez : eqD (shO zd (((min p q).toNat + 1) * 3)) s j = (zd (((min p q).toNat + 1 + j) * 3) == s) := by
      unfold eqD
      rw [shO_fn]
      simp only
      congr 2; omega
    rw [ez]
    repeat' first | (refine Tr.all_ite (fun hc => ?_) (fun hc => ?_) <;> (try simp (disch := omega) only [ltI_t, ltI_f, leI_t, leI_f, eqI_t, eqI_f, notB_t, notB_f, andB_t, andB_f, inI_t, bndI_t, ltN_t, ltN_f, leN_t, leN_f, eqN_t, eqN_f, inO_t, roomO_t, mkO_t, minO_min, maxO_max, idO_eq, addO_eq, subO_eq, mulO_eq, toN_eq, addI_eq, subI_eq, mulI_eq, ofNat_cast, negSucc_zero, negSucc_one, negSucc_two, wr_64, tn_succ, Int.toNat_natCast, Int.natCast_zero, Int.natCast_one, Int.cast_ofNat_Int, Nat.zero_add, not_true_eq_false, not_false_eq_true, Bool.true_eq_false, Bool.false_eq_true, eq_self, true_and, and_true] at hc) <;> (try (exfalso; omega))) | (refine Tr.all_req ?_ ?_; · ((try simp (disch := omega) only [ltI_t, ltI_f, leI_t, leI_f, eqI_t, eqI_f, notB_t, notB_f, andB_t, andB_f, inI_t, bndI_t, ltN_t, ltN_f, leN_t, leN_f, eqN_t, eqN_f, inO_t, roomO_t, mkO_t, minO_min, maxO_max, idO_eq, addO_eq, subO_eq, mulO_eq, toN_eq, addI_eq, subI_eq, mulI_eq, ofNat_cast, negSucc_zero, negSucc_one, negSucc_two, wr_64, tn_succ, Int.toNat_natCast, Int.natCast_zero, Int.natCast_one, Int.cast_ofNat_Int, Nat.zero_add, not_true_eq_false, not_false_eq_true, Bool.true_eq_false, Bool.false_eq_true, eq_self, true_and, and_true]); try omega)) | (refine Tr.all_reqP ?_ ?_; · first | exact trivial | rfl | exact ⟨rfl, rfl⟩ | exact ⟨rfl, rfl, rfl⟩ | (simp (disch := omega) only [ltI_t, ltI_f, leI_t, leI_f, eqI_t, eqI_f, notB_t, notB_f, andB_t, andB_f, inI_t, bndI_t, ltN_t, ltN_f, leN_t, leN_f, eqN_t, eqN_f, inO_t, roomO_t, mkO_t, minO_min, maxO_max, idO_eq, addO_eq, subO_eq, mulO_eq, toN_eq, addI_eq, subI_eq, mulI_eq, ofNat_cast, negSucc_zero, negSucc_one, negSucc_two, wr_64, tn_succ, Int.toNat_natCast, Int.natCast_zero, Int.natCast_one, Int.cast_ofNat_Int, Nat.zero_add, not_true_eq_false, not_false_eq_true, Bool.true_eq_false, Bool.false_eq_true, eq_self, true_and, and_true]; done) | ((try simp (disch := omega) only [ltI_t, ltI_f, leI_t, leI_f, eqI_t, eqI_f, notB_t, notB_f, andB_t, andB_f, inI_t, bndI_t, ltN_t, ltN_f, leN_t, leN_f, eqN_t, eqN_f, inO_t, roomO_t, mkO_t, minO_min, maxO_max, idO_eq, addO_eq, subO_eq, mulO_eq, toN_eq, addI_eq, subI_eq, mulI_eq, ofNat_cast, negSucc_zero, negSucc_one, negSucc_two, wr_64, tn_succ, Int.toNat_natCast, Int.natCast_zero, Int.natCast_one, Int.cast_ofNat_Int, Nat.zero_add, not_true_eq_false, not_false_eq_true, Bool.true_eq_false, Bool.false_eq_true, eq_self, true_and, and_true]); omega)) | fail
    all_goals refine Tr.all_ok ?_
    · rw [if_pos (by simpa using hc)]
      exact ⟨rfl, rfl, rfl⟩
    · rw [if_neg (by simpa using hc)]
      refine ⟨rfl, ?_, rfl⟩
      simp only [addI_eq, ofNat_cast]
      rw [wr_64 (by omega) (by omega)]
      rfl
  · rw [t24]
    repeat' first | (refine Tr.all_ite (fun hc => ?_) (fun hc => ?_) <;> (try simp (disch := omega) only [ltI_t, ltI_f, leI_t, leI_f, eqI_t, eqI_f, notB_t, notB_f, andB_t, andB_f, inI_t, bndI_t, ltN_t, ltN_f, leN_t, leN_f, eqN_t, eqN_f, inO_t, roomO_t, mkO_t, minO_min, maxO_max, idO_eq, addO_eq, subO_eq, mulO_eq, toN_eq, addI_eq, subI_eq, mulI_eq, ofNat_cast, negSucc_zero, negSucc_one, negSucc_two, wr_64, tn_succ, Int.toNat_natCast, Int.natCast_zero, Int.natCast_one, Int.cast_ofNat_Int, Nat.zero_add, not_true_eq_false, not_false_eq_true, Bool.true_eq_false, Bool.false_eq_true, eq_self, true_and, and_true] at hc) <;> (try (exfalso; omega))) | (refine Tr.all_req ?_ ?_; · ((try simp (disch := omega) only [ltI_t, ltI_f, leI_t, leI_f, eqI_t, eqI_f, notB_t, notB_f, andB_t, andB_f, inI_t, bndI_t, ltN_t, ltN_f, leN_t, leN_f, eqN_t, eqN_f, inO_t, roomO_t, mkO_t, minO_min, maxO_max, idO_eq, addO_eq, subO_eq, mulO_eq, toN_eq, addI_eq, subI_eq, mulI_eq, ofNat_cast, negSucc_zero, negSucc_one, negSucc_two, wr_64, tn_succ, Int.toNat_natCast, Int.natCast_zero, Int.natCast_one, Int.cast_ofNat_Int, Nat.zero_add, not_true_eq_false, not_false_eq_true, Bool.true_eq_false, Bool.false_eq_true, eq_self, true_and, and_true]); try omega)) | (refine Tr.all_reqP ?_ ?_; · first | exact trivial | rfl | exact ⟨rfl, rfl⟩ | exact ⟨rfl, rfl, rfl⟩ | (simp (disch := omega) only [ltI_t, ltI_f, leI_t, leI_f, eqI_t, eqI_f, notB_t, notB_f, andB_t, andB_f, inI_t, bndI_t, ltN_t, ltN_f, leN_t, leN_f, eqN_t, eqN_f, inO_t, roomO_t, mkO_t, minO_min, maxO_max, idO_eq, addO_eq, subO_eq, mulO_eq, toN_eq, addI_eq, subI_eq, mulI_eq, ofNat_cast, negSucc_zero, negSucc_one, negSucc_two, wr_64, tn_succ, Int.toNat_natCast, Int.natCast_zero, Int.natCast_one, Int.cast_ofNat_Int, Nat.zero_add, not_true_eq_false, not_false_eq_true, Bool.true_eq_false, Bool.false_eq_true, eq_self, true_and, and_true]; done) | ((try simp (disch := omega) only [ltI_t, ltI_f, leI_t, leI_f, eqI_t, eqI_f, notB_t, notB_f, andB_t, andB_f, inI_t, bndI_t, ltN_t, ltN_f, leN_t, leN_f, eqN_t, eqN_f, inO_t, roomO_t, mkO_t, minO_min, maxO_max, idO_eq, addO_eq, subO_eq, mulO_eq, toN_eq, addI_eq, subI_eq, mulI_eq, ofNat_cast, negSucc_zero, negSucc_one, negSucc_two, wr_64, tn_succ, Int.toNat_natCast, Int.natCast_zero, Int.natCast_one, Int.cast_ofNat_Int, Nat.zero_add, not_true_eq_false, not_false_eq_true, Bool.true_eq_false, Bool.false_eq_true, eq_self, true_and, and_true]); omega)) | fail
    refine Tr.all_ok ⟨rfl, ?_, rfl⟩
    show fr24 p q s (((min p q).toNat + 1 + ((max p q).toNat - ((min p q).toNat + 1)) : Nat) : Int) ++ [(54, AV.bool false)] = fr24 p q s (max p q) ++ [(54, AV.bool false)]
    rw [← e1]
/-- The kind of two spots does not hang on which is named first. -/
theorem both_symm {a c x y x' y' : Int} (ha : 0 ≤ a ∧ a ≤ 400000) (hc : 0 ≤ c ∧ c ≤ 400000) (hx : 0 ≤ x ∧ x ≤ 1000) (hy : 0 ≤ y ∧ y ≤ 1000) (hx' : 0 ≤ x' ∧ x' ≤ 1000) (hy' : 0 ≤ y' ∧ y' ≤ 1000) : bothR a c x y x' y' = bothR c a x' y' x y := by
  have s1 := sq_le (k := x - x') (M := 1000) (by omega) (by omega)
  have s2 := sq_le (k := y - y') (M := 1000) (by omega) (by omega)
  have e1 : IntKind.i64.wrap (x - x') = x - x' := wr_in (by omega) (by omega)
  have e2 : IntKind.i64.wrap (y - y') = y - y' := wr_in (by omega) (by omega)
  have e3 : IntKind.i64.wrap (x' - x) = x' - x := wr_in (by omega) (by omega)
  have e4 : IntKind.i64.wrap (y' - y) = y' - y := wr_in (by omega) (by omega)
  have q1 : (x' - x) * (x' - x) = (x - x') * (x - x') := by rw [show x' - x = -(x - x') by omega, Int.neg_mul_neg]
  have q2 : (y' - y) * (y' - y) = (y - y') * (y - y') := by rw [show y' - y = -(y - y') by omega, Int.neg_mul_neg]
  unfold bothR
  simp only [e1, e2, e3, e4, q1, q2]
  generalize (x - x') * (x - x') = X at s1 ⊢
  generalize (y - y') * (y - y') = Y at s2 ⊢
  have m1 : 4 * a * c = 4 * c * a := by rw [Int.mul_assoc, Int.mul_comm a c, ← Int.mul_assoc]
  rw [wr_in (k := X) (by omega) (by omega), wr_in (k := Y) (by omega) (by omega), wr_in (k := X + Y) (by omega) (by omega), wr_in (k := X + Y - a) (by omega) (by omega), wr_in (k := X + Y - c) (by omega) (by omega), wr_in (k := X + Y - a - c) (by omega) (by omega), wr_in (k := X + Y - c - a) (by omega) (by omega), wr_in (k := a + c) (by omega) (by omega), wr_in (k := c + a) (by omega) (by omega), wr_in (k := 4 * a) (by omega) (by omega), wr_in (k := 4 * c) (by omega) (by omega), m1, Int.add_comm a c, show X + Y - a - c = X + Y - c - a by omega]
theorem touch_both {w : Int} {ls : Nat} {zs : Nat → Int} {so : Int → Int} {a b : Int} (hB : TouchB ls zs so a b) (ha : 0 ≤ a) (hb : 0 ≤ b) : touchT w zs so a b = if so a = 0 ∨ so b = 0 then false else bothR (so a) (so b) (zs (a.toNat * 2)) (zs (a.toNat * 2 + 1)) (zs (b.toNat * 2)) (zs (b.toNat * 2 + 1)) := by
  obtain ⟨h1, h2, h3, h4⟩ := hB
  have g1 := h3 a.toNat (by omega)
  have g2 := h3 b.toNat (by omega)
  unfold spotB at g1 g2
  have n1 : ¬ (a < 0 ∧ b < 0) := by omega
  have n2 : ¬ a < 0 := by omega
  have n3 : ¬ b = -2 := by omega
  unfold touchT
  simp only [n1, n2, n3, hb, if_false, if_true]
  rw [both_eq (h4 a) (h4 b) (by omega) (by omega) (by omega) (by omega)]
  by_cases e1 : so a = 0 <;> by_cases e2 : so b = 0 <;> simp [e1, e2]
theorem touch_symm {w : Int} {ls : Nat} {zs : Nat → Int} {so : Int → Int} {a b : Int} (hB : TouchB ls zs so a b) (hB' : TouchB ls zs so b a) (ha : 0 ≤ a) (hb : 0 ≤ b) : touchT w zs so a b = touchT w zs so b a := by
  rw [touch_both hB ha hb, touch_both hB' hb ha]
  obtain ⟨h1, h2, h3, h4⟩ := hB
  have g1 := h3 a.toNat (by omega)
  have g2 := h3 b.toNat (by omega)
  unfold spotB at g1 g2
  rw [both_symm (h4 a) (h4 b) (by omega) (by omega) (by omega) (by omega)]
  simp only [Or.comm]
theorem knd_symm {w : Int} {ls ld : Nat} {zs zd : Nat → Int} {a b : Int} (h : chkB w ls ld zs zd = 0) (ha : 0 ≤ a ∧ a < ls) (hb : 0 ≤ b ∧ b < ls) : kndR w ld zs zd a b = kndR w ld zs zd b a := by
  have k1 := knd_ok (p := a) (q := b) h (by simp [isPl]; omega) (by simp [isPl]; omega)
  have k2 := knd_ok (p := b) (q := a) h (by simp [isPl]; omega) (by simp [isPl]; omega)
  unfold kndR
  rw [touch_symm (k1.2 false) (k2.2 false) ha.1 hb.1, touch_symm (k1.2 true) (k2.2 true) ha.1 hb.1]
theorem il24 (h0 : chkB w ls ld zs zd = 0) (a b : Int) (side : Prop) (hs : side → KndB ls ld zs zd a b) : (il (ctG (ctG (ctG noCt 20 (g20 (bathA w ls zs ld zd) (chkB w ls ld zs zd))) 75 (g75 (bathA w ls zs ld zd) ld fun i => !exN (eqF zd i.toNat) i.toNat)) 71 (g71 (bathA w ls zs ld zd) a b (kndR w ld zs zd a b) side)) (n+5) 1).Ok (cd (n + 6)) := by
  refine il_ok _ (n + 5) 1 (fun k => ctG_ok (ctG_ok ?_ (fun args p v hg hp H => ?_)) (fun args p v hg hp H => ?_))
  · have := ct20 (n + 3) w ls ld zs zd k _ (noCt_ok _)
    rwa [show n + 3 + 2 + k = n + 5 + k by omega] at this
  · unfold g75 at hg
    split at hg
    · simp only [Option.some.injEq, Prod.mk.injEq] at hg
      obtain ⟨rfl, rfl⟩ := hg
      rename_i i
      obtain ⟨rfl, h1⟩ := hp
      rw [inI_t] at h1
      rw [show n + 5 + k = n + 4 + k + 1 by omega, show (i : Int) = Int.ofNat i.toNat from by simp only [ofNat_cast]; omega]
      exact c75 _ w ls ld zs zd H _ (by omega) (chk_len w ls ld zs zd h0).2
    · cases hg
  · unfold g71 at hg
    split at hg
    · simp only [Option.some.injEq, Prod.mk.injEq] at hg
      obtain ⟨rfl, rfl⟩ := hg
      obtain ⟨rfl, rfl, rfl, h1⟩ := hp
      rw [show n + 5 + k = n + k + 5 by omega]
      exact c71 _ w ls ld zs zd H _ _ (hs h1)
    · cases hg
theorem il24' : (il (ctG (ctG (ctG noCt 20 (g20 (bathA w ls zs ld zd) (chkB w ls ld zs zd))) 75 fun _ => none) 71 fun _ => none) (n+5) 1).Ok (cd (n + 6)) := by
  refine il_ok _ (n + 5) 1 (fun k => ctG_ok (ctG_ok ?_ (fun args p v hg hp H => by cases hg)) (fun args p v hg hp H => by cases hg))
  have := ct20 (n + 3) w ls ld zs zd k _ (noCt_ok _)
  rwa [show n + 3 + 2 + k = n + 5 + k by omega] at this
theorem bsO_symm (e : chkB w ls ld zs zd = 0) (hr : 0 ≤ p ∧ p < ld ∧ 0 ≤ q ∧ q < ld ∧ p ≠ q) (hs : zd (p.toNat * 3) ≠ zd (q.toNat * 3)) :
    bsO w ld zs zd (min p q).toNat (max p q).toNat = if exN (eqF zd p.toNat) p.toNat = true ∨ exN (eqF zd q.toNat) q.toNat = true then 0 else kndR w ld zs zd (zd (p.toNat * 3)) (zd (q.toNat * 3)) := by
  have hc := chk_drops e
  have d1 := hc.2.2 p.toNat (by omega)
  have d2 := hc.2.2 q.toNat (by omega)
  have ef : ∀ m, eqF zd m = eqD zd (zd (m * 3)) := fun m => rfl
  unfold bsO
  rw [ef, ef]
  rcases Int.lt_or_le p q with h | h
  · rw [show min p q = p by omega, show max p q = q by omega, if_neg hs]
  · rw [show min p q = q by omega, show max p q = p by omega, if_neg (fun h => hs h.symm), knd_symm e d2 d1]
    simp only [Or.comm]
theorem c24 : cd (n + 7) (.fn 24) [bathA w ls zs ld zd, .int .i64 p, .int .i64 q] H = some (.tup [.int .i64 (bsK w ls ld zs zd p q), .int .i64 (bsE w ls ld zs zd p q)], H) := by
  by_cases e : chkB w ls ld zs zd = 0
  case neg =>
    have e2 : bsE w ls ld zs zd p q = chkB w ls ld zs zd := by unfold bsE; rw [if_pos e]
    have ek : bsK w ls ld zs zd p q = 0 := by unfold bsK; rw [e2, if_pos e]
    rw [e2, ek]
    refine fn_all (n := n + 6) Try.func24 rfl rfl rfl (w24 n w ls ld zs zd H p q (chkB w ls ld zs zd)) (il24' n w ls ld zs zd) (noBT_ok _ _) (noRT_ok _ _) ?_
    repeat' first | (refine Tr.all_ite (fun hc => ?_) (fun hc => ?_) <;> (try simp (disch := omega) only [ltI_t, ltI_f, leI_t, leI_f, eqI_t, eqI_f, notB_t, notB_f, andB_t, andB_f, inI_t, bndI_t, ltN_t, ltN_f, leN_t, leN_f, eqN_t, eqN_f, inO_t, roomO_t, mkO_t, minO_min, maxO_max, idO_eq, addO_eq, subO_eq, mulO_eq, toN_eq, addI_eq, subI_eq, mulI_eq, ofNat_cast, negSucc_zero, negSucc_one, negSucc_two, wr_64, tn_succ, Int.toNat_natCast, Int.natCast_zero, Int.natCast_one, Int.cast_ofNat_Int, Nat.zero_add, not_true_eq_false, not_false_eq_true, Bool.true_eq_false, Bool.false_eq_true, eq_self, true_and, and_true] at hc) <;> (try (exfalso; omega))) | (refine Tr.all_req ?_ ?_; · ((try simp (disch := omega) only [ltI_t, ltI_f, leI_t, leI_f, eqI_t, eqI_f, notB_t, notB_f, andB_t, andB_f, inI_t, bndI_t, ltN_t, ltN_f, leN_t, leN_f, eqN_t, eqN_f, inO_t, roomO_t, mkO_t, minO_min, maxO_max, idO_eq, addO_eq, subO_eq, mulO_eq, toN_eq, addI_eq, subI_eq, mulI_eq, ofNat_cast, negSucc_zero, negSucc_one, negSucc_two, wr_64, tn_succ, Int.toNat_natCast, Int.natCast_zero, Int.natCast_one, Int.cast_ofNat_Int, Nat.zero_add, not_true_eq_false, not_false_eq_true, Bool.true_eq_false, Bool.false_eq_true, eq_self, true_and, and_true]); try omega)) | (refine Tr.all_reqP ?_ ?_; · first | exact trivial | rfl | exact ⟨rfl, rfl⟩ | exact ⟨rfl, rfl, rfl⟩ | (simp (disch := omega) only [ltI_t, ltI_f, leI_t, leI_f, eqI_t, eqI_f, notB_t, notB_f, andB_t, andB_f, inI_t, bndI_t, ltN_t, ltN_f, leN_t, leN_f, eqN_t, eqN_f, inO_t, roomO_t, mkO_t, minO_min, maxO_max, idO_eq, addO_eq, subO_eq, mulO_eq, toN_eq, addI_eq, subI_eq, mulI_eq, ofNat_cast, negSucc_zero, negSucc_one, negSucc_two, wr_64, tn_succ, Int.toNat_natCast, Int.natCast_zero, Int.natCast_one, Int.cast_ofNat_Int, Nat.zero_add, not_true_eq_false, not_false_eq_true, Bool.true_eq_false, Bool.false_eq_true, eq_self, true_and, and_true]; done) | ((try simp (disch := omega) only [ltI_t, ltI_f, leI_t, leI_f, eqI_t, eqI_f, notB_t, notB_f, andB_t, andB_f, inI_t, bndI_t, ltN_t, ltN_f, leN_t, leN_f, eqN_t, eqN_f, inO_t, roomO_t, mkO_t, minO_min, maxO_max, idO_eq, addO_eq, subO_eq, mulO_eq, toN_eq, addI_eq, subI_eq, mulI_eq, ofNat_cast, negSucc_zero, negSucc_one, negSucc_two, wr_64, tn_succ, Int.toNat_natCast, Int.natCast_zero, Int.natCast_one, Int.cast_ofNat_Int, Nat.zero_add, not_true_eq_false, not_false_eq_true, Bool.true_eq_false, Bool.false_eq_true, eq_self, true_and, and_true]); omega)) | fail
    all_goals exact Tr.all_ok ⟨rfl, rfl⟩
  have ee : bsE w ls ld zs zd p q = if 0 ≤ p ∧ p < ld ∧ 0 ≤ q ∧ q < ld ∧ p ≠ q then 0 else 2 := by unfold bsE; rw [if_neg (fun h => h e)]
  have hc := chk_drops e
  by_cases hr : 0 ≤ p ∧ p < ld ∧ 0 ≤ q ∧ q < ld ∧ p ≠ q
  case neg =>
    have e2 : bsE w ls ld zs zd p q = 2 := by rw [ee, if_neg hr]
    have ek : bsK w ls ld zs zd p q = 0 := by unfold bsK; rw [e2]; rfl
    rw [e2, ek]
    refine fn_all (n := n + 6) Try.func24 rfl rfl rfl (w24 n w ls ld zs zd H p q (chkB w ls ld zs zd)) (il24' n w ls ld zs zd) (noBT_ok _ _) (noRT_ok _ _) ?_
    repeat' first | (refine Tr.all_ite (fun hc => ?_) (fun hc => ?_) <;> (try simp (disch := omega) only [ltI_t, ltI_f, leI_t, leI_f, eqI_t, eqI_f, notB_t, notB_f, andB_t, andB_f, inI_t, bndI_t, ltN_t, ltN_f, leN_t, leN_f, eqN_t, eqN_f, inO_t, roomO_t, mkO_t, minO_min, maxO_max, idO_eq, addO_eq, subO_eq, mulO_eq, toN_eq, addI_eq, subI_eq, mulI_eq, ofNat_cast, negSucc_zero, negSucc_one, negSucc_two, wr_64, tn_succ, Int.toNat_natCast, Int.natCast_zero, Int.natCast_one, Int.cast_ofNat_Int, Nat.zero_add, not_true_eq_false, not_false_eq_true, Bool.true_eq_false, Bool.false_eq_true, eq_self, true_and, and_true] at hc) <;> (try (exfalso; omega))) | (refine Tr.all_req ?_ ?_; · ((try simp (disch := omega) only [ltI_t, ltI_f, leI_t, leI_f, eqI_t, eqI_f, notB_t, notB_f, andB_t, andB_f, inI_t, bndI_t, ltN_t, ltN_f, leN_t, leN_f, eqN_t, eqN_f, inO_t, roomO_t, mkO_t, minO_min, maxO_max, idO_eq, addO_eq, subO_eq, mulO_eq, toN_eq, addI_eq, subI_eq, mulI_eq, ofNat_cast, negSucc_zero, negSucc_one, negSucc_two, wr_64, tn_succ, Int.toNat_natCast, Int.natCast_zero, Int.natCast_one, Int.cast_ofNat_Int, Nat.zero_add, not_true_eq_false, not_false_eq_true, Bool.true_eq_false, Bool.false_eq_true, eq_self, true_and, and_true]); try omega)) | (refine Tr.all_reqP ?_ ?_; · first | exact trivial | rfl | exact ⟨rfl, rfl⟩ | exact ⟨rfl, rfl, rfl⟩ | (simp (disch := omega) only [ltI_t, ltI_f, leI_t, leI_f, eqI_t, eqI_f, notB_t, notB_f, andB_t, andB_f, inI_t, bndI_t, ltN_t, ltN_f, leN_t, leN_f, eqN_t, eqN_f, inO_t, roomO_t, mkO_t, minO_min, maxO_max, idO_eq, addO_eq, subO_eq, mulO_eq, toN_eq, addI_eq, subI_eq, mulI_eq, ofNat_cast, negSucc_zero, negSucc_one, negSucc_two, wr_64, tn_succ, Int.toNat_natCast, Int.natCast_zero, Int.natCast_one, Int.cast_ofNat_Int, Nat.zero_add, not_true_eq_false, not_false_eq_true, Bool.true_eq_false, Bool.false_eq_true, eq_self, true_and, and_true]; done) | ((try simp (disch := omega) only [ltI_t, ltI_f, leI_t, leI_f, eqI_t, eqI_f, notB_t, notB_f, andB_t, andB_f, inI_t, bndI_t, ltN_t, ltN_f, leN_t, leN_f, eqN_t, eqN_f, inO_t, roomO_t, mkO_t, minO_min, maxO_max, idO_eq, addO_eq, subO_eq, mulO_eq, toN_eq, addI_eq, subI_eq, mulI_eq, ofNat_cast, negSucc_zero, negSucc_one, negSucc_two, wr_64, tn_succ, Int.toNat_natCast, Int.natCast_zero, Int.natCast_one, Int.cast_ofNat_Int, Nat.zero_add, not_true_eq_false, not_false_eq_true, Bool.true_eq_false, Bool.false_eq_true, eq_self, true_and, and_true]); omega)) | fail
    all_goals exact Tr.all_ok ⟨rfl, rfl⟩
  have e2 : bsE w ls ld zs zd p q = 0 := by rw [ee, if_pos hr]
  have d1 := hc.2.2 p.toNat (by omega)
  have d2 := hc.2.2 q.toNat (by omega)
  have ek : bsK w ls ld zs zd p q = bsO w ld zs zd (min p q).toNat (max p q).toNat := by unfold bsK; rw [e2]; rfl
  rw [e2, ek]
  refine fn_all (n := n + 6) Try.func24 rfl rfl rfl (u24 n w ls ld zs zd H p q (chkB w ls ld zs zd) (kndR w ld zs zd (zd (p.toNat * 3)) (zd (q.toNat * 3))) (zd (p.toNat * 3)) (zd (q.toNat * 3)) True (fun i => !exN (eqF zd i.toNat) i.toNat) (exN (eqD (shO zd (((min p q).toNat + 1) * 3)) (zd (p.toNat * 3))) ((max p q).toNat - ((min p q).toNat + 1))) (zd (p.toNat * 3)) (min p q + 1) (max p q)) (il24 n w ls ld zs zd e _ _ True (fun _ => knd_ok e (by simp [isPl]; omega) (by simp [isPl]; omega)))
    (blkE_ok (noBT_ok _ _) b24 (fun x hx => l24 n w ls ld zs zd H p q hc.2.1 _ hr x hx)) (noRT_ok _ _) ?_
  have e1 : IntKind.i64.wrap (min p q + 1) = min p q + 1 := wr_64 (by omega) (by omega)
  repeat' first | (refine Tr.all_ite (fun hc => ?_) (fun hc => ?_) <;> (try simp (disch := omega) only [ltI_t, ltI_f, leI_t, leI_f, eqI_t, eqI_f, notB_t, notB_f, andB_t, andB_f, inI_t, bndI_t, ltN_t, ltN_f, leN_t, leN_f, eqN_t, eqN_f, inO_t, roomO_t, mkO_t, minO_min, maxO_max, idO_eq, addO_eq, subO_eq, mulO_eq, toN_eq, addI_eq, subI_eq, mulI_eq, ofNat_cast, negSucc_zero, negSucc_one, negSucc_two, wr_64, tn_succ, Int.toNat_natCast, Int.natCast_zero, Int.natCast_one, Int.cast_ofNat_Int, Nat.zero_add, not_true_eq_false, not_false_eq_true, Bool.true_eq_false, Bool.false_eq_true, eq_self, true_and, and_true, Bool.not_eq_true', Bool.not_eq_false'] at hc) <;> (try (exfalso; omega))) | (refine Tr.all_req ?_ ?_; · ((try simp (disch := omega) only [ltI_t, ltI_f, leI_t, leI_f, eqI_t, eqI_f, notB_t, notB_f, andB_t, andB_f, inI_t, bndI_t, ltN_t, ltN_f, leN_t, leN_f, eqN_t, eqN_f, inO_t, roomO_t, mkO_t, minO_min, maxO_max, idO_eq, addO_eq, subO_eq, mulO_eq, toN_eq, addI_eq, subI_eq, mulI_eq, ofNat_cast, negSucc_zero, negSucc_one, negSucc_two, wr_64, tn_succ, Int.toNat_natCast, Int.natCast_zero, Int.natCast_one, Int.cast_ofNat_Int, Nat.zero_add, not_true_eq_false, not_false_eq_true, Bool.true_eq_false, Bool.false_eq_true, eq_self, true_and, and_true, Bool.not_eq_true', Bool.not_eq_false']); try omega)) | (refine Tr.all_reqP ?_ ?_; · first | exact trivial | rfl | exact ⟨rfl, rfl⟩ | exact ⟨rfl, rfl, rfl⟩ | (simp (disch := omega) only [ltI_t, ltI_f, leI_t, leI_f, eqI_t, eqI_f, notB_t, notB_f, andB_t, andB_f, inI_t, bndI_t, ltN_t, ltN_f, leN_t, leN_f, eqN_t, eqN_f, inO_t, roomO_t, mkO_t, minO_min, maxO_max, idO_eq, addO_eq, subO_eq, mulO_eq, toN_eq, addI_eq, subI_eq, mulI_eq, ofNat_cast, negSucc_zero, negSucc_one, negSucc_two, wr_64, tn_succ, Int.toNat_natCast, Int.natCast_zero, Int.natCast_one, Int.cast_ofNat_Int, Nat.zero_add, not_true_eq_false, not_false_eq_true, Bool.true_eq_false, Bool.false_eq_true, eq_self, true_and, and_true, Bool.not_eq_true', Bool.not_eq_false']; done) | ((try simp (disch := omega) only [ltI_t, ltI_f, leI_t, leI_f, eqI_t, eqI_f, notB_t, notB_f, andB_t, andB_f, inI_t, bndI_t, ltN_t, ltN_f, leN_t, leN_f, eqN_t, eqN_f, inO_t, roomO_t, mkO_t, minO_min, maxO_max, idO_eq, addO_eq, subO_eq, mulO_eq, toN_eq, addI_eq, subI_eq, mulI_eq, ofNat_cast, negSucc_zero, negSucc_one, negSucc_two, wr_64, tn_succ, Int.toNat_natCast, Int.natCast_zero, Int.natCast_one, Int.cast_ofNat_Int, Nat.zero_add, not_true_eq_false, not_false_eq_true, Bool.true_eq_false, Bool.false_eq_true, eq_self, true_and, and_true, Bool.not_eq_true', Bool.not_eq_false']); omega)) | fail
  all_goals (refine Tr.all_ok ⟨?_, rfl⟩)
  · rename_i h1
    unfold bsO
    have e3 : zd ((min p q).toNat * 3) = zd (p.toNat * 3) := by rcases Int.lt_or_le p q with h | h; rw [show min p q = p by omega]; rw [show min p q = q by omega, h1]
    have e4 : zd ((max p q).toNat * 3) = zd (p.toNat * 3) := by rcases Int.lt_or_le p q with h | h; rw [show max p q = q by omega, h1]; rw [show max p q = p by omega]
    rw [e3, e4, if_pos rfl, if_pos hc]; rfl
  · rename_i h1
    unfold bsO
    have e3 : zd ((min p q).toNat * 3) = zd (p.toNat * 3) := by rcases Int.lt_or_le p q with h | h; rw [show min p q = p by omega]; rw [show min p q = q by omega, h1]
    have e4 : zd ((max p q).toNat * 3) = zd (p.toNat * 3) := by rcases Int.lt_or_le p q with h | h; rw [show max p q = q by omega, h1]; rw [show max p q = p by omega]
    rw [e3, e4, if_pos rfl, if_neg (by rw [hc]; simp)]; rfl
  · rename_i h1
    rw [bsO_symm w ls ld zs zd p q e hr h1, if_pos (.inl hc)]; rfl
  · rename_i h1 h2
    rw [bsO_symm w ls ld zs zd p q e hr h1, if_pos (.inr hc)]; rfl
  · rename_i h1 h2
    rw [bsO_symm w ls ld zs zd p q e hr h1, if_neg (by rw [h2, hc]; simp)]; rfl
end
end Go.Eng
