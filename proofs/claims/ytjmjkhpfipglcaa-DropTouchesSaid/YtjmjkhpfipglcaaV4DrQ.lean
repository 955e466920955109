/- Drop: do two places touch, as it is defined. -/
import Derived.Test.YtjmjkhpfipglcaaV4DrNO
namespace Go.Eng
open Go.Proofs
set_option linter.unusedVariables false
set_option linter.unusedSimpArgs false
set_option maxRecDepth 100000
def g45t (B T : AV) (side : Prop) (so : Int → Int) : List AV → Option (Prop × AV)
  | [b, t, .int .i64 k] => some (b = B ∧ t = T ∧ side, .int .i64 (so k))
  | _ => none
def g46 (B : AV) (P Q : Int) (side : Prop) (ev : Bool → AV) (tm : AV → Bool) : List AV → Option (Prop × AV)
  | [b, t, .int .i64 p, .int .i64 q] => some (b = B ∧ p = P ∧ q = Q ∧ side ∧ (t = ev false ∨ t = ev true), .bool (tm t))
  | _ => none
def g70 (B : AV) (P Q e : Int) : List AV → Option (Prop × AV)
  | [b, .int .i64 p, .int .i64 q] => some (b = B ∧ p = P ∧ q = Q, .int .i64 e)
  | _ => none
def g68 (B : AV) (P Q : Int) (t : AV) (e : Int) : List AV → Option (Prop × AV)
  | [b, .int .i64 p, .int .i64 q] => some (b = B ∧ p = P ∧ q = Q, .tup [t, .int .i64 e])
  | _ => none
theorem u46a (n : Nat) (w : Int) (ls ld lt : Nat) (zs zd tr : Nat → Int) (H : Heap) (p q : Int) (so : Int → Int) (side : Prop) : bodyT Try.prog (cd (n+2)) 100000 46 Try.f46 (Kt.kt 46) (il (ctG noCt 45 (g45t (bathA w ls zs ld zd) (slA 1 lt tr) side so)) (n+1) 1) noBT noRT [(bathA w ls zs ld zd, none), (slA 1 lt tr, none), (.int .i64 p, none), (.int .i64 q, none)] H =
  Tr.ite (ltI p (Int.ofNat 0))
    (Tr.ite (ltI q (Int.ofNat 0)) (Tr.ok ((AV.bool false, some 1), H))
      (Tr.ite (ltI p (Int.ofNat 0))
        (Tr.reqP
          (AV.agg (Row.G [AV.int IntKind.i64 w, AV.slcT none (Row.M [Seg.arr IntKind.i64 zs (mulO ls 2)]) 2 ls false, AV.slcT none (Row.M [Seg.arr IntKind.i64 zd (mulO ld 3)]) 3 ld false]) = AV.agg (Row.G [AV.int IntKind.i64 w, AV.slcT none (Row.M [Seg.arr IntKind.i64 zs (mulO ls 2)]) 2 ls false, AV.slcT none (Row.M [Seg.arr IntKind.i64 zd (mulO ld 3)]) 3 ld false]) ∧
            AV.slcT none (Row.M [Seg.arr IntKind.i64 tr lt]) 1 lt false = AV.slcT none (Row.M [Seg.arr IntKind.i64 tr lt]) 1 lt false ∧ side)
          (Tr.req (inI q ls)
            (Tr.req (ltN (idO 0 q 2) (mulO ls 2))
              (Tr.req (ltN (addO (idO 0 q 2) 1) (mulO ls 2))
                (Tr.ite (eqI (so q) (Int.ofNat 0)) (Tr.ok ((AV.bool false, some 1), H))
                  (Tr.ite (eqI p (Int.negSucc 0)) (Tr.ok ((AV.bool (leI (mulI IntKind.i64 (zs (idO 0 q 2)) (zs (idO 0 q 2))) (so q)), none), H))
                    (Tr.ite (eqI p (Int.negSucc 1)) (Tr.ok ((AV.bool (leI (mulI IntKind.i64 (subI IntKind.i64 w (zs (idO 0 q 2))) (subI IntKind.i64 w (zs (idO 0 q 2)))) (so q)), none), H))
                      (Tr.reqP
                        (AV.agg (Row.G [AV.int IntKind.i64 w, AV.slcT none (Row.M [Seg.arr IntKind.i64 zs (mulO ls 2)]) 2 ls false, AV.slcT none (Row.M [Seg.arr IntKind.i64 zd (mulO ld 3)]) 3 ld false]) = AV.agg (Row.G [AV.int IntKind.i64 w, AV.slcT none (Row.M [Seg.arr IntKind.i64 zs (mulO ls 2)]) 2 ls false, AV.slcT none (Row.M [Seg.arr IntKind.i64 zd (mulO ld 3)]) 3 ld false]) ∧
                          AV.slcT none (Row.M [Seg.arr IntKind.i64 tr lt]) 1 lt false = AV.slcT none (Row.M [Seg.arr IntKind.i64 tr lt]) 1 lt false ∧ side)
                        (Tr.req (inI p ls)
                          (Tr.req (ltN (idO 0 p 2) (mulO ls 2))
                            (Tr.req (ltN (addO (idO 0 p 2) 1) (mulO ls 2))
                              (Tr.ite (eqI (so p) (Int.ofNat 0)) (Tr.ok ((AV.bool false, some 1), H))
                                (Tr.ite (leI (addI IntKind.i64 (mulI IntKind.i64 (subI IntKind.i64 (zs (idO 0 q 2)) (zs (idO 0 p 2))) (subI IntKind.i64 (zs (idO 0 q 2)) (zs (idO 0 p 2)))) (mulI IntKind.i64 (subI IntKind.i64 (zs (addO (idO 0 q 2) 1)) (zs (addO (idO 0 p 2) 1))) (subI IntKind.i64 (zs (addO (idO 0 q 2) 1)) (zs (addO (idO 0 p 2) 1))))) (addI IntKind.i64 (so q) (so p)))
                                  (Tr.ok ((AV.bool true, some 1), H))
                                  (Tr.ok
                                    ((AV.bool
                                          (leI
                                            (mulI IntKind.i64
                                              (subI IntKind.i64 (subI IntKind.i64 (addI IntKind.i64 (mulI IntKind.i64 (subI IntKind.i64 (zs (idO 0 q 2)) (zs (idO 0 p 2))) (subI IntKind.i64 (zs (idO 0 q 2)) (zs (idO 0 p 2)))) (mulI IntKind.i64 (subI IntKind.i64 (zs (addO (idO 0 q 2) 1)) (zs (addO (idO 0 p 2) 1))) (subI IntKind.i64 (zs (addO (idO 0 q 2) 1)) (zs (addO (idO 0 p 2) 1))))) (so q)) (so p))
                                              (subI IntKind.i64 (subI IntKind.i64 (addI IntKind.i64 (mulI IntKind.i64 (subI IntKind.i64 (zs (idO 0 q 2)) (zs (idO 0 p 2))) (subI IntKind.i64 (zs (idO 0 q 2)) (zs (idO 0 p 2)))) (mulI IntKind.i64 (subI IntKind.i64 (zs (addO (idO 0 q 2) 1)) (zs (addO (idO 0 p 2) 1))) (subI IntKind.i64 (zs (addO (idO 0 q 2) 1)) (zs (addO (idO 0 p 2) 1))))) (so q))
                                                (so p)))
                                            (mulI IntKind.i64 (mulI IntKind.i64 (Int.ofNat 4) (so q)) (so p))),
                                        none),
                                      H)))))))))))))))
        (Tr.reqP
          (AV.agg (Row.G [AV.int IntKind.i64 w, AV.slcT none (Row.M [Seg.arr IntKind.i64 zs (mulO ls 2)]) 2 ls false, AV.slcT none (Row.M [Seg.arr IntKind.i64 zd (mulO ld 3)]) 3 ld false]) = AV.agg (Row.G [AV.int IntKind.i64 w, AV.slcT none (Row.M [Seg.arr IntKind.i64 zs (mulO ls 2)]) 2 ls false, AV.slcT none (Row.M [Seg.arr IntKind.i64 zd (mulO ld 3)]) 3 ld false]) ∧
            AV.slcT none (Row.M [Seg.arr IntKind.i64 tr lt]) 1 lt false = AV.slcT none (Row.M [Seg.arr IntKind.i64 tr lt]) 1 lt false ∧ side)
          (Tr.req (inI p ls)
            (Tr.req (ltN (idO 0 p 2) (mulO ls 2))
              (Tr.req (ltN (addO (idO 0 p 2) 1) (mulO ls 2))
                (Tr.ite (eqI (so p) (Int.ofNat 0)) (Tr.ok ((AV.bool false, some 1), H))
                  (Tr.ite (eqI q (Int.negSucc 0)) (Tr.ok ((AV.bool (leI (mulI IntKind.i64 (zs (idO 0 p 2)) (zs (idO 0 p 2))) (so p)), none), H))
                    (Tr.ite (eqI q (Int.negSucc 1)) (Tr.ok ((AV.bool (leI (mulI IntKind.i64 (subI IntKind.i64 w (zs (idO 0 p 2))) (subI IntKind.i64 w (zs (idO 0 p 2)))) (so p)), none), H))
                      (Tr.reqP
                        (AV.agg (Row.G [AV.int IntKind.i64 w, AV.slcT none (Row.M [Seg.arr IntKind.i64 zs (mulO ls 2)]) 2 ls false, AV.slcT none (Row.M [Seg.arr IntKind.i64 zd (mulO ld 3)]) 3 ld false]) = AV.agg (Row.G [AV.int IntKind.i64 w, AV.slcT none (Row.M [Seg.arr IntKind.i64 zs (mulO ls 2)]) 2 ls false, AV.slcT none (Row.M [Seg.arr IntKind.i64 zd (mulO ld 3)]) 3 ld false]) ∧
                          AV.slcT none (Row.M [Seg.arr IntKind.i64 tr lt]) 1 lt false = AV.slcT none (Row.M [Seg.arr IntKind.i64 tr lt]) 1 lt false ∧ side)
                        (Tr.req (inI q ls)
                          (Tr.req (ltN (idO 0 q 2) (mulO ls 2))
                            (Tr.req (ltN (addO (idO 0 q 2) 1) (mulO ls 2))
                              (Tr.ite (eqI (so q) (Int.ofNat 0)) (Tr.ok ((AV.bool false, some 1), H))
                                (Tr.ite (leI (addI IntKind.i64 (mulI IntKind.i64 (subI IntKind.i64 (zs (idO 0 p 2)) (zs (idO 0 q 2))) (subI IntKind.i64 (zs (idO 0 p 2)) (zs (idO 0 q 2)))) (mulI IntKind.i64 (subI IntKind.i64 (zs (addO (idO 0 p 2) 1)) (zs (addO (idO 0 q 2) 1))) (subI IntKind.i64 (zs (addO (idO 0 p 2) 1)) (zs (addO (idO 0 q 2) 1))))) (addI IntKind.i64 (so p) (so q)))
                                  (Tr.ok ((AV.bool true, some 1), H))
                                  (Tr.ok
                                    ((AV.bool
                                          (leI
                                            (mulI IntKind.i64
                                              (subI IntKind.i64 (subI IntKind.i64 (addI IntKind.i64 (mulI IntKind.i64 (subI IntKind.i64 (zs (idO 0 p 2)) (zs (idO 0 q 2))) (subI IntKind.i64 (zs (idO 0 p 2)) (zs (idO 0 q 2)))) (mulI IntKind.i64 (subI IntKind.i64 (zs (addO (idO 0 p 2) 1)) (zs (addO (idO 0 q 2) 1))) (subI IntKind.i64 (zs (addO (idO 0 p 2) 1)) (zs (addO (idO 0 q 2) 1))))) (so p)) (so q))
                                              (subI IntKind.i64 (subI IntKind.i64 (addI IntKind.i64 (mulI IntKind.i64 (subI IntKind.i64 (zs (idO 0 p 2)) (zs (idO 0 q 2))) (subI IntKind.i64 (zs (idO 0 p 2)) (zs (idO 0 q 2)))) (mulI IntKind.i64 (subI IntKind.i64 (zs (addO (idO 0 p 2) 1)) (zs (addO (idO 0 q 2) 1))) (subI IntKind.i64 (zs (addO (idO 0 p 2) 1)) (zs (addO (idO 0 q 2) 1))))) (so p))
                                                (so q)))
                                            (mulI IntKind.i64 (mulI IntKind.i64 (Int.ofNat 4) (so p)) (so q))),
                                        none),
                                      H)))))))))))))))))
    (Tr.ite (ltI p (Int.ofNat 0))
      (Tr.reqP
        (AV.agg (Row.G [AV.int IntKind.i64 w, AV.slcT none (Row.M [Seg.arr IntKind.i64 zs (mulO ls 2)]) 2 ls false, AV.slcT none (Row.M [Seg.arr IntKind.i64 zd (mulO ld 3)]) 3 ld false]) = AV.agg (Row.G [AV.int IntKind.i64 w, AV.slcT none (Row.M [Seg.arr IntKind.i64 zs (mulO ls 2)]) 2 ls false, AV.slcT none (Row.M [Seg.arr IntKind.i64 zd (mulO ld 3)]) 3 ld false]) ∧
          AV.slcT none (Row.M [Seg.arr IntKind.i64 tr lt]) 1 lt false = AV.slcT none (Row.M [Seg.arr IntKind.i64 tr lt]) 1 lt false ∧ side)
        (Tr.req (inI q ls)
          (Tr.req (ltN (idO 0 q 2) (mulO ls 2))
            (Tr.req (ltN (addO (idO 0 q 2) 1) (mulO ls 2))
              (Tr.ite (eqI (so q) (Int.ofNat 0)) (Tr.ok ((AV.bool false, some 1), H))
                (Tr.ite (eqI p (Int.negSucc 0)) (Tr.ok ((AV.bool (leI (mulI IntKind.i64 (zs (idO 0 q 2)) (zs (idO 0 q 2))) (so q)), none), H))
                  (Tr.ite (eqI p (Int.negSucc 1)) (Tr.ok ((AV.bool (leI (mulI IntKind.i64 (subI IntKind.i64 w (zs (idO 0 q 2))) (subI IntKind.i64 w (zs (idO 0 q 2)))) (so q)), none), H))
                    (Tr.reqP
                      (AV.agg (Row.G [AV.int IntKind.i64 w, AV.slcT none (Row.M [Seg.arr IntKind.i64 zs (mulO ls 2)]) 2 ls false, AV.slcT none (Row.M [Seg.arr IntKind.i64 zd (mulO ld 3)]) 3 ld false]) = AV.agg (Row.G [AV.int IntKind.i64 w, AV.slcT none (Row.M [Seg.arr IntKind.i64 zs (mulO ls 2)]) 2 ls false, AV.slcT none (Row.M [Seg.arr IntKind.i64 zd (mulO ld 3)]) 3 ld false]) ∧
                        AV.slcT none (Row.M [Seg.arr IntKind.i64 tr lt]) 1 lt false = AV.slcT none (Row.M [Seg.arr IntKind.i64 tr lt]) 1 lt false ∧ side)
                      (Tr.req (inI p ls)
                        (Tr.req (ltN (idO 0 p 2) (mulO ls 2))
                          (Tr.req (ltN (addO (idO 0 p 2) 1) (mulO ls 2))
                            (Tr.ite (eqI (so p) (Int.ofNat 0)) (Tr.ok ((AV.bool false, some 1), H))
                              (Tr.ite (leI (addI IntKind.i64 (mulI IntKind.i64 (subI IntKind.i64 (zs (idO 0 q 2)) (zs (idO 0 p 2))) (subI IntKind.i64 (zs (idO 0 q 2)) (zs (idO 0 p 2)))) (mulI IntKind.i64 (subI IntKind.i64 (zs (addO (idO 0 q 2) 1)) (zs (addO (idO 0 p 2) 1))) (subI IntKind.i64 (zs (addO (idO 0 q 2) 1)) (zs (addO (idO 0 p 2) 1))))) (addI IntKind.i64 (so q) (so p)))
                                (Tr.ok ((AV.bool true, some 1), H))
                                (Tr.ok
                                  ((AV.bool
                                        (leI
                                          (mulI IntKind.i64
                                            (subI IntKind.i64 (subI IntKind.i64 (addI IntKind.i64 (mulI IntKind.i64 (subI IntKind.i64 (zs (idO 0 q 2)) (zs (idO 0 p 2))) (subI IntKind.i64 (zs (idO 0 q 2)) (zs (idO 0 p 2)))) (mulI IntKind.i64 (subI IntKind.i64 (zs (addO (idO 0 q 2) 1)) (zs (addO (idO 0 p 2) 1))) (subI IntKind.i64 (zs (addO (idO 0 q 2) 1)) (zs (addO (idO 0 p 2) 1))))) (so q)) (so p))
                                            (subI IntKind.i64 (subI IntKind.i64 (addI IntKind.i64 (mulI IntKind.i64 (subI IntKind.i64 (zs (idO 0 q 2)) (zs (idO 0 p 2))) (subI IntKind.i64 (zs (idO 0 q 2)) (zs (idO 0 p 2)))) (mulI IntKind.i64 (subI IntKind.i64 (zs (addO (idO 0 q 2) 1)) (zs (addO (idO 0 p 2) 1))) (subI IntKind.i64 (zs (addO (idO 0 q 2) 1)) (zs (addO (idO 0 p 2) 1))))) (so q)) (so p)))
                                          (mulI IntKind.i64 (mulI IntKind.i64 (Int.ofNat 4) (so q)) (so p))),
                                      none),
                                    H)))))))))))))))
      (Tr.reqP
        (AV.agg (Row.G [AV.int IntKind.i64 w, AV.slcT none (Row.M [Seg.arr IntKind.i64 zs (mulO ls 2)]) 2 ls false, AV.slcT none (Row.M [Seg.arr IntKind.i64 zd (mulO ld 3)]) 3 ld false]) = AV.agg (Row.G [AV.int IntKind.i64 w, AV.slcT none (Row.M [Seg.arr IntKind.i64 zs (mulO ls 2)]) 2 ls false, AV.slcT none (Row.M [Seg.arr IntKind.i64 zd (mulO ld 3)]) 3 ld false]) ∧
          AV.slcT none (Row.M [Seg.arr IntKind.i64 tr lt]) 1 lt false = AV.slcT none (Row.M [Seg.arr IntKind.i64 tr lt]) 1 lt false ∧ side)
        (Tr.req (inI p ls)
          (Tr.req (ltN (idO 0 p 2) (mulO ls 2))
            (Tr.req (ltN (addO (idO 0 p 2) 1) (mulO ls 2))
              (Tr.ite (eqI (so p) (Int.ofNat 0)) (Tr.ok ((AV.bool false, some 1), H))
                (Tr.ite (eqI q (Int.negSucc 0)) (Tr.ok ((AV.bool (leI (mulI IntKind.i64 (zs (idO 0 p 2)) (zs (idO 0 p 2))) (so p)), none), H))
                  (Tr.ite (eqI q (Int.negSucc 1)) (Tr.ok ((AV.bool (leI (mulI IntKind.i64 (subI IntKind.i64 w (zs (idO 0 p 2))) (subI IntKind.i64 w (zs (idO 0 p 2)))) (so p)), none), H))
                    (Tr.reqP
                      (AV.agg (Row.G [AV.int IntKind.i64 w, AV.slcT none (Row.M [Seg.arr IntKind.i64 zs (mulO ls 2)]) 2 ls false, AV.slcT none (Row.M [Seg.arr IntKind.i64 zd (mulO ld 3)]) 3 ld false]) = AV.agg (Row.G [AV.int IntKind.i64 w, AV.slcT none (Row.M [Seg.arr IntKind.i64 zs (mulO ls 2)]) 2 ls false, AV.slcT none (Row.M [Seg.arr IntKind.i64 zd (mulO ld 3)]) 3 ld false]) ∧
                        AV.slcT none (Row.M [Seg.arr IntKind.i64 tr lt]) 1 lt false = AV.slcT none (Row.M [Seg.arr IntKind.i64 tr lt]) 1 lt false ∧ side)
                      (Tr.req (inI q ls)
                        (Tr.req (ltN (idO 0 q 2) (mulO ls 2))
                          (Tr.req (ltN (addO (idO 0 q 2) 1) (mulO ls 2))
                            (Tr.ite (eqI (so q) (Int.ofNat 0)) (Tr.ok ((AV.bool false, some 1), H))
                              (Tr.ite (leI (addI IntKind.i64 (mulI IntKind.i64 (subI IntKind.i64 (zs (idO 0 p 2)) (zs (idO 0 q 2))) (subI IntKind.i64 (zs (idO 0 p 2)) (zs (idO 0 q 2)))) (mulI IntKind.i64 (subI IntKind.i64 (zs (addO (idO 0 p 2) 1)) (zs (addO (idO 0 q 2) 1))) (subI IntKind.i64 (zs (addO (idO 0 p 2) 1)) (zs (addO (idO 0 q 2) 1))))) (addI IntKind.i64 (so p) (so q)))
                                (Tr.ok ((AV.bool true, some 1), H))
                                (Tr.ok
                                  ((AV.bool
                                        (leI
                                          (mulI IntKind.i64
                                            (subI IntKind.i64 (subI IntKind.i64 (addI IntKind.i64 (mulI IntKind.i64 (subI IntKind.i64 (zs (idO 0 p 2)) (zs (idO 0 q 2))) (subI IntKind.i64 (zs (idO 0 p 2)) (zs (idO 0 q 2)))) (mulI IntKind.i64 (subI IntKind.i64 (zs (addO (idO 0 p 2) 1)) (zs (addO (idO 0 q 2) 1))) (subI IntKind.i64 (zs (addO (idO 0 p 2) 1)) (zs (addO (idO 0 q 2) 1))))) (so p)) (so q))
                                            (subI IntKind.i64 (subI IntKind.i64 (addI IntKind.i64 (mulI IntKind.i64 (subI IntKind.i64 (zs (idO 0 p 2)) (zs (idO 0 q 2))) (subI IntKind.i64 (zs (idO 0 p 2)) (zs (idO 0 q 2)))) (mulI IntKind.i64 (subI IntKind.i64 (zs (addO (idO 0 p 2) 1)) (zs (addO (idO 0 q 2) 1))) (subI IntKind.i64 (zs (addO (idO 0 p 2) 1)) (zs (addO (idO 0 q 2) 1))))) (so p)) (so q)))
                                          (mulI IntKind.i64 (mulI IntKind.i64 (Int.ofNat 4) (so p)) (so q))),
                                      none),
                                    H)))))))))))))))) := by kernel_rfl
theorem u46b (n : Nat) (w : Int) (ls ld : Nat) (zs zd : Nat → Int) (H : Heap) (p q : Int) (so : Int → Int) (side : Prop) : bodyT Try.prog (cd (n+2)) 100000 46 Try.f46 (Kt.kt 46) (il (ctG noCt 45 (g45t (bathA w ls zs ld zd) .nils side so)) (n+1) 1) noBT noRT [(bathA w ls zs ld zd, none), (.nils, none), (.int .i64 p, none), (.int .i64 q, none)] H =
  Tr.ite (ltI p (Int.ofNat 0))
    (Tr.ite (ltI q (Int.ofNat 0)) (Tr.ok ((AV.bool false, some 1), H))
      (Tr.ite (ltI p (Int.ofNat 0))
        (Tr.reqP
          (AV.agg (Row.G [AV.int IntKind.i64 w, AV.slcT none (Row.M [Seg.arr IntKind.i64 zs (mulO ls 2)]) 2 ls false, AV.slcT none (Row.M [Seg.arr IntKind.i64 zd (mulO ld 3)]) 3 ld false]) = AV.agg (Row.G [AV.int IntKind.i64 w, AV.slcT none (Row.M [Seg.arr IntKind.i64 zs (mulO ls 2)]) 2 ls false, AV.slcT none (Row.M [Seg.arr IntKind.i64 zd (mulO ld 3)]) 3 ld false]) ∧ AV.nils = AV.nils ∧ side)
          (Tr.req (inI q ls)
            (Tr.req (ltN (idO 0 q 2) (mulO ls 2))
              (Tr.req (ltN (addO (idO 0 q 2) 1) (mulO ls 2))
                (Tr.ite (eqI (so q) (Int.ofNat 0)) (Tr.ok ((AV.bool false, some 1), H))
                  (Tr.ite (eqI p (Int.negSucc 0)) (Tr.ok ((AV.bool (leI (mulI IntKind.i64 (zs (idO 0 q 2)) (zs (idO 0 q 2))) (so q)), none), H))
                    (Tr.ite (eqI p (Int.negSucc 1)) (Tr.ok ((AV.bool (leI (mulI IntKind.i64 (subI IntKind.i64 w (zs (idO 0 q 2))) (subI IntKind.i64 w (zs (idO 0 q 2)))) (so q)), none), H))
                      (Tr.reqP
                        (AV.agg (Row.G [AV.int IntKind.i64 w, AV.slcT none (Row.M [Seg.arr IntKind.i64 zs (mulO ls 2)]) 2 ls false, AV.slcT none (Row.M [Seg.arr IntKind.i64 zd (mulO ld 3)]) 3 ld false]) = AV.agg (Row.G [AV.int IntKind.i64 w, AV.slcT none (Row.M [Seg.arr IntKind.i64 zs (mulO ls 2)]) 2 ls false, AV.slcT none (Row.M [Seg.arr IntKind.i64 zd (mulO ld 3)]) 3 ld false]) ∧
                          AV.nils = AV.nils ∧ side)
                        (Tr.req (inI p ls)
                          (Tr.req (ltN (idO 0 p 2) (mulO ls 2))
                            (Tr.req (ltN (addO (idO 0 p 2) 1) (mulO ls 2))
                              (Tr.ite (eqI (so p) (Int.ofNat 0)) (Tr.ok ((AV.bool false, some 1), H))
                                (Tr.ite (leI (addI IntKind.i64 (mulI IntKind.i64 (subI IntKind.i64 (zs (idO 0 q 2)) (zs (idO 0 p 2))) (subI IntKind.i64 (zs (idO 0 q 2)) (zs (idO 0 p 2)))) (mulI IntKind.i64 (subI IntKind.i64 (zs (addO (idO 0 q 2) 1)) (zs (addO (idO 0 p 2) 1))) (subI IntKind.i64 (zs (addO (idO 0 q 2) 1)) (zs (addO (idO 0 p 2) 1))))) (addI IntKind.i64 (so q) (so p)))
                                  (Tr.ok ((AV.bool true, some 1), H))
                                  (Tr.ok
                                    ((AV.bool
                                          (leI
                                            (mulI IntKind.i64
                                              (subI IntKind.i64 (subI IntKind.i64 (addI IntKind.i64 (mulI IntKind.i64 (subI IntKind.i64 (zs (idO 0 q 2)) (zs (idO 0 p 2))) (subI IntKind.i64 (zs (idO 0 q 2)) (zs (idO 0 p 2)))) (mulI IntKind.i64 (subI IntKind.i64 (zs (addO (idO 0 q 2) 1)) (zs (addO (idO 0 p 2) 1))) (subI IntKind.i64 (zs (addO (idO 0 q 2) 1)) (zs (addO (idO 0 p 2) 1))))) (so q)) (so p))
                                              (subI IntKind.i64 (subI IntKind.i64 (addI IntKind.i64 (mulI IntKind.i64 (subI IntKind.i64 (zs (idO 0 q 2)) (zs (idO 0 p 2))) (subI IntKind.i64 (zs (idO 0 q 2)) (zs (idO 0 p 2)))) (mulI IntKind.i64 (subI IntKind.i64 (zs (addO (idO 0 q 2) 1)) (zs (addO (idO 0 p 2) 1))) (subI IntKind.i64 (zs (addO (idO 0 q 2) 1)) (zs (addO (idO 0 p 2) 1))))) (so q))
                                                (so p)))
                                            (mulI IntKind.i64 (mulI IntKind.i64 (Int.ofNat 4) (so q)) (so p))),
                                        none),
                                      H)))))))))))))))
        (Tr.reqP
          (AV.agg (Row.G [AV.int IntKind.i64 w, AV.slcT none (Row.M [Seg.arr IntKind.i64 zs (mulO ls 2)]) 2 ls false, AV.slcT none (Row.M [Seg.arr IntKind.i64 zd (mulO ld 3)]) 3 ld false]) = AV.agg (Row.G [AV.int IntKind.i64 w, AV.slcT none (Row.M [Seg.arr IntKind.i64 zs (mulO ls 2)]) 2 ls false, AV.slcT none (Row.M [Seg.arr IntKind.i64 zd (mulO ld 3)]) 3 ld false]) ∧ AV.nils = AV.nils ∧ side)
          (Tr.req (inI p ls)
            (Tr.req (ltN (idO 0 p 2) (mulO ls 2))
              (Tr.req (ltN (addO (idO 0 p 2) 1) (mulO ls 2))
                (Tr.ite (eqI (so p) (Int.ofNat 0)) (Tr.ok ((AV.bool false, some 1), H))
                  (Tr.ite (eqI q (Int.negSucc 0)) (Tr.ok ((AV.bool (leI (mulI IntKind.i64 (zs (idO 0 p 2)) (zs (idO 0 p 2))) (so p)), none), H))
                    (Tr.ite (eqI q (Int.negSucc 1)) (Tr.ok ((AV.bool (leI (mulI IntKind.i64 (subI IntKind.i64 w (zs (idO 0 p 2))) (subI IntKind.i64 w (zs (idO 0 p 2)))) (so p)), none), H))
                      (Tr.reqP
                        (AV.agg (Row.G [AV.int IntKind.i64 w, AV.slcT none (Row.M [Seg.arr IntKind.i64 zs (mulO ls 2)]) 2 ls false, AV.slcT none (Row.M [Seg.arr IntKind.i64 zd (mulO ld 3)]) 3 ld false]) = AV.agg (Row.G [AV.int IntKind.i64 w, AV.slcT none (Row.M [Seg.arr IntKind.i64 zs (mulO ls 2)]) 2 ls false, AV.slcT none (Row.M [Seg.arr IntKind.i64 zd (mulO ld 3)]) 3 ld false]) ∧
                          AV.nils = AV.nils ∧ side)
                        (Tr.req (inI q ls)
                          (Tr.req (ltN (idO 0 q 2) (mulO ls 2))
                            (Tr.req (ltN (addO (idO 0 q 2) 1) (mulO ls 2))
                              (Tr.ite (eqI (so q) (Int.ofNat 0)) (Tr.ok ((AV.bool false, some 1), H))
                                (Tr.ite (leI (addI IntKind.i64 (mulI IntKind.i64 (subI IntKind.i64 (zs (idO 0 p 2)) (zs (idO 0 q 2))) (subI IntKind.i64 (zs (idO 0 p 2)) (zs (idO 0 q 2)))) (mulI IntKind.i64 (subI IntKind.i64 (zs (addO (idO 0 p 2) 1)) (zs (addO (idO 0 q 2) 1))) (subI IntKind.i64 (zs (addO (idO 0 p 2) 1)) (zs (addO (idO 0 q 2) 1))))) (addI IntKind.i64 (so p) (so q)))
                                  (Tr.ok ((AV.bool true, some 1), H))
                                  (Tr.ok
                                    ((AV.bool
                                          (leI
                                            (mulI IntKind.i64
                                              (subI IntKind.i64 (subI IntKind.i64 (addI IntKind.i64 (mulI IntKind.i64 (subI IntKind.i64 (zs (idO 0 p 2)) (zs (idO 0 q 2))) (subI IntKind.i64 (zs (idO 0 p 2)) (zs (idO 0 q 2)))) (mulI IntKind.i64 (subI IntKind.i64 (zs (addO (idO 0 p 2) 1)) (zs (addO (idO 0 q 2) 1))) (subI IntKind.i64 (zs (addO (idO 0 p 2) 1)) (zs (addO (idO 0 q 2) 1))))) (so p)) (so q))
                                              (subI IntKind.i64 (subI IntKind.i64 (addI IntKind.i64 (mulI IntKind.i64 (subI IntKind.i64 (zs (idO 0 p 2)) (zs (idO 0 q 2))) (subI IntKind.i64 (zs (idO 0 p 2)) (zs (idO 0 q 2)))) (mulI IntKind.i64 (subI IntKind.i64 (zs (addO (idO 0 p 2) 1)) (zs (addO (idO 0 q 2) 1))) (subI IntKind.i64 (zs (addO (idO 0 p 2) 1)) (zs (addO (idO 0 q 2) 1))))) (so p))
                                                (so q)))
                                            (mulI IntKind.i64 (mulI IntKind.i64 (Int.ofNat 4) (so p)) (so q))),
                                        none),
                                      H)))))))))))))))))
    (Tr.ite (ltI p (Int.ofNat 0))
      (Tr.reqP (AV.agg (Row.G [AV.int IntKind.i64 w, AV.slcT none (Row.M [Seg.arr IntKind.i64 zs (mulO ls 2)]) 2 ls false, AV.slcT none (Row.M [Seg.arr IntKind.i64 zd (mulO ld 3)]) 3 ld false]) = AV.agg (Row.G [AV.int IntKind.i64 w, AV.slcT none (Row.M [Seg.arr IntKind.i64 zs (mulO ls 2)]) 2 ls false, AV.slcT none (Row.M [Seg.arr IntKind.i64 zd (mulO ld 3)]) 3 ld false]) ∧ AV.nils = AV.nils ∧ side)
        (Tr.req (inI q ls)
          (Tr.req (ltN (idO 0 q 2) (mulO ls 2))
            (Tr.req (ltN (addO (idO 0 q 2) 1) (mulO ls 2))
              (Tr.ite (eqI (so q) (Int.ofNat 0)) (Tr.ok ((AV.bool false, some 1), H))
                (Tr.ite (eqI p (Int.negSucc 0)) (Tr.ok ((AV.bool (leI (mulI IntKind.i64 (zs (idO 0 q 2)) (zs (idO 0 q 2))) (so q)), none), H))
                  (Tr.ite (eqI p (Int.negSucc 1)) (Tr.ok ((AV.bool (leI (mulI IntKind.i64 (subI IntKind.i64 w (zs (idO 0 q 2))) (subI IntKind.i64 w (zs (idO 0 q 2)))) (so q)), none), H))
                    (Tr.reqP
                      (AV.agg (Row.G [AV.int IntKind.i64 w, AV.slcT none (Row.M [Seg.arr IntKind.i64 zs (mulO ls 2)]) 2 ls false, AV.slcT none (Row.M [Seg.arr IntKind.i64 zd (mulO ld 3)]) 3 ld false]) = AV.agg (Row.G [AV.int IntKind.i64 w, AV.slcT none (Row.M [Seg.arr IntKind.i64 zs (mulO ls 2)]) 2 ls false, AV.slcT none (Row.M [Seg.arr IntKind.i64 zd (mulO ld 3)]) 3 ld false]) ∧
                        AV.nils = AV.nils ∧ side)
                      (Tr.req (inI p ls)
                        (Tr.req (ltN (idO 0 p 2) (mulO ls 2))
                          (Tr.req (ltN (addO (idO 0 p 2) 1) (mulO ls 2))
                            (Tr.ite (eqI (so p) (Int.ofNat 0)) (Tr.ok ((AV.bool false, some 1), H))
                              (Tr.ite (leI (addI IntKind.i64 (mulI IntKind.i64 (subI IntKind.i64 (zs (idO 0 q 2)) (zs (idO 0 p 2))) (subI IntKind.i64 (zs (idO 0 q 2)) (zs (idO 0 p 2)))) (mulI IntKind.i64 (subI IntKind.i64 (zs (addO (idO 0 q 2) 1)) (zs (addO (idO 0 p 2) 1))) (subI IntKind.i64 (zs (addO (idO 0 q 2) 1)) (zs (addO (idO 0 p 2) 1))))) (addI IntKind.i64 (so q) (so p)))
                                (Tr.ok ((AV.bool true, some 1), H))
                                (Tr.ok
                                  ((AV.bool
                                        (leI
                                          (mulI IntKind.i64
                                            (subI IntKind.i64 (subI IntKind.i64 (addI IntKind.i64 (mulI IntKind.i64 (subI IntKind.i64 (zs (idO 0 q 2)) (zs (idO 0 p 2))) (subI IntKind.i64 (zs (idO 0 q 2)) (zs (idO 0 p 2)))) (mulI IntKind.i64 (subI IntKind.i64 (zs (addO (idO 0 q 2) 1)) (zs (addO (idO 0 p 2) 1))) (subI IntKind.i64 (zs (addO (idO 0 q 2) 1)) (zs (addO (idO 0 p 2) 1))))) (so q)) (so p))
                                            (subI IntKind.i64 (subI IntKind.i64 (addI IntKind.i64 (mulI IntKind.i64 (subI IntKind.i64 (zs (idO 0 q 2)) (zs (idO 0 p 2))) (subI IntKind.i64 (zs (idO 0 q 2)) (zs (idO 0 p 2)))) (mulI IntKind.i64 (subI IntKind.i64 (zs (addO (idO 0 q 2) 1)) (zs (addO (idO 0 p 2) 1))) (subI IntKind.i64 (zs (addO (idO 0 q 2) 1)) (zs (addO (idO 0 p 2) 1))))) (so q)) (so p)))
                                          (mulI IntKind.i64 (mulI IntKind.i64 (Int.ofNat 4) (so q)) (so p))),
                                      none),
                                    H)))))))))))))))
      (Tr.reqP (AV.agg (Row.G [AV.int IntKind.i64 w, AV.slcT none (Row.M [Seg.arr IntKind.i64 zs (mulO ls 2)]) 2 ls false, AV.slcT none (Row.M [Seg.arr IntKind.i64 zd (mulO ld 3)]) 3 ld false]) = AV.agg (Row.G [AV.int IntKind.i64 w, AV.slcT none (Row.M [Seg.arr IntKind.i64 zs (mulO ls 2)]) 2 ls false, AV.slcT none (Row.M [Seg.arr IntKind.i64 zd (mulO ld 3)]) 3 ld false]) ∧ AV.nils = AV.nils ∧ side)
        (Tr.req (inI p ls)
          (Tr.req (ltN (idO 0 p 2) (mulO ls 2))
            (Tr.req (ltN (addO (idO 0 p 2) 1) (mulO ls 2))
              (Tr.ite (eqI (so p) (Int.ofNat 0)) (Tr.ok ((AV.bool false, some 1), H))
                (Tr.ite (eqI q (Int.negSucc 0)) (Tr.ok ((AV.bool (leI (mulI IntKind.i64 (zs (idO 0 p 2)) (zs (idO 0 p 2))) (so p)), none), H))
                  (Tr.ite (eqI q (Int.negSucc 1)) (Tr.ok ((AV.bool (leI (mulI IntKind.i64 (subI IntKind.i64 w (zs (idO 0 p 2))) (subI IntKind.i64 w (zs (idO 0 p 2)))) (so p)), none), H))
                    (Tr.reqP
                      (AV.agg (Row.G [AV.int IntKind.i64 w, AV.slcT none (Row.M [Seg.arr IntKind.i64 zs (mulO ls 2)]) 2 ls false, AV.slcT none (Row.M [Seg.arr IntKind.i64 zd (mulO ld 3)]) 3 ld false]) = AV.agg (Row.G [AV.int IntKind.i64 w, AV.slcT none (Row.M [Seg.arr IntKind.i64 zs (mulO ls 2)]) 2 ls false, AV.slcT none (Row.M [Seg.arr IntKind.i64 zd (mulO ld 3)]) 3 ld false]) ∧
                        AV.nils = AV.nils ∧ side)
                      (Tr.req (inI q ls)
                        (Tr.req (ltN (idO 0 q 2) (mulO ls 2))
                          (Tr.req (ltN (addO (idO 0 q 2) 1) (mulO ls 2))
                            (Tr.ite (eqI (so q) (Int.ofNat 0)) (Tr.ok ((AV.bool false, some 1), H))
                              (Tr.ite (leI (addI IntKind.i64 (mulI IntKind.i64 (subI IntKind.i64 (zs (idO 0 p 2)) (zs (idO 0 q 2))) (subI IntKind.i64 (zs (idO 0 p 2)) (zs (idO 0 q 2)))) (mulI IntKind.i64 (subI IntKind.i64 (zs (addO (idO 0 p 2) 1)) (zs (addO (idO 0 q 2) 1))) (subI IntKind.i64 (zs (addO (idO 0 p 2) 1)) (zs (addO (idO 0 q 2) 1))))) (addI IntKind.i64 (so p) (so q)))
                                (Tr.ok ((AV.bool true, some 1), H))
                                (Tr.ok
                                  ((AV.bool
                                        (leI
                                          (mulI IntKind.i64
                                            (subI IntKind.i64 (subI IntKind.i64 (addI IntKind.i64 (mulI IntKind.i64 (subI IntKind.i64 (zs (idO 0 p 2)) (zs (idO 0 q 2))) (subI IntKind.i64 (zs (idO 0 p 2)) (zs (idO 0 q 2)))) (mulI IntKind.i64 (subI IntKind.i64 (zs (addO (idO 0 p 2) 1)) (zs (addO (idO 0 q 2) 1))) (subI IntKind.i64 (zs (addO (idO 0 p 2) 1)) (zs (addO (idO 0 q 2) 1))))) (so p)) (so q))
                                            (subI IntKind.i64 (subI IntKind.i64 (addI IntKind.i64 (mulI IntKind.i64 (subI IntKind.i64 (zs (idO 0 p 2)) (zs (idO 0 q 2))) (subI IntKind.i64 (zs (idO 0 p 2)) (zs (idO 0 q 2)))) (mulI IntKind.i64 (subI IntKind.i64 (zs (addO (idO 0 p 2) 1)) (zs (addO (idO 0 q 2) 1))) (subI IntKind.i64 (zs (addO (idO 0 p 2) 1)) (zs (addO (idO 0 q 2) 1))))) (so p)) (so q)))
                                          (mulI IntKind.i64 (mulI IntKind.i64 (Int.ofNat 4) (so p)) (so q))),
                                      none),
                                    H)))))))))))))))) := by kernel_rfl
theorem u87 (n : Nat) (w : Int) (ls ld : Nat) (zs zd : Nat → Int) (H : Heap) (p : Int) : bodyT Try.prog (cd (n+2)) 100000 87 Try.f87 (Kt.kt 87) (il noCt (n+1) 1) noBT noRT [(bathA w ls zs ld zd, none), (.int .i64 p, none)] H =
  Tr.ite (eqI p (Int.negSucc 0)) (Tr.ok ((AV.bool true, some 1), H)) (Tr.ite (eqI p (Int.negSucc 1)) (Tr.ok ((AV.bool true, some 1), H)) (Tr.ite (leI (Int.ofNat 0) p) (Tr.ok ((AV.bool (ltI p (Int.ofNat ls)), none), H)) (Tr.ok ((AV.bool false, some 1), H)))) := by kernel_rfl
theorem u71 (n : Nat) (w : Int) (ls ld : Nat) (zs zd : Nat → Int) (H : Heap) (p q : Int) (side : Prop) (ev : Bool → AV) (tm : AV → Bool) : bodyT Try.prog (cd (n+4)) 100000 71 Try.f71 (Kt.kt 71) (il (ctG (ctG noCt 61 (g61 (bathA w ls zs ld zd) side ev)) 46 (g46 (bathA w ls zs ld zd) p q side ev tm)) (n+3) 1) noBT noRT [(bathA w ls zs ld zd, none), (.int .i64 p, none), (.int .i64 q, none)] H =
  Tr.reqP (AV.agg (Row.G [AV.int IntKind.i64 w, AV.slcT none (Row.M [Seg.arr IntKind.i64 zs (mulO ls 2)]) 2 ls false, AV.slcT none (Row.M [Seg.arr IntKind.i64 zd (mulO ld 3)]) 3 ld false]) = AV.agg (Row.G [AV.int IntKind.i64 w, AV.slcT none (Row.M [Seg.arr IntKind.i64 zs (mulO ls 2)]) 2 ls false, AV.slcT none (Row.M [Seg.arr IntKind.i64 zd (mulO ld 3)]) 3 ld false]) ∧ side)
    (Tr.reqP
      (AV.agg (Row.G [AV.int IntKind.i64 w, AV.slcT none (Row.M [Seg.arr IntKind.i64 zs (mulO ls 2)]) 2 ls false, AV.slcT none (Row.M [Seg.arr IntKind.i64 zd (mulO ld 3)]) 3 ld false]) = AV.agg (Row.G [AV.int IntKind.i64 w, AV.slcT none (Row.M [Seg.arr IntKind.i64 zs (mulO ls 2)]) 2 ls false, AV.slcT none (Row.M [Seg.arr IntKind.i64 zd (mulO ld 3)]) 3 ld false]) ∧
        p = p ∧ q = q ∧ side ∧ (ev false = ev false ∨ ev false = ev true))
      (Tr.ite (tm (ev false)) (Tr.ok ((AV.int IntKind.i64 (Int.ofNat 2), some 1), H))
        (Tr.reqP (AV.agg (Row.G [AV.int IntKind.i64 w, AV.slcT none (Row.M [Seg.arr IntKind.i64 zs (mulO ls 2)]) 2 ls false, AV.slcT none (Row.M [Seg.arr IntKind.i64 zd (mulO ld 3)]) 3 ld false]) = AV.agg (Row.G [AV.int IntKind.i64 w, AV.slcT none (Row.M [Seg.arr IntKind.i64 zs (mulO ls 2)]) 2 ls false, AV.slcT none (Row.M [Seg.arr IntKind.i64 zd (mulO ld 3)]) 3 ld false]) ∧ side)
          (Tr.reqP
            (AV.agg (Row.G [AV.int IntKind.i64 w, AV.slcT none (Row.M [Seg.arr IntKind.i64 zs (mulO ls 2)]) 2 ls false, AV.slcT none (Row.M [Seg.arr IntKind.i64 zd (mulO ld 3)]) 3 ld false]) = AV.agg (Row.G [AV.int IntKind.i64 w, AV.slcT none (Row.M [Seg.arr IntKind.i64 zs (mulO ls 2)]) 2 ls false, AV.slcT none (Row.M [Seg.arr IntKind.i64 zd (mulO ld 3)]) 3 ld false]) ∧
              p = p ∧ q = q ∧ side ∧ (ev true = ev false ∨ ev true = ev true))
            (Tr.ite (tm (ev true)) (Tr.ok ((AV.int IntKind.i64 (Int.ofNat 1), some 1), H)) (Tr.ok ((AV.int IntKind.i64 (Int.ofNat 0), some 1), H))))))) := by kernel_rfl
theorem u22 (n : Nat) (w : Int) (ls ld : Nat) (zs zd : Nat → Int) (H : Heap) (p q e k : Int) : bodyT Try.prog (cd (n+6)) 100000 22 Try.f22 (Kt.kt 22) (il (ctG (ctG noCt 70 (g70 (bathA w ls zs ld zd) p q e)) 71 (g70 (bathA w ls zs ld zd) p q k)) (n+5) 1) noBT noRT [(bathA w ls zs ld zd, none), (.int .i64 p, none), (.int .i64 q, none)] H =
  Tr.reqP (AV.agg (Row.G [AV.int IntKind.i64 w, AV.slcT none (Row.M [Seg.arr IntKind.i64 zs (mulO ls 2)]) 2 ls false, AV.slcT none (Row.M [Seg.arr IntKind.i64 zd (mulO ld 3)]) 3 ld false]) = AV.agg (Row.G [AV.int IntKind.i64 w, AV.slcT none (Row.M [Seg.arr IntKind.i64 zs (mulO ls 2)]) 2 ls false, AV.slcT none (Row.M [Seg.arr IntKind.i64 zd (mulO ld 3)]) 3 ld false]) ∧ p = p ∧ q = q)
    (Tr.ite (notB (eqI e (Int.ofNat 0)))
      (Tr.reqP (AV.agg (Row.G [AV.int IntKind.i64 w, AV.slcT none (Row.M [Seg.arr IntKind.i64 zs (mulO ls 2)]) 2 ls false, AV.slcT none (Row.M [Seg.arr IntKind.i64 zd (mulO ld 3)]) 3 ld false]) = AV.agg (Row.G [AV.int IntKind.i64 w, AV.slcT none (Row.M [Seg.arr IntKind.i64 zs (mulO ls 2)]) 2 ls false, AV.slcT none (Row.M [Seg.arr IntKind.i64 zd (mulO ld 3)]) 3 ld false]) ∧ p = p ∧ q = q)
        (Tr.ok ((AV.tup [AV.int IntKind.i64 (Int.ofNat 0), AV.int IntKind.i64 e], none), H)))
      (Tr.reqP (AV.agg (Row.G [AV.int IntKind.i64 w, AV.slcT none (Row.M [Seg.arr IntKind.i64 zs (mulO ls 2)]) 2 ls false, AV.slcT none (Row.M [Seg.arr IntKind.i64 zd (mulO ld 3)]) 3 ld false]) = AV.agg (Row.G [AV.int IntKind.i64 w, AV.slcT none (Row.M [Seg.arr IntKind.i64 zs (mulO ls 2)]) 2 ls false, AV.slcT none (Row.M [Seg.arr IntKind.i64 zd (mulO ld 3)]) 3 ld false]) ∧ p = p ∧ q = q)
        (Tr.ok ((AV.tup [AV.int IntKind.i64 k, AV.int IntKind.i64 (Int.ofNat 0)], none), H)))) := by kernel_rfl
theorem u21a (n : Nat) (w : Int) (ls ld : Nat) (zs zd : Nat → Int) (H : Heap) (p q e : Int) : bodyT Try.prog (cd (n+15)) 100000 21 Try.f21 (Kt.kt 21) (il (ctG noCt 68 (g68 (bathA w ls zs ld zd) p q .nilp e)) (n+14) 1) noBT noRT [(bathA w ls zs ld zd, none), (.int .i64 p, none), (.int .i64 q, none)] H =
  Tr.reqP (AV.agg (Row.G [AV.int IntKind.i64 w, AV.slcT none (Row.M [Seg.arr IntKind.i64 zs (mulO ls 2)]) 2 ls false, AV.slcT none (Row.M [Seg.arr IntKind.i64 zd (mulO ld 3)]) 3 ld false]) = AV.agg (Row.G [AV.int IntKind.i64 w, AV.slcT none (Row.M [Seg.arr IntKind.i64 zs (mulO ls 2)]) 2 ls false, AV.slcT none (Row.M [Seg.arr IntKind.i64 zd (mulO ld 3)]) 3 ld false]) ∧ p = p ∧ q = q)
    (Tr.ite (notB (eqI e (Int.ofNat 0))) (Tr.ok ((AV.tup [AV.int IntKind.i64 (Int.ofNat 0), AV.int IntKind.i64 e], none), H)) Tr.bad) := by kernel_rfl
theorem u21b (n : Nat) (w : Int) (ls ld : Nat) (zs zd sz kd : Nat → Int) (H : Heap) (p q : Int) : bodyT Try.prog (cd (n+15)) 100000 21 Try.f21 (Kt.kt 21) (il (ctG noCt 68 (g68 (bathA w ls zs ld zd) p q (tabV w ls ld zs zd sz kd) 0)) (n+14) 1) noBT noRT [(bathA w ls zs ld zd, none), (.int .i64 p, none), (.int .i64 q, none)] H =
  Tr.reqP (AV.agg (Row.G [AV.int IntKind.i64 w, AV.slcT none (Row.M [Seg.arr IntKind.i64 zs (mulO ls 2)]) 2 ls false, AV.slcT none (Row.M [Seg.arr IntKind.i64 zd (mulO ld 3)]) 3 ld false]) = AV.agg (Row.G [AV.int IntKind.i64 w, AV.slcT none (Row.M [Seg.arr IntKind.i64 zs (mulO ls 2)]) 2 ls false, AV.slcT none (Row.M [Seg.arr IntKind.i64 zd (mulO ld 3)]) 3 ld false]) ∧ p = p ∧ q = q)
    (Tr.ite (notB (eqI (Int.ofNat 0) (Int.ofNat 0))) (Tr.ok ((AV.tup [AV.int IntKind.i64 (Int.ofNat 0), AV.int IntKind.i64 (Int.ofNat 0)], none), H))
      (Tr.req (inI (addI IntKind.i64 p (Int.ofNat 2)) 12)
        (Tr.req (inI (addI IntKind.i64 q (Int.ofNat 2)) 12) (Tr.req (inO (idO (idO 4 (addI IntKind.i64 p (Int.ofNat 2)) 12) (addI IntKind.i64 q (Int.ofNat 2)) 1) 1 4 144) (Tr.ok ((AV.tup [AV.int IntKind.i64 (kd (subO (idO (idO 4 (addI IntKind.i64 p (Int.ofNat 2)) 12) (addI IntKind.i64 q (Int.ofNat 2)) 1) 4)), AV.int IntKind.i64 (Int.ofNat 0)], none), H)))))) := by kernel_rfl
end Go.Eng
