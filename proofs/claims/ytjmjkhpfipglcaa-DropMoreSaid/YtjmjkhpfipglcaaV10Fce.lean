/- Drop: alone: rounds over all places. -/
import Derived.Test.YtjmjkhpfipglcaaV10Fab
section
namespace Go.Eng
open Go.Proofs
set_option linter.unusedVariables false
set_option linter.unusedSimpArgs false
set_option maxRecDepth 100000
noncomputable def tabR (k : Nat) (w : Int) (ls ld : Nat) (zs zd sz kd : Nat → Int) : AV := .ptrT (some k) (.M [.one (.int .i64 w), .one (slA 2 ls zs), .one (slA 3 ld zd), .one (.slcT none (.M [.arr .i64 sz (mulO ls 2)]) 2 ls true), .arr .i64 kd 144]) 0
noncomputable def lv79 (w : Int) (ls ld : Nat) (zs zd sz kd : Nat → Int) (s more : Int) : Lvl := ⟨false, [(0, .row (.G [tabR 1 w ls ld zs zd sz kd])), (0, .row (.I .i64 [s])), (0, .row (.I .i64 [more])), (0, .row (.G [.fn (.func 102) [] [.ptr 0 1 0 0, .ptr 0 0 0 0, .ptr 0 2 0 0]]))]⟩
noncomputable def lv103 (x : Int) (rest : List (Nat × Blk)) : Lvl := ⟨false, [(0, .row (.G [.fn (.func 104) [] [.ptr 1 1 0 0, .ptr 1 0 0 0, .ptr 1 3 0 0]])), (0, .row (.I .i64 [x]))] ++ rest⟩
noncomputable def fr103 (w : Int) (ls ld : Nat) (zs zd sz kd : Nat → Int) : Frm := [(3, .ptr 0 0 0 0), (4, .ptr 0 1 0 0), (6, .fn (.func 109) [] [.ptrT (some 1) (.G [tabR 1 w ls ld zs zd sz kd]) 0])]
def g104 (P : Int) (b : Bool) : List AV → Option (Prop × AV)
  | [.int .i64 p, .ptr 3 1 0 0, .ptr 3 0 0 0, .ptr 3 3 0 0] => some (p = P, .bool b)
  | _ => none
noncomputable def frA (w : Int) (ls ld : Nat) (zs zd sz kd : Nat → Int) (p : Int) : Frm := [(0, .yld 1 2), (1, .ptrT (some 2) (.G [tabR 1 w ls ld zs zd sz kd]) 0), (3, .int .i64 p)]
noncomputable def frB (w : Int) (ls ld : Nat) (zs zd sz kd : Nat → Int) (p : Int) : Frm := [(3, .ptr 2 0 0 0), (4, .ptr 2 1 0 0), (6, .fn (.func 109) [] [.ptrT (some 3) (.G [tabR 1 w ls ld zs zd sz kd]) 0]), (7, .int .i64 p)]
noncomputable def cx103 (n : Nat) : Cx := ⟨Try.prog, cd n, 100000, 103, 12, Kt.kt 103, some (2, 2)⟩
theorem u104 (n : Nat) (w : Int) (ls ld : Nat) (zs zd sz kd : Nat → Int) (H : Heap) (s more p x : Int) (L : Blk) (bo : Int → Int → Int → Int → Int → Int → Bool) : bodyT Try.prog (cd (n+5)) 100000 104 Try.f104 (Kt.kt 104) (il (ctG noCt 112 (g112 bo)) (n+1) 4) noBT noRT [(.int .i64 p, none), (.ptr 3 1 0 0, none), (.ptr 3 0 0 0, none), (.ptr 3 3 0 0, none)] (lv0 :: lv0 :: lv103 x [(0, L)] :: lv79 w ls ld zs zd sz kd s more :: H) =
  Tr.ite (notB (eqI p s)) (Tr.ite (ltI s (Int.ofNat 0)) (Tr.ite (ltI p (Int.ofNat 0)) (Tr.ok ((AV.bool false, some 1), { lock := false, bs := [] } :: { lock := false, bs := [] } :: { lock := false, bs := [(0, Blk.row (Row.G [AV.fn (Fn.func 104) [] [AV.ptr 1 1 0 0, AV.ptr 1 0 0 0, AV.ptr 1 3 0 0]])), (0, Blk.row (Row.I .i64 [x])), (0, L)] } :: lv79 w ls ld zs zd sz kd s more :: H)) (Tr.ite (ltI s (Int.ofNat 0)) (Tr.req (inI p ls) (Tr.req (ltN (idO 0 p 2) (mulO ls 2)) (Tr.req (ltN (addO (idO 0 p 2) 1) (mulO ls 2)) (Tr.ite (eqI p s) (Tr.req (inI p ls) (Tr.req (ltN (addO (idO 0 p 2) 1) (mulO ls 2)) (Tr.ite (eqI (addI .i64 (sz (addO (idO 0 p 2) 1)) more) (Int.ofNat 0)) (Tr.ok ((AV.bool false, some 1), { lock := false, bs := [] } :: { lock := false, bs := [] } :: { lock := false, bs := [(0, Blk.row (Row.G [AV.fn (Fn.func 104) [] [AV.ptr 1 1 0 0, AV.ptr 1 0 0 0, AV.ptr 1 3 0 0]])), (0, Blk.row (Row.I .i64 [x])), (0, L)] } :: lv79 w ls ld zs zd sz kd s more :: H)) (Tr.ite (eqI s (Int.negSucc 1)) (Tr.ok ((AV.bool (leI (mulI .i64 (subI .i64 w (zs (idO 0 p 2))) (subI .i64 w (zs (idO 0 p 2)))) (addI .i64 (sz (addO (idO 0 p 2) 1)) more)), none), { lock := false, bs := [] } :: { lock := false, bs := [] } :: { lock := false, bs := [(0, Blk.row (Row.G [AV.fn (Fn.func 104) [] [AV.ptr 1 1 0 0, AV.ptr 1 0 0 0, AV.ptr 1 3 0 0]])), (0, Blk.row (Row.I .i64 [x])), (0, L)] } :: lv79 w ls ld zs zd sz kd s more :: H)) (Tr.ite (leI (Int.ofNat 0) s) (Tr.ite (eqI s s) (Tr.req (inI s ls) (Tr.req (ltN (addO (idO 0 s 2) 1) (mulO ls 2)) (Tr.req (inI s ls) (Tr.req (ltN (idO 0 s 2) (mulO ls 2)) (Tr.req (ltN (addO (idO 0 s 2) 1) (mulO ls 2)) (Tr.reqP True (Tr.ok ((AV.bool (bo (addI .i64 (sz (addO (idO 0 p 2) 1)) more) (addI .i64 (sz (addO (idO 0 s 2) 1)) more) (zs (idO 0 p 2)) (zs (addO (idO 0 p 2) 1)) (zs (idO 0 s 2)) (zs (addO (idO 0 s 2) 1))), none), { lock := false, bs := [] } :: { lock := false, bs := [] } :: { lock := false, bs := [(0, Blk.row (Row.G [AV.fn (Fn.func 104) [] [AV.ptr 1 1 0 0, AV.ptr 1 0 0 0, AV.ptr 1 3 0 0]])), (0, Blk.row (Row.I .i64 [x])), (0, L)] } :: lv79 w ls ld zs zd sz kd s more :: H)))))))) (Tr.req (inI s ls) (Tr.req (ltN (addO (idO 0 s 2) 1) (mulO ls 2)) (Tr.req (inI s ls) (Tr.req (ltN (idO 0 s 2) (mulO ls 2)) (Tr.req (ltN (addO (idO 0 s 2) 1) (mulO ls 2)) (Tr.reqP True (Tr.ok ((AV.bool (bo (addI .i64 (sz (addO (idO 0 p 2) 1)) more) (sz (addO (idO 0 s 2) 1)) (zs (idO 0 p 2)) (zs (addO (idO 0 p 2) 1)) (zs (idO 0 s 2)) (zs (addO (idO 0 s 2) 1))), none), { lock := false, bs := [] } :: { lock := false, bs := [] } :: { lock := false, bs := [(0, Blk.row (Row.G [AV.fn (Fn.func 104) [] [AV.ptr 1 1 0 0, AV.ptr 1 0 0 0, AV.ptr 1 3 0 0]])), (0, Blk.row (Row.I .i64 [x])), (0, L)] } :: lv79 w ls ld zs zd sz kd s more :: H))))))))) (Tr.ok ((AV.bool (leI (mulI .i64 (zs (idO 0 p 2)) (zs (idO 0 p 2))) (addI .i64 (sz (addO (idO 0 p 2) 1)) more)), none), { lock := false, bs := [] } :: { lock := false, bs := [] } :: { lock := false, bs := [(0, Blk.row (Row.G [AV.fn (Fn.func 104) [] [AV.ptr 1 1 0 0, AV.ptr 1 0 0 0, AV.ptr 1 3 0 0]])), (0, Blk.row (Row.I .i64 [x])), (0, L)] } :: lv79 w ls ld zs zd sz kd s more :: H))))))) (Tr.req (inI p ls) (Tr.req (ltN (addO (idO 0 p 2) 1) (mulO ls 2)) (Tr.ite (eqI (sz (addO (idO 0 p 2) 1)) (Int.ofNat 0)) (Tr.ok ((AV.bool false, some 1), { lock := false, bs := [] } :: { lock := false, bs := [] } :: { lock := false, bs := [(0, Blk.row (Row.G [AV.fn (Fn.func 104) [] [AV.ptr 1 1 0 0, AV.ptr 1 0 0 0, AV.ptr 1 3 0 0]])), (0, Blk.row (Row.I .i64 [x])), (0, L)] } :: lv79 w ls ld zs zd sz kd s more :: H)) (Tr.ite (eqI s (Int.negSucc 1)) (Tr.ok ((AV.bool (leI (mulI .i64 (subI .i64 w (zs (idO 0 p 2))) (subI .i64 w (zs (idO 0 p 2)))) (sz (addO (idO 0 p 2) 1))), none), { lock := false, bs := [] } :: { lock := false, bs := [] } :: { lock := false, bs := [(0, Blk.row (Row.G [AV.fn (Fn.func 104) [] [AV.ptr 1 1 0 0, AV.ptr 1 0 0 0, AV.ptr 1 3 0 0]])), (0, Blk.row (Row.I .i64 [x])), (0, L)] } :: lv79 w ls ld zs zd sz kd s more :: H)) (Tr.ite (leI (Int.ofNat 0) s) (Tr.ite (eqI s s) (Tr.req (inI s ls) (Tr.req (ltN (addO (idO 0 s 2) 1) (mulO ls 2)) (Tr.req (inI s ls) (Tr.req (ltN (idO 0 s 2) (mulO ls 2)) (Tr.req (ltN (addO (idO 0 s 2) 1) (mulO ls 2)) (Tr.reqP True (Tr.ok ((AV.bool (bo (sz (addO (idO 0 p 2) 1)) (addI .i64 (sz (addO (idO 0 s 2) 1)) more) (zs (idO 0 p 2)) (zs (addO (idO 0 p 2) 1)) (zs (idO 0 s 2)) (zs (addO (idO 0 s 2) 1))), none), { lock := false, bs := [] } :: { lock := false, bs := [] } :: { lock := false, bs := [(0, Blk.row (Row.G [AV.fn (Fn.func 104) [] [AV.ptr 1 1 0 0, AV.ptr 1 0 0 0, AV.ptr 1 3 0 0]])), (0, Blk.row (Row.I .i64 [x])), (0, L)] } :: lv79 w ls ld zs zd sz kd s more :: H)))))))) (Tr.req (inI s ls) (Tr.req (ltN (addO (idO 0 s 2) 1) (mulO ls 2)) (Tr.req (inI s ls) (Tr.req (ltN (idO 0 s 2) (mulO ls 2)) (Tr.req (ltN (addO (idO 0 s 2) 1) (mulO ls 2)) (Tr.reqP True (Tr.ok ((AV.bool (bo (sz (addO (idO 0 p 2) 1)) (sz (addO (idO 0 s 2) 1)) (zs (idO 0 p 2)) (zs (addO (idO 0 p 2) 1)) (zs (idO 0 s 2)) (zs (addO (idO 0 s 2) 1))), none), { lock := false, bs := [] } :: { lock := false, bs := [] } :: { lock := false, bs := [(0, Blk.row (Row.G [AV.fn (Fn.func 104) [] [AV.ptr 1 1 0 0, AV.ptr 1 0 0 0, AV.ptr 1 3 0 0]])), (0, Blk.row (Row.I .i64 [x])), (0, L)] } :: lv79 w ls ld zs zd sz kd s more :: H))))))))) (Tr.ok ((AV.bool (leI (mulI .i64 (zs (idO 0 p 2)) (zs (idO 0 p 2))) (sz (addO (idO 0 p 2) 1))), none), { lock := false, bs := [] } :: { lock := false, bs := [] } :: { lock := false, bs := [(0, Blk.row (Row.G [AV.fn (Fn.func 104) [] [AV.ptr 1 1 0 0, AV.ptr 1 0 0 0, AV.ptr 1 3 0 0]])), (0, Blk.row (Row.I .i64 [x])), (0, L)] } :: lv79 w ls ld zs zd sz kd s more :: H))))))))))) (Tr.req (inI s ls) (Tr.req (ltN (idO 0 s 2) (mulO ls 2)) (Tr.req (ltN (addO (idO 0 s 2) 1) (mulO ls 2)) (Tr.ite (eqI s s) (Tr.req (inI s ls) (Tr.req (ltN (addO (idO 0 s 2) 1) (mulO ls 2)) (Tr.ite (eqI (addI .i64 (sz (addO (idO 0 s 2) 1)) more) (Int.ofNat 0)) (Tr.ok ((AV.bool false, some 1), { lock := false, bs := [] } :: { lock := false, bs := [] } :: { lock := false, bs := [(0, Blk.row (Row.G [AV.fn (Fn.func 104) [] [AV.ptr 1 1 0 0, AV.ptr 1 0 0 0, AV.ptr 1 3 0 0]])), (0, Blk.row (Row.I .i64 [x])), (0, L)] } :: lv79 w ls ld zs zd sz kd s more :: H)) (Tr.ite (eqI p (Int.negSucc 1)) (Tr.ok ((AV.bool (leI (mulI .i64 (subI .i64 w (zs (idO 0 s 2))) (subI .i64 w (zs (idO 0 s 2)))) (addI .i64 (sz (addO (idO 0 s 2) 1)) more)), none), { lock := false, bs := [] } :: { lock := false, bs := [] } :: { lock := false, bs := [(0, Blk.row (Row.G [AV.fn (Fn.func 104) [] [AV.ptr 1 1 0 0, AV.ptr 1 0 0 0, AV.ptr 1 3 0 0]])), (0, Blk.row (Row.I .i64 [x])), (0, L)] } :: lv79 w ls ld zs zd sz kd s more :: H)) (Tr.ite (leI (Int.ofNat 0) p) (Tr.ite (eqI p s) (Tr.req (inI p ls) (Tr.req (ltN (addO (idO 0 p 2) 1) (mulO ls 2)) (Tr.req (inI p ls) (Tr.req (ltN (idO 0 p 2) (mulO ls 2)) (Tr.req (ltN (addO (idO 0 p 2) 1) (mulO ls 2)) (Tr.reqP True (Tr.ok ((AV.bool (bo (addI .i64 (sz (addO (idO 0 s 2) 1)) more) (addI .i64 (sz (addO (idO 0 p 2) 1)) more) (zs (idO 0 s 2)) (zs (addO (idO 0 s 2) 1)) (zs (idO 0 p 2)) (zs (addO (idO 0 p 2) 1))), none), { lock := false, bs := [] } :: { lock := false, bs := [] } :: { lock := false, bs := [(0, Blk.row (Row.G [AV.fn (Fn.func 104) [] [AV.ptr 1 1 0 0, AV.ptr 1 0 0 0, AV.ptr 1 3 0 0]])), (0, Blk.row (Row.I .i64 [x])), (0, L)] } :: lv79 w ls ld zs zd sz kd s more :: H)))))))) (Tr.req (inI p ls) (Tr.req (ltN (addO (idO 0 p 2) 1) (mulO ls 2)) (Tr.req (inI p ls) (Tr.req (ltN (idO 0 p 2) (mulO ls 2)) (Tr.req (ltN (addO (idO 0 p 2) 1) (mulO ls 2)) (Tr.reqP True (Tr.ok ((AV.bool (bo (addI .i64 (sz (addO (idO 0 s 2) 1)) more) (sz (addO (idO 0 p 2) 1)) (zs (idO 0 s 2)) (zs (addO (idO 0 s 2) 1)) (zs (idO 0 p 2)) (zs (addO (idO 0 p 2) 1))), none), { lock := false, bs := [] } :: { lock := false, bs := [] } :: { lock := false, bs := [(0, Blk.row (Row.G [AV.fn (Fn.func 104) [] [AV.ptr 1 1 0 0, AV.ptr 1 0 0 0, AV.ptr 1 3 0 0]])), (0, Blk.row (Row.I .i64 [x])), (0, L)] } :: lv79 w ls ld zs zd sz kd s more :: H))))))))) (Tr.ok ((AV.bool (leI (mulI .i64 (zs (idO 0 s 2)) (zs (idO 0 s 2))) (addI .i64 (sz (addO (idO 0 s 2) 1)) more)), none), { lock := false, bs := [] } :: { lock := false, bs := [] } :: { lock := false, bs := [(0, Blk.row (Row.G [AV.fn (Fn.func 104) [] [AV.ptr 1 1 0 0, AV.ptr 1 0 0 0, AV.ptr 1 3 0 0]])), (0, Blk.row (Row.I .i64 [x])), (0, L)] } :: lv79 w ls ld zs zd sz kd s more :: H))))))) (Tr.req (inI s ls) (Tr.req (ltN (addO (idO 0 s 2) 1) (mulO ls 2)) (Tr.ite (eqI (sz (addO (idO 0 s 2) 1)) (Int.ofNat 0)) (Tr.ok ((AV.bool false, some 1), { lock := false, bs := [] } :: { lock := false, bs := [] } :: { lock := false, bs := [(0, Blk.row (Row.G [AV.fn (Fn.func 104) [] [AV.ptr 1 1 0 0, AV.ptr 1 0 0 0, AV.ptr 1 3 0 0]])), (0, Blk.row (Row.I .i64 [x])), (0, L)] } :: lv79 w ls ld zs zd sz kd s more :: H)) (Tr.ite (eqI p (Int.negSucc 1)) (Tr.ok ((AV.bool (leI (mulI .i64 (subI .i64 w (zs (idO 0 s 2))) (subI .i64 w (zs (idO 0 s 2)))) (sz (addO (idO 0 s 2) 1))), none), { lock := false, bs := [] } :: { lock := false, bs := [] } :: { lock := false, bs := [(0, Blk.row (Row.G [AV.fn (Fn.func 104) [] [AV.ptr 1 1 0 0, AV.ptr 1 0 0 0, AV.ptr 1 3 0 0]])), (0, Blk.row (Row.I .i64 [x])), (0, L)] } :: lv79 w ls ld zs zd sz kd s more :: H)) (Tr.ite (leI (Int.ofNat 0) p) (Tr.ite (eqI p s) (Tr.req (inI p ls) (Tr.req (ltN (addO (idO 0 p 2) 1) (mulO ls 2)) (Tr.req (inI p ls) (Tr.req (ltN (idO 0 p 2) (mulO ls 2)) (Tr.req (ltN (addO (idO 0 p 2) 1) (mulO ls 2)) (Tr.reqP True (Tr.ok ((AV.bool (bo (sz (addO (idO 0 s 2) 1)) (addI .i64 (sz (addO (idO 0 p 2) 1)) more) (zs (idO 0 s 2)) (zs (addO (idO 0 s 2) 1)) (zs (idO 0 p 2)) (zs (addO (idO 0 p 2) 1))), none), { lock := false, bs := [] } :: { lock := false, bs := [] } :: { lock := false, bs := [(0, Blk.row (Row.G [AV.fn (Fn.func 104) [] [AV.ptr 1 1 0 0, AV.ptr 1 0 0 0, AV.ptr 1 3 0 0]])), (0, Blk.row (Row.I .i64 [x])), (0, L)] } :: lv79 w ls ld zs zd sz kd s more :: H)))))))) (Tr.req (inI p ls) (Tr.req (ltN (addO (idO 0 p 2) 1) (mulO ls 2)) (Tr.req (inI p ls) (Tr.req (ltN (idO 0 p 2) (mulO ls 2)) (Tr.req (ltN (addO (idO 0 p 2) 1) (mulO ls 2)) (Tr.reqP True (Tr.ok ((AV.bool (bo (sz (addO (idO 0 s 2) 1)) (sz (addO (idO 0 p 2) 1)) (zs (idO 0 s 2)) (zs (addO (idO 0 s 2) 1)) (zs (idO 0 p 2)) (zs (addO (idO 0 p 2) 1))), none), { lock := false, bs := [] } :: { lock := false, bs := [] } :: { lock := false, bs := [(0, Blk.row (Row.G [AV.fn (Fn.func 104) [] [AV.ptr 1 1 0 0, AV.ptr 1 0 0 0, AV.ptr 1 3 0 0]])), (0, Blk.row (Row.I .i64 [x])), (0, L)] } :: lv79 w ls ld zs zd sz kd s more :: H))))))))) (Tr.ok ((AV.bool (leI (mulI .i64 (zs (idO 0 s 2)) (zs (idO 0 s 2))) (sz (addO (idO 0 s 2) 1))), none), { lock := false, bs := [] } :: { lock := false, bs := [] } :: { lock := false, bs := [(0, Blk.row (Row.G [AV.fn (Fn.func 104) [] [AV.ptr 1 1 0 0, AV.ptr 1 0 0 0, AV.ptr 1 3 0 0]])), (0, Blk.row (Row.I .i64 [x])), (0, L)] } :: lv79 w ls ld zs zd sz kd s more :: H))))))))))))) (Tr.ite (ltI s (Int.ofNat 0)) (Tr.req (inI p ls) (Tr.req (ltN (idO 0 p 2) (mulO ls 2)) (Tr.req (ltN (addO (idO 0 p 2) 1) (mulO ls 2)) (Tr.ite (eqI p s) (Tr.req (inI p ls) (Tr.req (ltN (addO (idO 0 p 2) 1) (mulO ls 2)) (Tr.ite (eqI (addI .i64 (sz (addO (idO 0 p 2) 1)) more) (Int.ofNat 0)) (Tr.ok ((AV.bool false, some 1), { lock := false, bs := [] } :: { lock := false, bs := [] } :: { lock := false, bs := [(0, Blk.row (Row.G [AV.fn (Fn.func 104) [] [AV.ptr 1 1 0 0, AV.ptr 1 0 0 0, AV.ptr 1 3 0 0]])), (0, Blk.row (Row.I .i64 [x])), (0, L)] } :: lv79 w ls ld zs zd sz kd s more :: H)) (Tr.ite (eqI s (Int.negSucc 1)) (Tr.ok ((AV.bool (leI (mulI .i64 (subI .i64 w (zs (idO 0 p 2))) (subI .i64 w (zs (idO 0 p 2)))) (addI .i64 (sz (addO (idO 0 p 2) 1)) more)), none), { lock := false, bs := [] } :: { lock := false, bs := [] } :: { lock := false, bs := [(0, Blk.row (Row.G [AV.fn (Fn.func 104) [] [AV.ptr 1 1 0 0, AV.ptr 1 0 0 0, AV.ptr 1 3 0 0]])), (0, Blk.row (Row.I .i64 [x])), (0, L)] } :: lv79 w ls ld zs zd sz kd s more :: H)) (Tr.ite (leI (Int.ofNat 0) s) (Tr.ite (eqI s s) (Tr.req (inI s ls) (Tr.req (ltN (addO (idO 0 s 2) 1) (mulO ls 2)) (Tr.req (inI s ls) (Tr.req (ltN (idO 0 s 2) (mulO ls 2)) (Tr.req (ltN (addO (idO 0 s 2) 1) (mulO ls 2)) (Tr.reqP True (Tr.ok ((AV.bool (bo (addI .i64 (sz (addO (idO 0 p 2) 1)) more) (addI .i64 (sz (addO (idO 0 s 2) 1)) more) (zs (idO 0 p 2)) (zs (addO (idO 0 p 2) 1)) (zs (idO 0 s 2)) (zs (addO (idO 0 s 2) 1))), none), { lock := false, bs := [] } :: { lock := false, bs := [] } :: { lock := false, bs := [(0, Blk.row (Row.G [AV.fn (Fn.func 104) [] [AV.ptr 1 1 0 0, AV.ptr 1 0 0 0, AV.ptr 1 3 0 0]])), (0, Blk.row (Row.I .i64 [x])), (0, L)] } :: lv79 w ls ld zs zd sz kd s more :: H)))))))) (Tr.req (inI s ls) (Tr.req (ltN (addO (idO 0 s 2) 1) (mulO ls 2)) (Tr.req (inI s ls) (Tr.req (ltN (idO 0 s 2) (mulO ls 2)) (Tr.req (ltN (addO (idO 0 s 2) 1) (mulO ls 2)) (Tr.reqP True (Tr.ok ((AV.bool (bo (addI .i64 (sz (addO (idO 0 p 2) 1)) more) (sz (addO (idO 0 s 2) 1)) (zs (idO 0 p 2)) (zs (addO (idO 0 p 2) 1)) (zs (idO 0 s 2)) (zs (addO (idO 0 s 2) 1))), none), { lock := false, bs := [] } :: { lock := false, bs := [] } :: { lock := false, bs := [(0, Blk.row (Row.G [AV.fn (Fn.func 104) [] [AV.ptr 1 1 0 0, AV.ptr 1 0 0 0, AV.ptr 1 3 0 0]])), (0, Blk.row (Row.I .i64 [x])), (0, L)] } :: lv79 w ls ld zs zd sz kd s more :: H))))))))) (Tr.ok ((AV.bool (leI (mulI .i64 (zs (idO 0 p 2)) (zs (idO 0 p 2))) (addI .i64 (sz (addO (idO 0 p 2) 1)) more)), none), { lock := false, bs := [] } :: { lock := false, bs := [] } :: { lock := false, bs := [(0, Blk.row (Row.G [AV.fn (Fn.func 104) [] [AV.ptr 1 1 0 0, AV.ptr 1 0 0 0, AV.ptr 1 3 0 0]])), (0, Blk.row (Row.I .i64 [x])), (0, L)] } :: lv79 w ls ld zs zd sz kd s more :: H))))))) (Tr.req (inI p ls) (Tr.req (ltN (addO (idO 0 p 2) 1) (mulO ls 2)) (Tr.ite (eqI (sz (addO (idO 0 p 2) 1)) (Int.ofNat 0)) (Tr.ok ((AV.bool false, some 1), { lock := false, bs := [] } :: { lock := false, bs := [] } :: { lock := false, bs := [(0, Blk.row (Row.G [AV.fn (Fn.func 104) [] [AV.ptr 1 1 0 0, AV.ptr 1 0 0 0, AV.ptr 1 3 0 0]])), (0, Blk.row (Row.I .i64 [x])), (0, L)] } :: lv79 w ls ld zs zd sz kd s more :: H)) (Tr.ite (eqI s (Int.negSucc 1)) (Tr.ok ((AV.bool (leI (mulI .i64 (subI .i64 w (zs (idO 0 p 2))) (subI .i64 w (zs (idO 0 p 2)))) (sz (addO (idO 0 p 2) 1))), none), { lock := false, bs := [] } :: { lock := false, bs := [] } :: { lock := false, bs := [(0, Blk.row (Row.G [AV.fn (Fn.func 104) [] [AV.ptr 1 1 0 0, AV.ptr 1 0 0 0, AV.ptr 1 3 0 0]])), (0, Blk.row (Row.I .i64 [x])), (0, L)] } :: lv79 w ls ld zs zd sz kd s more :: H)) (Tr.ite (leI (Int.ofNat 0) s) (Tr.ite (eqI s s) (Tr.req (inI s ls) (Tr.req (ltN (addO (idO 0 s 2) 1) (mulO ls 2)) (Tr.req (inI s ls) (Tr.req (ltN (idO 0 s 2) (mulO ls 2)) (Tr.req (ltN (addO (idO 0 s 2) 1) (mulO ls 2)) (Tr.reqP True (Tr.ok ((AV.bool (bo (sz (addO (idO 0 p 2) 1)) (addI .i64 (sz (addO (idO 0 s 2) 1)) more) (zs (idO 0 p 2)) (zs (addO (idO 0 p 2) 1)) (zs (idO 0 s 2)) (zs (addO (idO 0 s 2) 1))), none), { lock := false, bs := [] } :: { lock := false, bs := [] } :: { lock := false, bs := [(0, Blk.row (Row.G [AV.fn (Fn.func 104) [] [AV.ptr 1 1 0 0, AV.ptr 1 0 0 0, AV.ptr 1 3 0 0]])), (0, Blk.row (Row.I .i64 [x])), (0, L)] } :: lv79 w ls ld zs zd sz kd s more :: H)))))))) (Tr.req (inI s ls) (Tr.req (ltN (addO (idO 0 s 2) 1) (mulO ls 2)) (Tr.req (inI s ls) (Tr.req (ltN (idO 0 s 2) (mulO ls 2)) (Tr.req (ltN (addO (idO 0 s 2) 1) (mulO ls 2)) (Tr.reqP True (Tr.ok ((AV.bool (bo (sz (addO (idO 0 p 2) 1)) (sz (addO (idO 0 s 2) 1)) (zs (idO 0 p 2)) (zs (addO (idO 0 p 2) 1)) (zs (idO 0 s 2)) (zs (addO (idO 0 s 2) 1))), none), { lock := false, bs := [] } :: { lock := false, bs := [] } :: { lock := false, bs := [(0, Blk.row (Row.G [AV.fn (Fn.func 104) [] [AV.ptr 1 1 0 0, AV.ptr 1 0 0 0, AV.ptr 1 3 0 0]])), (0, Blk.row (Row.I .i64 [x])), (0, L)] } :: lv79 w ls ld zs zd sz kd s more :: H))))))))) (Tr.ok ((AV.bool (leI (mulI .i64 (zs (idO 0 p 2)) (zs (idO 0 p 2))) (sz (addO (idO 0 p 2) 1))), none), { lock := false, bs := [] } :: { lock := false, bs := [] } :: { lock := false, bs := [(0, Blk.row (Row.G [AV.fn (Fn.func 104) [] [AV.ptr 1 1 0 0, AV.ptr 1 0 0 0, AV.ptr 1 3 0 0]])), (0, Blk.row (Row.I .i64 [x])), (0, L)] } :: lv79 w ls ld zs zd sz kd s more :: H))))))))))) (Tr.req (inI s ls) (Tr.req (ltN (idO 0 s 2) (mulO ls 2)) (Tr.req (ltN (addO (idO 0 s 2) 1) (mulO ls 2)) (Tr.ite (eqI s s) (Tr.req (inI s ls) (Tr.req (ltN (addO (idO 0 s 2) 1) (mulO ls 2)) (Tr.ite (eqI (addI .i64 (sz (addO (idO 0 s 2) 1)) more) (Int.ofNat 0)) (Tr.ok ((AV.bool false, some 1), { lock := false, bs := [] } :: { lock := false, bs := [] } :: { lock := false, bs := [(0, Blk.row (Row.G [AV.fn (Fn.func 104) [] [AV.ptr 1 1 0 0, AV.ptr 1 0 0 0, AV.ptr 1 3 0 0]])), (0, Blk.row (Row.I .i64 [x])), (0, L)] } :: lv79 w ls ld zs zd sz kd s more :: H)) (Tr.ite (eqI p (Int.negSucc 1)) (Tr.ok ((AV.bool (leI (mulI .i64 (subI .i64 w (zs (idO 0 s 2))) (subI .i64 w (zs (idO 0 s 2)))) (addI .i64 (sz (addO (idO 0 s 2) 1)) more)), none), { lock := false, bs := [] } :: { lock := false, bs := [] } :: { lock := false, bs := [(0, Blk.row (Row.G [AV.fn (Fn.func 104) [] [AV.ptr 1 1 0 0, AV.ptr 1 0 0 0, AV.ptr 1 3 0 0]])), (0, Blk.row (Row.I .i64 [x])), (0, L)] } :: lv79 w ls ld zs zd sz kd s more :: H)) (Tr.ite (leI (Int.ofNat 0) p) (Tr.ite (eqI p s) (Tr.req (inI p ls) (Tr.req (ltN (addO (idO 0 p 2) 1) (mulO ls 2)) (Tr.req (inI p ls) (Tr.req (ltN (idO 0 p 2) (mulO ls 2)) (Tr.req (ltN (addO (idO 0 p 2) 1) (mulO ls 2)) (Tr.reqP True (Tr.ok ((AV.bool (bo (addI .i64 (sz (addO (idO 0 s 2) 1)) more) (addI .i64 (sz (addO (idO 0 p 2) 1)) more) (zs (idO 0 s 2)) (zs (addO (idO 0 s 2) 1)) (zs (idO 0 p 2)) (zs (addO (idO 0 p 2) 1))), none), { lock := false, bs := [] } :: { lock := false, bs := [] } :: { lock := false, bs := [(0, Blk.row (Row.G [AV.fn (Fn.func 104) [] [AV.ptr 1 1 0 0, AV.ptr 1 0 0 0, AV.ptr 1 3 0 0]])), (0, Blk.row (Row.I .i64 [x])), (0, L)] } :: lv79 w ls ld zs zd sz kd s more :: H)))))))) (Tr.req (inI p ls) (Tr.req (ltN (addO (idO 0 p 2) 1) (mulO ls 2)) (Tr.req (inI p ls) (Tr.req (ltN (idO 0 p 2) (mulO ls 2)) (Tr.req (ltN (addO (idO 0 p 2) 1) (mulO ls 2)) (Tr.reqP True (Tr.ok ((AV.bool (bo (addI .i64 (sz (addO (idO 0 s 2) 1)) more) (sz (addO (idO 0 p 2) 1)) (zs (idO 0 s 2)) (zs (addO (idO 0 s 2) 1)) (zs (idO 0 p 2)) (zs (addO (idO 0 p 2) 1))), none), { lock := false, bs := [] } :: { lock := false, bs := [] } :: { lock := false, bs := [(0, Blk.row (Row.G [AV.fn (Fn.func 104) [] [AV.ptr 1 1 0 0, AV.ptr 1 0 0 0, AV.ptr 1 3 0 0]])), (0, Blk.row (Row.I .i64 [x])), (0, L)] } :: lv79 w ls ld zs zd sz kd s more :: H))))))))) (Tr.ok ((AV.bool (leI (mulI .i64 (zs (idO 0 s 2)) (zs (idO 0 s 2))) (addI .i64 (sz (addO (idO 0 s 2) 1)) more)), none), { lock := false, bs := [] } :: { lock := false, bs := [] } :: { lock := false, bs := [(0, Blk.row (Row.G [AV.fn (Fn.func 104) [] [AV.ptr 1 1 0 0, AV.ptr 1 0 0 0, AV.ptr 1 3 0 0]])), (0, Blk.row (Row.I .i64 [x])), (0, L)] } :: lv79 w ls ld zs zd sz kd s more :: H))))))) (Tr.req (inI s ls) (Tr.req (ltN (addO (idO 0 s 2) 1) (mulO ls 2)) (Tr.ite (eqI (sz (addO (idO 0 s 2) 1)) (Int.ofNat 0)) (Tr.ok ((AV.bool false, some 1), { lock := false, bs := [] } :: { lock := false, bs := [] } :: { lock := false, bs := [(0, Blk.row (Row.G [AV.fn (Fn.func 104) [] [AV.ptr 1 1 0 0, AV.ptr 1 0 0 0, AV.ptr 1 3 0 0]])), (0, Blk.row (Row.I .i64 [x])), (0, L)] } :: lv79 w ls ld zs zd sz kd s more :: H)) (Tr.ite (eqI p (Int.negSucc 1)) (Tr.ok ((AV.bool (leI (mulI .i64 (subI .i64 w (zs (idO 0 s 2))) (subI .i64 w (zs (idO 0 s 2)))) (sz (addO (idO 0 s 2) 1))), none), { lock := false, bs := [] } :: { lock := false, bs := [] } :: { lock := false, bs := [(0, Blk.row (Row.G [AV.fn (Fn.func 104) [] [AV.ptr 1 1 0 0, AV.ptr 1 0 0 0, AV.ptr 1 3 0 0]])), (0, Blk.row (Row.I .i64 [x])), (0, L)] } :: lv79 w ls ld zs zd sz kd s more :: H)) (Tr.ite (leI (Int.ofNat 0) p) (Tr.ite (eqI p s) (Tr.req (inI p ls) (Tr.req (ltN (addO (idO 0 p 2) 1) (mulO ls 2)) (Tr.req (inI p ls) (Tr.req (ltN (idO 0 p 2) (mulO ls 2)) (Tr.req (ltN (addO (idO 0 p 2) 1) (mulO ls 2)) (Tr.reqP True (Tr.ok ((AV.bool (bo (sz (addO (idO 0 s 2) 1)) (addI .i64 (sz (addO (idO 0 p 2) 1)) more) (zs (idO 0 s 2)) (zs (addO (idO 0 s 2) 1)) (zs (idO 0 p 2)) (zs (addO (idO 0 p 2) 1))), none), { lock := false, bs := [] } :: { lock := false, bs := [] } :: { lock := false, bs := [(0, Blk.row (Row.G [AV.fn (Fn.func 104) [] [AV.ptr 1 1 0 0, AV.ptr 1 0 0 0, AV.ptr 1 3 0 0]])), (0, Blk.row (Row.I .i64 [x])), (0, L)] } :: lv79 w ls ld zs zd sz kd s more :: H)))))))) (Tr.req (inI p ls) (Tr.req (ltN (addO (idO 0 p 2) 1) (mulO ls 2)) (Tr.req (inI p ls) (Tr.req (ltN (idO 0 p 2) (mulO ls 2)) (Tr.req (ltN (addO (idO 0 p 2) 1) (mulO ls 2)) (Tr.reqP True (Tr.ok ((AV.bool (bo (sz (addO (idO 0 s 2) 1)) (sz (addO (idO 0 p 2) 1)) (zs (idO 0 s 2)) (zs (addO (idO 0 s 2) 1)) (zs (idO 0 p 2)) (zs (addO (idO 0 p 2) 1))), none), { lock := false, bs := [] } :: { lock := false, bs := [] } :: { lock := false, bs := [(0, Blk.row (Row.G [AV.fn (Fn.func 104) [] [AV.ptr 1 1 0 0, AV.ptr 1 0 0 0, AV.ptr 1 3 0 0]])), (0, Blk.row (Row.I .i64 [x])), (0, L)] } :: lv79 w ls ld zs zd sz kd s more :: H))))))))) (Tr.ok ((AV.bool (leI (mulI .i64 (zs (idO 0 s 2)) (zs (idO 0 s 2))) (sz (addO (idO 0 s 2) 1))), none), { lock := false, bs := [] } :: { lock := false, bs := [] } :: { lock := false, bs := [(0, Blk.row (Row.G [AV.fn (Fn.func 104) [] [AV.ptr 1 1 0 0, AV.ptr 1 0 0 0, AV.ptr 1 3 0 0]])), (0, Blk.row (Row.I .i64 [x])), (0, L)] } :: lv79 w ls ld zs zd sz kd s more :: H))))))))))))) (Tr.ok ((AV.bool false, some 1), { lock := false, bs := [] } :: { lock := false, bs := [] } :: { lock := false, bs := [(0, Blk.row (Row.G [AV.fn (Fn.func 104) [] [AV.ptr 1 1 0 0, AV.ptr 1 0 0 0, AV.ptr 1 3 0 0]])), (0, Blk.row (Row.I .i64 [x])), (0, L)] } :: lv79 w ls ld zs zd sz kd s more :: H)) := by kernel_rfl
theorem t109c (n : Nat) (w : Int) (ls ld : Nat) (zs zd sz kd : Nat → Int) (G G' : Heap) (p : Int) (b : Bool) : execT (cxD n 109 18) (rdE (il noCt n 0) 1 2 [.int .i64 p] (lv0 :: G) (.ok (.bool b, lv0 :: G'))) noBT noRT (part Try.f109 [1,0,0]) (hints [(0, .yld 1 2), (1, .ptrT (some 2) (.G [tabR 1 w ls ld zs zd sz kd]) 0), (3, .int .i64 p)]) (lv0 :: G) =
  Tr.ite (ltI p (Int.ofNat ls)) (Tr.reqP ([AV.int .i64 p] = [AV.int .i64 p] ∧ { lock := false, bs := [] } :: G = { lock := false, bs := [] } :: G) (Tr.ite (notB b) (Tr.ok (Ex.ret, [(0, AV.yld 1 2, none), (1, AV.ptrT (some 2) (Row.G [tabR 1 w ls ld zs zd sz kd]) 0, none), (3, AV.int .i64 p, none), (17, AV.bool true, some 1)], { lock := false, bs := [] } :: G')) (Tr.ok (Ex.normal, [(0, AV.yld 1 2, none), (1, AV.ptrT (some 2) (Row.G [tabR 1 w ls ld zs zd sz kd]) 0, none), (3, AV.int .i64 (addI .i64 p (Int.ofNat 1)), none)], { lock := false, bs := [] } :: G')))) (Tr.ok (Ex.exit 0, [(0, AV.yld 1 2, none), (1, AV.ptrT (some 2) (Row.G [tabR 1 w ls ld zs zd sz kd]) 0, none), (3, AV.int .i64 p, none), (11, AV.bool false, some 1)], { lock := false, bs := [] } :: G)) := by kernel_rfl
theorem u103 (n : Nat) (w : Int) (ls ld : Nat) (zs zd sz kd : Nat → Int) (H : Heap) (s more v : Int) (e : Bool) : bodyT Try.prog (cd (n+8)) 100000 103 Try.f103 (Kt.kt 103) (il noCt (n+7) 1) noBT (rgE noRT (fun _ => true) (fr103 w ls ld zs zd sz kd) (lv103 0 [] :: lv79 w ls ld zs zd sz kd s more :: H) (.ite e (.ok (.ret, hints (fr103 w ls ld zs zd sz kd), lv103 v [(0, .dead)] :: lv79 w ls ld zs zd sz kd s more :: H)) (.ok (.normal, hints (fr103 w ls ld zs zd sz kd), lv103 0 [(0, .dead)] :: lv79 w ls ld zs zd sz kd s more :: H)))) [(.fn (.func 109) [] [.ptrT (some 0) (.G [tabR 1 w ls ld zs zd sz kd]) 0], none), (.fn (.func 104) [] [.ptr 0 1 0 0, .ptr 0 0 0 0, .ptr 0 3 0 0], none)] (lv79 w ls ld zs zd sz kd s more :: H) =
  Tr.reqP ([(3, AV.ptr 0 0 0 0), (4, AV.ptr 0 1 0 0), (6, AV.fn (Fn.func 109) [] [AV.ptrT (some 1) (Row.G [tabR 1 w ls ld zs zd sz kd]) 0])] = [(3, AV.ptr 0 0 0 0), (4, AV.ptr 0 1 0 0), (6, AV.fn (Fn.func 109) [] [AV.ptrT (some 1) (Row.G [tabR 1 w ls ld zs zd sz kd]) 0])] ∧ { lock := false, bs := [(0, Blk.row (Row.G [AV.fn (Fn.func 104) [] [AV.ptr 1 1 0 0, AV.ptr 1 0 0 0, AV.ptr 1 3 0 0]])), (0, Blk.row (Row.I .i64 [Int.ofNat 0]))] } :: lv79 w ls ld zs zd sz kd s more :: H = { lock := false, bs := [(0, Blk.row (Row.G [AV.fn (Fn.func 104) [] [AV.ptr 1 1 0 0, AV.ptr 1 0 0 0, AV.ptr 1 3 0 0]])), (0, Blk.row (Row.I .i64 [Int.ofNat 0]))] } :: lv79 w ls ld zs zd sz kd s more :: H) (Tr.ite e (Tr.ok ((AV.int .i64 v, none), lv79 w ls ld zs zd sz kd s more :: H)) (Tr.ok ((AV.int .i64 (Int.negSucc 2), none), lv79 w ls ld zs zd sz kd s more :: H))) := by kernel_rfl
theorem u79 (n : Nat) (w : Int) (ls ld : Nat) (zs zd sz kd : Nat → Int) (H : Heap) (s more v : Int) : bodyT Try.prog (cd (n+10)) 100000 79 Try.f79 (Kt.kt 79) (il (ctE noCt 103 [.fn (.func 109) [] [.ptrT (some 0) (.G [tabR 1 w ls ld zs zd sz kd]) 0], .fn (.func 104) [] [.ptr 0 1 0 0, .ptr 0 0 0 0, .ptr 0 3 0 0]] (lv79 w ls ld zs zd sz kd s more :: H) (.ok (.int .i64 v, lv79 w ls ld zs zd sz kd s more :: H))) (n+9) 1) noBT noRT [(tabV w ls ld zs zd sz kd, none), (.int .i64 s, none), (.int .i64 more, none)] H =
  Tr.reqP ([AV.fn (Fn.func 109) [] [AV.ptrT (some 0) (Row.G [tabR 1 w ls ld zs zd sz kd]) 0], AV.fn (Fn.func 104) [] [AV.ptr 0 1 0 0, AV.ptr 0 0 0 0, AV.ptr 0 3 0 0]] = [AV.fn (Fn.func 109) [] [AV.ptrT (some 0) (Row.G [tabR 1 w ls ld zs zd sz kd]) 0], AV.fn (Fn.func 104) [] [AV.ptr 0 1 0 0, AV.ptr 0 0 0 0, AV.ptr 0 3 0 0]] ∧ lv79 w ls ld zs zd sz kd s more :: H = lv79 w ls ld zs zd sz kd s more :: H) (Tr.ok ((AV.bool (ltI v (Int.negSucc 1)), none), H)) := by kernel_rfl
theorem t103a (n : Nat) (w : Int) (ls ld : Nat) (zs zd sz kd : Nat → Int) (G : Heap) (p : Int) : execT (cx103 n) (il noCt n 0) noBT noRT (part Try.f103 [1,0,1,0,0]) (hints (frB w ls ld zs zd sz kd p)) (lv0 :: G) =
  Tr.ok (Ex.normal, [(3, AV.ptr 2 0 0 0, none), (4, AV.ptr 2 1 0 0, none), (5, AV.int .i64 p, none)], { lock := false, bs := [] } :: G) := by kernel_rfl
theorem t103b (n : Nat) (w : Int) (ls ld : Nat) (zs zd sz kd : Nat → Int) (H : Heap) (s more p x : Int) (L : ALoop) (b : Bool) : execT (cx103 (n+6)) (il (ctH noCt 104 (lv0 :: lv0 :: lv103 x [(0, .loop L)] :: lv79 w ls ld zs zd sz kd s more :: H) (g104 p b)) (n+6) 0) noBT noRT (part Try.f103 [1,0,1,0,1]) (hints [(3, .ptr 2 0 0 0), (4, .ptr 2 1 0 0), (5, .int .i64 p)]) (lv0 :: lv0 :: lv103 x [(0, .loop L)] :: lv79 w ls ld zs zd sz kd s more :: H) =
  Tr.reqP (p = p ∧ { lock := false, bs := [] } :: { lock := false, bs := [] } :: { lock := false, bs := [(0, Blk.row (Row.G [AV.fn (Fn.func 104) [] [AV.ptr 1 1 0 0, AV.ptr 1 0 0 0, AV.ptr 1 3 0 0]])), (0, Blk.row (Row.I .i64 [x])), (0, Blk.loop L)] } :: lv79 w ls ld zs zd sz kd s more :: H = { lock := false, bs := [] } :: { lock := false, bs := [] } :: { lock := false, bs := [(0, Blk.row (Row.G [AV.fn (Fn.func 104) [] [AV.ptr 1 1 0 0, AV.ptr 1 0 0 0, AV.ptr 1 3 0 0]])), (0, Blk.row (Row.I .i64 [x])), (0, Blk.loop L)] } :: lv79 w ls ld zs zd sz kd s more :: H) (Tr.ite b (Tr.ok (Ex.ret, [], { lock := false, bs := [] } :: { lock := false, bs := [] } :: { lock := false, bs := [(0, Blk.row (Row.G [AV.fn (Fn.func 104) [] [AV.ptr 1 1 0 0, AV.ptr 1 0 0 0, AV.ptr 1 3 0 0]])), (0, Blk.row (Row.I .i64 [p])), (0, Blk.loop L)] } :: lv79 w ls ld zs zd sz kd s more :: H)) (Tr.ok (Ex.normal, [(4, AV.ptr 2 1 0 0, none), (5, AV.int .i64 p, none), (10, AV.bool false, some 1)], { lock := false, bs := [] } :: { lock := false, bs := [] } :: { lock := false, bs := [(0, Blk.row (Row.G [AV.fn (Fn.func 104) [] [AV.ptr 1 1 0 0, AV.ptr 1 0 0 0, AV.ptr 1 3 0 0]])), (0, Blk.row (Row.I .i64 [x])), (0, Blk.loop L)] } :: lv79 w ls ld zs zd sz kd s more :: H))) := by kernel_rfl
theorem t109e (n : Nat) (w : Int) (ls ld : Nat) (zs zd sz kd : Nat → Int) (G : Heap) (p : Int) : execT (cxD n 109 18) (il noCt n 0) noBT noRT (part Try.f109 [1,0,0]) (hints [(0, .yld 1 2), (1, .ptrT (some 2) (.G [tabR 1 w ls ld zs zd sz kd]) 0), (3, .int .i64 p)]) (lv0 :: G) =
  Tr.ite (ltI p (Int.ofNat ls)) Tr.bad (Tr.ok (Ex.exit 0, [(0, AV.yld 1 2, none), (1, AV.ptrT (some 2) (Row.G [tabR 1 w ls ld zs zd sz kd]) 0, none), (3, AV.int .i64 p, none), (11, AV.bool false, some 1)], { lock := false, bs := [] } :: G)) := by kernel_rfl
theorem u109c (n : Nat) (w : Int) (ls ld : Nat) (zs zd sz kd : Nat → Int) (G G1 : Heap) (e : Bool) (fA : Frm) : bodyT Try.prog (cd n) 100000 109 Try.f109 (Kt.kt 109) (il noCt n 0) (blkE noBT 0 (frA w ls ld zs zd sz kd (-2)) (lv0 :: G) (.ite e (.ok (.ret, hints fA, lv0 :: G1)) (.ok (.normal, hints fA, lv0 :: G1)))) noRT [(.yld 0 2, none), (.ptrT (some 1) (.G [tabR 1 w ls ld zs zd sz kd]) 0, none)] G =
  Tr.reqP ([(0, AV.yld 1 2), (1, AV.ptrT (some 2) (Row.G [tabR 1 w ls ld zs zd sz kd]) 0), (3, AV.int .i64 (Int.negSucc 1))] = [(0, AV.yld 1 2), (1, AV.ptrT (some 2) (Row.G [tabR 1 w ls ld zs zd sz kd]) 0), (3, AV.int .i64 (Int.negSucc 1))] ∧ { lock := false, bs := [] } :: G = { lock := false, bs := [] } :: G) (Tr.ite e (Tr.ok ((AV.tup [], none), G1)) (Tr.ok ((AV.tup [], none), G1))) := by kernel_rfl
/-- How far spots can spread, with so much more on one. -/
def soM (sz : Nat → Int) (s more i : Int) : Int := if i = s then IntKind.i64.wrap (sz (s.toNat * 2 + 1) + more) else sz (i.toNat * 2 + 1)
/-- Does a spot touch another place then? -/
def alM (w : Int) (zs sz : Nat → Int) (s more p : Int) : Bool := decide (p ≠ s) && touchT w zs (soM sz s more) s p
noncomputable def rec103 (w : Int) (ls ld : Nat) (zs zd sz kd : Nat → Int) : ALoop := { state := .ready, pending := none, fn := 103, nt := 12, fr := fr103 w ls ld zs zd sz kd, params := [7], assign := part Try.f103 [1,0,1,0,0], body := part Try.f103 [1,0,1,0,1] }
section
variable (n : Nat) (w : Int) (ls ld : Nat) (zs zd sz kd : Nat → Int) (H : Heap) (s more : Int)
theorem c104 (hs : 0 ≤ s ∧ s < ls) (hls : ls ≤ 10) (p x : Int) (hp : -2 ≤ p ∧ p < ls) (L : Blk) : cd (n + 6) (.fn 104) [.int .i64 p, .ptr 3 1 0 0, .ptr 3 0 0 0, .ptr 3 3 0 0] (lv0 :: lv0 :: lv103 x [(0, L)] :: lv79 w ls ld zs zd sz kd s more :: H) = some (.bool (alM w zs sz s more p), lv0 :: lv0 :: lv103 x [(0, L)] :: lv79 w ls ld zs zd sz kd s more :: H) := by
  refine fn_all (n := n + 5) Try.func104 rfl rfl rfl (u104 n w ls ld zs zd sz kd H s more p x L bothT) (il_ok _ (n + 1) 4 (fun k => ct112 n k _ (noCt_ok _))) (noBT_ok _ _) (noRT_ok _ _) ?_
  have es : soM sz s more s = IntKind.i64.wrap (sz (s.toNat * 2 + 1) + more) := by unfold soM; rw [if_pos rfl]
  by_cases hps : p = s
  · have e0 : alM w zs sz s more p = false := by unfold alM; simp [hps]
    rw [e0]
    repeat' first | (refine Tr.all_ite (fun hc => ?_) (fun hc => ?_) <;> (try simp (disch := omega) only [nV, mulO_eq, Int.cast_ofNat_Int, eq_self] at hc) <;> (try (exfalso; omega))) | (refine Tr.all_req ?_ ?_; · ((try simp (disch := omega) only [nV, mulO_eq, Int.cast_ofNat_Int, eq_self]); try omega)) | (refine Tr.all_reqP ?_ ?_; · first | exact trivial | rfl | exact ⟨rfl, rfl⟩ | exact ⟨rfl, rfl, rfl⟩ | (simp (disch := omega) only [nV, mulO_eq, Int.cast_ofNat_Int, eq_self]; done) | ((try simp (disch := omega) only [nV, mulO_eq, Int.cast_ofNat_Int, eq_self]); omega)) | fail
    exact Tr.all_ok ⟨rfl, rfl⟩
  · have e0 : alM w zs sz s more p = touchT w zs (soM sz s more) s p := by unfold alM; simp [hps]
    have et : touchT w zs (soM sz s more) s p = if soM sz s more s = 0 then false else if p = -2 then decide (IntKind.i64.wrap (IntKind.i64.wrap (w - zs (s.toNat * 2)) * IntKind.i64.wrap (w - zs (s.toNat * 2))) ≤ soM sz s more s) else if 0 ≤ p then bothT (soM sz s more s) (soM sz s more p) (zs (s.toNat * 2)) (zs (s.toNat * 2 + 1)) (zs (p.toNat * 2)) (zs (p.toNat * 2 + 1)) else decide (IntKind.i64.wrap (zs (s.toNat * 2) * zs (s.toNat * 2)) ≤ soM sz s more s) := by
      have n1 : ¬ s < 0 := by omega
      have n2 : ¬ (s < 0 ∧ p < 0) := by omega
      unfold touchT
      simp only [n1, if_false, false_and]
    have ep : soM sz s more p = sz (p.toNat * 2 + 1) := by unfold soM; rw [if_neg hps]
    rw [e0, et, es, ep]
    have f1 : s ≠ -1 := by omega
    repeat' first | (refine Tr.all_ite (fun hc => ?_) (fun hc => ?_) <;> (try simp (disch := omega) only [nV, mulO_eq, Int.cast_ofNat_Int, eq_self] at hc) <;> (try (exfalso; omega))) | (refine Tr.all_req ?_ ?_; · ((try simp (disch := omega) only [nV, mulO_eq, Int.cast_ofNat_Int, eq_self]); try omega)) | (refine Tr.all_reqP ?_ ?_; · first | exact trivial | rfl | exact ⟨rfl, rfl⟩ | exact ⟨rfl, rfl, rfl⟩ | (simp (disch := omega) only [nV, mulO_eq, Int.cast_ofNat_Int, eq_self]; done) | ((try simp (disch := omega) only [nV, mulO_eq, Int.cast_ofNat_Int, eq_self]); omega)) | fail
    · rw [if_pos hc]; exact Tr.all_ok ⟨rfl, rfl⟩
    · rename_i h0
      rw [if_neg h0, if_pos hc]
      refine Tr.all_ok ⟨?_, rfl⟩
      simp only [leI_eq, mulI_eq, subI_eq, addI_eq, idO_eq, addO_eq, Nat.zero_add]
    · rename_i h0 h1 h2
      rw [if_neg h0, if_neg h1, if_pos h2]
      refine Tr.all_ok ⟨?_, rfl⟩
      simp only [addI_eq, idO_eq, addO_eq, Nat.zero_add]
    · rename_i h0 h1
      rw [if_neg h0, if_neg h1, if_neg (by omega)]
      refine Tr.all_ok ⟨?_, rfl⟩
      simp only [leI_eq, mulI_eq, addI_eq, idO_eq, addO_eq, Nat.zero_add]
/-- The heap in which the rounds run. -/
noncomputable def g103 (L : ALoop) (x : Int) : Heap := lv103 x [(0, .loop L)] :: lv79 w ls ld zs zd sz kd s more :: H
theorem r103 (hs : 0 ≤ s ∧ s < ls) (hls : ls ≤ 10) (p : Int) (hp : -2 ≤ p ∧ p < ls) (L : ALoop) : ∃ fr', exec (cx103 (n + 6)) (part Try.f103 [1,0,1,0,1]) [(3, .ptr 2 0 0 0), (4, .ptr 2 1 0 0), (5, .int .i64 p)] (lv0 :: lv0 :: g103 w ls ld zs zd sz kd H s more L 0) =
    some (cond (alM w zs sz s more p) Ex.ret Ex.normal, fr', lv0 :: lv0 :: g103 w ls ld zs zd sz kd H s more L (cond (alM w zs sz s more p) p 0)) := by
  have hil : (il (ctH noCt 104 (lv0 :: lv0 :: lv103 0 [(0, .loop L)] :: lv79 w ls ld zs zd sz kd s more :: H) (g104 p (alM w zs sz s more p))) (n + 6) 0).Ok (cd (n + 6)) := by
    refine il_ok _ (n + 6) 0 (fun k => ctH_ok (noCt_ok _) (fun args p' v hg hp' => ?_))
    unfold g104 at hg
    split at hg
    · simp only [Option.some.injEq, Prod.mk.injEq] at hg
      obtain ⟨rfl, rfl⟩ := hg
      subst hp'
      rw [show n + 6 + k = n + k + 6 by omega]
      exact c104 (n + k) w ls ld zs zd sz kd H s more hs hls _ 0 hp _
    · cases hg
  have key : (execT (cx103 (n + 6)) (il (ctH noCt 104 (lv0 :: lv0 :: lv103 0 [(0, .loop L)] :: lv79 w ls ld zs zd sz kd s more :: H) (g104 p (alM w zs sz s more p))) (n+6) 0) noBT noRT (part Try.f103 [1,0,1,0,1]) (hints [(3, .ptr 2 0 0 0), (4, .ptr 2 1 0 0), (5, .int .i64 p)]) (lv0 :: lv0 :: lv103 0 [(0, .loop L)] :: lv79 w ls ld zs zd sz kd s more :: H)).all fun x => x.1 = cond (alM w zs sz s more p) Ex.ret Ex.normal ∧ x.2.2 = lv0 :: lv0 :: g103 w ls ld zs zd sz kd H s more L (cond (alM w zs sz s more p) p 0) := by
    rw [t103b]
    refine Tr.all_reqP ⟨rfl, rfl⟩ ?_
    cases alM w zs sz s more p
    · exact Tr.all_ok ⟨rfl, rfl⟩
    · exact Tr.all_ok ⟨rfl, rfl⟩
  obtain ⟨x, h1, h2, h3⟩ := key
  have := execT_ok (cx := cx103 (n + 6)) hil _ (noBT_ok _ _) (noRT_ok _ _) _ _ _ h1
  rw [hints_eq] at this
  refine ⟨strip x.2.1, this.trans ?_⟩
  obtain ⟨e, f, g⟩ := x
  dsimp only at h2 h3
  subst h2; subst h3
  rfl
/-- The loop's record, behind a round. -/
noncomputable def recE (b : Bool) : ALoop := cond b { rec103 w ls ld zs zd sz kd with state := .done, pending := some .ret } (rec103 w ls ld zs zd sz kd)
theorem rd103 (hs : 0 ≤ s ∧ s < ls) (hls : ls ≤ 10) (p : Int) (hp : -2 ≤ p ∧ p < ls) : cd (n + 7) (.round 1 2) [.int .i64 p] (lv0 :: g103 w ls ld zs zd sz kd H s more (rec103 w ls ld zs zd sz kd) 0) =
    some (.bool (!alM w zs sz s more p), lv0 :: g103 w ls ld zs zd sz kd H s more (recE w ls ld zs zd sz kd (alM w zs sz s more p)) (cond (alM w zs sz s more p) p 0)) := by
  obtain ⟨fr', h2⟩ := r103 n w ls ld zs zd sz kd H s more hs hls p hp { rec103 w ls ld zs zd sz kd with state := .busy }
  have ha : exec (cx103 (n + 6)) (part Try.f103 [1,0,1,0,0]) (frB w ls ld zs zd sz kd p) (lv0 :: lv0 :: g103 w ls ld zs zd sz kd H s more (rec103 w ls ld zs zd sz kd) 0) = some (.normal, [(3, .ptr 2 0 0 0), (4, .ptr 2 1 0 0), (5, .int .i64 p)], lv0 :: lv0 :: g103 w ls ld zs zd sz kd H s more (rec103 w ls ld zs zd sz kd) 0) := by
    have := execT_ok (cx := cx103 (n + 6)) (il_no0 (n + 6)) (part Try.f103 [1,0,1,0,0]) (noBT_ok _ _) (noRT_ok _ _) (hints (frB w ls ld zs zd sz kd p)) (lv0 :: lv0 :: g103 w ls ld zs zd sz kd H s more (rec103 w ls ld zs zd sz kd) 0) _ (by rw [t103a]; rfl)
    rw [hints_eq] at this
    exact this
  have key := round_of (P := Try.prog) (ora := oraD) (KT := Kt.kt) (fu := 100000) (n := n + 6) (d := 1) (i := 2) (args := [.int .i64 p]) (H := lv0 :: g103 w ls ld zs zd sz kd H s more (rec103 w ls ld zs zd sz kd) 0) (l := rec103 w ls ld zs zd sz kd) (l1 := rec103 w ls ld zs zd sz kd) (l2 := { rec103 w ls ld zs zd sz kd with state := .busy }) (fr := frB w ls ld zs zd sz kd p) rfl rfl rfl rfl ha rfl rfl h2 rfl
  refine key.trans ?_
  cases alM w zs sz s more p <;> rfl
/-- Is there a place that the spot touches then? -/
def anyP : Bool := exN (fun j => alM w zs sz s more ((j : Int) - 2)) (ls + 2)
theorem l109c (hs : 0 ≤ s ∧ s < ls) (hls : ls ≤ 10) : ∃ fr', exec (cxD (n + 7) 109 18) (.block 0 (.loop (part Try.f109 [1,0,0]))) (frA w ls ld zs zd sz kd (-2)) (lv0 :: g103 w ls ld zs zd sz kd H s more (rec103 w ls ld zs zd sz kd) 0) = some (cond (anyP w ls zs sz s more) Ex.ret Ex.normal, fr', lv0 :: g103 w ls ld zs zd sz kd H s more (recE w ls ld zs zd sz kd (anyP w ls zs sz s more)) (cond (anyP w ls zs sz s more) ((fN (fun j => alM w zs sz s more ((j : Int) - 2)) (ls + 2) 0 : Nat) - 2 : Int) 0)) := by
  have := findX (n := n + 7) (f := 109) (nt := 18) (c := part Try.f109 [1,0,0]) 0 (fun j => frA w ls ld zs zd sz kd ((j : Int) - 2)) (fun _ => lv0 :: g103 w ls ld zs zd sz kd H s more (rec103 w ls ld zs zd sz kd) 0) (ls + 2) (fun j => alM w zs sz s more ((j : Int) - 2))
    (fun j => (frA w ls ld zs zd sz kd ((j : Int) - 2) ++ [(17, .bool true)], lv0 :: g103 w ls ld zs zd sz kd H s more (recE w ls ld zs zd sz kd true) ((j : Int) - 2)))
    (frA w ls ld zs zd sz kd (((ls + 2 : Nat) : Int) - 2) ++ [(11, .bool false)], lv0 :: g103 w ls ld zs zd sz kd H s more (rec103 w ls ld zs zd sz kd) 0) (by omega) (fun j hj => ?_) ?_
  · unfold anyP
    cases hc : exN (fun j => alM w zs sz s more ((j : Int) - 2)) (ls + 2) with
    | true => rw [hc] at this; exact ⟨_, this⟩
    | false => rw [hc] at this; exact ⟨_, this⟩
  · have hr := rd103 n w ls ld zs zd sz kd H s more hs hls ((j : Int) - 2) ⟨by omega, by omega⟩
    refine ex_all (t109c (n + 7) w ls ld zs zd sz kd _ (g103 w ls ld zs zd sz kd H s more (recE w ls ld zs zd sz kd (alM w zs sz s more ((j : Int) - 2))) (cond (alM w zs sz s more ((j : Int) - 2)) ((j : Int) - 2) 0)) ((j : Int) - 2) (!alM w zs sz s more ((j : Int) - 2))) (rdE_ok (il_no0 (n + 7)) (fun x hx => ?_)) (noBT_ok _ _) (noRT_ok _ _) ?_
    · rw [← Tr.ok_some hx]; exact hr
    · have ej : IntKind.i64.wrap ((j : Int) - 2 + 1) = ((j + 1 : Nat) : Int) - 2 := by rw [wr_64 (by omega) (by omega)]; omega
      cases alM w zs sz s more ((j : Int) - 2)
      · repeat' first | (refine Tr.all_ite (fun hc => ?_) (fun hc => ?_) <;> (try simp (disch := omega) only [nV, mulO_eq, Int.cast_ofNat_Int, eq_self] at hc) <;> (try (exfalso; omega))) | (refine Tr.all_req ?_ ?_; · ((try simp (disch := omega) only [nV, mulO_eq, Int.cast_ofNat_Int, eq_self]); try omega)) | (refine Tr.all_reqP ?_ ?_; · first | exact trivial | rfl | exact ⟨rfl, rfl⟩ | exact ⟨rfl, rfl, rfl⟩ | (simp (disch := omega) only [nV, mulO_eq, Int.cast_ofNat_Int, eq_self]; done) | ((try simp (disch := omega) only [nV, mulO_eq, Int.cast_ofNat_Int, eq_self]); omega)) | fail
        refine Tr.all_ok ?_
        rw [if_neg (by simp)]
        refine ⟨rfl, ?_⟩
        simp only [addI_eq, ofNat_cast, Int.natCast_one]
        rw [ej]
        rfl
      · repeat' first | (refine Tr.all_ite (fun hc => ?_) (fun hc => ?_) <;> (try simp (disch := omega) only [nV, mulO_eq, Int.cast_ofNat_Int, eq_self] at hc) <;> (try (exfalso; omega))) | (refine Tr.all_req ?_ ?_; · ((try simp (disch := omega) only [nV, mulO_eq, Int.cast_ofNat_Int, eq_self]); try omega)) | (refine Tr.all_reqP ?_ ?_; · first | exact trivial | rfl | exact ⟨rfl, rfl⟩ | exact ⟨rfl, rfl, rfl⟩ | (simp (disch := omega) only [nV, mulO_eq, Int.cast_ofNat_Int, eq_self]; done) | ((try simp (disch := omega) only [nV, mulO_eq, Int.cast_ofNat_Int, eq_self]); omega)) | fail
        refine Tr.all_ok ?_
        rw [if_pos rfl]
        rfl
  · have := ex_all (f := 109) (nt := 18) (Q := fun x => x = (.exit 0, frA w ls ld zs zd sz kd (((ls + 2 : Nat) : Int) - 2) ++ [(11, .bool false)], lv0 :: g103 w ls ld zs zd sz kd H s more (rec103 w ls ld zs zd sz kd) 0)) (t109e (n + 7) w ls ld zs zd sz kd (g103 w ls ld zs zd sz kd H s more (rec103 w ls ld zs zd sz kd) 0) (((ls + 2 : Nat) : Int) - 2)) (il_no0 (n + 7)) (noBT_ok _ _) (noRT_ok _ _) ?_
    · obtain ⟨x, h1, rfl⟩ := this; exact h1
    · repeat' first | (refine Tr.all_ite (fun hc => ?_) (fun hc => ?_) <;> (try simp (disch := omega) only [nV, mulO_eq, Int.cast_ofNat_Int, eq_self] at hc) <;> (try (exfalso; omega))) | (refine Tr.all_req ?_ ?_; · ((try simp (disch := omega) only [nV, mulO_eq, Int.cast_ofNat_Int, eq_self]); try omega)) | (refine Tr.all_reqP ?_ ?_; · first | exact trivial | rfl | exact ⟨rfl, rfl⟩ | exact ⟨rfl, rfl, rfl⟩ | (simp (disch := omega) only [nV, mulO_eq, Int.cast_ofNat_Int, eq_self]; done) | ((try simp (disch := omega) only [nV, mulO_eq, Int.cast_ofNat_Int, eq_self]); omega)) | fail
      exact Tr.all_ok rfl
theorem c109c (hs : 0 ≤ s ∧ s < ls) (hls : ls ≤ 10) : cd (n + 8) (.fn 109) [.yld 0 2, .ptrT (some 1) (.G [tabR 1 w ls ld zs zd sz kd]) 0] (g103 w ls ld zs zd sz kd H s more (rec103 w ls ld zs zd sz kd) 0) = some (.tup [], g103 w ls ld zs zd sz kd H s more (recE w ls ld zs zd sz kd (anyP w ls zs sz s more)) (cond (anyP w ls zs sz s more) ((fN (fun j => alM w zs sz s more ((j : Int) - 2)) (ls + 2) 0 : Nat) - 2 : Int) 0)) := by
  obtain ⟨fr', hl⟩ := l109c n w ls ld zs zd sz kd H s more hs hls
  refine fn_all (n := n + 7) Try.func109 rfl rfl rfl (u109c (n + 7) w ls ld zs zd sz kd _ (g103 w ls ld zs zd sz kd H s more (recE w ls ld zs zd sz kd (anyP w ls zs sz s more)) (cond (anyP w ls zs sz s more) ((fN (fun j => alM w zs sz s more ((j : Int) - 2)) (ls + 2) 0 : Nat) - 2 : Int) 0)) (anyP w ls zs sz s more) fr') (il_no0 (n + 7)) (blkE_ok (noBT_ok _ _) b109 (fun x hx => ?_)) (noRT_ok _ _) ?_
  · refine hl.trans ?_
    rcases Tr.ite_some hx with ⟨hc, hx⟩ | ⟨hc, hx⟩
    · rw [← Tr.ok_some hx, hc]; simp only [Res.st, hints_eq]; rfl
    · rw [← Tr.ok_some hx, hc]; simp only [Res.st, hints_eq]; rfl
  · refine Tr.all_reqP ⟨rfl, rfl⟩ (Tr.all_ite (fun _ => Tr.all_ok ⟨rfl, rfl⟩) (fun _ => Tr.all_ok ⟨rfl, rfl⟩))
theorem rg103 (hs : 0 ≤ s ∧ s < ls) (hls : ls ≤ 10) : exec (cxD (n + 8) 103 12) (.rangeFunc (.tmp 6) #[7] (part Try.f103 [1,0,1,0,0]) (part Try.f103 [1,0,1,0,1])) (fr103 w ls ld zs zd sz kd) (lv103 0 [] :: lv79 w ls ld zs zd sz kd s more :: H) =
    some (cond (anyP w ls zs sz s more) Ex.ret Ex.normal, fr103 w ls ld zs zd sz kd, lv103 (cond (anyP w ls zs sz s more) ((fN (fun j => alM w zs sz s more ((j : Int) - 2)) (ls + 2) 0 : Nat) - 2 : Int) 0) [(0, .dead)] :: lv79 w ls ld zs zd sz kd s more :: H) := by
  have hc := c109c n w ls ld zs zd sz kd H s more hs hls
  cases ha : anyP w ls zs sz s more with
  | true =>
    rw [ha] at hc
    exact range_of (cx := cxD (n + 8) 103 12) (l := recE w ls ld zs zd sz kd true) (f := .tmp 6) (ps := #[7]) (fr := fr103 w ls ld zs zd sz kd) (H := lv103 0 [] :: lv79 w ls ld zs zd sz kd s more :: H) (g := 109) (a := []) (b := [.ptrT (some 1) (.G [tabR 1 w ls ld zs zd sz kd]) 0]) rfl rfl rfl hc rfl rfl rfl
  | false =>
    rw [ha] at hc
    exact range_of (cx := cxD (n + 8) 103 12) (l := recE w ls ld zs zd sz kd false) (f := .tmp 6) (ps := #[7]) (fr := fr103 w ls ld zs zd sz kd) (H := lv103 0 [] :: lv79 w ls ld zs zd sz kd s more :: H) (g := 109) (a := []) (b := [.ptrT (some 1) (.G [tabR 1 w ls ld zs zd sz kd]) 0]) rfl rfl rfl hc rfl rfl rfl
theorem r103o : rangesOf (bodyOf Try.f103) = [(.tmp 6, #[7], part Try.f103 [1,0,1,0,0], part Try.f103 [1,0,1,0,1])] := by kernel_rfl
theorem c103 (hs : 0 ≤ s ∧ s < ls) (hls : ls ≤ 10) : cd (n + 9) (.fn 103) [.fn (.func 109) [] [.ptrT (some 0) (.G [tabR 1 w ls ld zs zd sz kd]) 0], .fn (.func 104) [] [.ptr 0 1 0 0, .ptr 0 0 0 0, .ptr 0 3 0 0]] (lv79 w ls ld zs zd sz kd s more :: H) = some (.int .i64 (cond (anyP w ls zs sz s more) ((fN (fun j => alM w zs sz s more ((j : Int) - 2)) (ls + 2) 0 : Nat) - 2 : Int) (-3)), lv79 w ls ld zs zd sz kd s more :: H) := by
  refine fn_all (n := n + 8) Try.func103 rfl rfl rfl (u103 n w ls ld zs zd sz kd H s more ((fN (fun j => alM w zs sz s more ((j : Int) - 2)) (ls + 2) 0 : Nat) - 2 : Int) (anyP w ls zs sz s more)) (il_no (n + 7) 1) (noBT_ok _ _) (rgE_ok (noRT_ok _ _) (fun f ps a b _ hm x hx => ?_)) ?_
  · rw [r103o] at hm
    simp only [List.mem_cons, Prod.mk.injEq, List.not_mem_nil, or_false] at hm
    obtain ⟨rfl, rfl, rfl, rfl⟩ := hm
    refine (rg103 n w ls ld zs zd sz kd H s more hs hls).trans ?_
    rcases Tr.ite_some hx with ⟨hc, hx⟩ | ⟨hc, hx⟩
    · rw [← Tr.ok_some hx, hc]; simp only [Res.st, hints_eq]; rfl
    · rw [← Tr.ok_some hx, hc]; simp only [Res.st, hints_eq]; rfl
  · refine Tr.all_reqP ⟨rfl, rfl⟩ (Tr.all_ite (fun hc => Tr.all_ok ⟨?_, rfl⟩) (fun hc => Tr.all_ok ⟨?_, rfl⟩))
    · rw [hc]; rfl
    · rw [hc]; rfl
/-- alone. -/
theorem c79 (hs : 0 ≤ s ∧ s < ls) (hls : ls ≤ 10) : cd (n + 11) (.fn 79) [tabV w ls ld zs zd sz kd, .int .i64 s, .int .i64 more] H = some (.bool (!anyP w ls zs sz s more), H) := by
  refine fn_all (n := n + 10) Try.func79 rfl rfl rfl (u79 n w ls ld zs zd sz kd H s more (cond (anyP w ls zs sz s more) ((fN (fun j => alM w zs sz s more ((j : Int) - 2)) (ls + 2) 0 : Nat) - 2 : Int) (-3))) (il_ok _ (n + 9) 1 (fun k => ctE_ok (noCt_ok _) (fun x hx => ?_))) (noBT_ok _ _) (noRT_ok _ _) ?_
  · rw [← Tr.ok_some hx, show n + 9 + k = n + k + 9 by omega]
    exact c103 (n + k) w ls ld zs zd sz kd H s more hs hls
  · refine Tr.all_reqP ⟨rfl, rfl⟩ (Tr.all_ok ⟨?_, rfl⟩)
    rw [ltI_eq]
    cases anyP w ls zs sz s more
    · rfl
    · simp only [cond_true, negSucc_one, Bool.not_true]
      rw [decide_eq_false (by omega)]
end
end Go.Eng
end

section
namespace Go.Eng
set_option linter.unusedVariables false
set_option linter.unusedSimpArgs false
theorem sq_mono {a b : Int} (h0 : 0 ≤ a) (h : a ≤ b) : a * a ≤ b * b := Int.mul_le_mul h h h0 (by omega)
theorem bothR_mono {a c a' c' x y x' y' : Int} (ha : 0 ≤ a) (hc : 0 ≤ c) (ha' : a ≤ a' ∧ a' ≤ 1000000) (hc' : c ≤ c' ∧ c' ≤ 1000000) (hx : 0 ≤ x ∧ x ≤ 1000) (hy : 0 ≤ y ∧ y ≤ 1000) (hx' : 0 ≤ x' ∧ x' ≤ 1000) (hy' : 0 ≤ y' ∧ y' ≤ 1000) (h : bothR a c x y x' y' = true) : bothR a' c' x y x' y' = true := by
  have s1 := sq_le (k := x - x') (M := 1000) (by omega) (by omega)
  have s2 := sq_le (k := y - y') (M := 1000) (by omega) (by omega)
  have e1 : IntKind.i64.wrap (x - x') = x - x' := wr_in (by omega) (by omega)
  have e2 : IntKind.i64.wrap (y - y') = y - y' := wr_in (by omega) (by omega)
  have pr : ∀ u v : Int, 0 ≤ u → u ≤ 1000000 → 0 ≤ v → v ≤ 1000000 → 0 ≤ 4 * u * v ∧ 4 * u * v ≤ 4000000000000 := fun u v h1 h2 h3 h4 => by
    constructor
    · exact Int.mul_nonneg (by omega) h3
    · exact Int.le_trans (Int.mul_le_mul (show 4 * u ≤ 4000000 by omega) h4 h3 (by omega)) (by omega)
  unfold bothR at h ⊢
  simp only [e1, e2] at h ⊢
  generalize (x - x') * (x - x') = X at s1 h ⊢
  generalize (y - y') * (y - y') = Y at s2 h ⊢
  have q1 := pr a c ha (by omega) hc (by omega)
  have q2 := pr a' c' (by omega) (by omega) (by omega) (by omega)
  have b1 := sq_le (k := X + Y - a - c) (M := 4000000) (by omega) (by omega)
  have b2 := sq_le (k := X + Y - a' - c') (M := 4000000) (by omega) (by omega)
  simp only [Bool.or_eq_true, decide_eq_true_eq] at h ⊢
  rw [wr_in (k := X) (by omega) (by omega), wr_in (k := Y) (by omega) (by omega), wr_in (k := X + Y) (by omega) (by omega)] at h ⊢
  rw [wr_in (k := X + Y - a) (by omega) (by omega), wr_in (k := X + Y - a - c) (by omega) (by omega), wr_in (k := a + c) (by omega) (by omega), wr_in (k := 4 * a) (by omega) (by omega), wr_in (k := 4 * a * c) (by omega) (by omega), wr_in (k := (X + Y - a - c) * (X + Y - a - c)) (by omega) (by omega)] at h
  rw [wr_in (k := X + Y - a') (by omega) (by omega), wr_in (k := X + Y - a' - c') (by omega) (by omega), wr_in (k := a' + c') (by omega) (by omega), wr_in (k := 4 * a') (by omega) (by omega), wr_in (k := 4 * a' * c') (by omega) (by omega), wr_in (k := (X + Y - a' - c') * (X + Y - a' - c')) (by omega) (by omega)]
  by_cases hd : X + Y ≤ a' + c'
  · exact .inl hd
  · rcases h with h | h
    · exact .inl (by omega)
    · right
      have m1 : (X + Y - a' - c') * (X + Y - a' - c') ≤ (X + Y - a - c) * (X + Y - a - c) := sq_mono (by omega) (by omega)
      have m2 : 4 * a * c ≤ 4 * a' * c' := Int.mul_le_mul (by omega) hc'.1 hc (by omega)
      omega
theorem touch_mono {w : Int} {ls : Nat} {zs : Nat → Int} {so so' : Int → Int} {p q : Int} (hB : TouchB ls zs so p q) (hB' : TouchB ls zs so' p q) (hle : ∀ s, so s ≤ so' s) (h : touchT w zs so p q = true) : touchT w zs so' p q = true := by
  obtain ⟨h1, h2, h3, h4⟩ := hB
  obtain ⟨_, _, _, h4'⟩ := hB'
  unfold touchT at h ⊢
  split
  · rename_i hn; rw [if_pos hn] at h; exact h
  · rename_i hn
    rw [if_neg hn] at h
    dsimp only at h ⊢
    generalize hs : (if p < 0 then q else p) = s at h ⊢
    generalize ho : (if p < 0 then p else q) = o at h ⊢
    have ls0 : 0 ≤ s ∧ s < ls := by split at hs <;> omega
    have lo : o < ls := by split at ho <;> omega
    have a0 := h4 s
    have a1 := hle s
    have a2 := h4' s
    have nz : ¬ so' s = 0 := by
      intro e
      rw [if_pos (by omega)] at h; cases h
    by_cases z : so s = 0
    · rw [if_pos z] at h; cases h
    rw [if_neg nz]
    rw [if_neg z] at h
    by_cases e1 : o = -2
    · rw [if_pos e1] at h ⊢
      simp only [decide_eq_true_eq] at h ⊢
      omega
    · rw [if_neg e1] at h ⊢
      by_cases e2 : 0 ≤ o
      · rw [if_pos e2] at h ⊢
        have g1 := h3 s.toNat (by omega)
        have g2 := h3 o.toNat (by omega)
        unfold spotB at g1 g2
        have c0 := h4 o
        have c1 := hle o
        have c2 := h4' o
        rw [both_eq a0 c0 (by omega) (by omega) (by omega) (by omega)] at h
        rw [both_eq a2 c2 (by omega) (by omega) (by omega) (by omega)]
        by_cases zo : so o = 0
        · rw [if_pos zo] at h; cases h
        · rw [if_neg zo] at h
          rw [if_neg (by omega)]
          exact bothR_mono a0.1 c0.1 ⟨a1, a2.2⟩ ⟨c1, c2.2⟩ (by omega) (by omega) (by omega) (by omega) h
      · rw [if_neg e2] at h ⊢
        simp only [decide_eq_true_eq] at h ⊢
        omega
end Go.Eng
end
