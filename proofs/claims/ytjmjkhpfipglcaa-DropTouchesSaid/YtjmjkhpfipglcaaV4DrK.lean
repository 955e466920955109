/- Drop: newTable: rounds over two places. -/
import Derived.Test.YtjmjkhpfipglcaaV4DrJ
namespace Go.Eng
open Go.Proofs
set_option linter.unusedVariables false
set_option linter.unusedSimpArgs false
set_option maxRecDepth 100000
def g99 (ls : Nat) (tb : Nat → Int → Int → Bool) : List AV → Option (Prop × AV)
  | [t, .int .i64 p, .int .i64 q, .fn (.func c) a []] => some (t = .ptr 4 2 0 0 ∧ a = [.ptr 4 2 0 0] ∧ (c = 100 ∨ c = 101) ∧ ltI p (Int.ofNat ls) = true ∧ ltI q (Int.ofNat ls) = true, .bool (tb c p q))
  | _ => none
noncomputable def frI (q : Int) : Frm := [(3, .ptr 4 3 0 0), (7, .ptr 2 0 0 0), (8, .int .i64 q)]
theorem t77i (n : Nat) (pp w : Int) (ls ld : Nat) (zs zd sz kd : Nat → Int) (H : Heap) (L Li : ALoop) (q : Int) (tb : Nat → Int → Int → Bool) : execT (cxR (n+3) 77 94 2 1) (il (ctH noCt 99 (hT pp w ls ld zs zd sz kd H L Li) (g99 ls tb)) (n+3) 0) noBT noRT (part Try.f77 [1, 1, 1, 0, 1, 0, 1, 0, 1, 0, 1]) (hints (frI q)) (hT pp w ls ld zs zd sz kd H L Li) =
  Tr.ite (eqI pp q)
    (Tr.ok
      (Ex.normal, [(3, AV.ptr 4 3 0 0, none), (7, AV.ptr 2 0 0 0, none), (8, AV.int IntKind.i64 q, none), (57, AV.bool true, some 1)],
        { lock := false, bs := [] } ::
          { lock := false, bs := [] } ::
            { lock := false, bs := [(0, Blk.row (Row.I IntKind.i64 [pp])), (0, Blk.loop Li)] } ::
              { lock := false, bs := [] } ::
                { lock := false,
                    bs :=
                      [(0, Blk.row (Row.G [AV.int IntKind.i64 w, AV.slcT none (Row.M [Seg.arr IntKind.i64 zs (mulO ls 2)]) 2 ls false, AV.slcT none (Row.M [Seg.arr IntKind.i64 zd (mulO ld 3)]) 3 ld false])), (0, Blk.row (Row.M [Seg.arr IntKind.i64 sz (mulO ls 2)])),
                        (0, Blk.row (Row.M [Seg.one (AV.int IntKind.i64 w), Seg.one (AV.slcT none (Row.M [Seg.arr IntKind.i64 zs (mulO ls 2)]) 2 ls false), Seg.one (AV.slcT none (Row.M [Seg.arr IntKind.i64 zd (mulO ld 3)]) 3 ld false), Seg.one (AV.slc 0 1 0 0 2 ls (some ls)), Seg.arr IntKind.i64 kd 144])), (0, Blk.row (Row.G [AV.ptr 0 2 0 0])), (0, Blk.loop L)] } ::
                  H))
    (Tr.reqP
      ((AV.ptr 4 2 0 0 = AV.ptr 4 2 0 0 ∧ [AV.ptr 4 2 0 0] = [AV.ptr 4 2 0 0] ∧ (100 = 100 ∨ 100 = 101) ∧ ltI pp (Int.ofNat ls) = true ∧ ltI q (Int.ofNat ls) = true) ∧
        { lock := false, bs := [] } ::
            { lock := false, bs := [] } ::
              { lock := false, bs := [(0, Blk.row (Row.I IntKind.i64 [pp])), (0, Blk.loop Li)] } ::
                { lock := false, bs := [] } ::
                  { lock := false,
                      bs :=
                        [(0, Blk.row (Row.G [AV.int IntKind.i64 w, AV.slcT none (Row.M [Seg.arr IntKind.i64 zs (mulO ls 2)]) 2 ls false, AV.slcT none (Row.M [Seg.arr IntKind.i64 zd (mulO ld 3)]) 3 ld false])), (0, Blk.row (Row.M [Seg.arr IntKind.i64 sz (mulO ls 2)])),
                          (0, Blk.row (Row.M [Seg.one (AV.int IntKind.i64 w), Seg.one (AV.slcT none (Row.M [Seg.arr IntKind.i64 zs (mulO ls 2)]) 2 ls false), Seg.one (AV.slcT none (Row.M [Seg.arr IntKind.i64 zd (mulO ld 3)]) 3 ld false), Seg.one (AV.slc 0 1 0 0 2 ls (some ls)), Seg.arr IntKind.i64 kd 144])), (0, Blk.row (Row.G [AV.ptr 0 2 0 0])), (0, Blk.loop L)] } ::
                    H =
          { lock := false, bs := [] } ::
            { lock := false, bs := [] } ::
              { lock := false, bs := [(0, Blk.row (Row.I IntKind.i64 [pp])), (0, Blk.loop Li)] } ::
                { lock := false, bs := [] } ::
                  { lock := false,
                      bs :=
                        [(0, Blk.row (Row.G [AV.int IntKind.i64 w, AV.slcT none (Row.M [Seg.arr IntKind.i64 zs (mulO ls 2)]) 2 ls false, AV.slcT none (Row.M [Seg.arr IntKind.i64 zd (mulO ld 3)]) 3 ld false])), (0, Blk.row (Row.M [Seg.arr IntKind.i64 sz (mulO ls 2)])),
                          (0, Blk.row (Row.M [Seg.one (AV.int IntKind.i64 w), Seg.one (AV.slcT none (Row.M [Seg.arr IntKind.i64 zs (mulO ls 2)]) 2 ls false), Seg.one (AV.slcT none (Row.M [Seg.arr IntKind.i64 zd (mulO ld 3)]) 3 ld false), Seg.one (AV.slc 0 1 0 0 2 ls (some ls)), Seg.arr IntKind.i64 kd 144])), (0, Blk.row (Row.G [AV.ptr 0 2 0 0])), (0, Blk.loop L)] } ::
                    H)
      (Tr.ite (tb 100 pp q)
        (Tr.req (inI (addI IntKind.i64 pp (Int.ofNat 2)) 12)
          (Tr.req (inI (addI IntKind.i64 q (Int.ofNat 2)) 12)
            (Tr.req (eqN 0 0)
              (Tr.req (inO (idO (idO 4 (addI IntKind.i64 pp (Int.ofNat 2)) 12) (addI IntKind.i64 q (Int.ofNat 2)) 1) 1 4 144)
                (Tr.ok
                  (Ex.normal, [],
                    { lock := false, bs := [] } ::
                      { lock := false, bs := [] } ::
                        { lock := false, bs := [(0, Blk.row (Row.I IntKind.i64 [pp])), (0, Blk.loop Li)] } ::
                          { lock := false, bs := [] } ::
                            { lock := false,
                                bs :=
                                  [(0, Blk.row (Row.G [AV.int IntKind.i64 w, AV.slcT none (Row.M [Seg.arr IntKind.i64 zs (mulO ls 2)]) 2 ls false, AV.slcT none (Row.M [Seg.arr IntKind.i64 zd (mulO ld 3)]) 3 ld false])), (0, Blk.row (Row.M [Seg.arr IntKind.i64 sz (mulO ls 2)])),
                                    (0,
                                      Blk.row
                                        (Row.M
                                          [Seg.one (AV.int IntKind.i64 w), Seg.one (AV.slcT none (Row.M [Seg.arr IntKind.i64 zs (mulO ls 2)]) 2 ls false), Seg.one (AV.slcT none (Row.M [Seg.arr IntKind.i64 zd (mulO ld 3)]) 3 ld false), Seg.one (AV.slc 0 1 0 0 2 ls (some ls)),
                                            Seg.arr IntKind.i64 (updO kd (subO (idO (idO 4 (addI IntKind.i64 pp (Int.ofNat 2)) 12) (addI IntKind.i64 q (Int.ofNat 2)) 1) 4) (Int.ofNat 2)) 144])),
                                    (0, Blk.row (Row.G [AV.ptr 0 2 0 0])), (0, Blk.loop L)] } ::
                              H))))))
        (Tr.reqP
          ((AV.ptr 4 2 0 0 = AV.ptr 4 2 0 0 ∧ [AV.ptr 4 2 0 0] = [AV.ptr 4 2 0 0] ∧ (101 = 100 ∨ 101 = 101) ∧ ltI pp (Int.ofNat ls) = true ∧ ltI q (Int.ofNat ls) = true) ∧
            { lock := false, bs := [] } ::
                { lock := false, bs := [] } ::
                  { lock := false, bs := [(0, Blk.row (Row.I IntKind.i64 [pp])), (0, Blk.loop Li)] } ::
                    { lock := false, bs := [] } ::
                      { lock := false,
                          bs :=
                            [(0, Blk.row (Row.G [AV.int IntKind.i64 w, AV.slcT none (Row.M [Seg.arr IntKind.i64 zs (mulO ls 2)]) 2 ls false, AV.slcT none (Row.M [Seg.arr IntKind.i64 zd (mulO ld 3)]) 3 ld false])), (0, Blk.row (Row.M [Seg.arr IntKind.i64 sz (mulO ls 2)])),
                              (0, Blk.row (Row.M [Seg.one (AV.int IntKind.i64 w), Seg.one (AV.slcT none (Row.M [Seg.arr IntKind.i64 zs (mulO ls 2)]) 2 ls false), Seg.one (AV.slcT none (Row.M [Seg.arr IntKind.i64 zd (mulO ld 3)]) 3 ld false), Seg.one (AV.slc 0 1 0 0 2 ls (some ls)), Seg.arr IntKind.i64 kd 144])), (0, Blk.row (Row.G [AV.ptr 0 2 0 0])), (0, Blk.loop L)] } ::
                        H =
              { lock := false, bs := [] } ::
                { lock := false, bs := [] } ::
                  { lock := false, bs := [(0, Blk.row (Row.I IntKind.i64 [pp])), (0, Blk.loop Li)] } ::
                    { lock := false, bs := [] } ::
                      { lock := false,
                          bs :=
                            [(0, Blk.row (Row.G [AV.int IntKind.i64 w, AV.slcT none (Row.M [Seg.arr IntKind.i64 zs (mulO ls 2)]) 2 ls false, AV.slcT none (Row.M [Seg.arr IntKind.i64 zd (mulO ld 3)]) 3 ld false])), (0, Blk.row (Row.M [Seg.arr IntKind.i64 sz (mulO ls 2)])),
                              (0, Blk.row (Row.M [Seg.one (AV.int IntKind.i64 w), Seg.one (AV.slcT none (Row.M [Seg.arr IntKind.i64 zs (mulO ls 2)]) 2 ls false), Seg.one (AV.slcT none (Row.M [Seg.arr IntKind.i64 zd (mulO ld 3)]) 3 ld false), Seg.one (AV.slc 0 1 0 0 2 ls (some ls)), Seg.arr IntKind.i64 kd 144])), (0, Blk.row (Row.G [AV.ptr 0 2 0 0])), (0, Blk.loop L)] } ::
                        H)
          (Tr.ite (tb 101 pp q)
            (Tr.req (inI (addI IntKind.i64 pp (Int.ofNat 2)) 12)
              (Tr.req (inI (addI IntKind.i64 q (Int.ofNat 2)) 12)
                (Tr.req (eqN 0 0)
                  (Tr.req (inO (idO (idO 4 (addI IntKind.i64 pp (Int.ofNat 2)) 12) (addI IntKind.i64 q (Int.ofNat 2)) 1) 1 4 144)
                    (Tr.ok
                      (Ex.normal, [],
                        { lock := false, bs := [] } ::
                          { lock := false, bs := [] } ::
                            { lock := false, bs := [(0, Blk.row (Row.I IntKind.i64 [pp])), (0, Blk.loop Li)] } ::
                              { lock := false, bs := [] } ::
                                { lock := false,
                                    bs :=
                                      [(0, Blk.row (Row.G [AV.int IntKind.i64 w, AV.slcT none (Row.M [Seg.arr IntKind.i64 zs (mulO ls 2)]) 2 ls false, AV.slcT none (Row.M [Seg.arr IntKind.i64 zd (mulO ld 3)]) 3 ld false])), (0, Blk.row (Row.M [Seg.arr IntKind.i64 sz (mulO ls 2)])),
                                        (0,
                                          Blk.row
                                            (Row.M
                                              [Seg.one (AV.int IntKind.i64 w), Seg.one (AV.slcT none (Row.M [Seg.arr IntKind.i64 zs (mulO ls 2)]) 2 ls false), Seg.one (AV.slcT none (Row.M [Seg.arr IntKind.i64 zd (mulO ld 3)]) 3 ld false), Seg.one (AV.slc 0 1 0 0 2 ls (some ls)),
                                                Seg.arr IntKind.i64 (updO kd (subO (idO (idO 4 (addI IntKind.i64 pp (Int.ofNat 2)) 12) (addI IntKind.i64 q (Int.ofNat 2)) 1) 4) (Int.ofNat 1)) 144])),
                                        (0, Blk.row (Row.G [AV.ptr 0 2 0 0])), (0, Blk.loop L)] } ::
                                  H))))))
            (Tr.ok
              (Ex.normal, [(3, AV.ptr 4 3 0 0, none), (7, AV.ptr 2 0 0 0, none), (8, AV.int IntKind.i64 q, none), (77, AV.bool false, some 1)],
                { lock := false, bs := [] } ::
                  { lock := false, bs := [] } ::
                    { lock := false, bs := [(0, Blk.row (Row.I IntKind.i64 [pp])), (0, Blk.loop Li)] } ::
                      { lock := false, bs := [] } ::
                        { lock := false,
                            bs :=
                              [(0, Blk.row (Row.G [AV.int IntKind.i64 w, AV.slcT none (Row.M [Seg.arr IntKind.i64 zs (mulO ls 2)]) 2 ls false, AV.slcT none (Row.M [Seg.arr IntKind.i64 zd (mulO ld 3)]) 3 ld false])), (0, Blk.row (Row.M [Seg.arr IntKind.i64 sz (mulO ls 2)])),
                                (0, Blk.row (Row.M [Seg.one (AV.int IntKind.i64 w), Seg.one (AV.slcT none (Row.M [Seg.arr IntKind.i64 zs (mulO ls 2)]) 2 ls false), Seg.one (AV.slcT none (Row.M [Seg.arr IntKind.i64 zd (mulO ld 3)]) 3 ld false), Seg.one (AV.slc 0 1 0 0 2 ls (some ls)), Seg.arr IntKind.i64 kd 144])), (0, Blk.row (Row.G [AV.ptr 0 2 0 0])), (0, Blk.loop L)] } ::
                          H)))))) := by kernel_rfl
theorem t109i (n : Nat) (pp w : Int) (ls ld : Nat) (zs zd sz kd kd' : Nat → Int) (H : Heap) (L Li : ALoop) (q : Int) : execT (cxD n 109 18) (rdE (il noCt n 0) 1 1 [.int .i64 q] (lv0 :: lvP pp [(0, .loop Li)] :: lv0 :: lvT w ls ld zs zd sz kd [(0, .loop L)] :: H) (.ok (.bool true, lv0 :: lvP pp [(0, .loop Li)] :: lv0 :: lvT w ls ld zs zd sz kd' [(0, .loop L)] :: H))) noBT noRT (part Try.f109 [1,0,0]) (hints [(0, .yld 1 1), (1, .ptrT (some 1) (.G [.ptr 2 2 0 0]) 0), (3, .int .i64 q)]) (lv0 :: lvP pp [(0, .loop Li)] :: lv0 :: lvT w ls ld zs zd sz kd [(0, .loop L)] :: H) =
  Tr.ite (ltI q (Int.ofNat ls))
    (Tr.reqP
      ([AV.int IntKind.i64 q] = [AV.int IntKind.i64 q] ∧
        { lock := false, bs := [] } ::
            { lock := false, bs := [(0, Blk.row (Row.I IntKind.i64 [pp])), (0, Blk.loop Li)] } ::
              { lock := false, bs := [] } ::
                { lock := false,
                    bs :=
                      [(0, Blk.row (Row.G [AV.int IntKind.i64 w, AV.slcT none (Row.M [Seg.arr IntKind.i64 zs (mulO ls 2)]) 2 ls false, AV.slcT none (Row.M [Seg.arr IntKind.i64 zd (mulO ld 3)]) 3 ld false])), (0, Blk.row (Row.M [Seg.arr IntKind.i64 sz (mulO ls 2)])),
                        (0, Blk.row (Row.M [Seg.one (AV.int IntKind.i64 w), Seg.one (AV.slcT none (Row.M [Seg.arr IntKind.i64 zs (mulO ls 2)]) 2 ls false), Seg.one (AV.slcT none (Row.M [Seg.arr IntKind.i64 zd (mulO ld 3)]) 3 ld false), Seg.one (AV.slc 0 1 0 0 2 ls (some ls)), Seg.arr IntKind.i64 kd 144])), (0, Blk.row (Row.G [AV.ptr 0 2 0 0])), (0, Blk.loop L)] } ::
                  H =
          { lock := false, bs := [] } ::
            { lock := false, bs := [(0, Blk.row (Row.I IntKind.i64 [pp])), (0, Blk.loop Li)] } ::
              { lock := false, bs := [] } ::
                { lock := false,
                    bs :=
                      [(0, Blk.row (Row.G [AV.int IntKind.i64 w, AV.slcT none (Row.M [Seg.arr IntKind.i64 zs (mulO ls 2)]) 2 ls false, AV.slcT none (Row.M [Seg.arr IntKind.i64 zd (mulO ld 3)]) 3 ld false])), (0, Blk.row (Row.M [Seg.arr IntKind.i64 sz (mulO ls 2)])),
                        (0, Blk.row (Row.M [Seg.one (AV.int IntKind.i64 w), Seg.one (AV.slcT none (Row.M [Seg.arr IntKind.i64 zs (mulO ls 2)]) 2 ls false), Seg.one (AV.slcT none (Row.M [Seg.arr IntKind.i64 zd (mulO ld 3)]) 3 ld false), Seg.one (AV.slc 0 1 0 0 2 ls (some ls)), Seg.arr IntKind.i64 kd 144])), (0, Blk.row (Row.G [AV.ptr 0 2 0 0])), (0, Blk.loop L)] } ::
                  H)
      (Tr.ite (notB true)
        (Tr.ok
          (Ex.ret, [(0, AV.yld 1 1, none), (1, AV.ptrT (some 1) (Row.G [AV.ptr 2 2 0 0]) 0, none), (3, AV.int IntKind.i64 q, none), (17, AV.bool true, some 1)],
            { lock := false, bs := [] } ::
              { lock := false, bs := [(0, Blk.row (Row.I IntKind.i64 [pp])), (0, Blk.loop Li)] } ::
                { lock := false, bs := [] } ::
                  { lock := false,
                      bs :=
                        [(0, Blk.row (Row.G [AV.int IntKind.i64 w, AV.slcT none (Row.M [Seg.arr IntKind.i64 zs (mulO ls 2)]) 2 ls false, AV.slcT none (Row.M [Seg.arr IntKind.i64 zd (mulO ld 3)]) 3 ld false])), (0, Blk.row (Row.M [Seg.arr IntKind.i64 sz (mulO ls 2)])),
                          (0, Blk.row (Row.M [Seg.one (AV.int IntKind.i64 w), Seg.one (AV.slcT none (Row.M [Seg.arr IntKind.i64 zs (mulO ls 2)]) 2 ls false), Seg.one (AV.slcT none (Row.M [Seg.arr IntKind.i64 zd (mulO ld 3)]) 3 ld false), Seg.one (AV.slc 0 1 0 0 2 ls (some ls)), Seg.arr IntKind.i64 kd' 144])), (0, Blk.row (Row.G [AV.ptr 0 2 0 0])), (0, Blk.loop L)] } ::
                    H))
        (Tr.ok
          (Ex.normal, [(0, AV.yld 1 1, none), (1, AV.ptrT (some 1) (Row.G [AV.ptr 2 2 0 0]) 0, none), (3, AV.int IntKind.i64 (addI IntKind.i64 q (Int.ofNat 1)), none)],
            { lock := false, bs := [] } ::
              { lock := false, bs := [(0, Blk.row (Row.I IntKind.i64 [pp])), (0, Blk.loop Li)] } ::
                { lock := false, bs := [] } ::
                  { lock := false,
                      bs :=
                        [(0, Blk.row (Row.G [AV.int IntKind.i64 w, AV.slcT none (Row.M [Seg.arr IntKind.i64 zs (mulO ls 2)]) 2 ls false, AV.slcT none (Row.M [Seg.arr IntKind.i64 zd (mulO ld 3)]) 3 ld false])), (0, Blk.row (Row.M [Seg.arr IntKind.i64 sz (mulO ls 2)])),
                          (0, Blk.row (Row.M [Seg.one (AV.int IntKind.i64 w), Seg.one (AV.slcT none (Row.M [Seg.arr IntKind.i64 zs (mulO ls 2)]) 2 ls false), Seg.one (AV.slcT none (Row.M [Seg.arr IntKind.i64 zd (mulO ld 3)]) 3 ld false), Seg.one (AV.slc 0 1 0 0 2 ls (some ls)), Seg.arr IntKind.i64 kd' 144])), (0, Blk.row (Row.G [AV.ptr 0 2 0 0])), (0, Blk.loop L)] } ::
                    H))))
    (Tr.ok
      (Ex.exit 0, [(0, AV.yld 1 1, none), (1, AV.ptrT (some 1) (Row.G [AV.ptr 2 2 0 0]) 0, none), (3, AV.int IntKind.i64 q, none), (11, AV.bool false, some 1)],
        { lock := false, bs := [] } ::
          { lock := false, bs := [(0, Blk.row (Row.I IntKind.i64 [pp])), (0, Blk.loop Li)] } ::
            { lock := false, bs := [] } ::
              { lock := false,
                  bs :=
                    [(0, Blk.row (Row.G [AV.int IntKind.i64 w, AV.slcT none (Row.M [Seg.arr IntKind.i64 zs (mulO ls 2)]) 2 ls false, AV.slcT none (Row.M [Seg.arr IntKind.i64 zd (mulO ld 3)]) 3 ld false])), (0, Blk.row (Row.M [Seg.arr IntKind.i64 sz (mulO ls 2)])),
                      (0, Blk.row (Row.M [Seg.one (AV.int IntKind.i64 w), Seg.one (AV.slcT none (Row.M [Seg.arr IntKind.i64 zs (mulO ls 2)]) 2 ls false), Seg.one (AV.slcT none (Row.M [Seg.arr IntKind.i64 zd (mulO ld 3)]) 3 ld false), Seg.one (AV.slc 0 1 0 0 2 ls (some ls)), Seg.arr IntKind.i64 kd 144])), (0, Blk.row (Row.G [AV.ptr 0 2 0 0])), (0, Blk.loop L)] } ::
                H)) := by kernel_rfl
theorem u109i (n : Nat) (pp w : Int) (ls ld : Nat) (zs zd sz kd kd' : Nat → Int) (H : Heap) (L Li : ALoop) : bodyT Try.prog (cd n) 100000 109 Try.f109 (Kt.kt 109) (il noCt n 0) (blkE noBT 0 [(0, .yld 1 1), (1, .ptrT (some 1) (.G [.ptr 2 2 0 0]) 0), (3, .int .i64 (-2))] (lv0 :: lvP pp [(0, .loop Li)] :: lv0 :: lvT w ls ld zs zd sz kd [(0, .loop L)] :: H) (.ok (.normal, hints [(0, .yld 1 1), (1, .ptrT (some 1) (.G [.ptr 2 2 0 0]) 0), (3, .int .i64 (Int.ofNat ls)), (11, .bool false)], lv0 :: lvP pp [(0, .loop Li)] :: lv0 :: lvT w ls ld zs zd sz kd' [(0, .loop L)] :: H))) noRT [(.yld 0 1, none), (.ptrT (some 0) (.G [.ptr 2 2 0 0]) 0, none)] (lvP pp [(0, .loop Li)] :: lv0 :: lvT w ls ld zs zd sz kd [(0, .loop L)] :: H) =
  Tr.reqP
    ([(0, AV.yld 1 1), (1, AV.ptrT (some 1) (Row.G [AV.ptr 2 2 0 0]) 0), (3, AV.int IntKind.i64 (Int.negSucc 1))] = [(0, AV.yld 1 1), (1, AV.ptrT (some 1) (Row.G [AV.ptr 2 2 0 0]) 0), (3, AV.int IntKind.i64 (Int.negSucc 1))] ∧
      { lock := false, bs := [] } ::
          { lock := false, bs := [(0, Blk.row (Row.I IntKind.i64 [pp])), (0, Blk.loop Li)] } ::
            { lock := false, bs := [] } ::
              { lock := false,
                  bs :=
                    [(0, Blk.row (Row.G [AV.int IntKind.i64 w, AV.slcT none (Row.M [Seg.arr IntKind.i64 zs (mulO ls 2)]) 2 ls false, AV.slcT none (Row.M [Seg.arr IntKind.i64 zd (mulO ld 3)]) 3 ld false])), (0, Blk.row (Row.M [Seg.arr IntKind.i64 sz (mulO ls 2)])),
                      (0, Blk.row (Row.M [Seg.one (AV.int IntKind.i64 w), Seg.one (AV.slcT none (Row.M [Seg.arr IntKind.i64 zs (mulO ls 2)]) 2 ls false), Seg.one (AV.slcT none (Row.M [Seg.arr IntKind.i64 zd (mulO ld 3)]) 3 ld false), Seg.one (AV.slc 0 1 0 0 2 ls (some ls)), Seg.arr IntKind.i64 kd 144])), (0, Blk.row (Row.G [AV.ptr 0 2 0 0])), (0, Blk.loop L)] } ::
                H =
        { lock := false, bs := [] } ::
          { lock := false, bs := [(0, Blk.row (Row.I IntKind.i64 [pp])), (0, Blk.loop Li)] } ::
            { lock := false, bs := [] } ::
              { lock := false,
                  bs :=
                    [(0, Blk.row (Row.G [AV.int IntKind.i64 w, AV.slcT none (Row.M [Seg.arr IntKind.i64 zs (mulO ls 2)]) 2 ls false, AV.slcT none (Row.M [Seg.arr IntKind.i64 zd (mulO ld 3)]) 3 ld false])), (0, Blk.row (Row.M [Seg.arr IntKind.i64 sz (mulO ls 2)])),
                      (0, Blk.row (Row.M [Seg.one (AV.int IntKind.i64 w), Seg.one (AV.slcT none (Row.M [Seg.arr IntKind.i64 zs (mulO ls 2)]) 2 ls false), Seg.one (AV.slcT none (Row.M [Seg.arr IntKind.i64 zd (mulO ld 3)]) 3 ld false), Seg.one (AV.slc 0 1 0 0 2 ls (some ls)), Seg.arr IntKind.i64 kd 144])), (0, Blk.row (Row.G [AV.ptr 0 2 0 0])), (0, Blk.loop L)] } ::
                H)
    (Tr.ok
      ((AV.tup [], none),
        { lock := false, bs := [(0, Blk.row (Row.I IntKind.i64 [pp])), (0, Blk.loop Li)] } ::
          { lock := false, bs := [] } ::
            { lock := false,
                bs :=
                  [(0, Blk.row (Row.G [AV.int IntKind.i64 w, AV.slcT none (Row.M [Seg.arr IntKind.i64 zs (mulO ls 2)]) 2 ls false, AV.slcT none (Row.M [Seg.arr IntKind.i64 zd (mulO ld 3)]) 3 ld false])), (0, Blk.row (Row.M [Seg.arr IntKind.i64 sz (mulO ls 2)])),
                    (0, Blk.row (Row.M [Seg.one (AV.int IntKind.i64 w), Seg.one (AV.slcT none (Row.M [Seg.arr IntKind.i64 zs (mulO ls 2)]) 2 ls false), Seg.one (AV.slcT none (Row.M [Seg.arr IntKind.i64 zd (mulO ld 3)]) 3 ld false), Seg.one (AV.slc 0 1 0 0 2 ls (some ls)), Seg.arr IntKind.i64 kd' 144])), (0, Blk.row (Row.G [AV.ptr 0 2 0 0])), (0, Blk.loop L)] } ::
              H)) := by kernel_rfl
theorem t109o (n : Nat) (w : Int) (ls ld : Nat) (zs zd sz kd kd' : Nat → Int) (H : Heap) (L : ALoop) (q : Int) : execT (cxD n 109 18) (rdE (il noCt n 0) 1 4 [.int .i64 q] (lv0 :: lvT w ls ld zs zd sz kd [(0, .loop L)] :: H) (.ok (.bool true, lv0 :: lvT w ls ld zs zd sz kd' [(0, .loop L)] :: H))) noBT noRT (part Try.f109 [1,0,0]) (hints [(0, .yld 1 4), (1, cap0 1), (3, .int .i64 q)]) (lv0 :: lvT w ls ld zs zd sz kd [(0, .loop L)] :: H) =
  Tr.ite (ltI q (Int.ofNat ls))
    (Tr.reqP
      ([AV.int IntKind.i64 q] = [AV.int IntKind.i64 q] ∧
        { lock := false, bs := [] } ::
            { lock := false,
                bs :=
                  [(0, Blk.row (Row.G [AV.int IntKind.i64 w, AV.slcT none (Row.M [Seg.arr IntKind.i64 zs (mulO ls 2)]) 2 ls false, AV.slcT none (Row.M [Seg.arr IntKind.i64 zd (mulO ld 3)]) 3 ld false])), (0, Blk.row (Row.M [Seg.arr IntKind.i64 sz (mulO ls 2)])),
                    (0, Blk.row (Row.M [Seg.one (AV.int IntKind.i64 w), Seg.one (AV.slcT none (Row.M [Seg.arr IntKind.i64 zs (mulO ls 2)]) 2 ls false), Seg.one (AV.slcT none (Row.M [Seg.arr IntKind.i64 zd (mulO ld 3)]) 3 ld false), Seg.one (AV.slc 0 1 0 0 2 ls (some ls)), Seg.arr IntKind.i64 kd 144])), (0, Blk.row (Row.G [AV.ptr 0 2 0 0])), (0, Blk.loop L)] } ::
              H =
          { lock := false, bs := [] } ::
            { lock := false,
                bs :=
                  [(0, Blk.row (Row.G [AV.int IntKind.i64 w, AV.slcT none (Row.M [Seg.arr IntKind.i64 zs (mulO ls 2)]) 2 ls false, AV.slcT none (Row.M [Seg.arr IntKind.i64 zd (mulO ld 3)]) 3 ld false])), (0, Blk.row (Row.M [Seg.arr IntKind.i64 sz (mulO ls 2)])),
                    (0, Blk.row (Row.M [Seg.one (AV.int IntKind.i64 w), Seg.one (AV.slcT none (Row.M [Seg.arr IntKind.i64 zs (mulO ls 2)]) 2 ls false), Seg.one (AV.slcT none (Row.M [Seg.arr IntKind.i64 zd (mulO ld 3)]) 3 ld false), Seg.one (AV.slc 0 1 0 0 2 ls (some ls)), Seg.arr IntKind.i64 kd 144])), (0, Blk.row (Row.G [AV.ptr 0 2 0 0])), (0, Blk.loop L)] } ::
              H)
      (Tr.ite (notB true)
        (Tr.ok
          (Ex.ret, [(0, AV.yld 1 4, none), (1, AV.ptrT (some 1) (Row.G [AV.ptr 0 2 0 0]) 0, none), (3, AV.int IntKind.i64 q, none), (17, AV.bool true, some 1)],
            { lock := false, bs := [] } ::
              { lock := false,
                  bs :=
                    [(0, Blk.row (Row.G [AV.int IntKind.i64 w, AV.slcT none (Row.M [Seg.arr IntKind.i64 zs (mulO ls 2)]) 2 ls false, AV.slcT none (Row.M [Seg.arr IntKind.i64 zd (mulO ld 3)]) 3 ld false])), (0, Blk.row (Row.M [Seg.arr IntKind.i64 sz (mulO ls 2)])),
                      (0, Blk.row (Row.M [Seg.one (AV.int IntKind.i64 w), Seg.one (AV.slcT none (Row.M [Seg.arr IntKind.i64 zs (mulO ls 2)]) 2 ls false), Seg.one (AV.slcT none (Row.M [Seg.arr IntKind.i64 zd (mulO ld 3)]) 3 ld false), Seg.one (AV.slc 0 1 0 0 2 ls (some ls)), Seg.arr IntKind.i64 kd' 144])), (0, Blk.row (Row.G [AV.ptr 0 2 0 0])), (0, Blk.loop L)] } ::
                H))
        (Tr.ok
          (Ex.normal, [(0, AV.yld 1 4, none), (1, AV.ptrT (some 1) (Row.G [AV.ptr 0 2 0 0]) 0, none), (3, AV.int IntKind.i64 (addI IntKind.i64 q (Int.ofNat 1)), none)],
            { lock := false, bs := [] } ::
              { lock := false,
                  bs :=
                    [(0, Blk.row (Row.G [AV.int IntKind.i64 w, AV.slcT none (Row.M [Seg.arr IntKind.i64 zs (mulO ls 2)]) 2 ls false, AV.slcT none (Row.M [Seg.arr IntKind.i64 zd (mulO ld 3)]) 3 ld false])), (0, Blk.row (Row.M [Seg.arr IntKind.i64 sz (mulO ls 2)])),
                      (0, Blk.row (Row.M [Seg.one (AV.int IntKind.i64 w), Seg.one (AV.slcT none (Row.M [Seg.arr IntKind.i64 zs (mulO ls 2)]) 2 ls false), Seg.one (AV.slcT none (Row.M [Seg.arr IntKind.i64 zd (mulO ld 3)]) 3 ld false), Seg.one (AV.slc 0 1 0 0 2 ls (some ls)), Seg.arr IntKind.i64 kd' 144])), (0, Blk.row (Row.G [AV.ptr 0 2 0 0])), (0, Blk.loop L)] } ::
                H))))
    (Tr.ok
      (Ex.exit 0, [(0, AV.yld 1 4, none), (1, AV.ptrT (some 1) (Row.G [AV.ptr 0 2 0 0]) 0, none), (3, AV.int IntKind.i64 q, none), (11, AV.bool false, some 1)],
        { lock := false, bs := [] } ::
          { lock := false,
              bs :=
                [(0, Blk.row (Row.G [AV.int IntKind.i64 w, AV.slcT none (Row.M [Seg.arr IntKind.i64 zs (mulO ls 2)]) 2 ls false, AV.slcT none (Row.M [Seg.arr IntKind.i64 zd (mulO ld 3)]) 3 ld false])), (0, Blk.row (Row.M [Seg.arr IntKind.i64 sz (mulO ls 2)])),
                  (0, Blk.row (Row.M [Seg.one (AV.int IntKind.i64 w), Seg.one (AV.slcT none (Row.M [Seg.arr IntKind.i64 zs (mulO ls 2)]) 2 ls false), Seg.one (AV.slcT none (Row.M [Seg.arr IntKind.i64 zd (mulO ld 3)]) 3 ld false), Seg.one (AV.slc 0 1 0 0 2 ls (some ls)), Seg.arr IntKind.i64 kd 144])), (0, Blk.row (Row.G [AV.ptr 0 2 0 0])), (0, Blk.loop L)] } ::
            H)) := by kernel_rfl
theorem u109o (n : Nat) (w : Int) (ls ld : Nat) (zs zd sz kd kd' : Nat → Int) (H : Heap) (L : ALoop) : bodyT Try.prog (cd n) 100000 109 Try.f109 (Kt.kt 109) (il noCt n 0) (blkE noBT 0 [(0, .yld 1 4), (1, cap0 1), (3, .int .i64 (-2))] (lv0 :: lvT w ls ld zs zd sz kd [(0, .loop L)] :: H) (.ok (.normal, hints [(0, .yld 1 4), (1, cap0 1), (3, .int .i64 (Int.ofNat ls)), (11, .bool false)], lv0 :: lvT w ls ld zs zd sz kd' [(0, .loop L)] :: H))) noRT [(.yld 0 4, none), (cap0 0, none)] (lvT w ls ld zs zd sz kd [(0, .loop L)] :: H) =
  Tr.reqP
    ([(0, AV.yld 1 4), (1, AV.ptrT (some 1) (Row.G [AV.ptr 0 2 0 0]) 0), (3, AV.int IntKind.i64 (Int.negSucc 1))] = [(0, AV.yld 1 4), (1, AV.ptrT (some 1) (Row.G [AV.ptr 0 2 0 0]) 0), (3, AV.int IntKind.i64 (Int.negSucc 1))] ∧
      { lock := false, bs := [] } ::
          { lock := false,
              bs :=
                [(0, Blk.row (Row.G [AV.int IntKind.i64 w, AV.slcT none (Row.M [Seg.arr IntKind.i64 zs (mulO ls 2)]) 2 ls false, AV.slcT none (Row.M [Seg.arr IntKind.i64 zd (mulO ld 3)]) 3 ld false])), (0, Blk.row (Row.M [Seg.arr IntKind.i64 sz (mulO ls 2)])),
                  (0, Blk.row (Row.M [Seg.one (AV.int IntKind.i64 w), Seg.one (AV.slcT none (Row.M [Seg.arr IntKind.i64 zs (mulO ls 2)]) 2 ls false), Seg.one (AV.slcT none (Row.M [Seg.arr IntKind.i64 zd (mulO ld 3)]) 3 ld false), Seg.one (AV.slc 0 1 0 0 2 ls (some ls)), Seg.arr IntKind.i64 kd 144])), (0, Blk.row (Row.G [AV.ptr 0 2 0 0])), (0, Blk.loop L)] } ::
            H =
        { lock := false, bs := [] } ::
          { lock := false,
              bs :=
                [(0, Blk.row (Row.G [AV.int IntKind.i64 w, AV.slcT none (Row.M [Seg.arr IntKind.i64 zs (mulO ls 2)]) 2 ls false, AV.slcT none (Row.M [Seg.arr IntKind.i64 zd (mulO ld 3)]) 3 ld false])), (0, Blk.row (Row.M [Seg.arr IntKind.i64 sz (mulO ls 2)])),
                  (0, Blk.row (Row.M [Seg.one (AV.int IntKind.i64 w), Seg.one (AV.slcT none (Row.M [Seg.arr IntKind.i64 zs (mulO ls 2)]) 2 ls false), Seg.one (AV.slcT none (Row.M [Seg.arr IntKind.i64 zd (mulO ld 3)]) 3 ld false), Seg.one (AV.slc 0 1 0 0 2 ls (some ls)), Seg.arr IntKind.i64 kd 144])), (0, Blk.row (Row.G [AV.ptr 0 2 0 0])), (0, Blk.loop L)] } ::
            H)
    (Tr.ok
      ((AV.tup [], none),
        { lock := false,
            bs :=
              [(0, Blk.row (Row.G [AV.int IntKind.i64 w, AV.slcT none (Row.M [Seg.arr IntKind.i64 zs (mulO ls 2)]) 2 ls false, AV.slcT none (Row.M [Seg.arr IntKind.i64 zd (mulO ld 3)]) 3 ld false])), (0, Blk.row (Row.M [Seg.arr IntKind.i64 sz (mulO ls 2)])),
                (0, Blk.row (Row.M [Seg.one (AV.int IntKind.i64 w), Seg.one (AV.slcT none (Row.M [Seg.arr IntKind.i64 zs (mulO ls 2)]) 2 ls false), Seg.one (AV.slcT none (Row.M [Seg.arr IntKind.i64 zd (mulO ld 3)]) 3 ld false), Seg.one (AV.slc 0 1 0 0 2 ls (some ls)), Seg.arr IntKind.i64 kd' 144])), (0, Blk.row (Row.G [AV.ptr 0 2 0 0])), (0, Blk.loop L)] } ::
          H)) := by kernel_rfl
theorem t77a (n : Nat) (pp w : Int) (ls ld : Nat) (zs zd sz kd : Nat → Int) (H : Heap) (L Li : ALoop) (q : Int) : execT (cxR n 77 94 2 1) (il noCt n 0) noBT noRT (part Try.f77 [1, 1, 1, 0, 1, 0, 1, 0, 1, 0, 0]) (hints [(3, .ptr 4 3 0 0), (7, .ptr 2 0 0 0), (55, AV.fn (Fn.func 109) [] [AV.ptrT (some 2) (Row.G [AV.ptr 2 2 0 0]) 0]), (56, .int .i64 q)]) (hT pp w ls ld zs zd sz kd H L Li) =
  Tr.ok
    (Ex.normal, [(3, AV.ptr 4 3 0 0, none), (7, AV.ptr 2 0 0 0, none), (8, AV.int IntKind.i64 q, none)],
      { lock := false, bs := [] } ::
        { lock := false, bs := [] } ::
          { lock := false, bs := [(0, Blk.row (Row.I IntKind.i64 [pp])), (0, Blk.loop Li)] } ::
            { lock := false, bs := [] } ::
              { lock := false,
                  bs :=
                    [(0, Blk.row (Row.G [AV.int IntKind.i64 w, AV.slcT none (Row.M [Seg.arr IntKind.i64 zs (mulO ls 2)]) 2 ls false, AV.slcT none (Row.M [Seg.arr IntKind.i64 zd (mulO ld 3)]) 3 ld false])), (0, Blk.row (Row.M [Seg.arr IntKind.i64 sz (mulO ls 2)])),
                      (0, Blk.row (Row.M [Seg.one (AV.int IntKind.i64 w), Seg.one (AV.slcT none (Row.M [Seg.arr IntKind.i64 zs (mulO ls 2)]) 2 ls false), Seg.one (AV.slcT none (Row.M [Seg.arr IntKind.i64 zd (mulO ld 3)]) 3 ld false), Seg.one (AV.slc 0 1 0 0 2 ls (some ls)), Seg.arr IntKind.i64 kd 144])), (0, Blk.row (Row.G [AV.ptr 0 2 0 0])), (0, Blk.loop L)] } ::
                H) := by kernel_rfl
theorem forE {n f nt : Nat} {c : Code} (id : Nat) (F : Nat → Frm) (G : Nat → Heap) (N : Nat) (y : Res) (hN : N < 99999)
    (hs : ∀ j, j < N → ∃ f' g, exec (cxD n f nt) c (F j) (G j) = some (.normal, f', g) ∧ f' = F (j + 1) ∧ cutTo (hNext (G 0)) (F (j + 1)) g = G (j + 1))
    (he : exec (cxD n f nt) c (F N) (G N) = some y.st ∧ y.1 = .exit id) : exec (cxD n f nt) (.block id (.loop c)) (F 0) (G 0) = some (.normal, y.st.2) := by
  have key := iter_for (body := exec (cxD n f nt) c) (n := hNext (G 0)) F G N y.st
    (fun j hj => by
      obtain ⟨f', g, h1, h2, h3⟩ := hs j hj
      exact ⟨f', g, h1, h2, by rw [h2]; exact h3⟩)
    ⟨he.1, by rw [show y.st.1 = y.1 from rfl, he.2]; simp⟩ 100000 (by omega)
  have hr := he.2
  obtain ⟨e, f1, g1⟩ := y
  dsimp only at hr
  subst hr
  exact exec_block_loop key
/-- Where a kind lies. -/
def kix (p q : Int) : Nat := (p + 2).toNat * 12 + (q + 2).toNat
/-- A kind more. -/
def kdS (w : Int) (zs sz : Nat → Int) (p q : Int) (kd : Nat → Int) : Nat → Int :=
  if p = q then kd
  else if touchT w zs (fun s => sz (s.toNat * 2)) p q then fun i => if i = kix p q then 2 else kd i
  else if touchT w zs (fun s => sz (s.toNat * 2 + 1)) p q then fun i => if i = kix p q then 1 else kd i
  else kd
noncomputable def recI : ALoop := { state := .ready, pending := none, fn := 77, nt := 94, fr := [(3, .ptr 2 3 0 0), (7, .ptr 0 0 0 0), (55, AV.fn (Fn.func 109) [] [AV.ptrT (some 0) (Row.G [AV.ptr 2 2 0 0]) 0])], params := [56], assign := part Try.f77 [1, 1, 1, 0, 1, 0, 1, 0, 1, 0, 0], body := part Try.f77 [1, 1, 1, 0, 1, 0, 1, 0, 1, 0, 1] }
def tbF (w : Int) (zs sz : Nat → Int) (c : Nat) (p q : Int) : Bool := if c = 100 then touchT w zs (fun s => sz (s.toNat * 2)) p q else touchT w zs (fun s => sz (s.toNat * 2 + 1)) p q
section
variable (n : Nat) (pp w : Int) (ls ld : Nat) (zs zd sz kd : Nat → Int) (H : Heap) (L Li : ALoop)
theorem il77i (hls : ls ≤ 10) : (il (ctH noCt 99 (hT pp w ls ld zs zd sz kd H L Li) (g99 ls (tbF w zs sz))) (n + 3) 0).Ok (cd (n + 3)) := by
  refine il_ok _ (n + 3) 0 (fun k => ctH_ok (noCt_ok _) (fun args p v h hp => ?_))
  unfold g99 at h
  split at h
  · simp only [Option.some.injEq, Prod.mk.injEq] at h
    obtain ⟨rfl, rfl⟩ := h
    obtain ⟨rfl, rfl, hc, h1, h2⟩ := hp
    rw [ltI_eq, decide_eq_true_eq] at h1 h2
    rw [show n + 3 + k = n + k + 3 by omega]
    rcases hc with rfl | rfl
    · exact c99a (n + k) w pp _ _ ls ld zs zd sz kd H L Li (by simpa using h1) (by simpa using h2) hls
    · exact c99b (n + k) w pp _ _ ls ld zs zd sz kd H L Li (by simpa using h1) (by simpa using h2) hls
  · cases h
theorem b77i : BlkT.Ok noBT (cxR (n + 3) 77 94 2 1) (part Try.f77 [1, 1, 1, 0, 1, 0, 1, 0, 1, 0, 1]) := noBT_ok _ _
/-- What a round of the inner loop does. -/
theorem r77i (hls : ls ≤ 10) (q : Int) (h1 : -2 ≤ pp ∧ pp < ls) (h2 : -2 ≤ q ∧ q < ls) : ∃ fr', exec (cxR (n + 3) 77 94 2 1) (part Try.f77 [1, 1, 1, 0, 1, 0, 1, 0, 1, 0, 1]) (frI q) (hT pp w ls ld zs zd sz kd H L Li) = some (.normal, fr', hT pp w ls ld zs zd sz (kdS w zs sz pp q kd) H L Li) := by
  have key : ∀ x : Res, (execT (cxR (n+3) 77 94 2 1) (il (ctH noCt 99 (hT pp w ls ld zs zd sz kd H L Li) (g99 ls (tbF w zs sz))) (n+3) 0) noBT noRT (part Try.f77 [1, 1, 1, 0, 1, 0, 1, 0, 1, 0, 1]) (hints (frI q)) (hT pp w ls ld zs zd sz kd H L Li)).run = some x → exec (cxR (n + 3) 77 94 2 1) (part Try.f77 [1, 1, 1, 0, 1, 0, 1, 0, 1, 0, 1]) (frI q) (hT pp w ls ld zs zd sz kd H L Li) = some x.st := by
    intro x hx
    have := execT_ok (cx := cxR (n + 3) 77 94 2 1) (il77i n pp w ls ld zs zd sz kd H L Li hls) _ (noBT_ok _ _) (noRT_ok _ _) _ _ _ hx
    rw [hints_eq] at this
    exact this
  have e1 : IntKind.i64.wrap (pp + 2) = pp + 2 := Go.IntWalk.i64_in _ (by omega)
  have e2 : IntKind.i64.wrap (q + 2) = q + 2 := Go.IntWalk.i64_in _ (by omega)
  have eix : 4 + (pp + 2).toNat * 12 + (q + 2).toNat * 1 - 4 = kix pp q := by unfold kix; omega
  have i2 : Int.ofNat 2 = 2 := rfl
  have b1 : ltI pp (Int.ofNat ls) = true := by rw [ltI_eq, decide_eq_true_eq]; exact h1.2
  have b2 : ltI q (Int.ofNat ls) = true := by rw [ltI_eq, decide_eq_true_eq]; exact h2.2
  have b3 : inI (pp + 2) 12 = true := by rw [inI_eq, decide_eq_true_eq]; omega
  have b4 : inI (q + 2) 12 = true := by rw [inI_eq, decide_eq_true_eq]; omega
  have b5 : inO (4 + (pp + 2).toNat * 12 + (q + 2).toNat * 1) 1 4 144 = true := by rw [inO_eq, decide_eq_true_eq]; omega
  by_cases e : pp = q
  · refine ⟨[(3, .ptr 4 3 0 0), (7, .ptr 2 0 0 0), (8, .int .i64 q), (57, .bool true)], (key _ (by rw [t77i, Tr.run_ite, eqI_dec, decide_eq_true e, cond_true]; rfl)).trans ?_⟩
    simp only [kdS, if_pos e]
    rfl
  · cases ta : touchT w zs (fun s => sz (s.toNat * 2)) pp q with
    | true =>
      refine ⟨[], (key _ (by rw [t77i, Tr.run_ite, eqI_dec, decide_eq_false e, cond_false, Tr.run_reqP ⟨⟨rfl, rfl, .inl rfl, b1, b2⟩, rfl⟩, Tr.run_ite, show tbF w zs sz 100 pp q = true from ta, cond_true, addI_eq, addI_eq, i2, e1, e2, idO_eq, idO_eq, Tr.run_req, b3, cond_true, Tr.run_req, b4, cond_true, Tr.run_req, beqN_self, cond_true, Tr.run_req, b5, cond_true, subO_eq, eix, updO_fn]; rfl)).trans ?_⟩
      simp only [kdS, if_neg e, ta, if_true]
      rfl
    | false =>
      cases tb : touchT w zs (fun s => sz (s.toNat * 2 + 1)) pp q with
      | true =>
        refine ⟨[], (key _ (by rw [t77i, Tr.run_ite, eqI_dec, decide_eq_false e, cond_false, Tr.run_reqP ⟨⟨rfl, rfl, .inl rfl, b1, b2⟩, rfl⟩, Tr.run_ite, show tbF w zs sz 100 pp q = false from ta, cond_false, Tr.run_reqP ⟨⟨rfl, rfl, .inr rfl, b1, b2⟩, rfl⟩, Tr.run_ite, show tbF w zs sz 101 pp q = true from tb, cond_true, addI_eq, addI_eq, i2, e1, e2, idO_eq, idO_eq, Tr.run_req, b3, cond_true, Tr.run_req, b4, cond_true, Tr.run_req, beqN_self, cond_true, Tr.run_req, b5, cond_true, subO_eq, eix, updO_fn]; rfl)).trans ?_⟩
        simp only [kdS, if_neg e, ta, tb, if_true, Bool.false_eq_true, if_false]
        rfl
      | false =>
        refine ⟨[(3, .ptr 4 3 0 0), (7, .ptr 2 0 0 0), (8, .int .i64 q), (77, .bool false)], (key _ (by rw [t77i, Tr.run_ite, eqI_dec, decide_eq_false e, cond_false, Tr.run_reqP ⟨⟨rfl, rfl, .inl rfl, b1, b2⟩, rfl⟩, Tr.run_ite, show tbF w zs sz 100 pp q = false from ta, cond_false, Tr.run_reqP ⟨⟨rfl, rfl, .inr rfl, b1, b2⟩, rfl⟩, Tr.run_ite, show tbF w zs sz 101 pp q = false from tb, cond_false]; rfl)).trans ?_⟩
        simp only [kdS, if_neg e, ta, tb, Bool.false_eq_true, if_false]
        rfl
end
end Go.Eng
