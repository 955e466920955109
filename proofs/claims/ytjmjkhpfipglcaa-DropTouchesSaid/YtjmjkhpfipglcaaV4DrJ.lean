/- Drop: newTable: touch. -/
import Derived.Test.YtjmjkhpfipglcaaV4DrI
namespace Go.Eng
open Go.Proofs
set_option linter.unusedVariables false
set_option linter.unusedSimpArgs false
set_option maxRecDepth 100000
/-- A function of which it is known what it answers to some arguments, in one heap. -/
noncomputable def ctH (t : Ctr) (f : FuncId) (H0 : Heap) (g : List AV → Option (Prop × AV)) : Ctr := fun x => cond (Nat.beq x f) (some fun args H => match g (avs args) with
  | some (p, v) => .reqP (p ∧ H = H0) (.ok ((v, none), H0))
  | none => .bad) (t x)
theorem ctH_ok {t : Ctr} {f : FuncId} {H0 : Heap} {g : List AV → Option (Prop × AV)} {call : CallT} (h : t.Ok call) (k : ∀ args p v, g args = some (p, v) → p → call (.fn f) args H0 = some (v, H0)) : (ctH t f H0 g).Ok call := by
  intro f' g' hg args H x hx
  unfold ctH at hg
  cases hb : Nat.beq f' f with
  | true =>
    rw [hb, cond_true, Option.some.injEq] at hg
    have := Nat.eq_of_beq_eq_true hb
    subst this; subst hg
    dsimp only at hx
    split at hx
    · rename_i p v hp
      obtain ⟨⟨e1, e2⟩, hx⟩ := Tr.reqP_some hx
      subst e2
      rw [k _ p v hp e1, ← Tr.ok_some hx]
    · exact (Tr.bad_some hx).elim
  | false =>
    rw [hb, cond_false] at hg
    exact h _ _ hg _ _ _ hx
theorem run_reqT {α : Type} {a : Tr α} : (Tr.reqP True a).run = a.run := Tr.run_reqP trivial
theorem eqI_dec (x y : Int) : eqI x y = decide (x = y) := by rw [eqI_eq, Bool.eq_iff_iff]; simp
/-- Do two places touch, by the sizes of spots? -/
def touchT (w : Int) (zs : Nat → Int) (so : Int → Int) (p q : Int) : Bool :=
  if p < 0 ∧ q < 0 then false
  else
    let s := if p < 0 then q else p
    let o := if p < 0 then p else q
    if so s = 0 then false
    else if o = -2 then decide (IntKind.i64.wrap (IntKind.i64.wrap (w - zs (s.toNat * 2)) * IntKind.i64.wrap (w - zs (s.toNat * 2))) ≤ so s)
    else if 0 ≤ o then bothT (so s) (so o) (zs (s.toNat * 2)) (zs (s.toNat * 2 + 1)) (zs (o.toNat * 2)) (zs (o.toNat * 2 + 1))
    else decide (IntKind.i64.wrap (zs (s.toNat * 2) * zs (s.toNat * 2)) ≤ so s)
theorem ct112 (n k : Nat) (t : Ctr) (ht : t.Ok (cd (n + 1 + k))) : (ctG t 112 (g112 bothT)).Ok (cd (n + 1 + k)) := by
  refine ctG_ok ht (fun args p v h hp H => ?_)
  unfold g112 at h
  split at h
  · simp only [Option.some.injEq, Prod.mk.injEq] at h
    obtain ⟨rfl, rfl⟩ := h
    rw [show n + 1 + k = n + k + 1 by omega]
    exact c112 (n + k) _ _ _ _ _ _ H
  · cases h
theorem u99a (n : Nat) (w pp p q : Int) (ls ld : Nat) (zs zd sz kd : Nat → Int) (H : Heap) (L Li : ALoop) (bo : Int → Int → Int → Int → Int → Int → Bool) : bodyT Try.prog (cd (n+2)) 100000 99 Try.f99 (Kt.kt 99) (il (ctG noCt 112 (g112 bo)) (n+1) 1) noBT noRT [(.ptr 4 2 0 0, none), (.int .i64 p, none), (.int .i64 q, none), (.fn (.func 100) [.ptr 4 2 0 0] [], none)] (hT pp w ls ld zs zd sz kd H L Li) =
  Tr.ite (ltI p (Int.ofNat 0))
    (Tr.ite (ltI q (Int.ofNat 0))
      (Tr.ok
        ((AV.bool false, some 1),
          { lock := false, bs := [] } ::
            { lock := false, bs := [] } ::
              { lock := false, bs := [(0, Blk.row (Row.I IntKind.i64 [pp])), (0, Blk.loop Li)] } ::
                { lock := false, bs := [] } ::
                  { lock := false,
                      bs :=
                        [(0, Blk.row (Row.G [AV.int IntKind.i64 w, AV.slcT none (Row.M [Seg.arr IntKind.i64 zs (mulO ls 2)]) 2 ls false, AV.slcT none (Row.M [Seg.arr IntKind.i64 zd (mulO ld 3)]) 3 ld false])), (0, Blk.row (Row.M [Seg.arr IntKind.i64 sz (mulO ls 2)])),
                          (0, Blk.row (Row.M [Seg.one (AV.int IntKind.i64 w), Seg.one (AV.slcT none (Row.M [Seg.arr IntKind.i64 zs (mulO ls 2)]) 2 ls false), Seg.one (AV.slcT none (Row.M [Seg.arr IntKind.i64 zd (mulO ld 3)]) 3 ld false), Seg.one (AV.slc 0 1 0 0 2 ls (some ls)), Seg.arr IntKind.i64 kd 144])), (0, Blk.row (Row.G [AV.ptr 0 2 0 0])), (0, Blk.loop L)] } ::
                    H))
      (Tr.ite (ltI p (Int.ofNat 0))
        (Tr.req (inI q ls)
          (Tr.req (ltN (idO 0 q 2) (mulO ls 2))
            (Tr.req (ltN (addO (idO 0 q 2) 1) (mulO ls 2))
              (Tr.req (inI q ls)
                (Tr.req (eqN 0 0)
                  (Tr.req (ltN (idO 0 q 2) (mulO ls 2))
                    (Tr.ite (eqI (sz (idO 0 q 2)) (Int.ofNat 0))
                      (Tr.ok
                        ((AV.bool false, some 1),
                          { lock := false, bs := [] } ::
                            { lock := false, bs := [] } ::
                              { lock := false, bs := [(0, Blk.row (Row.I IntKind.i64 [pp])), (0, Blk.loop Li)] } ::
                                { lock := false, bs := [] } ::
                                  { lock := false,
                                      bs :=
                                        [(0, Blk.row (Row.G [AV.int IntKind.i64 w, AV.slcT none (Row.M [Seg.arr IntKind.i64 zs (mulO ls 2)]) 2 ls false, AV.slcT none (Row.M [Seg.arr IntKind.i64 zd (mulO ld 3)]) 3 ld false])), (0, Blk.row (Row.M [Seg.arr IntKind.i64 sz (mulO ls 2)])),
                                          (0, Blk.row (Row.M [Seg.one (AV.int IntKind.i64 w), Seg.one (AV.slcT none (Row.M [Seg.arr IntKind.i64 zs (mulO ls 2)]) 2 ls false), Seg.one (AV.slcT none (Row.M [Seg.arr IntKind.i64 zd (mulO ld 3)]) 3 ld false), Seg.one (AV.slc 0 1 0 0 2 ls (some ls)), Seg.arr IntKind.i64 kd 144])), (0, Blk.row (Row.G [AV.ptr 0 2 0 0])), (0, Blk.loop L)] } ::
                                    H))
                      (Tr.ite (eqI p (Int.negSucc 1))
                        (Tr.ok
                          ((AV.bool (leI (mulI IntKind.i64 (subI IntKind.i64 w (zs (idO 0 q 2))) (subI IntKind.i64 w (zs (idO 0 q 2)))) (sz (idO 0 q 2))), none),
                            { lock := false, bs := [] } ::
                              { lock := false, bs := [] } ::
                                { lock := false, bs := [(0, Blk.row (Row.I IntKind.i64 [pp])), (0, Blk.loop Li)] } ::
                                  { lock := false, bs := [] } ::
                                    { lock := false,
                                        bs :=
                                          [(0, Blk.row (Row.G [AV.int IntKind.i64 w, AV.slcT none (Row.M [Seg.arr IntKind.i64 zs (mulO ls 2)]) 2 ls false, AV.slcT none (Row.M [Seg.arr IntKind.i64 zd (mulO ld 3)]) 3 ld false])), (0, Blk.row (Row.M [Seg.arr IntKind.i64 sz (mulO ls 2)])),
                                            (0, Blk.row (Row.M [Seg.one (AV.int IntKind.i64 w), Seg.one (AV.slcT none (Row.M [Seg.arr IntKind.i64 zs (mulO ls 2)]) 2 ls false), Seg.one (AV.slcT none (Row.M [Seg.arr IntKind.i64 zd (mulO ld 3)]) 3 ld false), Seg.one (AV.slc 0 1 0 0 2 ls (some ls)), Seg.arr IntKind.i64 kd 144])), (0, Blk.row (Row.G [AV.ptr 0 2 0 0])), (0, Blk.loop L)] } ::
                                      H))
                        (Tr.ite (leI (Int.ofNat 0) p)
                          (Tr.req (inI p ls)
                            (Tr.req (eqN 0 0)
                              (Tr.req (ltN (idO 0 p 2) (mulO ls 2))
                                (Tr.req (inI p ls)
                                  (Tr.req (ltN (idO 0 p 2) (mulO ls 2))
                                    (Tr.req (ltN (addO (idO 0 p 2) 1) (mulO ls 2))
                                      (Tr.reqP True
                                        (Tr.ok
                                          ((AV.bool (bo (sz (idO 0 q 2)) (sz (idO 0 p 2)) (zs (idO 0 q 2)) (zs (addO (idO 0 q 2) 1)) (zs (idO 0 p 2)) (zs (addO (idO 0 p 2) 1))), none),
                                            { lock := false, bs := [] } ::
                                              { lock := false, bs := [] } ::
                                                { lock := false, bs := [(0, Blk.row (Row.I IntKind.i64 [pp])), (0, Blk.loop Li)] } ::
                                                  { lock := false, bs := [] } ::
                                                    { lock := false,
                                                        bs :=
                                                          [(0, Blk.row (Row.G [AV.int IntKind.i64 w, AV.slcT none (Row.M [Seg.arr IntKind.i64 zs (mulO ls 2)]) 2 ls false, AV.slcT none (Row.M [Seg.arr IntKind.i64 zd (mulO ld 3)]) 3 ld false])), (0, Blk.row (Row.M [Seg.arr IntKind.i64 sz (mulO ls 2)])),
                                                            (0, Blk.row (Row.M [Seg.one (AV.int IntKind.i64 w), Seg.one (AV.slcT none (Row.M [Seg.arr IntKind.i64 zs (mulO ls 2)]) 2 ls false), Seg.one (AV.slcT none (Row.M [Seg.arr IntKind.i64 zd (mulO ld 3)]) 3 ld false), Seg.one (AV.slc 0 1 0 0 2 ls (some ls)), Seg.arr IntKind.i64 kd 144])), (0, Blk.row (Row.G [AV.ptr 0 2 0 0])),
                                                            (0, Blk.loop L)] } ::
                                                      H)))))))))
                          (Tr.ok
                            ((AV.bool (leI (mulI IntKind.i64 (zs (idO 0 q 2)) (zs (idO 0 q 2))) (sz (idO 0 q 2))), none),
                              { lock := false, bs := [] } ::
                                { lock := false, bs := [] } ::
                                  { lock := false, bs := [(0, Blk.row (Row.I IntKind.i64 [pp])), (0, Blk.loop Li)] } ::
                                    { lock := false, bs := [] } ::
                                      { lock := false,
                                          bs :=
                                            [(0, Blk.row (Row.G [AV.int IntKind.i64 w, AV.slcT none (Row.M [Seg.arr IntKind.i64 zs (mulO ls 2)]) 2 ls false, AV.slcT none (Row.M [Seg.arr IntKind.i64 zd (mulO ld 3)]) 3 ld false])), (0, Blk.row (Row.M [Seg.arr IntKind.i64 sz (mulO ls 2)])),
                                              (0, Blk.row (Row.M [Seg.one (AV.int IntKind.i64 w), Seg.one (AV.slcT none (Row.M [Seg.arr IntKind.i64 zs (mulO ls 2)]) 2 ls false), Seg.one (AV.slcT none (Row.M [Seg.arr IntKind.i64 zd (mulO ld 3)]) 3 ld false), Seg.one (AV.slc 0 1 0 0 2 ls (some ls)), Seg.arr IntKind.i64 kd 144])), (0, Blk.row (Row.G [AV.ptr 0 2 0 0])), (0, Blk.loop L)] } ::
                                        H)))))))))))
        (Tr.req (inI p ls)
          (Tr.req (ltN (idO 0 p 2) (mulO ls 2))
            (Tr.req (ltN (addO (idO 0 p 2) 1) (mulO ls 2))
              (Tr.req (inI p ls)
                (Tr.req (eqN 0 0)
                  (Tr.req (ltN (idO 0 p 2) (mulO ls 2))
                    (Tr.ite (eqI (sz (idO 0 p 2)) (Int.ofNat 0))
                      (Tr.ok
                        ((AV.bool false, some 1),
                          { lock := false, bs := [] } ::
                            { lock := false, bs := [] } ::
                              { lock := false, bs := [(0, Blk.row (Row.I IntKind.i64 [pp])), (0, Blk.loop Li)] } ::
                                { lock := false, bs := [] } ::
                                  { lock := false,
                                      bs :=
                                        [(0, Blk.row (Row.G [AV.int IntKind.i64 w, AV.slcT none (Row.M [Seg.arr IntKind.i64 zs (mulO ls 2)]) 2 ls false, AV.slcT none (Row.M [Seg.arr IntKind.i64 zd (mulO ld 3)]) 3 ld false])), (0, Blk.row (Row.M [Seg.arr IntKind.i64 sz (mulO ls 2)])),
                                          (0, Blk.row (Row.M [Seg.one (AV.int IntKind.i64 w), Seg.one (AV.slcT none (Row.M [Seg.arr IntKind.i64 zs (mulO ls 2)]) 2 ls false), Seg.one (AV.slcT none (Row.M [Seg.arr IntKind.i64 zd (mulO ld 3)]) 3 ld false), Seg.one (AV.slc 0 1 0 0 2 ls (some ls)), Seg.arr IntKind.i64 kd 144])), (0, Blk.row (Row.G [AV.ptr 0 2 0 0])), (0, Blk.loop L)] } ::
                                    H))
                      (Tr.ite (eqI q (Int.negSucc 1))
                        (Tr.ok
                          ((AV.bool (leI (mulI IntKind.i64 (subI IntKind.i64 w (zs (idO 0 p 2))) (subI IntKind.i64 w (zs (idO 0 p 2)))) (sz (idO 0 p 2))), none),
                            { lock := false, bs := [] } ::
                              { lock := false, bs := [] } ::
                                { lock := false, bs := [(0, Blk.row (Row.I IntKind.i64 [pp])), (0, Blk.loop Li)] } ::
                                  { lock := false, bs := [] } ::
                                    { lock := false,
                                        bs :=
                                          [(0, Blk.row (Row.G [AV.int IntKind.i64 w, AV.slcT none (Row.M [Seg.arr IntKind.i64 zs (mulO ls 2)]) 2 ls false, AV.slcT none (Row.M [Seg.arr IntKind.i64 zd (mulO ld 3)]) 3 ld false])), (0, Blk.row (Row.M [Seg.arr IntKind.i64 sz (mulO ls 2)])),
                                            (0, Blk.row (Row.M [Seg.one (AV.int IntKind.i64 w), Seg.one (AV.slcT none (Row.M [Seg.arr IntKind.i64 zs (mulO ls 2)]) 2 ls false), Seg.one (AV.slcT none (Row.M [Seg.arr IntKind.i64 zd (mulO ld 3)]) 3 ld false), Seg.one (AV.slc 0 1 0 0 2 ls (some ls)), Seg.arr IntKind.i64 kd 144])), (0, Blk.row (Row.G [AV.ptr 0 2 0 0])), (0, Blk.loop L)] } ::
                                      H))
                        (Tr.ite (leI (Int.ofNat 0) q)
                          (Tr.req (inI q ls)
                            (Tr.req (eqN 0 0)
                              (Tr.req (ltN (idO 0 q 2) (mulO ls 2))
                                (Tr.req (inI q ls)
                                  (Tr.req (ltN (idO 0 q 2) (mulO ls 2))
                                    (Tr.req (ltN (addO (idO 0 q 2) 1) (mulO ls 2))
                                      (Tr.reqP True
                                        (Tr.ok
                                          ((AV.bool (bo (sz (idO 0 p 2)) (sz (idO 0 q 2)) (zs (idO 0 p 2)) (zs (addO (idO 0 p 2) 1)) (zs (idO 0 q 2)) (zs (addO (idO 0 q 2) 1))), none),
                                            { lock := false, bs := [] } ::
                                              { lock := false, bs := [] } ::
                                                { lock := false, bs := [(0, Blk.row (Row.I IntKind.i64 [pp])), (0, Blk.loop Li)] } ::
                                                  { lock := false, bs := [] } ::
                                                    { lock := false,
                                                        bs :=
                                                          [(0, Blk.row (Row.G [AV.int IntKind.i64 w, AV.slcT none (Row.M [Seg.arr IntKind.i64 zs (mulO ls 2)]) 2 ls false, AV.slcT none (Row.M [Seg.arr IntKind.i64 zd (mulO ld 3)]) 3 ld false])), (0, Blk.row (Row.M [Seg.arr IntKind.i64 sz (mulO ls 2)])),
                                                            (0, Blk.row (Row.M [Seg.one (AV.int IntKind.i64 w), Seg.one (AV.slcT none (Row.M [Seg.arr IntKind.i64 zs (mulO ls 2)]) 2 ls false), Seg.one (AV.slcT none (Row.M [Seg.arr IntKind.i64 zd (mulO ld 3)]) 3 ld false), Seg.one (AV.slc 0 1 0 0 2 ls (some ls)), Seg.arr IntKind.i64 kd 144])), (0, Blk.row (Row.G [AV.ptr 0 2 0 0])),
                                                            (0, Blk.loop L)] } ::
                                                      H)))))))))
                          (Tr.ok
                            ((AV.bool (leI (mulI IntKind.i64 (zs (idO 0 p 2)) (zs (idO 0 p 2))) (sz (idO 0 p 2))), none),
                              { lock := false, bs := [] } ::
                                { lock := false, bs := [] } ::
                                  { lock := false, bs := [(0, Blk.row (Row.I IntKind.i64 [pp])), (0, Blk.loop Li)] } ::
                                    { lock := false, bs := [] } ::
                                      { lock := false,
                                          bs :=
                                            [(0, Blk.row (Row.G [AV.int IntKind.i64 w, AV.slcT none (Row.M [Seg.arr IntKind.i64 zs (mulO ls 2)]) 2 ls false, AV.slcT none (Row.M [Seg.arr IntKind.i64 zd (mulO ld 3)]) 3 ld false])), (0, Blk.row (Row.M [Seg.arr IntKind.i64 sz (mulO ls 2)])),
                                              (0, Blk.row (Row.M [Seg.one (AV.int IntKind.i64 w), Seg.one (AV.slcT none (Row.M [Seg.arr IntKind.i64 zs (mulO ls 2)]) 2 ls false), Seg.one (AV.slcT none (Row.M [Seg.arr IntKind.i64 zd (mulO ld 3)]) 3 ld false), Seg.one (AV.slc 0 1 0 0 2 ls (some ls)), Seg.arr IntKind.i64 kd 144])), (0, Blk.row (Row.G [AV.ptr 0 2 0 0])), (0, Blk.loop L)] } ::
                                        H)))))))))))))
    (Tr.ite (ltI p (Int.ofNat 0))
      (Tr.req (inI q ls)
        (Tr.req (ltN (idO 0 q 2) (mulO ls 2))
          (Tr.req (ltN (addO (idO 0 q 2) 1) (mulO ls 2))
            (Tr.req (inI q ls)
              (Tr.req (eqN 0 0)
                (Tr.req (ltN (idO 0 q 2) (mulO ls 2))
                  (Tr.ite (eqI (sz (idO 0 q 2)) (Int.ofNat 0))
                    (Tr.ok
                      ((AV.bool false, some 1),
                        { lock := false, bs := [] } ::
                          { lock := false, bs := [] } ::
                            { lock := false, bs := [(0, Blk.row (Row.I IntKind.i64 [pp])), (0, Blk.loop Li)] } ::
                              { lock := false, bs := [] } ::
                                { lock := false,
                                    bs :=
                                      [(0, Blk.row (Row.G [AV.int IntKind.i64 w, AV.slcT none (Row.M [Seg.arr IntKind.i64 zs (mulO ls 2)]) 2 ls false, AV.slcT none (Row.M [Seg.arr IntKind.i64 zd (mulO ld 3)]) 3 ld false])), (0, Blk.row (Row.M [Seg.arr IntKind.i64 sz (mulO ls 2)])),
                                        (0, Blk.row (Row.M [Seg.one (AV.int IntKind.i64 w), Seg.one (AV.slcT none (Row.M [Seg.arr IntKind.i64 zs (mulO ls 2)]) 2 ls false), Seg.one (AV.slcT none (Row.M [Seg.arr IntKind.i64 zd (mulO ld 3)]) 3 ld false), Seg.one (AV.slc 0 1 0 0 2 ls (some ls)), Seg.arr IntKind.i64 kd 144])), (0, Blk.row (Row.G [AV.ptr 0 2 0 0])), (0, Blk.loop L)] } ::
                                  H))
                    (Tr.ite (eqI p (Int.negSucc 1))
                      (Tr.ok
                        ((AV.bool (leI (mulI IntKind.i64 (subI IntKind.i64 w (zs (idO 0 q 2))) (subI IntKind.i64 w (zs (idO 0 q 2)))) (sz (idO 0 q 2))), none),
                          { lock := false, bs := [] } ::
                            { lock := false, bs := [] } ::
                              { lock := false, bs := [(0, Blk.row (Row.I IntKind.i64 [pp])), (0, Blk.loop Li)] } ::
                                { lock := false, bs := [] } ::
                                  { lock := false,
                                      bs :=
                                        [(0, Blk.row (Row.G [AV.int IntKind.i64 w, AV.slcT none (Row.M [Seg.arr IntKind.i64 zs (mulO ls 2)]) 2 ls false, AV.slcT none (Row.M [Seg.arr IntKind.i64 zd (mulO ld 3)]) 3 ld false])), (0, Blk.row (Row.M [Seg.arr IntKind.i64 sz (mulO ls 2)])),
                                          (0, Blk.row (Row.M [Seg.one (AV.int IntKind.i64 w), Seg.one (AV.slcT none (Row.M [Seg.arr IntKind.i64 zs (mulO ls 2)]) 2 ls false), Seg.one (AV.slcT none (Row.M [Seg.arr IntKind.i64 zd (mulO ld 3)]) 3 ld false), Seg.one (AV.slc 0 1 0 0 2 ls (some ls)), Seg.arr IntKind.i64 kd 144])), (0, Blk.row (Row.G [AV.ptr 0 2 0 0])), (0, Blk.loop L)] } ::
                                    H))
                      (Tr.ite (leI (Int.ofNat 0) p)
                        (Tr.req (inI p ls)
                          (Tr.req (eqN 0 0)
                            (Tr.req (ltN (idO 0 p 2) (mulO ls 2))
                              (Tr.req (inI p ls)
                                (Tr.req (ltN (idO 0 p 2) (mulO ls 2))
                                  (Tr.req (ltN (addO (idO 0 p 2) 1) (mulO ls 2))
                                    (Tr.reqP True
                                      (Tr.ok
                                        ((AV.bool (bo (sz (idO 0 q 2)) (sz (idO 0 p 2)) (zs (idO 0 q 2)) (zs (addO (idO 0 q 2) 1)) (zs (idO 0 p 2)) (zs (addO (idO 0 p 2) 1))), none),
                                          { lock := false, bs := [] } ::
                                            { lock := false, bs := [] } ::
                                              { lock := false, bs := [(0, Blk.row (Row.I IntKind.i64 [pp])), (0, Blk.loop Li)] } ::
                                                { lock := false, bs := [] } ::
                                                  { lock := false,
                                                      bs :=
                                                        [(0, Blk.row (Row.G [AV.int IntKind.i64 w, AV.slcT none (Row.M [Seg.arr IntKind.i64 zs (mulO ls 2)]) 2 ls false, AV.slcT none (Row.M [Seg.arr IntKind.i64 zd (mulO ld 3)]) 3 ld false])), (0, Blk.row (Row.M [Seg.arr IntKind.i64 sz (mulO ls 2)])),
                                                          (0, Blk.row (Row.M [Seg.one (AV.int IntKind.i64 w), Seg.one (AV.slcT none (Row.M [Seg.arr IntKind.i64 zs (mulO ls 2)]) 2 ls false), Seg.one (AV.slcT none (Row.M [Seg.arr IntKind.i64 zd (mulO ld 3)]) 3 ld false), Seg.one (AV.slc 0 1 0 0 2 ls (some ls)), Seg.arr IntKind.i64 kd 144])), (0, Blk.row (Row.G [AV.ptr 0 2 0 0])), (0, Blk.loop L)] } ::
                                                    H)))))))))
                        (Tr.ok
                          ((AV.bool (leI (mulI IntKind.i64 (zs (idO 0 q 2)) (zs (idO 0 q 2))) (sz (idO 0 q 2))), none),
                            { lock := false, bs := [] } ::
                              { lock := false, bs := [] } ::
                                { lock := false, bs := [(0, Blk.row (Row.I IntKind.i64 [pp])), (0, Blk.loop Li)] } ::
                                  { lock := false, bs := [] } ::
                                    { lock := false,
                                        bs :=
                                          [(0, Blk.row (Row.G [AV.int IntKind.i64 w, AV.slcT none (Row.M [Seg.arr IntKind.i64 zs (mulO ls 2)]) 2 ls false, AV.slcT none (Row.M [Seg.arr IntKind.i64 zd (mulO ld 3)]) 3 ld false])), (0, Blk.row (Row.M [Seg.arr IntKind.i64 sz (mulO ls 2)])),
                                            (0, Blk.row (Row.M [Seg.one (AV.int IntKind.i64 w), Seg.one (AV.slcT none (Row.M [Seg.arr IntKind.i64 zs (mulO ls 2)]) 2 ls false), Seg.one (AV.slcT none (Row.M [Seg.arr IntKind.i64 zd (mulO ld 3)]) 3 ld false), Seg.one (AV.slc 0 1 0 0 2 ls (some ls)), Seg.arr IntKind.i64 kd 144])), (0, Blk.row (Row.G [AV.ptr 0 2 0 0])), (0, Blk.loop L)] } ::
                                      H)))))))))))
      (Tr.req (inI p ls)
        (Tr.req (ltN (idO 0 p 2) (mulO ls 2))
          (Tr.req (ltN (addO (idO 0 p 2) 1) (mulO ls 2))
            (Tr.req (inI p ls)
              (Tr.req (eqN 0 0)
                (Tr.req (ltN (idO 0 p 2) (mulO ls 2))
                  (Tr.ite (eqI (sz (idO 0 p 2)) (Int.ofNat 0))
                    (Tr.ok
                      ((AV.bool false, some 1),
                        { lock := false, bs := [] } ::
                          { lock := false, bs := [] } ::
                            { lock := false, bs := [(0, Blk.row (Row.I IntKind.i64 [pp])), (0, Blk.loop Li)] } ::
                              { lock := false, bs := [] } ::
                                { lock := false,
                                    bs :=
                                      [(0, Blk.row (Row.G [AV.int IntKind.i64 w, AV.slcT none (Row.M [Seg.arr IntKind.i64 zs (mulO ls 2)]) 2 ls false, AV.slcT none (Row.M [Seg.arr IntKind.i64 zd (mulO ld 3)]) 3 ld false])), (0, Blk.row (Row.M [Seg.arr IntKind.i64 sz (mulO ls 2)])),
                                        (0, Blk.row (Row.M [Seg.one (AV.int IntKind.i64 w), Seg.one (AV.slcT none (Row.M [Seg.arr IntKind.i64 zs (mulO ls 2)]) 2 ls false), Seg.one (AV.slcT none (Row.M [Seg.arr IntKind.i64 zd (mulO ld 3)]) 3 ld false), Seg.one (AV.slc 0 1 0 0 2 ls (some ls)), Seg.arr IntKind.i64 kd 144])), (0, Blk.row (Row.G [AV.ptr 0 2 0 0])), (0, Blk.loop L)] } ::
                                  H))
                    (Tr.ite (eqI q (Int.negSucc 1))
                      (Tr.ok
                        ((AV.bool (leI (mulI IntKind.i64 (subI IntKind.i64 w (zs (idO 0 p 2))) (subI IntKind.i64 w (zs (idO 0 p 2)))) (sz (idO 0 p 2))), none),
                          { lock := false, bs := [] } ::
                            { lock := false, bs := [] } ::
                              { lock := false, bs := [(0, Blk.row (Row.I IntKind.i64 [pp])), (0, Blk.loop Li)] } ::
                                { lock := false, bs := [] } ::
                                  { lock := false,
                                      bs :=
                                        [(0, Blk.row (Row.G [AV.int IntKind.i64 w, AV.slcT none (Row.M [Seg.arr IntKind.i64 zs (mulO ls 2)]) 2 ls false, AV.slcT none (Row.M [Seg.arr IntKind.i64 zd (mulO ld 3)]) 3 ld false])), (0, Blk.row (Row.M [Seg.arr IntKind.i64 sz (mulO ls 2)])),
                                          (0, Blk.row (Row.M [Seg.one (AV.int IntKind.i64 w), Seg.one (AV.slcT none (Row.M [Seg.arr IntKind.i64 zs (mulO ls 2)]) 2 ls false), Seg.one (AV.slcT none (Row.M [Seg.arr IntKind.i64 zd (mulO ld 3)]) 3 ld false), Seg.one (AV.slc 0 1 0 0 2 ls (some ls)), Seg.arr IntKind.i64 kd 144])), (0, Blk.row (Row.G [AV.ptr 0 2 0 0])), (0, Blk.loop L)] } ::
                                    H))
                      (Tr.ite (leI (Int.ofNat 0) q)
                        (Tr.req (inI q ls)
                          (Tr.req (eqN 0 0)
                            (Tr.req (ltN (idO 0 q 2) (mulO ls 2))
                              (Tr.req (inI q ls)
                                (Tr.req (ltN (idO 0 q 2) (mulO ls 2))
                                  (Tr.req (ltN (addO (idO 0 q 2) 1) (mulO ls 2))
                                    (Tr.reqP True
                                      (Tr.ok
                                        ((AV.bool (bo (sz (idO 0 p 2)) (sz (idO 0 q 2)) (zs (idO 0 p 2)) (zs (addO (idO 0 p 2) 1)) (zs (idO 0 q 2)) (zs (addO (idO 0 q 2) 1))), none),
                                          { lock := false, bs := [] } ::
                                            { lock := false, bs := [] } ::
                                              { lock := false, bs := [(0, Blk.row (Row.I IntKind.i64 [pp])), (0, Blk.loop Li)] } ::
                                                { lock := false, bs := [] } ::
                                                  { lock := false,
                                                      bs :=
                                                        [(0, Blk.row (Row.G [AV.int IntKind.i64 w, AV.slcT none (Row.M [Seg.arr IntKind.i64 zs (mulO ls 2)]) 2 ls false, AV.slcT none (Row.M [Seg.arr IntKind.i64 zd (mulO ld 3)]) 3 ld false])), (0, Blk.row (Row.M [Seg.arr IntKind.i64 sz (mulO ls 2)])),
                                                          (0, Blk.row (Row.M [Seg.one (AV.int IntKind.i64 w), Seg.one (AV.slcT none (Row.M [Seg.arr IntKind.i64 zs (mulO ls 2)]) 2 ls false), Seg.one (AV.slcT none (Row.M [Seg.arr IntKind.i64 zd (mulO ld 3)]) 3 ld false), Seg.one (AV.slc 0 1 0 0 2 ls (some ls)), Seg.arr IntKind.i64 kd 144])), (0, Blk.row (Row.G [AV.ptr 0 2 0 0])), (0, Blk.loop L)] } ::
                                                    H)))))))))
                        (Tr.ok
                          ((AV.bool (leI (mulI IntKind.i64 (zs (idO 0 p 2)) (zs (idO 0 p 2))) (sz (idO 0 p 2))), none),
                            { lock := false, bs := [] } ::
                              { lock := false, bs := [] } ::
                                { lock := false, bs := [(0, Blk.row (Row.I IntKind.i64 [pp])), (0, Blk.loop Li)] } ::
                                  { lock := false, bs := [] } ::
                                    { lock := false,
                                        bs :=
                                          [(0, Blk.row (Row.G [AV.int IntKind.i64 w, AV.slcT none (Row.M [Seg.arr IntKind.i64 zs (mulO ls 2)]) 2 ls false, AV.slcT none (Row.M [Seg.arr IntKind.i64 zd (mulO ld 3)]) 3 ld false])), (0, Blk.row (Row.M [Seg.arr IntKind.i64 sz (mulO ls 2)])),
                                            (0, Blk.row (Row.M [Seg.one (AV.int IntKind.i64 w), Seg.one (AV.slcT none (Row.M [Seg.arr IntKind.i64 zs (mulO ls 2)]) 2 ls false), Seg.one (AV.slcT none (Row.M [Seg.arr IntKind.i64 zd (mulO ld 3)]) 3 ld false), Seg.one (AV.slc 0 1 0 0 2 ls (some ls)), Seg.arr IntKind.i64 kd 144])), (0, Blk.row (Row.G [AV.ptr 0 2 0 0])), (0, Blk.loop L)] } ::
                                      H)))))))))))) := by kernel_rfl
theorem u99b (n : Nat) (w pp p q : Int) (ls ld : Nat) (zs zd sz kd : Nat → Int) (H : Heap) (L Li : ALoop) (bo : Int → Int → Int → Int → Int → Int → Bool) : bodyT Try.prog (cd (n+2)) 100000 99 Try.f99 (Kt.kt 99) (il (ctG noCt 112 (g112 bo)) (n+1) 1) noBT noRT [(.ptr 4 2 0 0, none), (.int .i64 p, none), (.int .i64 q, none), (.fn (.func 101) [.ptr 4 2 0 0] [], none)] (hT pp w ls ld zs zd sz kd H L Li) =
  Tr.ite (ltI p (Int.ofNat 0))
    (Tr.ite (ltI q (Int.ofNat 0))
      (Tr.ok
        ((AV.bool false, some 1),
          { lock := false, bs := [] } ::
            { lock := false, bs := [] } ::
              { lock := false, bs := [(0, Blk.row (Row.I IntKind.i64 [pp])), (0, Blk.loop Li)] } ::
                { lock := false, bs := [] } ::
                  { lock := false,
                      bs :=
                        [(0, Blk.row (Row.G [AV.int IntKind.i64 w, AV.slcT none (Row.M [Seg.arr IntKind.i64 zs (mulO ls 2)]) 2 ls false, AV.slcT none (Row.M [Seg.arr IntKind.i64 zd (mulO ld 3)]) 3 ld false])), (0, Blk.row (Row.M [Seg.arr IntKind.i64 sz (mulO ls 2)])),
                          (0, Blk.row (Row.M [Seg.one (AV.int IntKind.i64 w), Seg.one (AV.slcT none (Row.M [Seg.arr IntKind.i64 zs (mulO ls 2)]) 2 ls false), Seg.one (AV.slcT none (Row.M [Seg.arr IntKind.i64 zd (mulO ld 3)]) 3 ld false), Seg.one (AV.slc 0 1 0 0 2 ls (some ls)), Seg.arr IntKind.i64 kd 144])), (0, Blk.row (Row.G [AV.ptr 0 2 0 0])), (0, Blk.loop L)] } ::
                    H))
      (Tr.ite (ltI p (Int.ofNat 0))
        (Tr.req (inI q ls)
          (Tr.req (ltN (idO 0 q 2) (mulO ls 2))
            (Tr.req (ltN (addO (idO 0 q 2) 1) (mulO ls 2))
              (Tr.req (inI q ls)
                (Tr.req (eqN 0 0)
                  (Tr.req (ltN (addO (idO 0 q 2) 1) (mulO ls 2))
                    (Tr.ite (eqI (sz (addO (idO 0 q 2) 1)) (Int.ofNat 0))
                      (Tr.ok
                        ((AV.bool false, some 1),
                          { lock := false, bs := [] } ::
                            { lock := false, bs := [] } ::
                              { lock := false, bs := [(0, Blk.row (Row.I IntKind.i64 [pp])), (0, Blk.loop Li)] } ::
                                { lock := false, bs := [] } ::
                                  { lock := false,
                                      bs :=
                                        [(0, Blk.row (Row.G [AV.int IntKind.i64 w, AV.slcT none (Row.M [Seg.arr IntKind.i64 zs (mulO ls 2)]) 2 ls false, AV.slcT none (Row.M [Seg.arr IntKind.i64 zd (mulO ld 3)]) 3 ld false])), (0, Blk.row (Row.M [Seg.arr IntKind.i64 sz (mulO ls 2)])),
                                          (0, Blk.row (Row.M [Seg.one (AV.int IntKind.i64 w), Seg.one (AV.slcT none (Row.M [Seg.arr IntKind.i64 zs (mulO ls 2)]) 2 ls false), Seg.one (AV.slcT none (Row.M [Seg.arr IntKind.i64 zd (mulO ld 3)]) 3 ld false), Seg.one (AV.slc 0 1 0 0 2 ls (some ls)), Seg.arr IntKind.i64 kd 144])), (0, Blk.row (Row.G [AV.ptr 0 2 0 0])), (0, Blk.loop L)] } ::
                                    H))
                      (Tr.ite (eqI p (Int.negSucc 1))
                        (Tr.ok
                          ((AV.bool (leI (mulI IntKind.i64 (subI IntKind.i64 w (zs (idO 0 q 2))) (subI IntKind.i64 w (zs (idO 0 q 2)))) (sz (addO (idO 0 q 2) 1))), none),
                            { lock := false, bs := [] } ::
                              { lock := false, bs := [] } ::
                                { lock := false, bs := [(0, Blk.row (Row.I IntKind.i64 [pp])), (0, Blk.loop Li)] } ::
                                  { lock := false, bs := [] } ::
                                    { lock := false,
                                        bs :=
                                          [(0, Blk.row (Row.G [AV.int IntKind.i64 w, AV.slcT none (Row.M [Seg.arr IntKind.i64 zs (mulO ls 2)]) 2 ls false, AV.slcT none (Row.M [Seg.arr IntKind.i64 zd (mulO ld 3)]) 3 ld false])), (0, Blk.row (Row.M [Seg.arr IntKind.i64 sz (mulO ls 2)])),
                                            (0, Blk.row (Row.M [Seg.one (AV.int IntKind.i64 w), Seg.one (AV.slcT none (Row.M [Seg.arr IntKind.i64 zs (mulO ls 2)]) 2 ls false), Seg.one (AV.slcT none (Row.M [Seg.arr IntKind.i64 zd (mulO ld 3)]) 3 ld false), Seg.one (AV.slc 0 1 0 0 2 ls (some ls)), Seg.arr IntKind.i64 kd 144])), (0, Blk.row (Row.G [AV.ptr 0 2 0 0])), (0, Blk.loop L)] } ::
                                      H))
                        (Tr.ite (leI (Int.ofNat 0) p)
                          (Tr.req (inI p ls)
                            (Tr.req (eqN 0 0)
                              (Tr.req (ltN (addO (idO 0 p 2) 1) (mulO ls 2))
                                (Tr.req (inI p ls)
                                  (Tr.req (ltN (idO 0 p 2) (mulO ls 2))
                                    (Tr.req (ltN (addO (idO 0 p 2) 1) (mulO ls 2))
                                      (Tr.reqP True
                                        (Tr.ok
                                          ((AV.bool (bo (sz (addO (idO 0 q 2) 1)) (sz (addO (idO 0 p 2) 1)) (zs (idO 0 q 2)) (zs (addO (idO 0 q 2) 1)) (zs (idO 0 p 2)) (zs (addO (idO 0 p 2) 1))), none),
                                            { lock := false, bs := [] } ::
                                              { lock := false, bs := [] } ::
                                                { lock := false, bs := [(0, Blk.row (Row.I IntKind.i64 [pp])), (0, Blk.loop Li)] } ::
                                                  { lock := false, bs := [] } ::
                                                    { lock := false,
                                                        bs :=
                                                          [(0, Blk.row (Row.G [AV.int IntKind.i64 w, AV.slcT none (Row.M [Seg.arr IntKind.i64 zs (mulO ls 2)]) 2 ls false, AV.slcT none (Row.M [Seg.arr IntKind.i64 zd (mulO ld 3)]) 3 ld false])), (0, Blk.row (Row.M [Seg.arr IntKind.i64 sz (mulO ls 2)])),
                                                            (0, Blk.row (Row.M [Seg.one (AV.int IntKind.i64 w), Seg.one (AV.slcT none (Row.M [Seg.arr IntKind.i64 zs (mulO ls 2)]) 2 ls false), Seg.one (AV.slcT none (Row.M [Seg.arr IntKind.i64 zd (mulO ld 3)]) 3 ld false), Seg.one (AV.slc 0 1 0 0 2 ls (some ls)), Seg.arr IntKind.i64 kd 144])), (0, Blk.row (Row.G [AV.ptr 0 2 0 0])),
                                                            (0, Blk.loop L)] } ::
                                                      H)))))))))
                          (Tr.ok
                            ((AV.bool (leI (mulI IntKind.i64 (zs (idO 0 q 2)) (zs (idO 0 q 2))) (sz (addO (idO 0 q 2) 1))), none),
                              { lock := false, bs := [] } ::
                                { lock := false, bs := [] } ::
                                  { lock := false, bs := [(0, Blk.row (Row.I IntKind.i64 [pp])), (0, Blk.loop Li)] } ::
                                    { lock := false, bs := [] } ::
                                      { lock := false,
                                          bs :=
                                            [(0, Blk.row (Row.G [AV.int IntKind.i64 w, AV.slcT none (Row.M [Seg.arr IntKind.i64 zs (mulO ls 2)]) 2 ls false, AV.slcT none (Row.M [Seg.arr IntKind.i64 zd (mulO ld 3)]) 3 ld false])), (0, Blk.row (Row.M [Seg.arr IntKind.i64 sz (mulO ls 2)])),
                                              (0, Blk.row (Row.M [Seg.one (AV.int IntKind.i64 w), Seg.one (AV.slcT none (Row.M [Seg.arr IntKind.i64 zs (mulO ls 2)]) 2 ls false), Seg.one (AV.slcT none (Row.M [Seg.arr IntKind.i64 zd (mulO ld 3)]) 3 ld false), Seg.one (AV.slc 0 1 0 0 2 ls (some ls)), Seg.arr IntKind.i64 kd 144])), (0, Blk.row (Row.G [AV.ptr 0 2 0 0])), (0, Blk.loop L)] } ::
                                        H)))))))))))
        (Tr.req (inI p ls)
          (Tr.req (ltN (idO 0 p 2) (mulO ls 2))
            (Tr.req (ltN (addO (idO 0 p 2) 1) (mulO ls 2))
              (Tr.req (inI p ls)
                (Tr.req (eqN 0 0)
                  (Tr.req (ltN (addO (idO 0 p 2) 1) (mulO ls 2))
                    (Tr.ite (eqI (sz (addO (idO 0 p 2) 1)) (Int.ofNat 0))
                      (Tr.ok
                        ((AV.bool false, some 1),
                          { lock := false, bs := [] } ::
                            { lock := false, bs := [] } ::
                              { lock := false, bs := [(0, Blk.row (Row.I IntKind.i64 [pp])), (0, Blk.loop Li)] } ::
                                { lock := false, bs := [] } ::
                                  { lock := false,
                                      bs :=
                                        [(0, Blk.row (Row.G [AV.int IntKind.i64 w, AV.slcT none (Row.M [Seg.arr IntKind.i64 zs (mulO ls 2)]) 2 ls false, AV.slcT none (Row.M [Seg.arr IntKind.i64 zd (mulO ld 3)]) 3 ld false])), (0, Blk.row (Row.M [Seg.arr IntKind.i64 sz (mulO ls 2)])),
                                          (0, Blk.row (Row.M [Seg.one (AV.int IntKind.i64 w), Seg.one (AV.slcT none (Row.M [Seg.arr IntKind.i64 zs (mulO ls 2)]) 2 ls false), Seg.one (AV.slcT none (Row.M [Seg.arr IntKind.i64 zd (mulO ld 3)]) 3 ld false), Seg.one (AV.slc 0 1 0 0 2 ls (some ls)), Seg.arr IntKind.i64 kd 144])), (0, Blk.row (Row.G [AV.ptr 0 2 0 0])), (0, Blk.loop L)] } ::
                                    H))
                      (Tr.ite (eqI q (Int.negSucc 1))
                        (Tr.ok
                          ((AV.bool (leI (mulI IntKind.i64 (subI IntKind.i64 w (zs (idO 0 p 2))) (subI IntKind.i64 w (zs (idO 0 p 2)))) (sz (addO (idO 0 p 2) 1))), none),
                            { lock := false, bs := [] } ::
                              { lock := false, bs := [] } ::
                                { lock := false, bs := [(0, Blk.row (Row.I IntKind.i64 [pp])), (0, Blk.loop Li)] } ::
                                  { lock := false, bs := [] } ::
                                    { lock := false,
                                        bs :=
                                          [(0, Blk.row (Row.G [AV.int IntKind.i64 w, AV.slcT none (Row.M [Seg.arr IntKind.i64 zs (mulO ls 2)]) 2 ls false, AV.slcT none (Row.M [Seg.arr IntKind.i64 zd (mulO ld 3)]) 3 ld false])), (0, Blk.row (Row.M [Seg.arr IntKind.i64 sz (mulO ls 2)])),
                                            (0, Blk.row (Row.M [Seg.one (AV.int IntKind.i64 w), Seg.one (AV.slcT none (Row.M [Seg.arr IntKind.i64 zs (mulO ls 2)]) 2 ls false), Seg.one (AV.slcT none (Row.M [Seg.arr IntKind.i64 zd (mulO ld 3)]) 3 ld false), Seg.one (AV.slc 0 1 0 0 2 ls (some ls)), Seg.arr IntKind.i64 kd 144])), (0, Blk.row (Row.G [AV.ptr 0 2 0 0])), (0, Blk.loop L)] } ::
                                      H))
                        (Tr.ite (leI (Int.ofNat 0) q)
                          (Tr.req (inI q ls)
                            (Tr.req (eqN 0 0)
                              (Tr.req (ltN (addO (idO 0 q 2) 1) (mulO ls 2))
                                (Tr.req (inI q ls)
                                  (Tr.req (ltN (idO 0 q 2) (mulO ls 2))
                                    (Tr.req (ltN (addO (idO 0 q 2) 1) (mulO ls 2))
                                      (Tr.reqP True
                                        (Tr.ok
                                          ((AV.bool (bo (sz (addO (idO 0 p 2) 1)) (sz (addO (idO 0 q 2) 1)) (zs (idO 0 p 2)) (zs (addO (idO 0 p 2) 1)) (zs (idO 0 q 2)) (zs (addO (idO 0 q 2) 1))), none),
                                            { lock := false, bs := [] } ::
                                              { lock := false, bs := [] } ::
                                                { lock := false, bs := [(0, Blk.row (Row.I IntKind.i64 [pp])), (0, Blk.loop Li)] } ::
                                                  { lock := false, bs := [] } ::
                                                    { lock := false,
                                                        bs :=
                                                          [(0, Blk.row (Row.G [AV.int IntKind.i64 w, AV.slcT none (Row.M [Seg.arr IntKind.i64 zs (mulO ls 2)]) 2 ls false, AV.slcT none (Row.M [Seg.arr IntKind.i64 zd (mulO ld 3)]) 3 ld false])), (0, Blk.row (Row.M [Seg.arr IntKind.i64 sz (mulO ls 2)])),
                                                            (0, Blk.row (Row.M [Seg.one (AV.int IntKind.i64 w), Seg.one (AV.slcT none (Row.M [Seg.arr IntKind.i64 zs (mulO ls 2)]) 2 ls false), Seg.one (AV.slcT none (Row.M [Seg.arr IntKind.i64 zd (mulO ld 3)]) 3 ld false), Seg.one (AV.slc 0 1 0 0 2 ls (some ls)), Seg.arr IntKind.i64 kd 144])), (0, Blk.row (Row.G [AV.ptr 0 2 0 0])),
                                                            (0, Blk.loop L)] } ::
                                                      H)))))))))
                          (Tr.ok
                            ((AV.bool (leI (mulI IntKind.i64 (zs (idO 0 p 2)) (zs (idO 0 p 2))) (sz (addO (idO 0 p 2) 1))), none),
                              { lock := false, bs := [] } ::
                                { lock := false, bs := [] } ::
                                  { lock := false, bs := [(0, Blk.row (Row.I IntKind.i64 [pp])), (0, Blk.loop Li)] } ::
                                    { lock := false, bs := [] } ::
                                      { lock := false,
                                          bs :=
                                            [(0, Blk.row (Row.G [AV.int IntKind.i64 w, AV.slcT none (Row.M [Seg.arr IntKind.i64 zs (mulO ls 2)]) 2 ls false, AV.slcT none (Row.M [Seg.arr IntKind.i64 zd (mulO ld 3)]) 3 ld false])), (0, Blk.row (Row.M [Seg.arr IntKind.i64 sz (mulO ls 2)])),
                                              (0, Blk.row (Row.M [Seg.one (AV.int IntKind.i64 w), Seg.one (AV.slcT none (Row.M [Seg.arr IntKind.i64 zs (mulO ls 2)]) 2 ls false), Seg.one (AV.slcT none (Row.M [Seg.arr IntKind.i64 zd (mulO ld 3)]) 3 ld false), Seg.one (AV.slc 0 1 0 0 2 ls (some ls)), Seg.arr IntKind.i64 kd 144])), (0, Blk.row (Row.G [AV.ptr 0 2 0 0])), (0, Blk.loop L)] } ::
                                        H)))))))))))))
    (Tr.ite (ltI p (Int.ofNat 0))
      (Tr.req (inI q ls)
        (Tr.req (ltN (idO 0 q 2) (mulO ls 2))
          (Tr.req (ltN (addO (idO 0 q 2) 1) (mulO ls 2))
            (Tr.req (inI q ls)
              (Tr.req (eqN 0 0)
                (Tr.req (ltN (addO (idO 0 q 2) 1) (mulO ls 2))
                  (Tr.ite (eqI (sz (addO (idO 0 q 2) 1)) (Int.ofNat 0))
                    (Tr.ok
                      ((AV.bool false, some 1),
                        { lock := false, bs := [] } ::
                          { lock := false, bs := [] } ::
                            { lock := false, bs := [(0, Blk.row (Row.I IntKind.i64 [pp])), (0, Blk.loop Li)] } ::
                              { lock := false, bs := [] } ::
                                { lock := false,
                                    bs :=
                                      [(0, Blk.row (Row.G [AV.int IntKind.i64 w, AV.slcT none (Row.M [Seg.arr IntKind.i64 zs (mulO ls 2)]) 2 ls false, AV.slcT none (Row.M [Seg.arr IntKind.i64 zd (mulO ld 3)]) 3 ld false])), (0, Blk.row (Row.M [Seg.arr IntKind.i64 sz (mulO ls 2)])),
                                        (0, Blk.row (Row.M [Seg.one (AV.int IntKind.i64 w), Seg.one (AV.slcT none (Row.M [Seg.arr IntKind.i64 zs (mulO ls 2)]) 2 ls false), Seg.one (AV.slcT none (Row.M [Seg.arr IntKind.i64 zd (mulO ld 3)]) 3 ld false), Seg.one (AV.slc 0 1 0 0 2 ls (some ls)), Seg.arr IntKind.i64 kd 144])), (0, Blk.row (Row.G [AV.ptr 0 2 0 0])), (0, Blk.loop L)] } ::
                                  H))
                    (Tr.ite (eqI p (Int.negSucc 1))
                      (Tr.ok
                        ((AV.bool (leI (mulI IntKind.i64 (subI IntKind.i64 w (zs (idO 0 q 2))) (subI IntKind.i64 w (zs (idO 0 q 2)))) (sz (addO (idO 0 q 2) 1))), none),
                          { lock := false, bs := [] } ::
                            { lock := false, bs := [] } ::
                              { lock := false, bs := [(0, Blk.row (Row.I IntKind.i64 [pp])), (0, Blk.loop Li)] } ::
                                { lock := false, bs := [] } ::
                                  { lock := false,
                                      bs :=
                                        [(0, Blk.row (Row.G [AV.int IntKind.i64 w, AV.slcT none (Row.M [Seg.arr IntKind.i64 zs (mulO ls 2)]) 2 ls false, AV.slcT none (Row.M [Seg.arr IntKind.i64 zd (mulO ld 3)]) 3 ld false])), (0, Blk.row (Row.M [Seg.arr IntKind.i64 sz (mulO ls 2)])),
                                          (0, Blk.row (Row.M [Seg.one (AV.int IntKind.i64 w), Seg.one (AV.slcT none (Row.M [Seg.arr IntKind.i64 zs (mulO ls 2)]) 2 ls false), Seg.one (AV.slcT none (Row.M [Seg.arr IntKind.i64 zd (mulO ld 3)]) 3 ld false), Seg.one (AV.slc 0 1 0 0 2 ls (some ls)), Seg.arr IntKind.i64 kd 144])), (0, Blk.row (Row.G [AV.ptr 0 2 0 0])), (0, Blk.loop L)] } ::
                                    H))
                      (Tr.ite (leI (Int.ofNat 0) p)
                        (Tr.req (inI p ls)
                          (Tr.req (eqN 0 0)
                            (Tr.req (ltN (addO (idO 0 p 2) 1) (mulO ls 2))
                              (Tr.req (inI p ls)
                                (Tr.req (ltN (idO 0 p 2) (mulO ls 2))
                                  (Tr.req (ltN (addO (idO 0 p 2) 1) (mulO ls 2))
                                    (Tr.reqP True
                                      (Tr.ok
                                        ((AV.bool (bo (sz (addO (idO 0 q 2) 1)) (sz (addO (idO 0 p 2) 1)) (zs (idO 0 q 2)) (zs (addO (idO 0 q 2) 1)) (zs (idO 0 p 2)) (zs (addO (idO 0 p 2) 1))), none),
                                          { lock := false, bs := [] } ::
                                            { lock := false, bs := [] } ::
                                              { lock := false, bs := [(0, Blk.row (Row.I IntKind.i64 [pp])), (0, Blk.loop Li)] } ::
                                                { lock := false, bs := [] } ::
                                                  { lock := false,
                                                      bs :=
                                                        [(0, Blk.row (Row.G [AV.int IntKind.i64 w, AV.slcT none (Row.M [Seg.arr IntKind.i64 zs (mulO ls 2)]) 2 ls false, AV.slcT none (Row.M [Seg.arr IntKind.i64 zd (mulO ld 3)]) 3 ld false])), (0, Blk.row (Row.M [Seg.arr IntKind.i64 sz (mulO ls 2)])),
                                                          (0, Blk.row (Row.M [Seg.one (AV.int IntKind.i64 w), Seg.one (AV.slcT none (Row.M [Seg.arr IntKind.i64 zs (mulO ls 2)]) 2 ls false), Seg.one (AV.slcT none (Row.M [Seg.arr IntKind.i64 zd (mulO ld 3)]) 3 ld false), Seg.one (AV.slc 0 1 0 0 2 ls (some ls)), Seg.arr IntKind.i64 kd 144])), (0, Blk.row (Row.G [AV.ptr 0 2 0 0])), (0, Blk.loop L)] } ::
                                                    H)))))))))
                        (Tr.ok
                          ((AV.bool (leI (mulI IntKind.i64 (zs (idO 0 q 2)) (zs (idO 0 q 2))) (sz (addO (idO 0 q 2) 1))), none),
                            { lock := false, bs := [] } ::
                              { lock := false, bs := [] } ::
                                { lock := false, bs := [(0, Blk.row (Row.I IntKind.i64 [pp])), (0, Blk.loop Li)] } ::
                                  { lock := false, bs := [] } ::
                                    { lock := false,
                                        bs :=
                                          [(0, Blk.row (Row.G [AV.int IntKind.i64 w, AV.slcT none (Row.M [Seg.arr IntKind.i64 zs (mulO ls 2)]) 2 ls false, AV.slcT none (Row.M [Seg.arr IntKind.i64 zd (mulO ld 3)]) 3 ld false])), (0, Blk.row (Row.M [Seg.arr IntKind.i64 sz (mulO ls 2)])),
                                            (0, Blk.row (Row.M [Seg.one (AV.int IntKind.i64 w), Seg.one (AV.slcT none (Row.M [Seg.arr IntKind.i64 zs (mulO ls 2)]) 2 ls false), Seg.one (AV.slcT none (Row.M [Seg.arr IntKind.i64 zd (mulO ld 3)]) 3 ld false), Seg.one (AV.slc 0 1 0 0 2 ls (some ls)), Seg.arr IntKind.i64 kd 144])), (0, Blk.row (Row.G [AV.ptr 0 2 0 0])), (0, Blk.loop L)] } ::
                                      H)))))))))))
      (Tr.req (inI p ls)
        (Tr.req (ltN (idO 0 p 2) (mulO ls 2))
          (Tr.req (ltN (addO (idO 0 p 2) 1) (mulO ls 2))
            (Tr.req (inI p ls)
              (Tr.req (eqN 0 0)
                (Tr.req (ltN (addO (idO 0 p 2) 1) (mulO ls 2))
                  (Tr.ite (eqI (sz (addO (idO 0 p 2) 1)) (Int.ofNat 0))
                    (Tr.ok
                      ((AV.bool false, some 1),
                        { lock := false, bs := [] } ::
                          { lock := false, bs := [] } ::
                            { lock := false, bs := [(0, Blk.row (Row.I IntKind.i64 [pp])), (0, Blk.loop Li)] } ::
                              { lock := false, bs := [] } ::
                                { lock := false,
                                    bs :=
                                      [(0, Blk.row (Row.G [AV.int IntKind.i64 w, AV.slcT none (Row.M [Seg.arr IntKind.i64 zs (mulO ls 2)]) 2 ls false, AV.slcT none (Row.M [Seg.arr IntKind.i64 zd (mulO ld 3)]) 3 ld false])), (0, Blk.row (Row.M [Seg.arr IntKind.i64 sz (mulO ls 2)])),
                                        (0, Blk.row (Row.M [Seg.one (AV.int IntKind.i64 w), Seg.one (AV.slcT none (Row.M [Seg.arr IntKind.i64 zs (mulO ls 2)]) 2 ls false), Seg.one (AV.slcT none (Row.M [Seg.arr IntKind.i64 zd (mulO ld 3)]) 3 ld false), Seg.one (AV.slc 0 1 0 0 2 ls (some ls)), Seg.arr IntKind.i64 kd 144])), (0, Blk.row (Row.G [AV.ptr 0 2 0 0])), (0, Blk.loop L)] } ::
                                  H))
                    (Tr.ite (eqI q (Int.negSucc 1))
                      (Tr.ok
                        ((AV.bool (leI (mulI IntKind.i64 (subI IntKind.i64 w (zs (idO 0 p 2))) (subI IntKind.i64 w (zs (idO 0 p 2)))) (sz (addO (idO 0 p 2) 1))), none),
                          { lock := false, bs := [] } ::
                            { lock := false, bs := [] } ::
                              { lock := false, bs := [(0, Blk.row (Row.I IntKind.i64 [pp])), (0, Blk.loop Li)] } ::
                                { lock := false, bs := [] } ::
                                  { lock := false,
                                      bs :=
                                        [(0, Blk.row (Row.G [AV.int IntKind.i64 w, AV.slcT none (Row.M [Seg.arr IntKind.i64 zs (mulO ls 2)]) 2 ls false, AV.slcT none (Row.M [Seg.arr IntKind.i64 zd (mulO ld 3)]) 3 ld false])), (0, Blk.row (Row.M [Seg.arr IntKind.i64 sz (mulO ls 2)])),
                                          (0, Blk.row (Row.M [Seg.one (AV.int IntKind.i64 w), Seg.one (AV.slcT none (Row.M [Seg.arr IntKind.i64 zs (mulO ls 2)]) 2 ls false), Seg.one (AV.slcT none (Row.M [Seg.arr IntKind.i64 zd (mulO ld 3)]) 3 ld false), Seg.one (AV.slc 0 1 0 0 2 ls (some ls)), Seg.arr IntKind.i64 kd 144])), (0, Blk.row (Row.G [AV.ptr 0 2 0 0])), (0, Blk.loop L)] } ::
                                    H))
                      (Tr.ite (leI (Int.ofNat 0) q)
                        (Tr.req (inI q ls)
                          (Tr.req (eqN 0 0)
                            (Tr.req (ltN (addO (idO 0 q 2) 1) (mulO ls 2))
                              (Tr.req (inI q ls)
                                (Tr.req (ltN (idO 0 q 2) (mulO ls 2))
                                  (Tr.req (ltN (addO (idO 0 q 2) 1) (mulO ls 2))
                                    (Tr.reqP True
                                      (Tr.ok
                                        ((AV.bool (bo (sz (addO (idO 0 p 2) 1)) (sz (addO (idO 0 q 2) 1)) (zs (idO 0 p 2)) (zs (addO (idO 0 p 2) 1)) (zs (idO 0 q 2)) (zs (addO (idO 0 q 2) 1))), none),
                                          { lock := false, bs := [] } ::
                                            { lock := false, bs := [] } ::
                                              { lock := false, bs := [(0, Blk.row (Row.I IntKind.i64 [pp])), (0, Blk.loop Li)] } ::
                                                { lock := false, bs := [] } ::
                                                  { lock := false,
                                                      bs :=
                                                        [(0, Blk.row (Row.G [AV.int IntKind.i64 w, AV.slcT none (Row.M [Seg.arr IntKind.i64 zs (mulO ls 2)]) 2 ls false, AV.slcT none (Row.M [Seg.arr IntKind.i64 zd (mulO ld 3)]) 3 ld false])), (0, Blk.row (Row.M [Seg.arr IntKind.i64 sz (mulO ls 2)])),
                                                          (0, Blk.row (Row.M [Seg.one (AV.int IntKind.i64 w), Seg.one (AV.slcT none (Row.M [Seg.arr IntKind.i64 zs (mulO ls 2)]) 2 ls false), Seg.one (AV.slcT none (Row.M [Seg.arr IntKind.i64 zd (mulO ld 3)]) 3 ld false), Seg.one (AV.slc 0 1 0 0 2 ls (some ls)), Seg.arr IntKind.i64 kd 144])), (0, Blk.row (Row.G [AV.ptr 0 2 0 0])), (0, Blk.loop L)] } ::
                                                    H)))))))))
                        (Tr.ok
                          ((AV.bool (leI (mulI IntKind.i64 (zs (idO 0 p 2)) (zs (idO 0 p 2))) (sz (addO (idO 0 p 2) 1))), none),
                            { lock := false, bs := [] } ::
                              { lock := false, bs := [] } ::
                                { lock := false, bs := [(0, Blk.row (Row.I IntKind.i64 [pp])), (0, Blk.loop Li)] } ::
                                  { lock := false, bs := [] } ::
                                    { lock := false,
                                        bs :=
                                          [(0, Blk.row (Row.G [AV.int IntKind.i64 w, AV.slcT none (Row.M [Seg.arr IntKind.i64 zs (mulO ls 2)]) 2 ls false, AV.slcT none (Row.M [Seg.arr IntKind.i64 zd (mulO ld 3)]) 3 ld false])), (0, Blk.row (Row.M [Seg.arr IntKind.i64 sz (mulO ls 2)])),
                                            (0, Blk.row (Row.M [Seg.one (AV.int IntKind.i64 w), Seg.one (AV.slcT none (Row.M [Seg.arr IntKind.i64 zs (mulO ls 2)]) 2 ls false), Seg.one (AV.slcT none (Row.M [Seg.arr IntKind.i64 zd (mulO ld 3)]) 3 ld false), Seg.one (AV.slc 0 1 0 0 2 ls (some ls)), Seg.arr IntKind.i64 kd 144])), (0, Blk.row (Row.G [AV.ptr 0 2 0 0])), (0, Blk.loop L)] } ::
                                      H)))))))))))) := by kernel_rfl
theorem il99 (n : Nat) : (il (ctG noCt 112 (g112 bothT)) (n + 1) 1).Ok (cd (n + 2)) := il_ok _ (n + 1) 1 (fun k => ct112 n k _ (noCt_ok _))
section
variable (n : Nat) (w pp p q : Int) (ls ld : Nat) (zs zd sz kd : Nat → Int) (H : Heap) (L Li : ALoop)
theorem c99a (hp : p < ls) (hq : q < ls) (hls : ls ≤ 10) : cd (n + 3) (.fn 99) [.ptr 4 2 0 0, .int .i64 p, .int .i64 q, .fn (.func 100) [.ptr 4 2 0 0] []] (hT pp w ls ld zs zd sz kd H L Li) = some (.bool (touchT w zs (fun s => sz (s.toNat * 2)) p q), hT pp w ls ld zs zd sz kd H L Li) := by
  obtain ⟨y, hy1, hy2⟩ : ∃ y, (bodyT Try.prog (cd (n+2)) 100000 99 Try.f99 (Kt.kt 99) (il (ctG noCt 112 (g112 bothT)) (n+1) 1) noBT noRT [(.ptr 4 2 0 0, none), (.int .i64 p, none), (.int .i64 q, none), (.fn (.func 100) [.ptr 4 2 0 0] [], none)] (hT pp w ls ld zs zd sz kd H L Li)).run = some y ∧ (y.1.1, y.2) = (AV.bool (touchT w zs (fun s => sz (s.toNat * 2)) p q), hT pp w ls ld zs zd sz kd H L Li) := by
    rw [u99a]
    have e2 : Int.negSucc 1 = -2 := rfl
    by_cases h1 : p < 0 <;> by_cases h2 : q < 0
    · refine ⟨_, by simp (disch := omega) only [Tr.run_ite, Tr.run_req, Tr.run_ok, ltI_eq, leI_eq, eqI_dec, notB_eq, andB_eq, inI_eq, ltN_eq, leN_eq, lt_mulO, le_mulO, idO_eq, addO_eq, addI_eq, decide_eq_true, decide_eq_false, cond_true, cond_false, Int.ofNat_eq_natCast, Int.toNat_natCast, Nat.zero_add, Int.natCast_one, wrap_j, Bool.not_true, Bool.not_false, Bool.and_true, Bool.and_false, Bool.true_and, Bool.false_and, eqI_dec, eqN_eq, decide_true, subI_eq, mulI_eq, e2, run_reqT]; rfl, ?_⟩
      simp only [touchT, h1, h2, and_self, if_true]; rfl
    · by_cases h3 : sz (q.toNat * 2) = 0
      · refine ⟨_, by simp (disch := omega) only [Tr.run_ite, Tr.run_req, Tr.run_ok, ltI_eq, leI_eq, eqI_dec, notB_eq, andB_eq, inI_eq, ltN_eq, leN_eq, lt_mulO, le_mulO, idO_eq, addO_eq, addI_eq, decide_eq_true, decide_eq_false, cond_true, cond_false, Int.ofNat_eq_natCast, Int.toNat_natCast, Nat.zero_add, Int.natCast_one, wrap_j, Bool.not_true, Bool.not_false, Bool.and_true, Bool.and_false, Bool.true_and, Bool.false_and, eqI_dec, eqN_eq, decide_true, subI_eq, mulI_eq, e2, run_reqT]; rfl, ?_⟩
        simp only [touchT, h1, h2, and_false, if_false, if_true, h3]; rfl
      · by_cases h4 : p = -2
        · refine ⟨_, by simp (disch := omega) only [Tr.run_ite, Tr.run_req, Tr.run_ok, ltI_eq, leI_eq, eqI_dec, notB_eq, andB_eq, inI_eq, ltN_eq, leN_eq, lt_mulO, le_mulO, idO_eq, addO_eq, addI_eq, decide_eq_true, decide_eq_false, cond_true, cond_false, Int.ofNat_eq_natCast, Int.toNat_natCast, Nat.zero_add, Int.natCast_one, wrap_j, Bool.not_true, Bool.not_false, Bool.and_true, Bool.and_false, Bool.true_and, Bool.false_and, eqI_dec, eqN_eq, decide_true, subI_eq, mulI_eq, e2, run_reqT]; rfl, ?_⟩
          subst h4
          simp only [touchT, h1, h2, and_false, if_false, if_true, h3]; rfl
        · refine ⟨_, by simp (disch := omega) only [Tr.run_ite, Tr.run_req, Tr.run_ok, ltI_eq, leI_eq, eqI_dec, notB_eq, andB_eq, inI_eq, ltN_eq, leN_eq, lt_mulO, le_mulO, idO_eq, addO_eq, addI_eq, decide_eq_true, decide_eq_false, cond_true, cond_false, Int.ofNat_eq_natCast, Int.toNat_natCast, Nat.zero_add, Int.natCast_one, wrap_j, Bool.not_true, Bool.not_false, Bool.and_true, Bool.and_false, Bool.true_and, Bool.false_and, eqI_dec, eqN_eq, decide_true, subI_eq, mulI_eq, e2, run_reqT]; rfl, ?_⟩
          have h5 : ¬ 0 ≤ p := by omega
          simp only [touchT, h1, h2, and_false, if_false, if_true, h3, h4, h5]; rfl
    all_goals
      by_cases h3 : sz (p.toNat * 2) = 0
      · refine ⟨_, by simp (disch := omega) only [Tr.run_ite, Tr.run_req, Tr.run_ok, ltI_eq, leI_eq, eqI_dec, notB_eq, andB_eq, inI_eq, ltN_eq, leN_eq, lt_mulO, le_mulO, idO_eq, addO_eq, addI_eq, decide_eq_true, decide_eq_false, cond_true, cond_false, Int.ofNat_eq_natCast, Int.toNat_natCast, Nat.zero_add, Int.natCast_one, wrap_j, Bool.not_true, Bool.not_false, Bool.and_true, Bool.and_false, Bool.true_and, Bool.false_and, eqI_dec, eqN_eq, decide_true, subI_eq, mulI_eq, e2, run_reqT]; rfl, ?_⟩
        simp only [touchT, h1, h2, false_and, and_false, and_true, if_false, if_true, h3]; rfl
      · by_cases h4 : q = -2
        · first
          | (exfalso; omega)
          | (refine ⟨_, by simp (disch := omega) only [Tr.run_ite, Tr.run_req, Tr.run_ok, ltI_eq, leI_eq, eqI_dec, notB_eq, andB_eq, inI_eq, ltN_eq, leN_eq, lt_mulO, le_mulO, idO_eq, addO_eq, addI_eq, decide_eq_true, decide_eq_false, cond_true, cond_false, Int.ofNat_eq_natCast, Int.toNat_natCast, Nat.zero_add, Int.natCast_one, wrap_j, Bool.not_true, Bool.not_false, Bool.and_true, Bool.and_false, Bool.true_and, Bool.false_and, eqI_dec, eqN_eq, decide_true, subI_eq, mulI_eq, e2, run_reqT]; rfl, ?_⟩
             subst h4
             simp only [touchT, h1, h2, false_and, and_false, and_true, if_false, if_true, h3]; rfl)
        · by_cases h5 : 0 ≤ q
          · first
            | (exfalso; omega)
            | (refine ⟨_, by simp (disch := omega) only [Tr.run_ite, Tr.run_req, Tr.run_ok, ltI_eq, leI_eq, eqI_dec, notB_eq, andB_eq, inI_eq, ltN_eq, leN_eq, lt_mulO, le_mulO, idO_eq, addO_eq, addI_eq, decide_eq_true, decide_eq_false, cond_true, cond_false, Int.ofNat_eq_natCast, Int.toNat_natCast, Nat.zero_add, Int.natCast_one, wrap_j, Bool.not_true, Bool.not_false, Bool.and_true, Bool.and_false, Bool.true_and, Bool.false_and, eqI_dec, eqN_eq, decide_true, subI_eq, mulI_eq, e2, run_reqT]; rfl, ?_⟩
               simp only [touchT, h1, h2, false_and, and_false, and_true, if_false, if_true, h3, h4, h5]; rfl)
          · first
            | (exfalso; omega)
            | (refine ⟨_, by simp (disch := omega) only [Tr.run_ite, Tr.run_req, Tr.run_ok, ltI_eq, leI_eq, eqI_dec, notB_eq, andB_eq, inI_eq, ltN_eq, leN_eq, lt_mulO, le_mulO, idO_eq, addO_eq, addI_eq, decide_eq_true, decide_eq_false, cond_true, cond_false, Int.ofNat_eq_natCast, Int.toNat_natCast, Nat.zero_add, Int.natCast_one, wrap_j, Bool.not_true, Bool.not_false, Bool.and_true, Bool.and_false, Bool.true_and, Bool.false_and, eqI_dec, eqN_eq, decide_true, subI_eq, mulI_eq, e2, run_reqT]; rfl, ?_⟩
               simp only [touchT, h1, h2, false_and, and_false, and_true, if_false, if_true, h3, h4, h5]; rfl)
  have := fn_ok (n := n + 2) Try.func99 rfl rfl (args := [(.ptr 4 2 0 0, none), (.int .i64 p, none), (.int .i64 q, none), (.fn (.func 100) [.ptr 4 2 0 0] [], none)]) rfl (il99 n) (noBT_ok _ _) (noRT_ok _ _) hy1
  rw [hy2] at this
  exact this
theorem c99b (hp : p < ls) (hq : q < ls) (hls : ls ≤ 10) : cd (n + 3) (.fn 99) [.ptr 4 2 0 0, .int .i64 p, .int .i64 q, .fn (.func 101) [.ptr 4 2 0 0] []] (hT pp w ls ld zs zd sz kd H L Li) = some (.bool (touchT w zs (fun s => sz (s.toNat * 2 + 1)) p q), hT pp w ls ld zs zd sz kd H L Li) := by
  obtain ⟨y, hy1, hy2⟩ : ∃ y, (bodyT Try.prog (cd (n+2)) 100000 99 Try.f99 (Kt.kt 99) (il (ctG noCt 112 (g112 bothT)) (n+1) 1) noBT noRT [(.ptr 4 2 0 0, none), (.int .i64 p, none), (.int .i64 q, none), (.fn (.func 101) [.ptr 4 2 0 0] [], none)] (hT pp w ls ld zs zd sz kd H L Li)).run = some y ∧ (y.1.1, y.2) = (AV.bool (touchT w zs (fun s => sz (s.toNat * 2 + 1)) p q), hT pp w ls ld zs zd sz kd H L Li) := by
    rw [u99b]
    have e2 : Int.negSucc 1 = -2 := rfl
    by_cases h1 : p < 0 <;> by_cases h2 : q < 0
    · refine ⟨_, by simp (disch := omega) only [Tr.run_ite, Tr.run_req, Tr.run_ok, ltI_eq, leI_eq, eqI_dec, notB_eq, andB_eq, inI_eq, ltN_eq, leN_eq, lt_mulO, le_mulO, idO_eq, addO_eq, addI_eq, decide_eq_true, decide_eq_false, cond_true, cond_false, Int.ofNat_eq_natCast, Int.toNat_natCast, Nat.zero_add, Int.natCast_one, wrap_j, Bool.not_true, Bool.not_false, Bool.and_true, Bool.and_false, Bool.true_and, Bool.false_and, eqI_dec, eqN_eq, decide_true, subI_eq, mulI_eq, e2, run_reqT]; rfl, ?_⟩
      simp only [touchT, h1, h2, and_self, if_true]; rfl
    · by_cases h3 : sz (q.toNat * 2 + 1) = 0
      · refine ⟨_, by simp (disch := omega) only [Tr.run_ite, Tr.run_req, Tr.run_ok, ltI_eq, leI_eq, eqI_dec, notB_eq, andB_eq, inI_eq, ltN_eq, leN_eq, lt_mulO, le_mulO, idO_eq, addO_eq, addI_eq, decide_eq_true, decide_eq_false, cond_true, cond_false, Int.ofNat_eq_natCast, Int.toNat_natCast, Nat.zero_add, Int.natCast_one, wrap_j, Bool.not_true, Bool.not_false, Bool.and_true, Bool.and_false, Bool.true_and, Bool.false_and, eqI_dec, eqN_eq, decide_true, subI_eq, mulI_eq, e2, run_reqT]; rfl, ?_⟩
        simp only [touchT, h1, h2, and_false, if_false, if_true, h3]; rfl
      · by_cases h4 : p = -2
        · refine ⟨_, by simp (disch := omega) only [Tr.run_ite, Tr.run_req, Tr.run_ok, ltI_eq, leI_eq, eqI_dec, notB_eq, andB_eq, inI_eq, ltN_eq, leN_eq, lt_mulO, le_mulO, idO_eq, addO_eq, addI_eq, decide_eq_true, decide_eq_false, cond_true, cond_false, Int.ofNat_eq_natCast, Int.toNat_natCast, Nat.zero_add, Int.natCast_one, wrap_j, Bool.not_true, Bool.not_false, Bool.and_true, Bool.and_false, Bool.true_and, Bool.false_and, eqI_dec, eqN_eq, decide_true, subI_eq, mulI_eq, e2, run_reqT]; rfl, ?_⟩
          subst h4
          simp only [touchT, h1, h2, and_false, if_false, if_true, h3]; rfl
        · refine ⟨_, by simp (disch := omega) only [Tr.run_ite, Tr.run_req, Tr.run_ok, ltI_eq, leI_eq, eqI_dec, notB_eq, andB_eq, inI_eq, ltN_eq, leN_eq, lt_mulO, le_mulO, idO_eq, addO_eq, addI_eq, decide_eq_true, decide_eq_false, cond_true, cond_false, Int.ofNat_eq_natCast, Int.toNat_natCast, Nat.zero_add, Int.natCast_one, wrap_j, Bool.not_true, Bool.not_false, Bool.and_true, Bool.and_false, Bool.true_and, Bool.false_and, eqI_dec, eqN_eq, decide_true, subI_eq, mulI_eq, e2, run_reqT]; rfl, ?_⟩
          have h5 : ¬ 0 ≤ p := by omega
          simp only [touchT, h1, h2, and_false, if_false, if_true, h3, h4, h5]; rfl
    all_goals
      by_cases h3 : sz (p.toNat * 2 + 1) = 0
      · refine ⟨_, by simp (disch := omega) only [Tr.run_ite, Tr.run_req, Tr.run_ok, ltI_eq, leI_eq, eqI_dec, notB_eq, andB_eq, inI_eq, ltN_eq, leN_eq, lt_mulO, le_mulO, idO_eq, addO_eq, addI_eq, decide_eq_true, decide_eq_false, cond_true, cond_false, Int.ofNat_eq_natCast, Int.toNat_natCast, Nat.zero_add, Int.natCast_one, wrap_j, Bool.not_true, Bool.not_false, Bool.and_true, Bool.and_false, Bool.true_and, Bool.false_and, eqI_dec, eqN_eq, decide_true, subI_eq, mulI_eq, e2, run_reqT]; rfl, ?_⟩
        simp only [touchT, h1, h2, false_and, and_false, and_true, if_false, if_true, h3]; rfl
      · by_cases h4 : q = -2
        · first
          | (exfalso; omega)
          | (refine ⟨_, by simp (disch := omega) only [Tr.run_ite, Tr.run_req, Tr.run_ok, ltI_eq, leI_eq, eqI_dec, notB_eq, andB_eq, inI_eq, ltN_eq, leN_eq, lt_mulO, le_mulO, idO_eq, addO_eq, addI_eq, decide_eq_true, decide_eq_false, cond_true, cond_false, Int.ofNat_eq_natCast, Int.toNat_natCast, Nat.zero_add, Int.natCast_one, wrap_j, Bool.not_true, Bool.not_false, Bool.and_true, Bool.and_false, Bool.true_and, Bool.false_and, eqI_dec, eqN_eq, decide_true, subI_eq, mulI_eq, e2, run_reqT]; rfl, ?_⟩
             subst h4
             simp only [touchT, h1, h2, false_and, and_false, and_true, if_false, if_true, h3]; rfl)
        · by_cases h5 : 0 ≤ q
          · first
            | (exfalso; omega)
            | (refine ⟨_, by simp (disch := omega) only [Tr.run_ite, Tr.run_req, Tr.run_ok, ltI_eq, leI_eq, eqI_dec, notB_eq, andB_eq, inI_eq, ltN_eq, leN_eq, lt_mulO, le_mulO, idO_eq, addO_eq, addI_eq, decide_eq_true, decide_eq_false, cond_true, cond_false, Int.ofNat_eq_natCast, Int.toNat_natCast, Nat.zero_add, Int.natCast_one, wrap_j, Bool.not_true, Bool.not_false, Bool.and_true, Bool.and_false, Bool.true_and, Bool.false_and, eqI_dec, eqN_eq, decide_true, subI_eq, mulI_eq, e2, run_reqT]; rfl, ?_⟩
               simp only [touchT, h1, h2, false_and, and_false, and_true, if_false, if_true, h3, h4, h5]; rfl)
          · first
            | (exfalso; omega)
            | (refine ⟨_, by simp (disch := omega) only [Tr.run_ite, Tr.run_req, Tr.run_ok, ltI_eq, leI_eq, eqI_dec, notB_eq, andB_eq, inI_eq, ltN_eq, leN_eq, lt_mulO, le_mulO, idO_eq, addO_eq, addI_eq, decide_eq_true, decide_eq_false, cond_true, cond_false, Int.ofNat_eq_natCast, Int.toNat_natCast, Nat.zero_add, Int.natCast_one, wrap_j, Bool.not_true, Bool.not_false, Bool.and_true, Bool.and_false, Bool.true_and, Bool.false_and, eqI_dec, eqN_eq, decide_true, subI_eq, mulI_eq, e2, run_reqT]; rfl, ?_⟩
               simp only [touchT, h1, h2, false_and, and_false, and_true, if_false, if_true, h3, h4, h5]; rfl)
  have := fn_ok (n := n + 2) Try.func99 rfl rfl (args := [(.ptr 4 2 0 0, none), (.int .i64 p, none), (.int .i64 q, none), (.fn (.func 101) [.ptr 4 2 0 0] [], none)]) rfl (il99 n) (noBT_ok _ _) (noRT_ok _ _) hy1
  rw [hy2] at this
  exact this
end
end Go.Eng
