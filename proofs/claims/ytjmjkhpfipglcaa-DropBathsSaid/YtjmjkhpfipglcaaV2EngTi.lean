/- The engine as a tree: loops over functions, and their rounds. -/
import Derived.Test.YtjmjkhpfipglcaaV2EngTh
namespace Go.Eng
set_option linter.unusedVariables false
set_option linter.unusedSimpArgs false
noncomputable section

/-- A round of which it is known what it does in this heap. -/
def rdE (base : CallTr) (d0 i0 : Nat) (args0 : List AV) (H0 : Heap) (u : Tr (AV × Heap)) : CallTr := fun tgt args H => match tgt with
  | .round d i => cond (Nat.beq d d0 && Nat.beq i i0) (.reqP (avs args = args0 ∧ H = H0) (u.bind fun y => .ok ((y.1, none), y.2))) .bad
  | .fn g => base (.fn g) args H
  | .mode => base .mode args H
theorem rdE_ok {base : CallTr} {call : CallT} (h : base.Ok call) {d0 i0 : Nat} {args0 : List AV} {H0 : Heap} {u : Tr (AV × Heap)} (k : ∀ x, u.run = some x → call (.round d0 i0) args0 H0 = some x) : (rdE base d0 i0 args0 H0 u).Ok call := by
  refine ⟨h.1, fun tgt args H x hx => ?_⟩
  cases tgt with
  | fn g => exact h.2 _ _ _ _ hx
  | mode => exact h.2 _ _ _ _ hx
  | round d i =>
    unfold rdE at hx
    obtain ⟨hc, hx2⟩ := Tr.cond_bad hx
    clear hx
    rw [Bool.and_eq_true] at hc
    have e1 := Nat.eq_of_beq_eq_true hc.1
    have e2 := Nat.eq_of_beq_eq_true hc.2
    subst e1; subst e2
    obtain ⟨⟨e3, e4⟩, hx3⟩ := Tr.reqP_some hx2
    obtain ⟨y, h1, h2⟩ := Tr.bind_some hx3
    rw [e3, e4, k _ h1, ← Tr.ok_some h2]

/-- A round, by its record's code. -/
theorem round_of {P : Program} {ora : CallT → FuncId → List AV → Heap → Option (AV × Heap)} {KT : FuncId → Nat → Nat} {fu n d i : Nat} {args : List AV} {H H1 H2 : Heap} {l l1 l2 : ALoop} {fr fr1 fr2 : Frm} {e : Ex} {lv : Lvl}
    (hg : hGet H d i = (0, .loop l)) (hl : hLock H d = false) (hs : l.state = .ready) (hp : putPs l.nt (upFrm (d + 1) l.fr) l.params (args.map (upV 1)) = some fr)
    (h1 : exec ⟨P, callN P ora KT fu n, fu, l.fn, l.nt, KT l.fn, some (d + 1, i)⟩ l.assign fr (⟨false, []⟩ :: H) = some (.normal, fr1, H1)) (hg1 : hGet H1 (d + 1) i = (0, .loop l1)) (hs1 : l1.state = .ready)
    (h2 : exec ⟨P, callN P ora KT fu n, fu, l.fn, l.nt, KT l.fn, some (d + 1, i)⟩ l.body fr1 (hSet H1 (d + 1) i (0, .loop { l1 with state := .busy })) = some (e, fr2, lv :: H2)) (hg2 : hGet H2 d i = (0, .loop l2)) :
    callN P ora KT fu (n + 1) (.round d i) args H = some (.bool (jumpOf e).isNone, hSet H2 d i (0, .loop { l2 with state := if (jumpOf e).isNone then .ready else .done, pending := jumpOf e })) := by
  simp only [callN, hg, hl, Bool.false_eq_true, if_false, hs, hp, h1, hg1, hs1, h2, hg2]
/-- A loop over a function, by the function's call. -/
theorem range_of {cx : Cx} {f : Operand} {ps : Array Tmp} {as bd : Code} {fr : Frm} {H H1 : Heap} {g : FuncId} {a b : List AV} {v : AV} {l : ALoop} {e : Ex} (hf : opd fr f = .fn (.func g) a b) (hh : cx.here H = true) (hl : hLock H 0 = false)
    (hc : cx.call (.fn g) (a ++ (.yld 0 (hNext H) :: b)) (rangeStart fr H cx ps as bd) = some (v, H1)) (hg : hGet H1 0 (hNext H) = (0, .loop l)) (hb : (l.state == .busy) = false) (he : endEx l.pending = some e) :
    exec cx (.rangeFunc f ps as bd) fr H = some (e, fr, hKill H1 0 (hNext H)) := by
  unfold exec
  rw [hf]
  dsimp only
  rw [hh, hl]
  simp only [Bool.not_true, Bool.false_or, Bool.false_eq_true, if_false, hc, hg, hb, he]

end
end Go.Eng
