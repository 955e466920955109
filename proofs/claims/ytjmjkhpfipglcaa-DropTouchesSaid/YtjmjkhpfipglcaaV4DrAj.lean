/- Drop: contracts out of what all runs of a tree answer. -/
import Derived.Test.YtjmjkhpfipglcaaV4DrAB
import Derived.Test.YtjmjkhpfipglcaaV4EngTij
namespace Go.Eng
open Go.Proofs
set_option linter.unusedVariables false
theorem fn_all {f : FuncId} {fn : Func} {n : Nat} (hf : Try.prog.funcs[f]? = some fn) (hb : fn.body.isSome = true) (hn : noD f = false) {args : List HV} (hle : Nat.ble args.length fn.ntmps = true) {H : Heap} {callR : CallTr} {bl : BlkT} {rg : RgT} {T : Tr (HV × Heap)}
    (e : bodyT Try.prog (cd n) 100000 f fn (Kt.kt f) callR bl rg args H = T) (hC : callR.Ok (cd n)) (hB : bl.Ok (cxD n f fn.ntmps) (bodyOf fn)) (hR : rg.Ok (cxD n f fn.ntmps) (bodyOf fn)) {v : AV} {H' : Heap} (h : T.all fun y => y.1.1 = v ∧ y.2 = H') : cd (n + 1) (.fn f) (avs args) H = some (v, H') := by
  obtain ⟨y, h1, h2, h3⟩ := h
  have := fn_of hf hb hn hle e hC hB hR h1
  rw [this, h2, h3]
/-- .. in which it is not told what is answered. -/
theorem fn_ex {f : FuncId} {fn : Func} {n : Nat} (hf : Try.prog.funcs[f]? = some fn) (hb : fn.body.isSome = true) (hn : noD f = false) {args : List HV} (hle : Nat.ble args.length fn.ntmps = true) {H : Heap} {callR : CallTr} {bl : BlkT} {rg : RgT} {T : Tr (HV × Heap)}
    (e : bodyT Try.prog (cd n) 100000 f fn (Kt.kt f) callR bl rg args H = T) (hC : callR.Ok (cd n)) (hB : bl.Ok (cxD n f fn.ntmps) (bodyOf fn)) (hR : rg.Ok (cxD n f fn.ntmps) (bodyOf fn)) {Q : AV → Heap → Prop} (h : T.all fun y => Q y.1.1 y.2) : ∃ v H', cd (n + 1) (.fn f) (avs args) H = some (v, H') ∧ Q v H' := by
  obtain ⟨y, h1, h2⟩ := h
  exact ⟨_, _, fn_of hf hb hn hle e hC hB hR h1, h2⟩
theorem ex_all {n f nt : Nat} {c : Code} {callR : CallTr} {bl : BlkT} {rg : RgT} {fr : Frm} {H : Heap} {T : Tr Res} (e : execT (cxD n f nt) callR bl rg c (hints fr) H = T) (hC : callR.Ok (cd n)) (hB : bl.Ok (cxD n f nt) c) (hR : rg.Ok (cxD n f nt) c) {Q : Ex × Frm × Heap → Prop} (h : T.all fun x => Q x.st) : ∃ x, exec (cxD n f nt) c fr H = some x ∧ Q x := by
  obtain ⟨x, h1, h2⟩ := h
  exact ⟨_, ex_of e hC hB hR h1, h2⟩
section
variable {n f nt : Nat} {c : Code} {callR : CallTr} {bl : BlkT} {rg : RgT}
/-- A block's loop: up to N, or up to the first place at which it is left. -/
theorem findL (hC : callR.Ok (cd n)) (hB : bl.Ok (cxD n f nt) c) (hR : rg.Ok (cxD n f nt) c) (id : Nat) (F : Nat → Frm) (G : Nat → Heap) (N : Nat) (p : Nat → Bool) (X : Nat → Frm × Heap) (Y : Frm × Heap) (hN : N < 99999)
    (hs : ∀ j, j < N → (execT (cxD n f nt) callR bl rg c (hints (F j)) (G j)).all fun x => if p j = true then x.1 = .ret ∧ strip x.2.1 = (X j).1 ∧ x.2.2 = (X j).2 else x.1 = .normal ∧ strip x.2.1 = F (j + 1) ∧ cutTo (hNext (G 0)) (F (j + 1)) x.2.2 = G (j + 1))
    (he : (execT (cxD n f nt) callR bl rg c (hints (F N)) (G N)).all fun x => x.1 = .exit id ∧ strip x.2.1 = Y.1 ∧ x.2.2 = Y.2) (x : Res)
    (hx : (Tr.ite (exN p N) (Tr.ok (.ret, hints (X (fN p N 0)).1, (X (fN p N 0)).2)) (Tr.ok (.normal, hints Y.1, Y.2))).run = some x) : exec (cxD n f nt) (.block id (.loop c)) (F 0) (G 0) = some x.st := by
  refine findE (c := c) id F G N p (fun j => if j < N then (.ret, hints (X j).1, (X j).2) else (.exit id, hints Y.1, Y.2)) hN (fun j hj hp => ?_) (fun j hj hp => ?_) ⟨?_, ?_⟩ x ?_
  · obtain ⟨x, h1, h2⟩ := hs j hj
    rw [if_neg (by rw [hp]; simp)] at h2
    obtain ⟨e, f1, g1⟩ := x
    obtain ⟨rfl, h3, h4⟩ := h2
    exact ⟨_, _, ex_ok hC hB hR h1, h3, h4⟩
  · obtain ⟨x, h1, h2⟩ := hs j hj
    rw [if_pos hp] at h2
    obtain ⟨e, f1, g1⟩ := x
    obtain ⟨rfl, h3, h4⟩ := h2
    dsimp only at h3 h4
    rw [if_pos hj]
    refine ⟨?_, rfl⟩
    have := ex_ok hC hB hR h1
    rw [this]
    simp only [Res.st]
    rw [h3, h4, hints_eq]
  · obtain ⟨x, h1, h2⟩ := he
    obtain ⟨e, f1, g1⟩ := x
    obtain ⟨rfl, h3, h4⟩ := h2
    dsimp only at h3 h4
    rw [if_neg (by omega)]
    have := ex_ok hC hB hR h1
    rw [this]
    simp only [Res.st]
    rw [h3, h4, hints_eq]
  · rw [if_neg (by omega)]
  · rcases Tr.ite_some hx with ⟨hc, hx⟩ | ⟨hc, hx⟩
    · have := exN_true hc
      exact .inl ⟨this, by rw [if_pos this, ← Tr.ok_some hx]⟩
    · exact .inr ⟨exN_false hc, by rw [if_neg (by omega), ← Tr.ok_some hx]; rfl⟩
/-- .. that goes up to N. -/
theorem forL (hC : callR.Ok (cd n)) (hB : bl.Ok (cxD n f nt) c) (hR : rg.Ok (cxD n f nt) c) (id : Nat) (F : Nat → Frm) (G : Nat → Heap) (N : Nat) (Y : Frm × Heap) (hN : N < 99999)
    (hs : ∀ j, j < N → (execT (cxD n f nt) callR bl rg c (hints (F j)) (G j)).all fun x => x.1 = .normal ∧ strip x.2.1 = F (j + 1) ∧ cutTo (hNext (G 0)) (F (j + 1)) x.2.2 = G (j + 1))
    (he : (execT (cxD n f nt) callR bl rg c (hints (F N)) (G N)).all fun x => x.1 = .exit id ∧ strip x.2.1 = Y.1 ∧ x.2.2 = Y.2) : exec (cxD n f nt) (.block id (.loop c)) (F 0) (G 0) = some (.normal, Y.1, Y.2) := by
  obtain ⟨y, h1, h2, h3, h4⟩ := he
  have := forB hC hB hR id F G N y hN (fun j hj => by
    obtain ⟨x, h1, h2, h3, h4⟩ := hs j hj
    obtain ⟨e, f1, g1⟩ := x
    dsimp only at h2 h3 h4
    subst h2
    exact ⟨f1, g1, h1, h3, h4⟩) ⟨h1, h2⟩
  rw [this]
  simp only [Res.st]
  rw [h3, h4]
end
end Go.Eng
