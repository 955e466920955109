/- The engine as a tree: what a call hands down; calls; loops. -/
import Derived.Test.YtigmfpmabgekoaaGreatV7EngTf
section
namespace Go.Eng
set_option linter.unusedVariables false
set_option linter.unusedSimpArgs false
noncomputable section

/-! ### What ends with its level -/
def frzT (bs : List (Nat × Blk)) : Nat → AV → Tr AV
  | 0, _ => .ok .undef
  | n + 1, v => match v with
    | .ptr d i ver off => match d with
      | d + 1 => .ok (.ptr d i ver off)
      | 0 => match nthX bs i with
        | (w, .row r) => cond (Nat.beq w ver) (match r with
          | .I k l => .ok (.ptrT none (.I k l) off)
          | .F f m => .ok (.ptrT none (.F f m) off)
          | .M l => cond (arrs l) (.ok (.ptrT none (.M l) off)) ((mapMT (frzT bs n) l).bind fun m => .ok (.ptrT (some 0) (.M m) off))
          | .G l => (mapT (frzT bs n) l).bind fun m => .ok (.ptrT (some 0) (.G m) off)) .bad
        | _ => .bad
    | .slc d i ver off sz len cap => match d with
      | d + 1 => .ok (.slc d i ver off sz len cap)
      | 0 => match nthX bs i with
        | (w, .row r) => .req (eqN w ver) (match r with
          | .M [.arr k z N] => .req (inO off (mulS len sz) 0 N) (.ok (.slcT none (.M [.arr k (shO z off) (mulS len sz)]) sz len (capEq cap len)))
          | .I k l => cond (fitX (.I k l) off (Nat.mul len sz)) (.ok (.slcT none (.I k (takeX (dropX l off) (Nat.mul len sz))) sz len (capEq cap len))) .bad
          | .F f N => .req (inO off (mulS len sz) 0 N) (.ok (.slcT none (.F (fun j => f (addO off j)) (mulS len sz)) sz len (capEq cap len)))
          | .G l => cond (fitX (.G l) off (Nat.mul len sz)) ((mapT (frzT bs n) (takeX (dropX l off) (Nat.mul len sz))).bind fun m => .ok (.slcT (some 0) (.G m) sz len (capEq cap len))) .bad
          | _ => .bad)
        | _ => .bad
    | .ptrT s r off => match s with
      | none => .ok (.ptrT none r off)
      | some (s + 1) => .ok (.ptrT (some s) r off)
      | some 0 => match r with
        | .G l => (mapT (frzT bs n) l).bind fun m => .ok (.ptrT (some 0) (.G m) off)
        | .M l => cond (arrs l) (.ok (.ptrT none (.M l) off)) ((mapMT (frzT bs n) l).bind fun m => .ok (.ptrT (some 0) (.M m) off))
        | r => .ok (.ptrT none r off)
    | .slcT s r sz len full => match s with
      | none => .ok (.slcT none r sz len full)
      | some (s + 1) => .ok (.slcT (some s) r sz len full)
      | some 0 => match r with
        | .G l => (mapT (frzT bs n) l).bind fun m => .ok (.slcT (some 0) (.G m) sz len full)
        | .M l => cond (arrs l) (.ok (.slcT none (.M l) sz len full)) ((mapMT (frzT bs n) l).bind fun m => .ok (.slcT (some 0) (.M m) sz len full))
        | r => .ok (.slcT none r sz len full)
    | .map d i => match d with
      | d + 1 => .ok (.map d i)
      | 0 => .ok .undef
    | .yld d i => match d with
      | d + 1 => .ok (.yld d i)
      | 0 => .ok .undef
    | .fn f a b => (mapT (frzT bs n) a).bind fun a' => (mapT (frzT bs n) b).bind fun b' => .ok (.fn f a' b')
    | .agg r => match r with
      | .G l => (mapT (frzT bs n) l).bind fun m => .ok (.agg (.G m))
      | .M l => (mapMT (frzT bs n) l).bind fun m => .ok (.agg (.M m))
      | r => .ok (.agg r)
    | .tup l => (mapT (frzT bs n) l).bind fun m => .ok (.tup m)
    | v => .ok v
theorem if_cond {α : Type} (b : Bool) (x y : α) : (if b then x else y) = cond b x y := by cases b <;> rfl
theorem frzT_ok (bs : List (Nat × Blk)) : ∀ (n : Nat) (v u : AV), (frzT bs n v).run = some u → frzV bs n v = u
  | 0, v, u, h => Tr.ok_some h
  | n + 1, v, u, h => by
    have ih := frzT_ok bs n
    simp only [frzT, nthX_eq] at h
    cases v with
    | ptr d i ver off =>
      cases d with
      | succ d => exact Tr.ok_some h
      | zero =>
        dsimp only at h
        simp only [frzV]
        split at h
        · rename_i w r hg
          obtain ⟨hw, h⟩ := Tr.cond_bad h
          rw [hg]
          dsimp only
          rw [if_pos hw]
          cases r with
          | I k l => exact Tr.ok_some h
          | F f m => exact Tr.ok_some h
          | G l =>
            obtain ⟨m, h1, h⟩ := Tr.bind_some h
            rw [← Tr.ok_some h, ← mapT_ok ih _ _ h1]
          | M l =>
            dsimp only at h ⊢
            cases ha : arrs l with
            | true => rw [ha, cond_true] at h; rw [if_pos rfl]; exact Tr.ok_some h
            | false =>
              rw [ha, cond_false] at h
              obtain ⟨m, h1, h⟩ := Tr.bind_some h
              rw [if_neg (by simp), ← Tr.ok_some h, ← mapMT_ok ih _ _ h1]
        · exact (Tr.bad_some h).elim
    | slc d i ver off sz len cap =>
      cases d with
      | succ d => exact Tr.ok_some h
      | zero =>
        dsimp only at h
        simp only [frzV]
        split at h
        · rename_i w r hg
          obtain ⟨hw, h'⟩ := Tr.req_some h
          clear h
          rw [eqN_eq, decide_eq_true_eq] at hw
          subst hw
          rw [hg]
          dsimp only
          split at h'
          · rename_i k z N
            have h := h'
            obtain ⟨hc, h⟩ := Tr.req_some h
            rw [inO_eq, decide_eq_true_eq, mulS_eq] at hc
            rw [if_pos ⟨by simp, by simp only [Row.len, lenM, segLen]; omega⟩, ← Tr.ok_some h, capEq_eq, mulS_eq, shO_fn]
            simp only [Row.sub, arrs, if_true]
          · have h := h'
            obtain ⟨hc, h⟩ := Tr.cond_bad h
            rw [fitX_eq, decide_eq_true_eq] at hc
            rw [if_pos ⟨by simp, hc⟩, ← Tr.ok_some h, capEq_eq, takeX_eq, dropX_eq]
            rfl
          · have h := h'
            obtain ⟨hc, h⟩ := Tr.req_some h
            rw [inO_eq, decide_eq_true_eq, mulS_eq] at hc
            rw [if_pos ⟨by simp, by simp only [Row.len]; omega⟩, ← Tr.ok_some h, capEq_eq, mulS_eq]
            simp only [Row.sub, addO_eq]
          · have h := h'
            obtain ⟨hc, h⟩ := Tr.cond_bad h
            rw [fitX_eq, decide_eq_true_eq] at hc
            obtain ⟨m, h1, h⟩ := Tr.bind_some h
            rw [takeX_eq, dropX_eq] at h1
            rw [if_pos ⟨by simp, hc⟩, ← Tr.ok_some h, capEq_eq, ← mapT_ok ih _ _ h1]
            rfl
          · exact (Tr.bad_some h').elim
        · exact (Tr.bad_some h).elim
    | ptrT s r off =>
      cases s with
      | none => exact Tr.ok_some h
      | some s =>
        cases s with
        | succ s => exact Tr.ok_some h
        | zero =>
          simp only [frzV]
          cases r with
          | I k l => exact Tr.ok_some h
          | F f m => exact Tr.ok_some h
          | G l =>
            obtain ⟨m, h1, h⟩ := Tr.bind_some h
            rw [← Tr.ok_some h, ← mapT_ok ih _ _ h1]
          | M l =>
            dsimp only at h ⊢
            cases ha : arrs l with
            | true => rw [ha, cond_true] at h; rw [if_pos rfl]; exact Tr.ok_some h
            | false =>
              rw [ha, cond_false] at h
              obtain ⟨m, h1, h⟩ := Tr.bind_some h
              rw [if_neg (by simp), ← Tr.ok_some h, ← mapMT_ok ih _ _ h1]
    | slcT s r sz len full =>
      cases s with
      | none => exact Tr.ok_some h
      | some s =>
        cases s with
        | succ s => exact Tr.ok_some h
        | zero =>
          simp only [frzV]
          cases r with
          | I k l => exact Tr.ok_some h
          | F f m => exact Tr.ok_some h
          | G l =>
            obtain ⟨m, h1, h⟩ := Tr.bind_some h
            rw [← Tr.ok_some h, ← mapT_ok ih _ _ h1]
          | M l =>
            dsimp only at h ⊢
            cases ha : arrs l with
            | true => rw [ha, cond_true] at h; rw [if_pos rfl]; exact Tr.ok_some h
            | false =>
              rw [ha, cond_false] at h
              obtain ⟨m, h1, h⟩ := Tr.bind_some h
              rw [if_neg (by simp), ← Tr.ok_some h, ← mapMT_ok ih _ _ h1]
    | map d i => cases d <;> exact Tr.ok_some h
    | yld d i => cases d <;> exact Tr.ok_some h
    | fn f a b =>
      obtain ⟨a', h1, h⟩ := Tr.bind_some h
      obtain ⟨b', h2, h⟩ := Tr.bind_some h
      simp only [frzV]
      rw [← Tr.ok_some h, ← mapT_ok ih _ _ h1, ← mapT_ok ih _ _ h2]
    | agg r =>
      simp only [frzV]
      cases r with
      | I k l => exact Tr.ok_some h
      | F f m => exact Tr.ok_some h
      | G l =>
        obtain ⟨m, h1, h⟩ := Tr.bind_some h
        rw [← Tr.ok_some h, ← mapT_ok ih _ _ h1]
      | M l =>
        obtain ⟨m, h1, h⟩ := Tr.bind_some h
        rw [← Tr.ok_some h, ← mapMT_ok ih _ _ h1]
    | tup l =>
      obtain ⟨m, h1, h⟩ := Tr.bind_some h
      simp only [frzV]
      rw [← Tr.ok_some h, ← mapT_ok ih _ _ h1]
    | _ => exact Tr.ok_some h

/-! ### Calls -/
def argH (l : List HV) : Nat → HFrm := List.rec (motive := fun _ => Nat → HFrm) (fun _ => []) (fun v _ ih x => (x, (upV 1 v.1, v.2)) :: ih (Nat.succ x)) l
theorem argH_eq : ∀ (l : List HV) (x : Nat), strip (argH l x) = argFrm x (avs l)
  | [], x => rfl
  | v :: l, x => by
    have e : argH (v :: l) x = (x, (upV 1 v.1, v.2)) :: argH l (x + 1) := rfl
    rw [e, strip_cons, argH_eq l]; rfl
def hints (f : Frm) : HFrm := List.rec (motive := fun _ => HFrm) [] (fun p _ ih => (p.1, (p.2, none)) :: ih) f
theorem hints_eq : ∀ f : Frm, strip (hints f) = f
  | [] => rfl
  | (x, v) :: r => by
    have e : hints ((x, v) :: r) = (x, (v, none)) :: hints r := rfl
    rw [e, strip_cons, hints_eq r]
def resT (P : Program) (fr : HFrm) (H : Heap) : List ResultVar → Tr (List AV)
  | [] => .ok []
  | .tmp t :: r => (resT P fr H r).bind fun l => .ok ((hGetF fr t).1 :: l)
  | .cell a t :: r => (loadT P H t (opdT fr (.tmp a))).bind fun v => (resT P fr H r).bind fun l => .ok (v :: l)
theorem resT_ok {P : Program} {fr : HFrm} {H : Heap} : ∀ (l : List ResultVar) (vs : List AV), (resT P fr H l).run = some vs → resV P (strip fr) H l = some vs
  | [], vs, h => by rw [← Tr.ok_some h]; rfl
  | .tmp t :: r, vs, h => by
    simp only [resT] at h
    obtain ⟨l, h1, h⟩ := Tr.bind_some h
    simp only [resV]
    rw [resT_ok r l h1, ← Tr.ok_some h, hGetF_eq]; rfl
  | .cell a t :: r, vs, h => by
    simp only [resT] at h
    obtain ⟨v, h0, h⟩ := Tr.bind_some h
    obtain ⟨l, h1, h⟩ := Tr.bind_some h
    have h0 := loadT_ok h0
    rw [opdT_eq] at h0
    simp only [resV]
    have e : opd (strip fr) (.tmp a) = fGet (strip fr) a := rfl
    rw [e] at h0
    rw [h0]
    dsimp only
    rw [resT_ok r l h1, ← Tr.ok_some h]; rfl
/-- What a body's run hands down. -/
def hintR (fr : HFrm) (rs : List ResultVar) : Option Nat :=
  match rs with
  | [.tmp t] => (hGetF fr t).2
  | _ => none
def outT (P : Program) (rs : List ResultVar) (x : Res) : Tr (HV × Heap) :=
  match x with
  | (e, fr, l :: H) => match e with
    | .normal | .ret => (resT P fr (l :: H) rs).bind fun vs => (frzT l.bs 5 (one vs)).bind fun v => .ok ((v, hintR fr rs), H)
    | _ => .bad
  | _ => .bad
theorem outT_ok {P : Program} {rs : List ResultVar} {x : Res} {y : HV × Heap} (h : (outT P rs x).run = some y) : ∃ l vs, x.2.2 = l :: y.2 ∧ (x.1 = .normal ∨ x.1 = .ret) ∧ resV P (strip x.2.1) x.2.2 rs = some vs ∧ frzV l.bs 5 (one vs) = y.1.1 := by
  unfold outT at h
  split at h
  · rename_i e fr l H
    have key : ((resT P fr (l :: H) rs).bind fun vs => (frzT l.bs 5 (one vs)).bind fun v => Tr.ok (((v, hintR fr rs), H) : HV × Heap)).run = some y → ∃ vs, l :: H = l :: y.2 ∧ resV P (strip fr) (l :: H) rs = some vs ∧ frzV l.bs 5 (one vs) = y.1.1 := by
      intro h
      obtain ⟨vs, h1, h⟩ := Tr.bind_some h
      obtain ⟨v, h2, h⟩ := Tr.bind_some h
      have h := Tr.ok_some h
      refine ⟨vs, by rw [← h], resT_ok _ _ h1, ?_⟩
      rw [frzT_ok _ _ _ _ h2, ← h]
    split at h
    · obtain ⟨vs, h1, h2, h3⟩ := key h; exact ⟨l, vs, h1, .inl rfl, h2, h3⟩
    · obtain ⟨vs, h1, h2, h3⟩ := key h; exact ⟨l, vs, h1, .inr rfl, h2, h3⟩
    · exact (Tr.bad_some h).elim
  · exact (Tr.bad_some h).elim
/-- A function's call, by its body. -/
def bodyT (P : Program) (call : CallT) (fu : Nat) (f : FuncId) (fn : Func) (kt : Nat → Nat) (callR : CallTr) (bl : BlkT) (rg : RgT) (args : List HV) (H : Heap) : Tr (HV × Heap) :=
  (execT ⟨P, call, fu, f, fn.ntmps, kt, none⟩ callR bl rg (bodyOf fn) (argH args 0) (⟨false, []⟩ :: H)).bind fun x => outT P fn.results.toList x
theorem bodyT_ok {P : Program} {ora : CallT → FuncId → List AV → Heap → Option (AV × Heap)} {KT : FuncId → Nat → Nat} {fu n : Nat} {f : FuncId} {fn : Func} (hf : P.funcs[f]? = some fn) (hb : fn.body.isSome = true) {args : List HV} {H : Heap} (ho : ora (callN P ora KT fu n) f (avs args) H = none) (hle : Nat.ble args.length fn.ntmps = true)
    {callR : CallTr} (hC : callR.Ok (callN P ora KT fu n)) {bl : BlkT} (hB : bl.Ok ⟨P, callN P ora KT fu n, fu, f, fn.ntmps, KT f, none⟩ (bodyOf fn)) {rg : RgT} (hR : rg.Ok ⟨P, callN P ora KT fu n, fu, f, fn.ntmps, KT f, none⟩ (bodyOf fn)) {y : HV × Heap}
    (h : (bodyT P (callN P ora KT fu n) fu f fn (KT f) callR bl rg args H).run = some y) : callN P ora KT fu (n + 1) (.fn f) (avs args) H = some (y.1.1, y.2) := by
  unfold bodyT at h
  obtain ⟨x, h1, h⟩ := Tr.bind_some h
  have h1 := execT_ok hC _ hB hR _ _ _ h1
  rw [argH_eq] at h1
  obtain ⟨l, vs, k1, k2, k3, k4⟩ := outT_ok h
  obtain ⟨c, hc⟩ := Option.isSome_iff_exists.1 hb
  have hbody : bodyOf fn = c := by unfold bodyOf; rw [hc]
  rw [hbody] at h1
  obtain ⟨e, fr, H1⟩ := x
  dsimp only [Res.st] at h1 k1 k2 k3
  rw [k1] at h1 k3
  have hl : (avs args).length = args.length := by unfold avs; rw [mapX_eq, List.length_map]
  simp only [callN, ho, hf, hc, hl, hle, if_true, h1]
  rcases k2 with rfl | rfl <;> simp only [k3] <;> rw [k4]

/-! ### Loops -/
theorem exec_seq {cx : Cx} {a b : Code} {fr fr1 : Frm} {H H1 : Heap} {x : Ex × Frm × Heap} (h : exec cx a fr H = some (.normal, fr1, H1)) (k : exec cx b fr1 H1 = some x) : exec cx (.seq a b) fr H = some x := by
  unfold exec; rw [h]; exact k
theorem exec_block_loop {cx : Cx} {id : Nat} {b : Code} {fr fr1 : Frm} {H H1 : Heap} (h : iter (exec cx b) (hNext H) cx.fu fr H = some (.exit id, fr1, H1)) : exec cx (.block id (.loop b)) fr H = some (.normal, fr1, H1) := by
  unfold exec
  have : exec cx (.loop b) fr H = some (.exit id, fr1, H1) := by unfold exec; exact h
  rw [this]
  dsimp only
  rw [if_pos (by simp)]
theorem exec_block_loop_other {cx : Cx} {id : Nat} {b : Code} {fr fr1 : Frm} {H H1 : Heap} {e : Ex} (he : ∀ id', e = .exit id' → Nat.beq id' id = false) (h : iter (exec cx b) (hNext H) cx.fu fr H = some (e, fr1, H1)) : exec cx (.block id (.loop b)) fr H = some (e, fr1, H1) := by
  unfold exec
  have : exec cx (.loop b) fr H = some (e, fr1, H1) := by unfold exec; exact h
  rw [this]
  cases e with
  | exit id' => dsimp only; rw [if_neg (by rw [he id' rfl]; simp)]
  | _ => rfl
/-- The first place, from j on, of k. -/
def fN (p : Nat → Bool) : Nat → Nat → Nat
  | 0, j => j
  | k + 1, j => if p j then j else fN p k (j + 1)
theorem fN_spec (p : Nat → Bool) : ∀ (k j : Nat), j ≤ fN p k j ∧ fN p k j ≤ j + k ∧ (∀ i, j ≤ i → i < fN p k j → p i = false) ∧ (fN p k j < j + k → p (fN p k j) = true)
  | 0, j => ⟨Nat.le_refl _, Nat.le_refl _, fun i h1 h2 => absurd h2 (by simp only [fN]; omega), fun h => absurd h (by simp only [fN]; omega)⟩
  | k + 1, j => by
    simp only [fN]
    by_cases h : p j = true
    · rw [if_pos h]
      exact ⟨Nat.le_refl _, by omega, fun i h1 h2 => by omega, fun _ => h⟩
    · rw [if_neg h]
      obtain ⟨h1, h2, h3, h4⟩ := fN_spec p k (j + 1)
      refine ⟨by omega, by omega, fun i k1 k2 => ?_, fun k1 => h4 (by omega)⟩
      by_cases e : i = j
      · subst e; simpa using h
      · exact h3 i (by omega) k2
/-- A loop that goes up to N, or up to the first place at which it is left. -/
theorem iter_find {body : Frm → Heap → Option (Ex × Frm × Heap)} {n : Nat} (F : Nat → Frm) (G : Nat → Heap) (N : Nat) (p : Nat → Bool) (X : Nat → Ex × Frm × Heap)
    (hs : ∀ j, j < N → p j = false → ∃ f g, body (F j) (G j) = some (.normal, f, g) ∧ tidy n f g = (F (j + 1), G (j + 1)))
    (hh : ∀ j, j < N → p j = true → body (F j) (G j) = some (X j) ∧ (X j).1 ≠ .normal) (he : body (F N) (G N) = some (X N) ∧ (X N).1 ≠ .normal) :
    ∀ (k j fu : Nat), j + k = N → k < fu → iter body n fu (F j) (G j) = some (X (fN p k j))
  | 0, j, 0, _, h => by omega
  | 0, j, fu + 1, hj, _ => by
    have : j = N := by omega
    subst this
    unfold iter
    rw [he.1]
    obtain ⟨x, hx⟩ : ∃ x, x = X j := ⟨_, rfl⟩
    have hn := he.2
    simp only [fN]
    rw [← hx] at hn ⊢
    obtain ⟨e, f, g⟩ := x
    cases e <;> first | exact absurd rfl hn | rfl
  | k + 1, j, 0, _, h => by omega
  | k + 1, j, fu + 1, hj, hf => by
    unfold iter
    cases hp : p j with
    | true =>
      obtain ⟨h1, h2⟩ := hh j (by omega) hp
      rw [h1]
      simp only [fN]
      rw [if_pos hp]
      obtain ⟨x, hx⟩ : ∃ x, x = X j := ⟨_, rfl⟩
      rw [← hx] at h2 ⊢
      obtain ⟨e, f, g⟩ := x
      cases e <;> first | exact absurd rfl h2 | rfl
    | false =>
      obtain ⟨f, g, h1, h2⟩ := hs j (by omega) hp
      rw [h1]
      dsimp only
      rw [h2]
      simp only [fN]
      rw [if_neg (by rw [hp]; simp)]
      exact iter_find F G N p X hs hh he k (j + 1) fu (by omega) (by omega)
/-- A loop that goes up to N. -/
theorem iter_for {body : Frm → Heap → Option (Ex × Frm × Heap)} {n : Nat} (F : Nat → Frm) (G : Nat → Heap) (N : Nat) (X : Ex × Frm × Heap)
    (hs : ∀ j, j < N → ∃ f g, body (F j) (G j) = some (.normal, f, g) ∧ tidy n f g = (F (j + 1), G (j + 1)))
    (he : body (F N) (G N) = some X ∧ X.1 ≠ .normal) (fu : Nat) (hf : N < fu) : iter body n fu (F 0) (G 0) = some X := by
  have := iter_find (n := n) F G N (fun _ => false) (fun _ => X) (fun j hj _ => hs j hj) (fun j _ h => by cases h) he N 0 fu (by omega) hf
  exact this
/-- A loop's rounds: a state for each, and the first in which it is left. -/
theorem iter_inv {body : Frm → Heap → Option (Ex × Frm × Heap)} {n : Nat} (I : Nat → Frm → Heap → Prop) (Q : Ex × Frm × Heap → Prop) (N : Nat)
    (hr : ∀ j fr H, I j fr H → (∃ e f g, body fr H = some (e, f, g) ∧ ((e = .normal ∧ j < N ∧ I (j + 1) (tidy n f g).1 (tidy n f g).2) ∨ (e ≠ .normal ∧ Q (e, f, g))))) :
    ∀ (fu j : Nat) (fr : Frm) (H : Heap), I j fr H → N - j < fu → ∃ x, iter body n fu fr H = some x ∧ Q x
  | 0, j, fr, H, _, h => by omega
  | fu + 1, j, fr, H, hI, h => by
    obtain ⟨e, f, g, h1, h2⟩ := hr j fr H hI
    unfold iter
    rw [h1]
    rcases h2 with ⟨rfl, hj, h2⟩ | ⟨he, hq⟩
    · dsimp only
      exact iter_inv I Q N hr fu (j + 1) _ _ h2 (by omega)
    · cases e <;> first | exact absurd rfl he | exact ⟨_, rfl, hq⟩

end
end Go.Eng
end
section
namespace Go.Eng
set_option linter.unusedVariables false
set_option linter.unusedSimpArgs false
noncomputable section

/-- A table of calls, in the mode in which zeros are laid down as parts. -/
def oraS (tab : List Ora) : CallT → FuncId → List AV → Heap → Option (AV × Heap) := fun call f args H =>
  cond (Nat.beq f 1000000) (match H with
    | [] => some (.undef, [])
    | _ => none) (oraT tab call f args H)
theorem oraS_ok {P : Program} (tab : List Ora) (hT : ∀ e ∈ tab, OneOk P e) : OraOk P (oraS tab) := by
  intro call hC f args H v H' h hne
  unfold oraS at h
  cases hb : Nat.beq f 1000000 with
  | true =>
    rw [hb, cond_true] at h
    cases H with
    | nil => exact absurd rfl hne
    | cons l r => simp at h
  | false =>
    rw [hb, cond_false] at h
    exact oraT_ok tab hT call hC f args H v H' h hne
theorem oraS_mode (P : Program) (tab : List Ora) (KT : FuncId → Nat → Nat) (fu n : Nat) : ∃ x, callN P (oraS tab) KT fu n .mode [] [] = some x := by
  cases n <;> exact ⟨_, rfl⟩

/-- Calls that are known, as trees. -/
abbrev Ctr := FuncId → Option (List HV → Heap → Tr (HV × Heap))
def Ctr.Ok (tab : Ctr) (call : CallT) : Prop := ∀ f g, tab f = some g → ∀ args H x, (g args H).run = some x → call (.fn f) (avs args) H = some (x.1.1, x.2)
variable (P : Program) (ora : CallT → FuncId → List AV → Heap → Option (AV × Heap)) (KT : FuncId → Nat → Nat) (fu : Nat) (no : FuncId → Bool) (tab : Ctr) (n : Nat)
/-- Calls k deep are carried out where they stand. -/
def inlT : Nat → CallTr
  | 0 => fun tgt args H => match tgt with
    | .fn g => match tab g with
      | some c => c args H
      | none => .bad
    | _ => .bad
  | k + 1 => fun tgt args H => match tgt with
    | .fn g => match tab g with
      | some c => c args H
      | none => cond (no g) .bad (match P.funcs[g]? with
        | some fn => match fn.body with
          | some _ => cond (Nat.ble (lenX args) fn.ntmps) (bodyT P (callN P ora KT fu (n + k)) fu g fn (KT g) (inlT k) noBT noRT args H) .bad
          | none => .bad
        | none => .bad)
    | _ => .bad
theorem inlT_ok (hno : ∀ g, no g = false → ∀ c args H, ora c g args H = none) (hm : ∀ k, ∃ x, callN P ora KT fu k .mode [] [] = some x) (ht : ∀ k, tab.Ok (callN P ora KT fu (n + k))) : ∀ k, (inlT P ora KT fu no tab n k).Ok (callN P ora KT fu (n + k))
  | 0 => ⟨hm _, fun tgt args H x h => by
    unfold inlT at h
    split at h
    · split at h
      · rename_i c hc
        exact ht 0 _ _ hc _ _ _ h
      · exact (Tr.bad_some h).elim
    · exact (Tr.bad_some h).elim⟩
  | k + 1 => ⟨hm _, fun tgt args H x h => by
    unfold inlT at h
    split at h
    · rename_i g
      split at h
      · rename_i c hc
        exact ht (k + 1) _ _ hc _ _ _ h
      · obtain ⟨hn, h⟩ := Tr.cond_bad' h
        split at h
        · rename_i fn hf
          split at h
          · rename_i c hb
            obtain ⟨hl, h⟩ := Tr.cond_bad h
            rw [lenX_eq] at hl
            exact bodyT_ok hf (by rw [hb]; rfl) (hno g hn _ _ _) hl (inlT_ok hno hm ht k) (noBT_ok _ _) (noRT_ok _ _) h
          · exact (Tr.bad_some h).elim
        · exact (Tr.bad_some h).elim
    · exact (Tr.bad_some h).elim⟩
def noCt : Ctr := fun _ => none
theorem noCt_ok (call : CallT) : noCt.Ok call := fun _ _ h => by cases h
def addCt (t : Ctr) (f : FuncId) (g : List AV → Heap → Tr (AV × Heap)) : Ctr := fun x => cond (Nat.beq x f) (some fun args H => (g (avs args) H).bind fun y => .ok ((y.1, none), y.2)) (t x)
theorem addCt_ok {t : Ctr} {f : FuncId} {g : List AV → Heap → Tr (AV × Heap)} {call : CallT} (h : t.Ok call) (k : ∀ args H x, (g args H).run = some x → call (.fn f) args H = some x) : (addCt t f g).Ok call := by
  intro f' g' hg args H x hx
  unfold addCt at hg
  cases hb : Nat.beq f' f with
  | true =>
    rw [hb, cond_true, Option.some.injEq] at hg
    have := Nat.eq_of_beq_eq_true hb
    subst this; subst hg
    obtain ⟨y, h1, h2⟩ := Tr.bind_some hx
    have := k _ _ _ h1
    rw [← Tr.ok_some h2]; exact this
  | false =>
    rw [hb, cond_false] at hg
    exact h _ _ hg _ _ _ hx

/-- A function of which it is known what it answers to some arguments, in each heap; it changes nothing. -/
def ctG (t : Ctr) (f : FuncId) (g : List AV → Option (Prop × AV)) : Ctr := fun x => cond (Nat.beq x f) (some fun args H => match g (avs args) with
  | some (p, v) => .reqP p (.ok ((v, none), H))
  | none => .bad) (t x)
theorem ctG_ok {t : Ctr} {f : FuncId} {g : List AV → Option (Prop × AV)} {call : CallT} (h : t.Ok call) (k : ∀ args p v, g args = some (p, v) → p → ∀ H, call (.fn f) args H = some (v, H)) : (ctG t f g).Ok call := by
  intro f' g' hg args H x hx
  unfold ctG at hg
  cases hb : Nat.beq f' f with
  | true =>
    rw [hb, cond_true, Option.some.injEq] at hg
    have := Nat.eq_of_beq_eq_true hb
    subst this; subst hg
    dsimp only at hx
    split at hx
    · rename_i p v hp
      obtain ⟨e1, hx⟩ := Tr.reqP_some hx
      rw [k _ p v hp e1 H, ← Tr.ok_some hx]
    · exact (Tr.bad_some hx).elim
  | false =>
    rw [hb, cond_false] at hg
    exact h _ _ hg _ _ _ hx
/-- A call of which it is known what it answers to these arguments, in this heap. -/
def ctE (t : Ctr) (f : FuncId) (args0 : List AV) (H0 : Heap) (u : Tr (AV × Heap)) : Ctr := fun x => cond (Nat.beq x f) (some fun args H => .reqP (avs args = args0 ∧ H = H0) (u.bind fun y => .ok ((y.1, none), y.2))) (t x)
theorem ctE_ok {t : Ctr} {f : FuncId} {args0 : List AV} {H0 : Heap} {u : Tr (AV × Heap)} {call : CallT} (h : t.Ok call) (k : ∀ x, u.run = some x → call (.fn f) args0 H0 = some x) : (ctE t f args0 H0 u).Ok call := by
  intro f' g' hg args H x hx
  unfold ctE at hg
  cases hb : Nat.beq f' f with
  | true =>
    rw [hb, cond_true, Option.some.injEq] at hg
    have := Nat.eq_of_beq_eq_true hb
    subst this; subst hg
    obtain ⟨⟨e1, e2⟩, hx⟩ := Tr.reqP_some hx
    obtain ⟨y, h1, h2⟩ := Tr.bind_some hx
    rw [e1, e2, k _ h1, ← Tr.ok_some h2]
  | false =>
    rw [hb, cond_false] at hg
    exact h _ _ hg _ _ _ hx

/-! ### What the kernel does not look into, told -/
theorem shO_zero (z : Nat → Int) : shO z 0 = z := by rw [shO_fn]; funext j; simp
theorem ver0 : andB (leN 0 0) (leN 0 1) = true := by simp [andB_eq, leN_eq]
theorem beqN_self (a : Nat) : eqN a a = true := by simp [eqN_eq]

end
end Go.Eng
end
