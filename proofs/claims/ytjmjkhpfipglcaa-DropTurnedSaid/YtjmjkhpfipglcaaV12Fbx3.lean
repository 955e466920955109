/- Drop: First. -/
import Derived.Test.YtjmjkhpfipglcaaV12Fa
import Derived.Test.YtjmjkhpfipglcaaV12DrTx3
import Derived.Test.YtjmjkhpfipglcaaV12DrAx4
section
namespace Go.Eng
open Go.Proofs
set_option linter.unusedVariables false
set_option linter.unusedSimpArgs false
set_option maxRecDepth 100000
def g76 (wn : Int → Int) : List AV → Option (Prop × AV)
  | [.int .i64 k, .ptr 0 0 0 0, .ptr 0 1 0 0, .ptr 0 2 0 0] => some (True, .int .i64 (wn k))
  | _ => none
noncomputable def g71v (w : Int) (ls : Nat) (zs : Nat → Int) (p q : Int) (side : Nat → (Nat → Int) → Prop) (kf : Nat → (Nat → Int) → Int) : List AV → Option (Prop × AV)
  | [.agg (.G [.int .i64 w', S, .slcT none (.M [.arr .i64 z N]) 3 m full]), .int .i64 p', .int .i64 q'] => some (w' = w ∧ S = slA 2 ls zs ∧ N = mulO m 3 ∧ full = false ∧ p' = p ∧ q' = q ∧ side m z, .int .i64 (kf m z))
  | _ => none
noncomputable def fr26 (p q i : Int) : Frm := [(1, AV.int .i64 p), (2, AV.int .i64 q), (3, AV.ptr 0 0 0 0), (6, AV.ptr 0 1 0 0), (8, AV.ptr 0 2 0 0), (9, AV.int .i64 i)]
noncomputable def lv26 (w : Int) (ls ld : Nat) (zs zd : Nat → Int) (a b : Int) : Lvl := ⟨false, [(0, .row (.G [.int .i64 w, slA 2 ls zs, slA 3 ld zd])), (0, .row (.I .i64 [0, 0])), (0, .row (.I .i64 [a, b]))]⟩
theorem t26 (n : Nat) (w : Int) (ls ld : Nat) (zs zd : Nat → Int) (H : Heap) (p q i a b : Int) (side : Nat → (Nat → Int) → Prop) (kf : Nat → (Nat → Int) → Int) : execT (cxD (n+7) 26 58) (il (ctG noCt 71 (g71v w ls zs p q side kf)) (n+6) 1) noBT noRT (part Try.f26 [1,1,1,1,0,1,0,0]) (hints (fr26 p q i)) (lv26 w ls ld zs zd a b :: H) =
  Tr.ite (leI (Int.ofNat 0) i) (Tr.req (bndI i ld) (Tr.req (leN (addO (mulO 0 3) (mulO (toN i) 3)) (mulO ld 3)) (Tr.reqP (w = w ∧ slA 2 ls zs = slA 2 ls zs ∧ mulO (toN i) 3 = mulO (toN i) 3 ∧ andB false (eqN (toN i) ld) = false ∧ p = p ∧ q = q ∧ side (toN i) zd) (Tr.ite (leI (Int.ofNat 1) (kf (toN i) zd)) (Tr.ite (eqI (kf (toN i) zd) (Int.ofNat 2)) (Tr.ok (Ex.normal, [(1, AV.int .i64 p, none), (2, AV.int .i64 q, none), (3, AV.ptr 0 0 0 0, none), (6, AV.ptr 0 1 0 0, none), (8, AV.ptr 0 2 0 0, none), (9, AV.int .i64 (subI .i64 i (Int.ofNat 1)), none)], { lock := false, bs := [(0, Blk.row (Row.G [AV.int .i64 w, slA 2 ls zs, slA 3 ld zd])), (0, Blk.row (Row.I .i64 [Int.ofNat 0, Int.ofNat 0])), (0, Blk.row (Row.I .i64 [i, i]))] } :: H)) (Tr.ok (Ex.normal, [(1, AV.int .i64 p, none), (2, AV.int .i64 q, none), (3, AV.ptr 0 0 0 0, none), (6, AV.ptr 0 1 0 0, none), (8, AV.ptr 0 2 0 0, none), (9, AV.int .i64 (subI .i64 i (Int.ofNat 1)), none)], { lock := false, bs := [(0, Blk.row (Row.G [AV.int .i64 w, slA 2 ls zs, slA 3 ld zd])), (0, Blk.row (Row.I .i64 [Int.ofNat 0, Int.ofNat 0])), (0, Blk.row (Row.I .i64 [i, b]))] } :: H))) (Tr.ite (eqI (kf (toN i) zd) (Int.ofNat 2)) (Tr.ok (Ex.normal, [(1, AV.int .i64 p, none), (2, AV.int .i64 q, none), (3, AV.ptr 0 0 0 0, none), (6, AV.ptr 0 1 0 0, none), (8, AV.ptr 0 2 0 0, none), (9, AV.int .i64 (subI .i64 i (Int.ofNat 1)), none)], { lock := false, bs := [(0, Blk.row (Row.G [AV.int .i64 w, slA 2 ls zs, slA 3 ld zd])), (0, Blk.row (Row.I .i64 [Int.ofNat 0, Int.ofNat 0])), (0, Blk.row (Row.I .i64 [a, i]))] } :: H)) (Tr.ok (Ex.normal, [(1, AV.int .i64 p, none), (2, AV.int .i64 q, none), (3, AV.ptr 0 0 0 0, none), (6, AV.ptr 0 1 0 0, none), (8, AV.ptr 0 2 0 0, none), (9, AV.int .i64 (subI .i64 i (Int.ofNat 1)), none)], { lock := false, bs := [(0, Blk.row (Row.G [AV.int .i64 w, slA 2 ls zs, slA 3 ld zd])), (0, Blk.row (Row.I .i64 [Int.ofNat 0, Int.ofNat 0])), (0, Blk.row (Row.I .i64 [a, b]))] } :: H))))))) (Tr.ok (Ex.exit 0, [(1, AV.int .i64 p, none), (2, AV.int .i64 q, none), (3, AV.ptr 0 0 0 0, none), (6, AV.ptr 0 1 0 0, none), (8, AV.ptr 0 2 0 0, none), (9, AV.int .i64 i, none), (40, AV.bool false, some 1)], { lock := false, bs := [(0, Blk.row (Row.G [AV.int .i64 w, slA 2 ls zs, slA 3 ld zd])), (0, Blk.row (Row.I .i64 [Int.ofNat 0, Int.ofNat 0])), (0, Blk.row (Row.I .i64 [a, b]))] } :: H)) := by kernel_rfl
theorem u26 (n : Nat) (w : Int) (ls ld : Nat) (zs zd : Nat → Int) (H : Heap) (p q e a b : Int) (side : Nat → (Nat → Int) → Prop) (kf : Nat → (Nat → Int) → Int) : bodyT Try.prog (cd (n+7)) 100000 26 Try.f26 (Kt.kt 26) (il (ctG (ctG noCt 70 (g70 (bathA w ls zs ld zd) p q e)) 71 (g71v w ls zs p q side kf)) (n+6) 1) (blkE noBT 0 (fr26 p q (Int.ofNat ld)) (lv26 w ls ld zs zd (addI .i64 (Int.ofNat ld) (Int.ofNat 1)) (addI .i64 (Int.ofNat ld) (Int.ofNat 1)) :: H) (.ok (.normal, hints (fr26 p q (-1) ++ [(40, AV.bool false)]), lv26 w ls ld zs zd a b :: H))) noRT [(bathA w ls zs ld zd, none), (.int .i64 p, none), (.int .i64 q, none)] H =
  Tr.reqP (bathA w ls zs ld zd = bathA w ls zs ld zd ∧ p = p ∧ q = q) (Tr.ite (notB (eqI e (Int.ofNat 0))) (Tr.reqP (bathA w ls zs ld zd = bathA w ls zs ld zd ∧ p = p ∧ q = q) (Tr.ok ((AV.tup [AV.agg (Row.I .i64 [Int.ofNat 0, Int.ofNat 0]), AV.int .i64 e], none), H))) (Tr.reqP (w = w ∧ slA 2 ls zs = slA 2 ls zs ∧ mulO ld 3 = mulO ld 3 ∧ false = false ∧ p = p ∧ q = q ∧ side ld zd) (Tr.ite (eqI (kf ld zd) (Int.ofNat 0)) (Tr.ok ((AV.tup [AV.agg (Row.I .i64 [Int.ofNat 0, Int.ofNat 0]), AV.int .i64 (Int.ofNat 17)], none), H)) (Tr.reqP ([(1, AV.int .i64 p), (2, AV.int .i64 q), (3, AV.ptr 0 0 0 0), (6, AV.ptr 0 1 0 0), (8, AV.ptr 0 2 0 0), (9, AV.int .i64 (Int.ofNat ld))] = [(1, AV.int .i64 p), (2, AV.int .i64 q), (3, AV.ptr 0 0 0 0), (6, AV.ptr 0 1 0 0), (8, AV.ptr 0 2 0 0), (9, AV.int .i64 (Int.ofNat ld))] ∧ { lock := false, bs := [(0, Blk.row (Row.G [AV.int .i64 w, slA 2 ls zs, slA 3 ld zd])), (0, Blk.row (Row.I .i64 [Int.ofNat 0, Int.ofNat 0])), (0, Blk.row (Row.I .i64 [addI .i64 (Int.ofNat ld) (Int.ofNat 1), addI .i64 (Int.ofNat ld) (Int.ofNat 1)]))] } :: H = { lock := false, bs := [(0, Blk.row (Row.G [AV.int .i64 w, slA 2 ls zs, slA 3 ld zd])), (0, Blk.row (Row.I .i64 [Int.ofNat 0, Int.ofNat 0])), (0, Blk.row (Row.I .i64 [addI .i64 (Int.ofNat ld) (Int.ofNat 1), addI .i64 (Int.ofNat ld) (Int.ofNat 1)]))] } :: H) (Tr.ok ((AV.tup [AV.agg (Row.I .i64 [a, b]), AV.int .i64 (Int.ofNat 0)], none), H)))))) := by kernel_rfl
theorem u25a (n : Nat) (w : Int) (ls ld : Nat) (zs zd : Nat → Int) (H : Heap) (p q e : Int) : bodyT Try.prog (cd (n+15)) 100000 25 Try.f25 (Kt.kt 25) (il (ctG (ctG noCt 68 (g68 (bathA w ls zs ld zd) p q .nilp e)) 76 (fun _ => none)) (n+14) 1) noBT noRT [(bathA w ls zs ld zd, none), (.int .i64 p, none), (.int .i64 q, none)] H =
  Tr.reqP (bathA w ls zs ld zd = bathA w ls zs ld zd ∧ p = p ∧ q = q) (Tr.ite (notB (eqI e (Int.ofNat 0))) (Tr.ok ((AV.tup [AV.agg (Row.I .i64 [Int.ofNat 0, Int.ofNat 0]), AV.int .i64 e], none), H)) Tr.bad) := by kernel_rfl
theorem u25b (n : Nat) (w : Int) (ls ld : Nat) (zs zd sz kd : Nat → Int) (H : Heap) (p q : Int) (wn : Int → Int) : bodyT Try.prog (cd (n+15)) 100000 25 Try.f25 (Kt.kt 25) (il (ctH (ctG noCt 68 (g68 (bathA w ls zs ld zd) p q (tabV w ls ld zs zd sz kd) 0)) 76 (lvQ w ls ld zs zd p q :: H) (g76 wn)) (n+14) 1) noBT noRT [(bathA w ls zs ld zd, none), (.int .i64 p, none), (.int .i64 q, none)] H =
  Tr.reqP (bathA w ls zs ld zd = bathA w ls zs ld zd ∧ p = p ∧ q = q) (Tr.ite (notB (eqI (Int.ofNat 0) (Int.ofNat 0))) (Tr.ok ((AV.tup [AV.agg (Row.I .i64 [Int.ofNat 0, Int.ofNat 0]), AV.int .i64 (Int.ofNat 0)], none), H)) (Tr.req (inI (addI .i64 p (Int.ofNat 2)) 12) (Tr.req (inI (addI .i64 q (Int.ofNat 2)) 12) (Tr.req (inO (idO (idO 4 (addI .i64 p (Int.ofNat 2)) 12) (addI .i64 q (Int.ofNat 2)) 1) 1 4 144) (Tr.ite (eqI (kd (subO (idO (idO 4 (addI .i64 p (Int.ofNat 2)) 12) (addI .i64 q (Int.ofNat 2)) 1) 4)) (Int.ofNat 0)) (Tr.ok ((AV.tup [AV.agg (Row.I .i64 [Int.ofNat 0, Int.ofNat 0]), AV.int .i64 (Int.ofNat 17)], none), H)) (Tr.reqP (True ∧ { lock := false, bs := [(0, Blk.row (Row.G [AV.int .i64 w, slA 2 ls zs, slA 3 ld zd])), (0, Blk.row (Row.I .i64 [p])), (0, Blk.row (Row.I .i64 [q])), (0, Blk.row (Row.I .i64 [Int.ofNat 0, Int.ofNat 0]))] } :: H = { lock := false, bs := [(0, Blk.row (Row.G [AV.int .i64 w, slA 2 ls zs, slA 3 ld zd])), (0, Blk.row (Row.I .i64 [p])), (0, Blk.row (Row.I .i64 [q])), (0, Blk.row (Row.I .i64 [Int.ofNat 0, Int.ofNat 0]))] } :: H) (Tr.reqP (True ∧ { lock := false, bs := [(0, Blk.row (Row.G [AV.int .i64 w, slA 2 ls zs, slA 3 ld zd])), (0, Blk.row (Row.I .i64 [p])), (0, Blk.row (Row.I .i64 [q])), (0, Blk.row (Row.I .i64 [Int.ofNat 0, Int.ofNat 0]))] } :: H = { lock := false, bs := [(0, Blk.row (Row.G [AV.int .i64 w, slA 2 ls zs, slA 3 ld zd])), (0, Blk.row (Row.I .i64 [p])), (0, Blk.row (Row.I .i64 [q])), (0, Blk.row (Row.I .i64 [Int.ofNat 0, Int.ofNat 0]))] } :: H) (Tr.ok ((AV.tup [AV.agg (Row.I .i64 [wn (Int.ofNat 1), wn (Int.ofNat 2)]), AV.int .i64 (Int.ofNat 0)], none), H))))))))) := by kernel_rfl
theorem u26x (n : Nat) (w : Int) (ls ld : Nat) (zs zd : Nat → Int) (H : Heap) (p q e : Int) : bodyT Try.prog (cd (n+7)) 100000 26 Try.f26 (Kt.kt 26) (il (ctG (ctG noCt 70 (g70 (bathA w ls zs ld zd) p q e)) 71 (fun _ => none)) (n+6) 1) noBT noRT [(bathA w ls zs ld zd, none), (.int .i64 p, none), (.int .i64 q, none)] H =
  Tr.reqP (bathA w ls zs ld zd = bathA w ls zs ld zd ∧ p = p ∧ q = q) (Tr.ite (notB (eqI e (Int.ofNat 0))) (Tr.reqP (bathA w ls zs ld zd = bathA w ls zs ld zd ∧ p = p ∧ q = q) (Tr.ok ((AV.tup [AV.agg (Row.I .i64 [Int.ofNat 0, Int.ofNat 0]), AV.int .i64 e], none), H))) Tr.bad) := by kernel_rfl
/-- What First answers. -/
def firN (w : Int) (ls ld : Nat) (zs zd : Nat → Int) (p q : Int) : Int × Int × Int :=
  if plE w ls ld zs zd p q ≠ 0 then (0, 0, plE w ls ld zs zd p q)
  else if kndR w ld zs zd p q = 0 then (0, 0, 17)
  else ((whenN w ld zs zd p q 1 : Nat), (whenN w ld zs zd p q 2 : Nat), 0)
def firV (x : Int × Int × Int) : AV := .tup [.agg (.I .i64 [x.1, x.2.1]), .int .i64 x.2.2]
/-- The least number of drops up to ld of which a test holds, found from above; ld + 1 if there is none. -/
def dnN (t : Nat → Bool) (ld : Nat) : Nat → Nat
  | 0 => ld + 1
  | j + 1 => if t (ld - j) = true then ld - j else dnN t ld j
theorem dnN_spec (t : Nat → Bool) (ld : Nat) : ∀ j, j ≤ ld + 1 → (dnN t ld j = ld + 1 ∧ ∀ m, ld + 1 - j ≤ m → m ≤ ld → t m = false) ∨ (ld + 1 - j ≤ dnN t ld j ∧ dnN t ld j ≤ ld ∧ t (dnN t ld j) = true ∧ ∀ m, ld + 1 - j ≤ m → m < dnN t ld j → t m = false)
  | 0, _ => .inl ⟨rfl, fun m h1 h2 => by omega⟩
  | j + 1, hj => by
    simp only [dnN]
    cases h : t (ld - j) with
    | true => rw [if_pos rfl]; exact .inr ⟨by omega, by omega, h, fun m h1 h2 => by omega⟩
    | false =>
      rw [if_neg (by simp)]
      have e : ∀ m, ld + 1 - (j + 1) ≤ m → m ≠ ld - j → ld + 1 - j ≤ m := fun m h1 h2 => by omega
      rcases dnN_spec t ld j (by omega) with ⟨h1, h2⟩ | ⟨h1, h2, h3, h4⟩
      · refine .inl ⟨h1, fun m k1 k2 => ?_⟩
        by_cases e1 : m = ld - j
        · rw [e1]; exact h
        · exact h2 m (e m k1 e1) k2
      · refine .inr ⟨by omega, h2, h3, fun m k1 k2 => ?_⟩
        by_cases e1 : m = ld - j
        · rw [e1]; exact h
        · exact h4 m (e m k1 e1) k2
theorem dnN_fN {t : Nat → Bool} {ld : Nat} (h0 : t 0 = false) : dnN t ld (ld + 1) = fN (fun j => t (j + 1)) ld 0 + 1 := by
  obtain ⟨f1, f2, f3, f4⟩ := fN_spec (fun j => t (j + 1)) ld 0
  rcases dnN_spec t ld (ld + 1) (Nat.le_refl _) with ⟨h1, h2⟩ | ⟨h1, h2, h3, h4⟩
  · by_cases e : fN (fun j => t (j + 1)) ld 0 < ld
    · have := h2 (fN (fun j => t (j + 1)) ld 0 + 1) (by omega) (by omega)
      rw [f4 (by omega)] at this; cases this
    · omega
  · have hp : dnN t ld (ld + 1) ≠ 0 := fun e => by rw [e, h0] at h3; cases h3
    apply Nat.le_antisymm
    · apply Nat.le_of_not_lt
      intro hlt
      have := h4 (fN (fun j => t (j + 1)) ld 0 + 1) (by omega) (by omega)
      rw [f4 (by omega)] at this; cases this
    · apply Nat.le_of_not_lt
      intro hlt
      have := f3 (dnN t ld (ld + 1) - 1) (by omega) (by omega)
      rw [show dnN t ld (ld + 1) - 1 + 1 = dnN t ld (ld + 1) by omega, h3] at this
      cases this
theorem touch_zero {w : Int} {zs : Nat → Int} {so : Int → Int} {p q : Int} (h : ∀ s, so s = 0) : touchT w zs so p q = false := by
  unfold touchT
  split
  · rfl
  · dsimp only
    rw [if_pos (h _)]
theorem dnN_step {t : Nat → Bool} {ld j : Nat} {P : Prop} [Decidable P] (h : t (ld - j) = decide P) (hj : j ≤ ld) : ((dnN t ld (j + 1) : Nat) : Int) = if P then (ld : Int) - (j : Nat) else ((dnN t ld j : Nat) : Int) := by
  have ec : ((ld - j : Nat) : Int) = (ld : Int) - (j : Nat) := by omega
  simp only [dnN, h]
  by_cases hP : P
  · rw [if_pos (by simpa using hP), if_pos hP]; exact ec
  · rw [if_neg (by simpa using hP), if_neg hP]
theorem knd_zero {w : Int} {zs zd : Nat → Int} {p q : Int} : kndR w 0 zs zd p q = 0 := by
  unfold kndR
  rw [touch_zero (so := szE false zd 0) (fun s => rfl), touch_zero (so := szE true zd 0) (fun s => rfl)]
  rfl
theorem knd_le {w : Int} {ld : Nat} {zs zd : Nat → Int} {p q : Int} : kndR w ld zs zd p q ≤ 2 := by
  unfold kndR
  split
  · omega
  · split <;> omega
theorem when_one {w : Int} {ld : Nat} {zs zd : Nat → Int} {p q : Int} : dnN (fun m => decide (1 ≤ kndR w m zs zd p q)) ld (ld + 1) = whenN w ld zs zd p q 1 := by
  rw [dnN_fN (by simp [knd_zero])]; rfl
theorem when_two {w : Int} {ld : Nat} {zs zd : Nat → Int} {p q : Int} : dnN (fun m => decide (kndR w m zs zd p q = 2)) ld (ld + 1) = whenN w ld zs zd p q 2 := by
  rw [dnN_fN (by simp [knd_zero])]
  unfold whenN
  congr 2
  funext j
  have := knd_le (w := w) (ld := j + 1) (zs := zs) (zd := zd) (p := p) (q := q)
  rw [decide_eq_decide]; omega
section
variable (n : Nat) (w : Int) (ls ld : Nat) (zs zd : Nat → Int) (H : Heap) (p q : Int)
theorem ct68 (k : Nat) (t : AV) (e : Int) (ht : t = plT w ls ld zs zd p q) (he : e = plE w ls ld zs zd p q) : (ctG noCt 68 (g68 (bathA w ls zs ld zd) p q t e)).Ok (cd (n + 14 + k)) := by
  subst ht; subst he
  refine ctG_ok (noCt_ok _) (fun args p v hg hp H => ?_)
  unfold g68 at hg
  split at hg
  · simp only [Option.some.injEq, Prod.mk.injEq] at hg
    obtain ⟨rfl, rfl⟩ := hg
    obtain ⟨rfl, rfl, rfl⟩ := hp
    rw [show n + 14 + k = n + k + 14 by omega]
    exact c68 _ w ls ld zs zd H _ _
  · cases hg
theorem c25 : cd (n + 16) (.fn 25) [bathA w ls zs ld zd, .int .i64 p, .int .i64 q] H = some (firV (firN w ls ld zs zd p q), H) := by
  by_cases h1 : plE w ls ld zs zd p q = 0
  · obtain ⟨a1, a2, a3, a4⟩ := plE_zero h1
    have b2 := a2; have b3 := a3
    have hc := chk_drops a1
    simp only [isPl, Bool.and_eq_true, decide_eq_true_eq] at b2 b3
    have ek := kd_knd a1 a2 a3 a4
    have ei : 4 + (p + 2).toNat * 12 + (q + 2).toNat * 1 - 4 = kix p q := by unfold kix; omega
    refine fn_all (n := n + 15) Try.func25 rfl rfl rfl (u25b n w ls ld zs zd (szs zd ld) (kdO w ls zs (szs zd ld) (ls + 2)) H p q (fun k => ((whenN w ld zs zd p q k : Nat) : Int))) (il_ok _ (n + 14) 1 (fun k => ctH_ok (ct68 n w ls ld zs zd p q k _ 0 (by unfold plT; rw [if_neg (fun h => h h1)]) h1.symm) (fun args p' v hg hp => ?_))) (noBT_ok _ _) (noRT_ok _ _) ?_
    · unfold g76 at hg
      split at hg
      · simp only [Option.some.injEq, Prod.mk.injEq] at hg
        obtain ⟨_, rfl⟩ := hg
        rw [show n + 14 + k = n + 4 + k + 10 by omega]
        exact c76 _ w _ p q ls ld zs zd H a1 a2 a3 a4
      · cases hg
    · unfold firN
      rw [if_neg (fun h => h h1)]
      repeat' first | (refine Tr.all_ite (fun hc => ?_) (fun hc => ?_) <;> (try simp (disch := omega) only [nV, mulO_eq, Int.cast_ofNat_Int, eq_self, ei, ek] at hc) <;> (try (exfalso; omega))) | (refine Tr.all_req ?_ ?_; · ((try simp (disch := omega) only [nV, mulO_eq, Int.cast_ofNat_Int, eq_self, ei, ek]); try omega)) | (refine Tr.all_reqP ?_ ?_; · first | exact trivial | rfl | exact ⟨rfl, rfl⟩ | exact ⟨rfl, rfl, rfl⟩ | (simp (disch := omega) only [nV, mulO_eq, Int.cast_ofNat_Int, eq_self, ei, ek]; done) | ((try simp (disch := omega) only [nV, mulO_eq, Int.cast_ofNat_Int, eq_self, ei, ek]); omega)) | fail
      · rw [if_pos hc]; exact Tr.all_ok ⟨rfl, rfl⟩
      · rw [if_neg hc]; exact Tr.all_ok ⟨rfl, rfl⟩
  · refine fn_all (n := n + 15) Try.func25 rfl rfl rfl (u25a n w ls ld zs zd H p q (plE w ls ld zs zd p q)) (il_ok _ (n + 14) 1 (fun k => ctG_ok (ct68 n w ls ld zs zd p q k _ _ (by unfold plT; rw [if_pos h1]) rfl) (fun args p v hg hp H => by cases hg))) (noBT_ok _ _) (noRT_ok _ _) ?_
    unfold firN
    rw [if_pos h1]
    repeat' first | (refine Tr.all_ite (fun hc => ?_) (fun hc => ?_) <;> (try simp (disch := omega) only [nV, mulO_eq, Int.cast_ofNat_Int, eq_self] at hc) <;> (try (exfalso; omega))) | (refine Tr.all_req ?_ ?_; · ((try simp (disch := omega) only [nV, mulO_eq, Int.cast_ofNat_Int, eq_self]); try omega)) | (refine Tr.all_reqP ?_ ?_; · first | exact trivial | rfl | exact ⟨rfl, rfl⟩ | exact ⟨rfl, rfl, rfl⟩ | (simp (disch := omega) only [nV, mulO_eq, Int.cast_ofNat_Int, eq_self]; done) | ((try simp (disch := omega) only [nV, mulO_eq, Int.cast_ofNat_Int, eq_self]); omega)) | fail
    exact Tr.all_ok ⟨rfl, rfl⟩
theorem ctH71 (h : chkB w ls ld zs zd = 0) (hp : isPl ls p = true) (hq : isPl ls q = true) (k : Nat) {t : Ctr} (ht : t.Ok (cd (n + 6 + k))) : (ctG t 71 (g71v w ls zs p q (fun m z => z = zd ∧ leN m ld = true) (fun m z => kndR w m zs z p q))).Ok (cd (n + 6 + k)) := by
  refine ctG_ok ht (fun args p' v hg hp' H => ?_)
  unfold g71v at hg
  split at hg
  · simp only [Option.some.injEq, Prod.mk.injEq] at hg
    obtain ⟨rfl, rfl⟩ := hg
    obtain ⟨rfl, rfl, rfl, rfl, rfl, rfl, rfl, hm⟩ := hp'
    rw [leN_eq, decide_eq_true_eq] at hm
    rw [show n + 6 + k = n + 1 + k + 5 by omega]
    exact c71 _ _ ls _ zs _ H _ _ (knd_ok (chk_part h hm (fun _ _ => rfl)) hp hq)
  · cases hg
theorem b26 : ∀ b, (0, b) ∈ blocksOf (bodyOf Try.f26) → b = .loop (part Try.f26 [1,1,1,1,0,1,0,0]) := by
  have : ((blocksOf (bodyOf Try.f26)).filter fun x => Nat.beq x.1 0) = [(0, .loop (part Try.f26 [1,1,1,1,0,1,0,0]))] := by kernel_rfl
  intro b hb
  have hm : (0, b) ∈ ((blocksOf (bodyOf Try.f26)).filter fun x => Nat.beq x.1 0) := List.mem_filter.2 ⟨hb, rfl⟩
  rw [this] at hm; simpa using hm
theorem l26 (h : chkB w ls ld zs zd = 0) (hp : isPl ls p = true) (hq : isPl ls q = true) : exec (cxD (n + 7) 26 58) (.block 0 (.loop (part Try.f26 [1,1,1,1,0,1,0,0]))) (fr26 p q (Int.ofNat ld)) (lv26 w ls ld zs zd (addI .i64 (Int.ofNat ld) (Int.ofNat 1)) (addI .i64 (Int.ofNat ld) (Int.ofNat 1)) :: H) = some (.normal, fr26 p q (-1) ++ [(40, AV.bool false)], lv26 w ls ld zs zd (whenN w ld zs zd p q 1 : Nat) (whenN w ld zs zd p q 2 : Nat) :: H) := by
  have hc := chk_drops h
  have e1 : addI .i64 (Int.ofNat ld) (Int.ofNat 1) = ((ld + 1 : Nat) : Int) := by simp (disch := omega) only [nV, mulO_eq, Int.cast_ofNat_Int, eq_self]; omega
  have e2 : Int.ofNat ld = (ld : Int) - (0 : Nat) := by simp
  rw [e1, e2, ← when_one, ← when_two]
  refine forL (il_ok _ (n + 6) 1 (fun k => ctH71 n w ls ld zs zd p q h hp hq k (noCt_ok _))) (noBT_ok _ _) (noRT_ok _ _) 0 (fun j => fr26 p q ((ld : Int) - (j : Nat))) (fun j => lv26 w ls ld zs zd (dnN (fun m => decide (1 ≤ kndR w m zs zd p q)) ld j : Nat) (dnN (fun m => decide (kndR w m zs zd p q = 2)) ld j : Nat) :: H) (ld + 1) (fr26 p q (-1) ++ [(40, AV.bool false)], lv26 w ls ld zs zd (dnN (fun m => decide (1 ≤ kndR w m zs zd p q)) ld (ld + 1) : Nat) (dnN (fun m => decide (kndR w m zs zd p q = 2)) ld (ld + 1) : Nat) :: H) (by omega) (fun j hj => ?_) ?_
  · rw [t26]
    have et : ((ld : Int) - (j : Nat)).toNat = ld - j := by omega
    have es : IntKind.i64.wrap ((ld : Int) - (j : Nat) - 1) = (ld : Int) - ((j + 1 : Nat) : Int) := by rw [wr_64 (by omega) (by omega)]; omega
    have ec : ((ld - j : Nat) : Int) = (ld : Int) - (j : Nat) := by omega
    repeat' first | (refine Tr.all_ite (fun hc => ?_) (fun hc => ?_) <;> (try simp (disch := omega) only [nV, mulO_eq, Int.cast_ofNat_Int, eq_self, et] at hc) <;> (try (exfalso; omega))) | (refine Tr.all_req ?_ ?_; · ((try simp (disch := omega) only [nV, mulO_eq, Int.cast_ofNat_Int, eq_self, et]); try omega)) | (refine Tr.all_reqP ?_ ?_; · first | exact trivial | rfl | exact ⟨rfl, rfl⟩ | exact ⟨rfl, rfl, rfl⟩ | (simp (disch := omega) only [nV, mulO_eq, Int.cast_ofNat_Int, eq_self, et]; done) | ((try simp (disch := omega) only [nV, mulO_eq, Int.cast_ofNat_Int, eq_self, et]); omega)) | fail
    all_goals
      refine Tr.all_ok ⟨rfl, ?_, ?_⟩
      · simp only [subI_eq, ofNat_cast, Int.natCast_one]
        rw [es]
        rfl
      · have d1 := dnN_step (t := fun m => decide (1 ≤ kndR w m zs zd p q)) (ld := ld) (j := j) (P := 1 ≤ kndR w (ld - j) zs zd p q) rfl (by omega)
        have d2 := dnN_step (t := fun m => decide (kndR w m zs zd p q = 2)) (ld := ld) (j := j) (P := kndR w (ld - j) zs zd p q = 2) rfl (by omega)
        rw [d1, d2]
        first
          | (rw [if_pos (by omega), if_pos (by omega)]; rfl)
          | (rw [if_pos (by omega), if_neg (by omega)]; rfl)
          | (rw [if_neg (by omega), if_pos (by omega)]; rfl)
          | (rw [if_neg (by omega), if_neg (by omega)]; rfl)
  · rw [t26]
    have em : (ld : Int) - ((ld + 1 : Nat) : Int) = -1 := by omega
    repeat' first | (refine Tr.all_ite (fun hc => ?_) (fun hc => ?_) <;> (try simp (disch := omega) only [nV, mulO_eq, Int.cast_ofNat_Int, eq_self] at hc) <;> (try (exfalso; omega))) | (refine Tr.all_req ?_ ?_; · ((try simp (disch := omega) only [nV, mulO_eq, Int.cast_ofNat_Int, eq_self]); try omega)) | (refine Tr.all_reqP ?_ ?_; · first | exact trivial | rfl | exact ⟨rfl, rfl⟩ | exact ⟨rfl, rfl, rfl⟩ | (simp (disch := omega) only [nV, mulO_eq, Int.cast_ofNat_Int, eq_self]; done) | ((try simp (disch := omega) only [nV, mulO_eq, Int.cast_ofNat_Int, eq_self]); omega)) | fail
    refine Tr.all_ok ⟨rfl, ?_, rfl⟩
    rw [em]
    rfl
theorem ct70a (k : Nat) (e : Int) (he : e = plE w ls ld zs zd p q) {t : Ctr} (ht : t.Ok (cd (n + 6 + k))) : (ctG t 70 (g70 (bathA w ls zs ld zd) p q e)).Ok (cd (n + 6 + k)) := by
  subst he
  refine ctG_ok ht (fun args p v hg hp H => ?_)
  unfold g70 at hg
  split at hg
  · simp only [Option.some.injEq, Prod.mk.injEq] at hg
    obtain ⟨rfl, rfl⟩ := hg
    obtain ⟨rfl, rfl, rfl⟩ := hp
    rw [show n + 6 + k = n + 1 + k + 5 by omega]
    exact c70 _ w ls ld zs zd H _ _
  · cases hg
theorem c26 : cd (n + 8) (.fn 26) [bathA w ls zs ld zd, .int .i64 p, .int .i64 q] H = some (firV (firN w ls ld zs zd p q), H) := by
  by_cases h1 : plE w ls ld zs zd p q = 0
  · obtain ⟨a1, a2, a3, a4⟩ := plE_zero h1
    refine fn_all (n := n + 7) Try.func26 rfl rfl rfl (u26 n w ls ld zs zd H p q 0 (whenN w ld zs zd p q 1 : Nat) (whenN w ld zs zd p q 2 : Nat) (fun m z => z = zd ∧ leN m ld = true) (fun m z => kndR w m zs z p q)) (il_ok _ (n + 6) 1 (fun k => ctH71 n w ls ld zs zd p q a1 a2 a3 k (ct70a n w ls ld zs zd p q k 0 h1.symm (noCt_ok _)))) (blkE_ok (noBT_ok _ _) b26 (fun x hx => by rw [← Tr.ok_some hx]; exact l26 n w ls ld zs zd H p q a1 a2 a3)) (noRT_ok _ _) ?_
    unfold firN
    rw [if_neg (fun h => h h1)]
    repeat' first | (refine Tr.all_ite (fun hc => ?_) (fun hc => ?_) <;> (try simp (disch := omega) only [nV, mulO_eq, Int.cast_ofNat_Int, eq_self] at hc) <;> (try (exfalso; omega))) | (refine Tr.all_req ?_ ?_; · ((try simp (disch := omega) only [nV, mulO_eq, Int.cast_ofNat_Int, eq_self]); try omega)) | (refine Tr.all_reqP ?_ ?_; · first | exact trivial | rfl | exact ⟨rfl, rfl⟩ | exact ⟨rfl, rfl, rfl⟩ | (simp (disch := omega) only [nV, mulO_eq, Int.cast_ofNat_Int, eq_self]; done) | ((try simp (disch := omega) only [nV, mulO_eq, Int.cast_ofNat_Int, eq_self]); omega)) | fail
    · rw [if_pos hc]; exact Tr.all_ok ⟨rfl, rfl⟩
    · rw [if_neg hc]; exact Tr.all_ok ⟨rfl, rfl⟩
  · refine fn_all (n := n + 7) Try.func26 rfl rfl rfl (u26x n w ls ld zs zd H p q (plE w ls ld zs zd p q)) (il_ok _ (n + 6) 1 (fun k => ctG_ok (ct70a n w ls ld zs zd p q k _ rfl (noCt_ok _)) (fun args p v hg hp H => by cases hg))) (noBT_ok _ _) (noRT_ok _ _) ?_
    unfold firN
    rw [if_pos h1]
    repeat' first | (refine Tr.all_ite (fun hc => ?_) (fun hc => ?_) <;> (try simp (disch := omega) only [nV, mulO_eq, Int.cast_ofNat_Int, eq_self] at hc) <;> (try (exfalso; omega))) | (refine Tr.all_req ?_ ?_; · ((try simp (disch := omega) only [nV, mulO_eq, Int.cast_ofNat_Int, eq_self]); try omega)) | (refine Tr.all_reqP ?_ ?_; · first | exact trivial | rfl | exact ⟨rfl, rfl⟩ | exact ⟨rfl, rfl, rfl⟩ | (simp (disch := omega) only [nV, mulO_eq, Int.cast_ofNat_Int, eq_self]; done) | ((try simp (disch := omega) only [nV, mulO_eq, Int.cast_ofNat_Int, eq_self]); omega)) | fail
    exact Tr.all_ok ⟨rfl, rfl⟩
end
end Go.Eng
end
section
namespace Go.Eng
open Go.Proofs
set_option linter.unusedVariables false
set_option linter.unusedSimpArgs false
set_option maxRecDepth 100000
theorem u43 (n : Nat) (w : Int) (ls ld : Nat) (zs zd : Nat → Int) (H : Heap) (a b : Int) : bodyT Try.prog (cd (n+2)) 100000 43 Try.f43 (Kt.kt 43) (il noCt n 2) noBT noRT [(bathA w ls zs ld zd, none), (.agg (.I .u8 [a, b]), none)] H =
  Tr.req (inI (Int.ofNat 0) 2) (Tr.req (notB (eqI (addI .i64 (Int.ofNat ls) (Int.ofNat 2)) (Int.ofNat 0))) (Tr.req (inI (Int.ofNat 1) 2) (Tr.req (notB (eqI (addI .i64 (Int.ofNat ls) (Int.ofNat 2)) (Int.ofNat 0))) (Tr.ite (eqI (subI .i64 (remI IntKind.i64 (wrI IntKind.i64 a) (addI .i64 (Int.ofNat ls) (Int.ofNat 2))) (Int.ofNat 2)) (subI .i64 (remI IntKind.i64 (wrI IntKind.i64 b) (addI .i64 (Int.ofNat ls) (Int.ofNat 2))) (Int.ofNat 2))) (Tr.req (notB (eqI (addI .i64 (Int.ofNat ls) (Int.ofNat 2)) (Int.ofNat 0))) (Tr.req (notB (eqI (addI .i64 (Int.ofNat ls) (Int.ofNat 2)) (Int.ofNat 0))) (Tr.ok ((AV.tup [AV.int .i64 (subI .i64 (remI IntKind.i64 (wrI IntKind.i64 a) (addI .i64 (Int.ofNat ls) (Int.ofNat 2))) (Int.ofNat 2)), AV.int .i64 (subI .i64 (remI IntKind.i64 (wrI IntKind.i64 (wrI IntKind.u8 (remI IntKind.i64 (addI .i64 (addI .i64 (subI .i64 (remI IntKind.i64 (wrI IntKind.i64 a) (addI .i64 (Int.ofNat ls) (Int.ofNat 2))) (Int.ofNat 2)) (Int.ofNat 2)) (Int.ofNat 1)) (addI .i64 (Int.ofNat ls) (Int.ofNat 2))))) (addI .i64 (Int.ofNat ls) (Int.ofNat 2))) (Int.ofNat 2))], none), H)))) (Tr.ok ((AV.tup [AV.int .i64 (subI .i64 (remI IntKind.i64 (wrI IntKind.i64 a) (addI .i64 (Int.ofNat ls) (Int.ofNat 2))) (Int.ofNat 2)), AV.int .i64 (subI .i64 (remI IntKind.i64 (wrI IntKind.i64 b) (addI .i64 (Int.ofNat ls) (Int.ofNat 2))) (Int.ofNat 2))], none), H)))))) := by kernel_rfl
/-- A place, by a number. -/
def plN (ls : Nat) (a : Int) : Int := a % ((ls : Int) + 2) - 2
def twoP (ls : Nat) (a b : Int) : Int := if plN ls a = plN ls b then plN ls ((plN ls a + 3) % ((ls : Int) + 2)) else plN ls b
theorem two_ok {ls : Nat} {a b : Int} (hl : ls ≤ 15) (ha : 0 ≤ a) (hb : 0 ≤ b) : (-2 ≤ plN ls a ∧ plN ls a < ls) ∧ (-2 ≤ twoP ls a b ∧ twoP ls a b < ls) ∧ plN ls a ≠ twoP ls a b := by
  have r : ∀ x : Int, -2 ≤ plN ls x ∧ plN ls x < ls := fun x => by
    unfold plN
    have h1 := Int.emod_nonneg x (show ((ls : Int) + 2) ≠ 0 by omega)
    have h2 := Int.emod_lt_of_pos x (show 0 < ((ls : Int) + 2) by omega)
    omega
  refine ⟨r a, ?_, ?_⟩
  · unfold twoP; split
    · exact r _
    · exact r _
  · unfold twoP
    split
    · intro h
      have h0 := r a
      generalize plN ls a = p at h h0
      by_cases e : p + 3 < (ls : Int) + 2
      · have e1 : (p + 3) % ((ls : Int) + 2) = p + 3 := Int.emod_eq_of_lt (by omega) e
        unfold plN at h
        rw [e1, e1] at h; omega
      · have e1 : (p + 3) % ((ls : Int) + 2) = 0 := by
          rw [show p + 3 = (ls : Int) + 2 by omega, Int.emod_self]
        unfold plN at h
        rw [e1, Int.zero_emod] at h; omega
    · assumption
theorem rem_mod {x : Int} {m : Int} (h0 : 0 ≤ x) : remI .i64 x m = x % m := by rw [remI_eq, Int.tmod_eq_emod_of_nonneg h0]
theorem wr_64' {x : Int} (h0 : -9223372036854775808 ≤ x) (h1 : x ≤ 9223372036854775807) : wrI .i64 x = x := by rw [wrI_eq, wr_64 h0 h1]
theorem wr_8 {x : Int} (h0 : 0 ≤ x) (h1 : x ≤ 255) : wrI .u8 x = x := by
  rw [wrI_eq]
  simp only [IntKind.wrap, IntKind.signed, IntKind.bits]
  simp
  omega
theorem c43 (n : Nat) (w : Int) (ls ld : Nat) (zs zd : Nat → Int) (H : Heap) (a b : Int) (hl : ls ≤ 15) (ha : 0 ≤ a ∧ a ≤ 255) (hb : 0 ≤ b ∧ b ≤ 255) : cd (n + 3) (.fn 43) [bathA w ls zs ld zd, .agg (.I .u8 [a, b])] H = some (.tup [.int .i64 (plN ls a), .int .i64 (twoP ls a b)], H) := by
  refine fn_all (n := n + 2) Try.func43 rfl rfl rfl (u43 n w ls ld zs zd H a b) (il_no n 2) (noBT_ok _ _) (noRT_ok _ _) ?_
  obtain ⟨k1, -, -⟩ := two_ok (a := a) (b := b) hl ha.1 hb.1
  have m0 : ∀ x : Int, 0 ≤ x % ((ls : Int) + 2) ∧ x % ((ls : Int) + 2) < (ls : Int) + 2 := fun x => ⟨Int.emod_nonneg x (by omega), Int.emod_lt_of_pos x (by omega)⟩
  have eL : addI .i64 (Int.ofNat ls) (Int.ofNat 2) = (ls : Int) + 2 := by simp (disch := omega) only [nV, mulO_eq, Int.cast_ofNat_Int, eq_self]
  have eP : ∀ x : Int, 0 ≤ x → x ≤ 255 → subI .i64 (remI .i64 (wrI .i64 x) ((ls : Int) + 2)) (Int.ofNat 2) = plN ls x := fun x h0 h1 => by
    rw [wr_64' (by omega) (by omega), rem_mod h0, subI_eq]
    have := m0 x
    unfold plN
    exact wr_64 (by rw [show Int.ofNat 2 = 2 from rfl]; omega) (by rw [show Int.ofNat 2 = 2 from rfl]; omega)
  have eQ : wrI .u8 (remI .i64 (addI .i64 (addI .i64 (plN ls a) (Int.ofNat 2)) (Int.ofNat 1)) ((ls : Int) + 2)) = (plN ls a + 3) % ((ls : Int) + 2) := by
    have e : addI .i64 (addI .i64 (plN ls a) (Int.ofNat 2)) (Int.ofNat 1) = plN ls a + 3 := by
      simp (disch := omega) only [nV, mulO_eq, Int.cast_ofNat_Int, eq_self]
      omega
    have := m0 (plN ls a + 3)
    rw [e, rem_mod (by omega), wr_8 this.1 (by omega)]
  have := m0 (plN ls a + 3)
  rw [eL, eP a ha.1 ha.2, eP b hb.1 hb.2, eQ, eP _ this.1 (by omega)]
  unfold twoP
  repeat' first | (refine Tr.all_ite (fun hc => ?_) (fun hc => ?_) <;> (try simp (disch := omega) only [nV, mulO_eq, Int.cast_ofNat_Int, eq_self] at hc) <;> (try (exfalso; omega))) | (refine Tr.all_req ?_ ?_; · ((try simp (disch := omega) only [nV, mulO_eq, Int.cast_ofNat_Int, eq_self]); try omega)) | (refine Tr.all_reqP ?_ ?_; · first | exact trivial | rfl | exact ⟨rfl, rfl⟩ | exact ⟨rfl, rfl, rfl⟩ | (simp (disch := omega) only [nV, mulO_eq, Int.cast_ofNat_Int, eq_self]; done) | ((try simp (disch := omega) only [nV, mulO_eq, Int.cast_ofNat_Int, eq_self]); omega)) | fail
  · rw [if_pos hc]; exact Tr.all_ok ⟨rfl, rfl⟩
  · rw [if_neg hc]; exact Tr.all_ok ⟨rfl, rfl⟩
theorem pl_ok {w : Int} {ls ld : Nat} {zs zd : Nat → Int} {p q : Int} (h : chkB w ls ld zs zd = 0) (hp : -2 ≤ p ∧ p < ls) (hq : -2 ≤ q ∧ q < ls) (hpq : p ≠ q) : plE w ls ld zs zd p q = 0 ∧ touK w ls ld zs zd p q = kndR w ld zs zd p q := by
  have e : plE w ls ld zs zd p q = 0 := by
    unfold plE
    rw [if_neg (fun x => x h), if_pos ⟨by simp [isPl]; omega, by simp [isPl]; omega, hpq⟩]
  refine ⟨e, ?_⟩
  unfold touK
  rw [if_neg (fun x => x e)]
end Go.Eng
end
section
namespace Go.Eng
open Go.Proofs
set_option linter.unusedVariables false
set_option linter.unusedSimpArgs false
set_option maxRecDepth 100000
noncomputable def lv12 (w : Int) (ls ld : Nat) (zs zd : Nat → Int) (a b w2 : Int) (s1 s2 s3 : AV) (rest : List (Nat × Blk)) : Lvl := ⟨false, (0, .row (.G [.int .i64 w, slA 2 ls zs, slA 3 ld zd])) :: (0, Blk.row (Row.I IntKind.u8 [a, b])) :: (0, Blk.row (Row.G [AV.int .i64 w, s1, slA 3 ld zd])) :: (0, Blk.row (Row.G [AV.int .i64 w2, s2, s3])) :: rest⟩
noncomputable def fr12 (p q t j : Int) : Frm := [(3, AV.ptr 0 0 0 0), (7, AV.int .i64 p), (8, AV.int .i64 q), (9, AV.int .i64 t), (10, AV.ptr 0 2 0 0), (11, AV.ptr 0 3 0 0), (12, AV.int .i64 j)]
noncomputable def fr14 (p q t j : Int) : Frm := [(3, AV.ptr 0 0 0 0), (7, AV.int .i64 p), (8, AV.int .i64 q), (9, AV.int .i64 t), (10, AV.ptr 0 2 0 0), (11, AV.ptr 0 3 0 0), (14, AV.int .i64 j)]
theorem t12a (n : Nat) (w : Int) (ls ld : Nat) (zs zd : Nat → Int) (H : Heap) (a b p q t w2 j : Int) : execT (cxD (n+20) 12 214) (il noCt (n+18) 2) noBT noRT (part Try.f12 [1, 1, 1, 1, 1, 0, 1, 0, 0]) (hints (fr12 p q t j)) (lv12 w ls ld zs zd a b w2 .nils .nils .nils [] :: H) =
  Tr.ite (ltI j (Int.ofNat ls)) (Tr.req (inI j ls) (Tr.req (ltN (idO 0 j 2) (mulO ls 2)) (Tr.req (ltN (addO (idO 0 j 2) 1) (mulO ls 2)) (Tr.req (roomO 0 1 16) (Tr.req (leN 1 1) (Tr.req (andB (leN 0 0) (leN 0 1)) (Tr.req (roomO 0 1 16) (Tr.req (leN 1 1) (Tr.req (andB (leN 0 0) (leN 0 1)) (Tr.ok (Ex.normal, [(3, AV.ptr 0 0 0 0, none), (7, AV.int .i64 p, none), (8, AV.int .i64 q, none), (9, AV.int .i64 t, none), (10, AV.ptr 0 2 0 0, none), (11, AV.ptr 0 3 0 0, none), (12, AV.int .i64 (addI .i64 j (Int.ofNat 1)), none)], { lock := false, bs := [(0, Blk.row (Row.G [AV.int .i64 w, slA 2 ls zs, slA 3 ld zd])), (0, Blk.row (Row.I IntKind.u8 [a, b])), (0, Blk.row (Row.G [AV.int .i64 w, AV.slc 0 6 0 0 2 1 none, slA 3 ld zd])), (0, Blk.row (Row.G [AV.int .i64 w2, AV.slc 0 8 0 0 2 1 none, AV.nils])), (0, Blk.row (Row.I .i64 [zs (idO 0 j 2), zs (addO (idO 0 j 2) 1)])), (0, Blk.row (Row.I .i64 [subI .i64 w (zs (idO 0 j 2)), zs (addO (idO 0 j 2) 1)])), (0, Blk.row (Row.M [Seg.arr .i64 (lstO [subI .i64 w (zs (idO 0 j 2)), zs (addO (idO 0 j 2) 1)]) 2])), (0, Blk.row (Row.I .i64 [mulI .i64 t (zs (idO 0 j 2)), mulI .i64 t (zs (addO (idO 0 j 2) 1))])), (0, Blk.row (Row.M [Seg.arr .i64 (lstO [mulI .i64 t (zs (idO 0 j 2)), mulI .i64 t (zs (addO (idO 0 j 2) 1))]) 2]))] } :: H))))))))))) (Tr.ok (Ex.exit 0, [(3, AV.ptr 0 0 0 0, none), (7, AV.int .i64 p, none), (8, AV.int .i64 q, none), (9, AV.int .i64 t, none), (10, AV.ptr 0 2 0 0, none), (11, AV.ptr 0 3 0 0, none), (12, AV.int .i64 j, none), (54, AV.bool false, some 1)], { lock := false, bs := [(0, Blk.row (Row.G [AV.int .i64 w, slA 2 ls zs, slA 3 ld zd])), (0, Blk.row (Row.I IntKind.u8 [a, b])), (0, Blk.row (Row.G [AV.int .i64 w, AV.nils, slA 3 ld zd])), (0, Blk.row (Row.G [AV.int .i64 w2, AV.nils, AV.nils]))] } :: H)) := by kernel_rfl
theorem t12b (n : Nat) (w : Int) (ls ld : Nat) (zs zd : Nat → Int) (H : Heap) (a b p q t w2 j : Int) (v m : Nat) (y z : Nat → Int) : execT (cxD (n+20) 12 214) (il noCt (n+18) 2) noBT noRT (part Try.f12 [1, 1, 1, 1, 1, 0, 1, 0, 0]) (hints (fr12 p q t j)) (lv12 w ls ld zs zd a b w2 (.slc 0 5 v 0 2 m none) (.slc 0 4 v 0 2 m none) .nils [(v, .row (.M [.arr .i64 z (mulO m 2)])), (v, .row (.M [.arr .i64 y (mulO m 2)]))] :: H) =
  Tr.ite (ltI j (Int.ofNat ls)) (Tr.req (inI j ls) (Tr.req (ltN (idO 0 j 2) (mulO ls 2)) (Tr.req (ltN (addO (idO 0 j 2) 1) (mulO ls 2)) (Tr.req (roomO m 1 16) (Tr.req (leN 1 1) (Tr.req (eqN v v) (Tr.req (eqN (addO 0 (mulO m 2)) (mulO m 2)) (Tr.req (andB (leN v (Nat.succ v)) (leN (Nat.succ v) (Nat.succ v))) (Tr.req (andB (leN 0 0) (leN 0 1)) (Tr.req (roomO m 1 16) (Tr.req (leN 1 1) (Tr.req (eqN v v) (Tr.req (eqN (addO 0 (mulO m 2)) (mulO m 2)) (Tr.req (andB (leN v (Nat.succ v)) (leN (Nat.succ v) (Nat.succ v))) (Tr.req (andB (leN 0 0) (leN 0 1)) (Tr.ok (Ex.normal, [(3, AV.ptr 0 0 0 0, none), (7, AV.int .i64 p, none), (8, AV.int .i64 q, none), (9, AV.int .i64 t, none), (10, AV.ptr 0 2 0 0, none), (11, AV.ptr 0 3 0 0, none), (12, AV.int .i64 (addI .i64 j (Int.ofNat 1)), none)], { lock := false, bs := [(0, Blk.row (Row.G [AV.int .i64 w, slA 2 ls zs, slA 3 ld zd])), (0, Blk.row (Row.I IntKind.u8 [a, b])), (0, Blk.row (Row.G [AV.int .i64 w, AV.slc 0 5 (Nat.succ v) 0 2 (addO m 1) none, slA 3 ld zd])), (0, Blk.row (Row.G [AV.int .i64 w2, AV.slc 0 4 (Nat.succ v) 0 2 (addO m 1) none, AV.nils])), (Nat.succ v, Blk.row (Row.M [Seg.arr .i64 (appO (shO z 0) (mulO m 2) (lstO [mulI .i64 t (zs (idO 0 j 2)), mulI .i64 t (zs (addO (idO 0 j 2) 1))])) (addO (mulO m 2) 2)])), (Nat.succ v, Blk.row (Row.M [Seg.arr .i64 (appO (shO y 0) (mulO m 2) (lstO [subI .i64 w (zs (idO 0 j 2)), zs (addO (idO 0 j 2) 1)])) (addO (mulO m 2) 2)])), (0, Blk.row (Row.I .i64 [zs (idO 0 j 2), zs (addO (idO 0 j 2) 1)])), (0, Blk.row (Row.I .i64 [subI .i64 w (zs (idO 0 j 2)), zs (addO (idO 0 j 2) 1)])), (0, Blk.dead), (0, Blk.row (Row.I .i64 [mulI .i64 t (zs (idO 0 j 2)), mulI .i64 t (zs (addO (idO 0 j 2) 1))])), (0, Blk.dead)] } :: H))))))))))))))))) (Tr.ok (Ex.exit 0, [(3, AV.ptr 0 0 0 0, none), (7, AV.int .i64 p, none), (8, AV.int .i64 q, none), (9, AV.int .i64 t, none), (10, AV.ptr 0 2 0 0, none), (11, AV.ptr 0 3 0 0, none), (12, AV.int .i64 j, none), (54, AV.bool false, some 1)], { lock := false, bs := [(0, Blk.row (Row.G [AV.int .i64 w, slA 2 ls zs, slA 3 ld zd])), (0, Blk.row (Row.I IntKind.u8 [a, b])), (0, Blk.row (Row.G [AV.int .i64 w, AV.slc 0 5 v 0 2 m none, slA 3 ld zd])), (0, Blk.row (Row.G [AV.int .i64 w2, AV.slc 0 4 v 0 2 m none, AV.nils])), (v, Blk.row (Row.M [Seg.arr .i64 z (mulO m 2)])), (v, Blk.row (Row.M [Seg.arr .i64 y (mulO m 2)]))] } :: H)) := by kernel_rfl
def mir (w : Int) (zs : Nat → Int) (i : Nat) : Int := if i % 2 = 0 then IntKind.i64.wrap (w - zs i) else zs i
def scl (t : Int) (zs : Nat → Int) (i : Nat) : Int := IntKind.i64.wrap (t * zs i)
def scd (t : Int) (zd : Nat → Int) (i : Nat) : Int := if i % 3 = 0 then zd i else IntKind.i64.wrap (IntKind.i64.wrap (t * t) * zd i)
noncomputable def lvS (w : Int) (ls ld : Nat) (zs zd : Nat → Int) (a b w2 t : Int) : Nat → Lvl
  | 0 => lv12 w ls ld zs zd a b w2 .nils .nils .nils []
  | j + 1 => lv12 w ls ld zs zd a b w2 (.slc 0 5 j 0 2 (j + 1) none) (.slc 0 4 j 0 2 (j + 1) none) .nils [(j, .row (.M [.arr .i64 (upto (scl t zs) ((j + 1) * 2)) ((j + 1) * 2)])), (j, .row (.M [.arr .i64 (upto (mir w zs) ((j + 1) * 2)) ((j + 1) * 2)]))]
theorem upto_two (e : Nat → Int) : lstO [e 0, e 1] = upto e 2 := by
  rw [lstO_fn]; funext i
  match i with
  | 0 => simp [upto]
  | 1 => simp [upto]
  | i + 2 => simp [upto]; omega
theorem upto_app2 (e : Nat → Int) (n : Nat) : appO (shO (upto e n) 0) n (lstO [e n, e (n + 1)]) = upto e (n + 2) := by
  rw [shO_zero, appO_fn, lstO_fn]; funext i
  simp only [upto]
  by_cases h : i < n
  · rw [if_pos h, if_pos h, if_pos (by omega)]
  · rw [if_neg h]
    by_cases h2 : i = n
    · subst h2; simp
    · by_cases h3 : i = n + 1
      · subst h3; simp [show n + 1 - n = 1 by omega]
      · rw [if_neg (by omega)]
        have : i - n = (i - n - 2) + 2 := by omega
        rw [this]; simp
section
variable (n : Nat) (w : Int) (ls ld : Nat) (zs zd : Nat → Int) (H : Heap) (a b p q t w2 : Int)
theorem l12a (hl : ls ≤ 10) : exec (cxD (n + 20) 12 214) (.block 0 (.loop (part Try.f12 [1, 1, 1, 1, 1, 0, 1, 0, 0]))) (fr12 p q t 0) (lvS w ls ld zs zd a b w2 t 0 :: H) = some (.normal, fr12 p q t (ls : Int) ++ [(54, .bool false)], lvS w ls ld zs zd a b w2 t ls :: H) := by
  refine forT (il_no (n + 18) 2) (noBT_ok _ _) (noRT_ok _ _) 0 (fun j => fr12 p q t (j : Int)) (fun j => lvS w ls ld zs zd a b w2 t j :: H) ls (fr12 p q t (ls : Int) ++ [(54, .bool false)], lvS w ls ld zs zd a b w2 t ls :: H) (by omega) (fun j hj => ?_) ?_
  · have ej : addI .i64 (j : Int) (Int.ofNat 1) = ((j + 1 : Nat) : Int) := by rw [addI_eq, show Int.ofNat 1 = 1 from rfl]; exact wr_64 (by omega) (by omega)
    have m0 : mir w zs (j * 2) = subI .i64 w (zs (idO 0 (j : Int) 2)) := by
      unfold mir; rw [if_pos (by omega), subI_eq, idO_eq]; simp
    have m1 : mir w zs (j * 2 + 1) = zs (addO (idO 0 (j : Int) 2) 1) := by
      unfold mir; rw [if_neg (by omega), addO_eq, idO_eq]; simp
    have s0 : scl t zs (j * 2) = mulI .i64 t (zs (idO 0 (j : Int) 2)) := by
      unfold scl; rw [mulI_eq, idO_eq]; simp
    have s1 : scl t zs (j * 2 + 1) = mulI .i64 t (zs (addO (idO 0 (j : Int) 2) 1)) := by
      unfold scl; rw [mulI_eq, addO_eq, idO_eq]; simp
    have a1 := upto_app2 (mir w zs) (j * 2)
    have a2 := upto_app2 (scl t zs) (j * 2)
    have b1 := upto_two (mir w zs)
    have b2 := upto_two (scl t zs)
    rw [m0, m1] at a1
    rw [s0, s1] at a2
    cases j with
    | zero =>
      rw [Nat.zero_mul] at m0 m1 s0 s1
      rw [m0, m1] at b1
      rw [s0, s1] at b2
      simp only [lvS]
      rw [t12a]
      repeat' first | (refine Tr.all_ite (fun hc => ?_) (fun hc => ?_) <;> (try simp (disch := omega) only [nV, mulO_eq, Int.cast_ofNat_Int, eq_self] at hc) <;> (try (exfalso; omega))) | (refine Tr.all_req ?_ ?_; · ((try simp (disch := omega) only [nV, mulO_eq, Int.cast_ofNat_Int, eq_self]); try omega)) | (refine Tr.all_reqP ?_ ?_; · first | exact trivial | rfl | exact ⟨rfl, rfl⟩ | exact ⟨rfl, rfl, rfl⟩ | (simp (disch := omega) only [nV, mulO_eq, Int.cast_ofNat_Int, eq_self]; done) | ((try simp (disch := omega) only [nV, mulO_eq, Int.cast_ofNat_Int, eq_self]); omega)) | fail
      refine Tr.all_ok ⟨rfl, ?_⟩
      rw [b1, b2, ej]
      rfl
    | succ j =>
      simp only [lvS]
      have e2 : (j + 1) * 2 = mulO (j + 1) 2 := (mulO_eq _ _).symm
      have e3 : addO (mulO (j + 1) 2) 2 = (j + 1 + 1) * 2 := by rw [addO_eq, mulO_eq]; omega
      rw [e2] at a1 a2
      rw [e2, t12b]
      repeat' first | (refine Tr.all_ite (fun hc => ?_) (fun hc => ?_) <;> (try simp (disch := omega) only [nV, mulO_eq, Int.cast_ofNat_Int, eq_self] at hc) <;> (try (exfalso; omega))) | (refine Tr.all_req ?_ ?_; · ((try simp (disch := omega) only [nV, mulO_eq, Int.cast_ofNat_Int, eq_self]); try omega)) | (refine Tr.all_reqP ?_ ?_; · first | exact trivial | rfl | exact ⟨rfl, rfl⟩ | exact ⟨rfl, rfl, rfl⟩ | (simp (disch := omega) only [nV, mulO_eq, Int.cast_ofNat_Int, eq_self]; done) | ((try simp (disch := omega) only [nV, mulO_eq, Int.cast_ofNat_Int, eq_self]); omega)) | fail
      refine Tr.all_ok ⟨rfl, ?_⟩
      rw [a1, a2, ej, e3, show mulO (j + 1) 2 + 2 = (j + 1 + 1) * 2 by rw [mulO_eq]; omega, addO_eq]
      rfl
  · cases ls with
    | zero =>
      simp only [lvS]
      rw [t12a]
      repeat' first | (refine Tr.all_ite (fun hc => ?_) (fun hc => ?_) <;> (try simp (disch := omega) only [nV, mulO_eq, Int.cast_ofNat_Int, eq_self] at hc) <;> (try (exfalso; omega))) | (refine Tr.all_req ?_ ?_; · ((try simp (disch := omega) only [nV, mulO_eq, Int.cast_ofNat_Int, eq_self]); try omega)) | (refine Tr.all_reqP ?_ ?_; · first | exact trivial | rfl | exact ⟨rfl, rfl⟩ | exact ⟨rfl, rfl, rfl⟩ | (simp (disch := omega) only [nV, mulO_eq, Int.cast_ofNat_Int, eq_self]; done) | ((try simp (disch := omega) only [nV, mulO_eq, Int.cast_ofNat_Int, eq_self]); omega)) | fail
      exact Tr.all_ok ⟨rfl, rfl, rfl⟩
    | succ m =>
      simp only [lvS]
      have e2 : (m + 1) * 2 = mulO (m + 1) 2 := (mulO_eq _ _).symm
      rw [e2, t12b]
      repeat' first | (refine Tr.all_ite (fun hc => ?_) (fun hc => ?_) <;> (try simp (disch := omega) only [nV, mulO_eq, Int.cast_ofNat_Int, eq_self] at hc) <;> (try (exfalso; omega))) | (refine Tr.all_req ?_ ?_; · ((try simp (disch := omega) only [nV, mulO_eq, Int.cast_ofNat_Int, eq_self]); try omega)) | (refine Tr.all_reqP ?_ ?_; · first | exact trivial | rfl | exact ⟨rfl, rfl⟩ | exact ⟨rfl, rfl, rfl⟩ | (simp (disch := omega) only [nV, mulO_eq, Int.cast_ofNat_Int, eq_self]; done) | ((try simp (disch := omega) only [nV, mulO_eq, Int.cast_ofNat_Int, eq_self]); omega)) | fail
      exact Tr.all_ok ⟨rfl, rfl, rfl⟩
end
end Go.Eng
end
