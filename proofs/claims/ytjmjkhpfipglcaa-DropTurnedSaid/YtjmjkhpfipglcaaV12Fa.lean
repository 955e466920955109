/- Drop: First: when a kind is reached. -/
import Derived.Test.YtjmjkhpfipglcaaV12DrTx3
import Derived.Test.YtjmjkhpfipglcaaV12DrAx4
namespace Go.Eng
open Go.Proofs
set_option linter.unusedVariables false
set_option linter.unusedSimpArgs false
set_option maxRecDepth 100000
noncomputable def lvQ (w : Int) (ls ld : Nat) (zs zd : Nat → Int) (p q : Int) : Lvl := ⟨false, [(0, .row (.G [.int .i64 w, slA 2 ls zs, slA 3 ld zd])), (0, .row (.I .i64 [p])), (0, .row (.I .i64 [q])), (0, .row (.I .i64 [0, 0]))]⟩
noncomputable def fr76 (k : Int) (ld : Nat) (zd : Nat → Int) (j : Int) : Frm := [(0, .int .i64 k), (1, .ptr 1 0 0 0), (2, .ptr 1 1 0 0), (3, .ptr 1 2 0 0), (6, .ptr 0 0 0 0), (16, slA 3 ld zd), (17, .int .i64 (Int.ofNat ld)), (18, .int .i64 j)]
noncomputable def lvF (w : Int) (ls : Nat) (zs : Nat → Int) (D : AV) : Lvl := ⟨false, [(0, .row (.G [.int .i64 w, slA 2 ls zs, D]))]⟩
noncomputable def g77v (w : Int) (ls : Nat) (zs : Nat → Int) (side : Nat → (Nat → Int) → Prop) (szf kdf : Nat → (Nat → Int) → Nat → Int) : List AV → Option (Prop × AV)
  | [.agg (.G [.int .i64 w', S, .slcT none (.M [.arr .i64 z N]) 3 m full])] => some (w' = w ∧ S = slA 2 ls zs ∧ N = mulO m 3 ∧ full = false ∧ side m z, tabV w ls m zs z (szf m z) (kdf m z))
  | _ => none
theorem t76a (n : Nat) (w k p q : Int) (ls ld : Nat) (zs zd : Nat → Int) (H : Heap) (j : Int) (side : Nat → (Nat → Int) → Prop) (szf kdf : Nat → (Nat → Int) → Nat → Int) : execT (cxD (n+9) 76 50) (il (ctG noCt 77 (g77v w ls zs side szf kdf)) (n+8) 1) noBT noRT (part Try.f76 [1,1,1,0,1,0,0]) (hints (fr76 k ld zd j)) (lvF w ls zs .nils :: lvQ w ls ld zs zd p q :: H) =
  Tr.ite (ltI j (Int.ofNat ld)) (Tr.req (inI j ld) (Tr.req (ltN (idO 0 j 3) (mulO ld 3)) (Tr.req (ltN (addO (idO 0 j 3) 1) (mulO ld 3)) (Tr.req (ltN (addO (idO 0 j 3) 2) (mulO ld 3)) (Tr.req (bndI (Int.ofNat 0) 0) (Tr.req (bndI (Int.ofNat 0) (toN (Int.ofNat 0))) (Tr.req (roomO 0 1 24) (Tr.req (leN 1 1) (Tr.req (andB (leN 0 0) (leN 0 1)) (Tr.req (eqN 0 0) (Tr.req (inO 0 (mulO 1 3) 0 3) (Tr.reqP (w = w ∧ slA 2 ls zs = slA 2 ls zs ∧ mulO 1 3 = mulO 1 3 ∧ false = false ∧ side 1 (shO (lstO [zd (idO 0 j 3), zd (addO (idO 0 j 3) 1), zd (addO (idO 0 j 3) 2)]) 0)) (Tr.req (inI (addI .i64 p (Int.ofNat 2)) 12) (Tr.req (inI (addI .i64 q (Int.ofNat 2)) 12) (Tr.req (inO (idO (idO 4 (addI .i64 p (Int.ofNat 2)) 12) (addI .i64 q (Int.ofNat 2)) 1) 1 4 144) (Tr.ite (leI k (kdf 1 (shO (lstO [zd (idO 0 j 3), zd (addO (idO 0 j 3) 1), zd (addO (idO 0 j 3) 2)]) 0) (subO (idO (idO 4 (addI .i64 p (Int.ofNat 2)) 12) (addI .i64 q (Int.ofNat 2)) 1) 4))) (Tr.ok (Ex.ret, [(5, AV.int .i64 (addI .i64 j (Int.ofNat 1)), none)], { lock := false, bs := [(0, Blk.row (Row.G [AV.int .i64 w, slA 2 ls zs, AV.slcT none (Row.M [Seg.arr .i64 (shO (lstO [zd (idO 0 j 3), zd (addO (idO 0 j 3) 1), zd (addO (idO 0 j 3) 2)]) 0) (mulO 1 3)]) 3 1 false])), (0, Blk.row (Row.I .i64 [zd (idO 0 j 3), zd (addO (idO 0 j 3) 1), zd (addO (idO 0 j 3) 2)])), (0, Blk.row (Row.I .i64 [zd (idO 0 j 3), zd (addO (idO 0 j 3) 1), zd (addO (idO 0 j 3) 2)])), (0, Blk.dead)] } :: { lock := false, bs := [(0, Blk.row (Row.G [AV.int .i64 w, slA 2 ls zs, slA 3 ld zd])), (0, Blk.row (Row.I .i64 [p])), (0, Blk.row (Row.I .i64 [q])), (0, Blk.row (Row.I .i64 [Int.ofNat 0, Int.ofNat 0]))] } :: H)) (Tr.ok (Ex.normal, [(0, AV.int .i64 k, none), (1, AV.ptr 1 0 0 0, none), (2, AV.ptr 1 1 0 0, none), (3, AV.ptr 1 2 0 0, none), (6, AV.ptr 0 0 0 0, none), (16, slA 3 ld zd, none), (17, AV.int .i64 (Int.ofNat ld), none), (18, AV.int .i64 (addI .i64 j (Int.ofNat 1)), none)], { lock := false, bs := [(0, Blk.row (Row.G [AV.int .i64 w, slA 2 ls zs, AV.slcT none (Row.M [Seg.arr .i64 (shO (lstO [zd (idO 0 j 3), zd (addO (idO 0 j 3) 1), zd (addO (idO 0 j 3) 2)]) 0) (mulO 1 3)]) 3 1 false])), (0, Blk.row (Row.I .i64 [zd (idO 0 j 3), zd (addO (idO 0 j 3) 1), zd (addO (idO 0 j 3) 2)])), (0, Blk.row (Row.I .i64 [zd (idO 0 j 3), zd (addO (idO 0 j 3) 1), zd (addO (idO 0 j 3) 2)])), (0, Blk.dead)] } :: { lock := false, bs := [(0, Blk.row (Row.G [AV.int .i64 w, slA 2 ls zs, slA 3 ld zd])), (0, Blk.row (Row.I .i64 [p])), (0, Blk.row (Row.I .i64 [q])), (0, Blk.row (Row.I .i64 [Int.ofNat 0, Int.ofNat 0]))] } :: H)))))))))))))))))) (Tr.ok (Ex.exit 0, [(0, AV.int .i64 k, none), (1, AV.ptr 1 0 0 0, none), (2, AV.ptr 1 1 0 0, none), (3, AV.ptr 1 2 0 0, none), (6, AV.ptr 0 0 0 0, none), (16, slA 3 ld zd, none), (17, AV.int .i64 (Int.ofNat ld), none), (18, AV.int .i64 j, none), (19, AV.bool false, some 1)], { lock := false, bs := [(0, Blk.row (Row.G [AV.int .i64 w, slA 2 ls zs, AV.nils]))] } :: { lock := false, bs := [(0, Blk.row (Row.G [AV.int .i64 w, slA 2 ls zs, slA 3 ld zd])), (0, Blk.row (Row.I .i64 [p])), (0, Blk.row (Row.I .i64 [q])), (0, Blk.row (Row.I .i64 [Int.ofNat 0, Int.ofNat 0]))] } :: H)) := by kernel_rfl
theorem t76b (n : Nat) (w k p q : Int) (ls ld : Nat) (zs zd : Nat → Int) (H : Heap) (j : Int) (side : Nat → (Nat → Int) → Prop) (szf kdf : Nat → (Nat → Int) → Nat → Int) (m : Nat) (z : Nat → Int) : execT (cxD (n+9) 76 50) (il (ctG noCt 77 (g77v w ls zs side szf kdf)) (n+8) 1) noBT noRT (part Try.f76 [1,1,1,0,1,0,0]) (hints (fr76 k ld zd j)) (lvF w ls zs (slA 3 m z) :: lvQ w ls ld zs zd p q :: H) =
  Tr.ite (ltI j (Int.ofNat ld)) (Tr.req (inI j ld) (Tr.req (ltN (idO 0 j 3) (mulO ld 3)) (Tr.req (ltN (addO (idO 0 j 3) 1) (mulO ld 3)) (Tr.req (ltN (addO (idO 0 j 3) 2) (mulO ld 3)) (Tr.req (bndI (Int.ofNat m) m) (Tr.req (bndI (Int.ofNat m) (toN (Int.ofNat m))) (Tr.req (leN (addO (mulO 0 3) (mulO (toN (Int.ofNat m)) 3)) (mulO m 3)) (Tr.req (roomO (toN (Int.ofNat m)) 1 24) (Tr.req (leN 1 1) (Tr.req (eqN (toN (Int.ofNat m)) (toN (Int.ofNat m))) (Tr.req (leN (toN (Int.ofNat m)) (toN (Int.ofNat m))) (Tr.req (leN (addO (mulO 0 3) (mulO (toN (Int.ofNat m)) 3)) (mulO (toN (Int.ofNat m)) 3)) (Tr.req (andB (leN 0 0) (leN 0 1)) (Tr.req (eqN 0 0) (Tr.req (inO 0 (mulO (addO (toN (Int.ofNat m)) 1) 3) 0 (addO (mulO (toN (Int.ofNat m)) 3) 3)) (Tr.reqP (w = w ∧ slA 2 ls zs = slA 2 ls zs ∧ mulO (addO (toN (Int.ofNat m)) 1) 3 = mulO (addO (toN (Int.ofNat m)) 1) 3 ∧ false = false ∧ side (addO (toN (Int.ofNat m)) 1) (shO (appO z (mulO (toN (Int.ofNat m)) 3) (lstO [zd (idO 0 j 3), zd (addO (idO 0 j 3) 1), zd (addO (idO 0 j 3) 2)])) 0)) (Tr.req (inI (addI .i64 p (Int.ofNat 2)) 12) (Tr.req (inI (addI .i64 q (Int.ofNat 2)) 12) (Tr.req (inO (idO (idO 4 (addI .i64 p (Int.ofNat 2)) 12) (addI .i64 q (Int.ofNat 2)) 1) 1 4 144) (Tr.ite (leI k (kdf (addO (toN (Int.ofNat m)) 1) (shO (appO z (mulO (toN (Int.ofNat m)) 3) (lstO [zd (idO 0 j 3), zd (addO (idO 0 j 3) 1), zd (addO (idO 0 j 3) 2)])) 0) (subO (idO (idO 4 (addI .i64 p (Int.ofNat 2)) 12) (addI .i64 q (Int.ofNat 2)) 1) 4))) (Tr.ok (Ex.ret, [(5, AV.int .i64 (addI .i64 j (Int.ofNat 1)), none)], { lock := false, bs := [(0, Blk.row (Row.G [AV.int .i64 w, slA 2 ls zs, AV.slcT none (Row.M [Seg.arr .i64 (shO (appO z (mulO (toN (Int.ofNat m)) 3) (lstO [zd (idO 0 j 3), zd (addO (idO 0 j 3) 1), zd (addO (idO 0 j 3) 2)])) 0) (mulO (addO (toN (Int.ofNat m)) 1) 3)]) 3 (addO (toN (Int.ofNat m)) 1) false])), (0, Blk.row (Row.I .i64 [zd (idO 0 j 3), zd (addO (idO 0 j 3) 1), zd (addO (idO 0 j 3) 2)])), (0, Blk.row (Row.I .i64 [zd (idO 0 j 3), zd (addO (idO 0 j 3) 1), zd (addO (idO 0 j 3) 2)])), (0, Blk.dead)] } :: { lock := false, bs := [(0, Blk.row (Row.G [AV.int .i64 w, slA 2 ls zs, slA 3 ld zd])), (0, Blk.row (Row.I .i64 [p])), (0, Blk.row (Row.I .i64 [q])), (0, Blk.row (Row.I .i64 [Int.ofNat 0, Int.ofNat 0]))] } :: H)) (Tr.ok (Ex.normal, [(0, AV.int .i64 k, none), (1, AV.ptr 1 0 0 0, none), (2, AV.ptr 1 1 0 0, none), (3, AV.ptr 1 2 0 0, none), (6, AV.ptr 0 0 0 0, none), (16, slA 3 ld zd, none), (17, AV.int .i64 (Int.ofNat ld), none), (18, AV.int .i64 (addI .i64 j (Int.ofNat 1)), none)], { lock := false, bs := [(0, Blk.row (Row.G [AV.int .i64 w, slA 2 ls zs, AV.slcT none (Row.M [Seg.arr .i64 (shO (appO z (mulO (toN (Int.ofNat m)) 3) (lstO [zd (idO 0 j 3), zd (addO (idO 0 j 3) 1), zd (addO (idO 0 j 3) 2)])) 0) (mulO (addO (toN (Int.ofNat m)) 1) 3)]) 3 (addO (toN (Int.ofNat m)) 1) false])), (0, Blk.row (Row.I .i64 [zd (idO 0 j 3), zd (addO (idO 0 j 3) 1), zd (addO (idO 0 j 3) 2)])), (0, Blk.row (Row.I .i64 [zd (idO 0 j 3), zd (addO (idO 0 j 3) 1), zd (addO (idO 0 j 3) 2)])), (0, Blk.dead)] } :: { lock := false, bs := [(0, Blk.row (Row.G [AV.int .i64 w, slA 2 ls zs, slA 3 ld zd])), (0, Blk.row (Row.I .i64 [p])), (0, Blk.row (Row.I .i64 [q])), (0, Blk.row (Row.I .i64 [Int.ofNat 0, Int.ofNat 0]))] } :: H)))))))))))))))))))))) (Tr.ok (Ex.exit 0, [(0, AV.int .i64 k, none), (1, AV.ptr 1 0 0 0, none), (2, AV.ptr 1 1 0 0, none), (3, AV.ptr 1 2 0 0, none), (6, AV.ptr 0 0 0 0, none), (16, slA 3 ld zd, none), (17, AV.int .i64 (Int.ofNat ld), none), (18, AV.int .i64 j, none), (19, AV.bool false, some 1)], { lock := false, bs := [(0, Blk.row (Row.G [AV.int .i64 w, slA 2 ls zs, AV.slcT none (Row.M [Seg.arr .i64 z (mulO m 3)]) 3 m false]))] } :: { lock := false, bs := [(0, Blk.row (Row.G [AV.int .i64 w, slA 2 ls zs, slA 3 ld zd])), (0, Blk.row (Row.I .i64 [p])), (0, Blk.row (Row.I .i64 [q])), (0, Blk.row (Row.I .i64 [Int.ofNat 0, Int.ofNat 0]))] } :: H)) := by kernel_rfl
theorem u76 (n : Nat) (w k p q : Int) (ls ld : Nat) (zs zd : Nat → Int) (H : Heap) (qq : Bool) (v : Int) (L : Lvl) (D : AV) : bodyT Try.prog (cd (n+9)) 100000 76 Try.f76 (Kt.kt 76) (il noCt (n+8) 1) (blkE noBT 0 (fr76 k ld zd (Int.ofNat 0)) (lvF w ls zs .nils :: lvQ w ls ld zs zd p q :: H) (Tr.ite qq (Tr.ok (.ret, hints [(5, AV.int .i64 v)], L :: lvQ w ls ld zs zd p q :: H)) (Tr.ok (.normal, hints (fr76 k ld zd (Int.ofNat ld) ++ [(19, AV.bool false)]), lvF w ls zs D :: lvQ w ls ld zs zd p q :: H)))) noRT [(.int .i64 k, none), (.ptr 0 0 0 0, none), (.ptr 0 1 0 0, none), (.ptr 0 2 0 0, none)] (lvQ w ls ld zs zd p q :: H) =
  Tr.req (andB (leN 0 0) (leN 0 1)) (Tr.req (andB (leN 0 0) (leN 0 1)) (Tr.reqP ([(0, AV.int .i64 k), (1, AV.ptr 1 0 0 0), (2, AV.ptr 1 1 0 0), (3, AV.ptr 1 2 0 0), (6, AV.ptr 0 0 0 0), (16, slA 3 ld zd), (17, AV.int .i64 (Int.ofNat ld)), (18, AV.int .i64 (Int.ofNat 0))] = [(0, AV.int .i64 k), (1, AV.ptr 1 0 0 0), (2, AV.ptr 1 1 0 0), (3, AV.ptr 1 2 0 0), (6, AV.ptr 0 0 0 0), (16, slA 3 ld zd), (17, AV.int .i64 (Int.ofNat ld)), (18, AV.int .i64 (Int.ofNat 0))] ∧ { lock := false, bs := [(0, Blk.row (Row.G [AV.int .i64 w, slA 2 ls zs, AV.nils]))] } :: { lock := false, bs := [(0, Blk.row (Row.G [AV.int .i64 w, slA 2 ls zs, slA 3 ld zd])), (0, Blk.row (Row.I .i64 [p])), (0, Blk.row (Row.I .i64 [q])), (0, Blk.row (Row.I .i64 [Int.ofNat 0, Int.ofNat 0]))] } :: H = { lock := false, bs := [(0, Blk.row (Row.G [AV.int .i64 w, slA 2 ls zs, AV.nils]))] } :: { lock := false, bs := [(0, Blk.row (Row.G [AV.int .i64 w, slA 2 ls zs, slA 3 ld zd])), (0, Blk.row (Row.I .i64 [p])), (0, Blk.row (Row.I .i64 [q])), (0, Blk.row (Row.I .i64 [Int.ofNat 0, Int.ofNat 0]))] } :: H) (Tr.ite qq (Tr.ok ((AV.int .i64 v, none), { lock := false, bs := [(0, Blk.row (Row.G [AV.int .i64 w, slA 2 ls zs, slA 3 ld zd])), (0, Blk.row (Row.I .i64 [p])), (0, Blk.row (Row.I .i64 [q])), (0, Blk.row (Row.I .i64 [Int.ofNat 0, Int.ofNat 0]))] } :: H)) (Tr.ok ((AV.int .i64 (addI .i64 (Int.ofNat ld) (Int.ofNat 1)), none), { lock := false, bs := [(0, Blk.row (Row.G [AV.int .i64 w, slA 2 ls zs, slA 3 ld zd])), (0, Blk.row (Row.I .i64 [p])), (0, Blk.row (Row.I .i64 [q])), (0, Blk.row (Row.I .i64 [Int.ofNat 0, Int.ofNat 0]))] } :: H))))) := by kernel_rfl
theorem upto_lt {zd : Nat → Int} {m j : Nat} (h : j < m) : upto zd m j = zd j := by unfold upto; rw [if_pos h]
theorem upto3 (zd : Nat → Int) : shO (lstO [zd 0, zd 1, zd 2]) 0 = upto zd 3 := by
  rw [shO_zero, lstO_fn]; funext i
  match i with
  | 0 => rfl
  | 1 => rfl
  | 2 => rfl
  | i + 3 => simp [upto]; omega
theorem upto_app3 (zd : Nat → Int) (m : Nat) : shO (appO (upto zd (m * 3)) (m * 3) (lstO [zd (m * 3), zd (m * 3 + 1), zd (m * 3 + 2)])) 0 = upto zd ((m + 1) * 3) := by
  rw [shO_zero, appO_fn, lstO_fn]; funext i
  simp only [upto]
  by_cases h : i < m * 3
  · rw [if_pos h, if_pos h, if_pos (by omega)]
  · rw [if_neg h]
    by_cases h2 : i < (m + 1) * 3
    · rw [if_pos h2]
      have : i = m * 3 ∨ i = m * 3 + 1 ∨ i = m * 3 + 2 := by omega
      rcases this with rfl | rfl | rfl
      · simp
      · rw [show m * 3 + 1 - m * 3 = 1 by omega]; rfl
      · rw [show m * 3 + 2 - m * 3 = 2 by omega]; rfl
    · rw [if_neg h2]
      obtain ⟨x, hx⟩ : ∃ x, i - m * 3 = x + 3 := ⟨i - m * 3 - 3, by omega⟩
      rw [hx]; simp
theorem sumS_part {z z' tr tr' : Nat → Int} {s : Int} : ∀ {m : Nat}, (∀ j, j < m → z (j * 3) = z' (j * 3)) → (∀ j, j < m → tr j = tr' j) → sumS z tr s m = sumS z' tr' s m
  | 0, _, _ => rfl
  | m + 1, h1, h2 => by
    simp only [sumS]
    rw [h1 m (by omega), h2 m (by omega), sumS_part (m := m) (fun j hj => h1 j (by omega)) (fun j hj => h2 j (by omega))]
theorem szE_part {b : Bool} {zd : Nat → Int} {m : Nat} {s : Int} : szE b (upto zd (m * 3)) m s = szE b zd m s := by
  unfold szE
  refine sumS_part (fun j hj => ?_) (fun j hj => ?_)
  · unfold upto; rw [if_pos (by omega)]
  · have : upto (endS b (upto zd (m * 3))) m j = endS b zd j := by
      rw [upto_lt hj]
      unfold endS
      rw [upto_lt (by omega), upto_lt (by omega)]
    rw [this, upto_lt hj]
theorem knd_part {w : Int} {zs zd : Nat → Int} {m : Nat} {p q : Int} : kndR w m zs (upto zd (m * 3)) p q = kndR w m zs zd p q := by
  unfold kndR
  rw [touch_congr (f := szE false (upto zd (m * 3)) m) (g := szE false zd m) (fun s _ => szE_part), touch_congr (f := szE true (upto zd (m * 3)) m) (g := szE true zd m) (fun s _ => szE_part)]
theorem chk_part {w : Int} {ls ld m : Nat} {zs zd z : Nat → Int} (h : chkB w ls ld zs zd = 0) (hm : m ≤ ld) (hz : ∀ j, j < m * 3 → z j = zd j) : chkB w ls m zs z = 0 := by
  obtain ⟨h1, h2, h3, h4, h5, h6⟩ := chk_ok h
  have e1 : exN (badD ls z) m = false := by
    cases hb : exN (badD ls z) m with
    | false => rfl
    | true =>
      obtain ⟨i, hi, hp⟩ := (exN_iff _ _).1 hb
      have := h6 i (by omega)
      unfold badD at this hp
      rw [hz _ (by omega), hz _ (by omega), hz _ (by omega)] at hp
      rw [hp] at this; cases this
  have e2 : ¬ 40 < m := by omega
  have e3 : ¬ 40 < ld := by omega
  unfold chkB at h ⊢
  simp only [e2, e3, decide_false, cond_false] at h ⊢
  rw [e1]
  revert h
  cases exN (badD ls zd) ld
  · exact id
  · cases decide (w < 2) <;> cases decide (1000 < w) <;> cases decide (10 < ls) <;> cases exN (badS w zs) ls <;> cases exN (fun i => exN (eqS zs i) i) ls <;> simp
noncomputable def dF (zd : Nat → Int) : Nat → AV
  | 0 => .nils
  | j + 1 => slA 3 (j + 1) (upto zd ((j + 1) * 3))
/-- After how many drops a kind is reached. -/
def whenN (w : Int) (ld : Nat) (zs zd : Nat → Int) (p q k : Int) : Nat := fN (fun j => decide (k ≤ kndR w (j + 1) zs zd p q)) ld 0 + 1
noncomputable def lvW76 (w : Int) (ls : Nat) (zs zd : Nat → Int) (j : Nat) : Lvl := ⟨false, [(0, .row (.G [.int .i64 w, slA 2 ls zs, slA 3 (j + 1) (upto zd ((j + 1) * 3))])), (0, .row (.I .i64 [zd (j * 3), zd (j * 3 + 1), zd (j * 3 + 2)])), (0, .row (.I .i64 [zd (j * 3), zd (j * 3 + 1), zd (j * 3 + 2)])), (0, .dead)]⟩
section
variable (n : Nat) (w k p q : Int) (ls ld : Nat) (zs zd : Nat → Int) (H : Heap)
def sideF (ls : Nat) (m : Nat) (z : Nat → Int) : Prop := ls ≤ 10 ∧ m ≤ 40 ∧ ∀ j, j < m → 0 ≤ z (j * 3) ∧ z (j * 3) < ls
theorem il76 : (il (ctG noCt 77 (g77v w ls zs (sideF ls) (fun m z => szs z m) (fun m z => kdO w ls zs (szs z m) (ls + 2)))) (n + 8) 1).Ok (cd (n + 9)) := by
  refine il_ok _ (n + 8) 1 (fun k => ctG_ok (noCt_ok _) (fun args p v h hp H => ?_))
  unfold g77v at h
  split at h
  · simp only [Option.some.injEq, Prod.mk.injEq] at h
    obtain ⟨rfl, rfl⟩ := h
    obtain ⟨rfl, rfl, rfl, rfl, h1, h2, h3⟩ := hp
    rw [show n + 8 + k = n + k + 8 by omega]
    exact c77 _ _ _ _ _ _ H h1 h2 h3
  · cases h
theorem kd_part (h : chkB w ls ld zs zd = 0) (hp : isPl ls p = true) (hq : isPl ls q = true) (hpq : p ≠ q) (j : Nat) (hj : j < ld) : sideF ls (j + 1) (upto zd ((j + 1) * 3)) ∧ kdO w ls zs (szs (upto zd ((j + 1) * 3)) (j + 1)) (ls + 2) (kix p q) = kndR w (j + 1) zs zd p q := by
  have hc := chk_part (z := upto zd ((j + 1) * 3)) h (m := j + 1) (by omega) (fun i hi => upto_lt hi)
  refine ⟨chk_drops hc, ?_⟩
  rw [kd_knd hc hp hq hpq, knd_part]
theorem l76 (h : chkB w ls ld zs zd = 0) (hp : isPl ls p = true) (hq : isPl ls q = true) (hpq : p ≠ q) (x : Res) (hx : (Tr.ite (exN (fun j => decide (k ≤ kndR w (j + 1) zs zd p q)) ld) (Tr.ok (.ret, hints [(5, AV.int .i64 ((whenN w ld zs zd p q k : Nat) : Int))], lvW76 w ls zs zd (fN (fun j => decide (k ≤ kndR w (j + 1) zs zd p q)) ld 0) :: lvQ w ls ld zs zd p q :: H)) (Tr.ok (.normal, hints (fr76 k ld zd (Int.ofNat ld) ++ [(19, AV.bool false)]), lvF w ls zs (dF zd ld) :: lvQ w ls ld zs zd p q :: H))).run = some x) :
    exec (cxD (n + 9) 76 50) (.block 0 (.loop (part Try.f76 [1,1,1,0,1,0,0]))) (fr76 k ld zd (Int.ofNat 0)) (lvF w ls zs .nils :: lvQ w ls ld zs zd p q :: H) = some x.st := by
  have hc := chk_drops h
  have hp' := hp; have hq' := hq
  simp only [isPl, Bool.and_eq_true, decide_eq_true_eq] at hp' hq'
  have ei : 4 + (p + 2).toNat * 12 + (q + 2).toNat * 1 - 4 = kix p q := by unfold kix; omega
  refine findT (il76 n w ls zs) (noBT_ok _ _) (noRT_ok _ _) 0 (fun j => fr76 k ld zd (Int.ofNat j)) (fun j => lvF w ls zs (dF zd j) :: lvQ w ls ld zs zd p q :: H) ld (fun j => decide (k ≤ kndR w (j + 1) zs zd p q)) (fun j => ([(5, AV.int .i64 ((j + 1 : Nat) : Int))], lvW76 w ls zs zd j :: lvQ w ls ld zs zd p q :: H)) (fr76 k ld zd (Int.ofNat ld) ++ [(19, AV.bool false)], lvF w ls zs (dF zd ld) :: lvQ w ls ld zs zd p q :: H) (by omega) (fun j hj => ?_) ?_ x hx
  · obtain ⟨k1, k2⟩ := kd_part w p q ls ld zs zd h hp hq hpq j hj
    cases j with
    | zero =>
      simp only [dF]
      rw [t76a]
      have eu := upto3 zd
      simp only [Nat.zero_add, Nat.one_mul] at k1 k2
      repeat' first | (refine Tr.all_ite (fun hc => ?_) (fun hc => ?_) <;> (try simp (disch := omega) only [nV, mulO_eq, Int.cast_ofNat_Int, eq_self, eu, k1, k2, ei] at hc) <;> (try (exfalso; omega))) | (refine Tr.all_req ?_ ?_; · ((try simp (disch := omega) only [nV, mulO_eq, Int.cast_ofNat_Int, eq_self, eu, k1, k2, ei]); try omega)) | (refine Tr.all_reqP ?_ ?_; · first | exact trivial | rfl | exact ⟨rfl, rfl⟩ | exact ⟨rfl, rfl, rfl⟩ | (simp (disch := omega) only [nV, mulO_eq, Int.cast_ofNat_Int, eq_self, eu, k1, k2, ei]; done) | ((try simp (disch := omega) only [nV, mulO_eq, Int.cast_ofNat_Int, eq_self, eu, k1, k2, ei]); omega)) | fail
      · simp only [Nat.zero_add]
        refine Tr.all_ok ?_
        rw [if_pos (by simpa using hc)]
        refine ⟨rfl, ?_, ?_⟩
        · simp (disch := omega) only [nV, mulO_eq, Int.cast_ofNat_Int, eq_self]
          rfl
        · simp (disch := omega) only [nV, Int.cast_ofNat_Int, eq_self, eu]
          rfl
      · simp only [Nat.zero_add]
        refine Tr.all_ok ?_
        rw [if_neg (by simpa using hc)]
        refine ⟨rfl, ?_⟩
        simp (disch := omega) only [nV, Int.cast_ofNat_Int, eq_self, eu]
        rfl
    | succ m =>
      simp only [dF]
      rw [t76b]
      have eu := upto_app3 zd (m + 1)
      have eu' := upto_app3 zd (m + 1)
      rw [show (m + 1) * 3 = mulO (m + 1) 3 by rw [mulO_eq]] at eu'
      have em : mulO (m + 1) 3 = (m + 1) * 3 := mulO_eq _ _
      rw [show lstO [zd (mulO (m + 1) 3), zd (mulO (m + 1) 3 + 1), zd (mulO (m + 1) 3 + 2)] = lstO [zd ((m + 1) * 3), zd ((m + 1) * 3 + 1), zd ((m + 1) * 3 + 2)] by rw [em], show upto zd (mulO (m + 1) 3) = upto zd ((m + 1) * 3) by rw [em]] at eu'
      repeat' first | (refine Tr.all_ite (fun hc => ?_) (fun hc => ?_) <;> (try simp (disch := omega) only [nV, mulO_eq, Int.cast_ofNat_Int, eq_self, eu, k1, k2, ei] at hc) <;> (try (exfalso; omega))) | (refine Tr.all_req ?_ ?_; · ((try simp (disch := omega) only [nV, mulO_eq, Int.cast_ofNat_Int, eq_self, eu, k1, k2, ei]); try omega)) | (refine Tr.all_reqP ?_ ?_; · first | exact trivial | rfl | exact ⟨rfl, rfl⟩ | exact ⟨rfl, rfl, rfl⟩ | (simp (disch := omega) only [nV, mulO_eq, Int.cast_ofNat_Int, eq_self, eu, k1, k2, ei]; done) | ((try simp (disch := omega) only [nV, mulO_eq, Int.cast_ofNat_Int, eq_self, eu, k1, k2, ei]); omega)) | fail
      · refine Tr.all_ok ?_
        rw [if_pos (by simpa using hc)]
        refine ⟨rfl, ?_, ?_⟩
        · simp (disch := omega) only [nV, mulO_eq, Int.cast_ofNat_Int, eq_self]
          rfl
        · simp (disch := omega) only [nV, Int.cast_ofNat_Int, eq_self, eu']
          rfl
      · refine Tr.all_ok ?_
        rw [if_neg (by simpa using hc)]
        refine ⟨rfl, ?_⟩
        simp (disch := omega) only [nV, Int.cast_ofNat_Int, eq_self, eu']
        rfl
  · cases ld with
    | zero =>
      simp only [dF]
      rw [t76a]
      repeat' first | (refine Tr.all_ite (fun hc => ?_) (fun hc => ?_) <;> (try simp (disch := omega) only [nV, mulO_eq, Int.cast_ofNat_Int, eq_self] at hc) <;> (try (exfalso; omega))) | (refine Tr.all_req ?_ ?_; · ((try simp (disch := omega) only [nV, mulO_eq, Int.cast_ofNat_Int, eq_self]); try omega)) | (refine Tr.all_reqP ?_ ?_; · first | exact trivial | rfl | exact ⟨rfl, rfl⟩ | exact ⟨rfl, rfl, rfl⟩ | (simp (disch := omega) only [nV, mulO_eq, Int.cast_ofNat_Int, eq_self]; done) | ((try simp (disch := omega) only [nV, mulO_eq, Int.cast_ofNat_Int, eq_self]); omega)) | fail
      exact Tr.all_ok ⟨rfl, rfl, rfl⟩
    | succ m =>
      simp only [dF]
      rw [t76b]
      repeat' first | (refine Tr.all_ite (fun hc => ?_) (fun hc => ?_) <;> (try simp (disch := omega) only [nV, mulO_eq, Int.cast_ofNat_Int, eq_self] at hc) <;> (try (exfalso; omega))) | (refine Tr.all_req ?_ ?_; · ((try simp (disch := omega) only [nV, mulO_eq, Int.cast_ofNat_Int, eq_self]); try omega)) | (refine Tr.all_reqP ?_ ?_; · first | exact trivial | rfl | exact ⟨rfl, rfl⟩ | exact ⟨rfl, rfl, rfl⟩ | (simp (disch := omega) only [nV, mulO_eq, Int.cast_ofNat_Int, eq_self]; done) | ((try simp (disch := omega) only [nV, mulO_eq, Int.cast_ofNat_Int, eq_self]); omega)) | fail
      exact Tr.all_ok ⟨rfl, rfl, rfl⟩
theorem b76 : ∀ b, (0, b) ∈ blocksOf (bodyOf Try.f76) → b = .loop (part Try.f76 [1,1,1,0,1,0,0]) := by
  have : ((blocksOf (bodyOf Try.f76)).filter fun x => Nat.beq x.1 0) = [(0, .loop (part Try.f76 [1,1,1,0,1,0,0]))] := by kernel_rfl
  intro b hb
  have hm : (0, b) ∈ ((blocksOf (bodyOf Try.f76)).filter fun x => Nat.beq x.1 0) := List.mem_filter.2 ⟨hb, rfl⟩
  rw [this] at hm; simpa using hm
/-- After how many drops two places touch, so much. -/
theorem c76 (h : chkB w ls ld zs zd = 0) (hp : isPl ls p = true) (hq : isPl ls q = true) (hpq : p ≠ q) : cd (n + 10) (.fn 76) [.int .i64 k, .ptr 0 0 0 0, .ptr 0 1 0 0, .ptr 0 2 0 0] (lvQ w ls ld zs zd p q :: H) = some (.int .i64 ((whenN w ld zs zd p q k : Nat) : Int), lvQ w ls ld zs zd p q :: H) := by
  have hc := chk_drops h
  refine fn_all (n := n + 9) Try.func76 rfl rfl rfl (u76 n w k p q ls ld zs zd H (exN (fun j => decide (k ≤ kndR w (j + 1) zs zd p q)) ld) ((whenN w ld zs zd p q k : Nat) : Int) (lvW76 w ls zs zd (fN (fun j => decide (k ≤ kndR w (j + 1) zs zd p q)) ld 0)) (dF zd ld)) (il_no (n + 8) 1) (blkE_ok (noBT_ok _ _) b76 (fun x hx => l76 n w k p q ls ld zs zd H h hp hq hpq x hx)) (noRT_ok _ _) ?_
  repeat' first | (refine Tr.all_ite (fun hc => ?_) (fun hc => ?_) <;> (try simp (disch := omega) only [nV, mulO_eq, Int.cast_ofNat_Int, eq_self] at hc) <;> (try (exfalso; omega))) | (refine Tr.all_req ?_ ?_; · ((try simp (disch := omega) only [nV, mulO_eq, Int.cast_ofNat_Int, eq_self]); try omega)) | (refine Tr.all_reqP ?_ ?_; · first | exact trivial | rfl | exact ⟨rfl, rfl⟩ | exact ⟨rfl, rfl, rfl⟩ | (simp (disch := omega) only [nV, mulO_eq, Int.cast_ofNat_Int, eq_self]; done) | ((try simp (disch := omega) only [nV, mulO_eq, Int.cast_ofNat_Int, eq_self]); omega)) | fail
  · exact Tr.all_ok ⟨rfl, rfl⟩
  · refine Tr.all_ok ⟨?_, rfl⟩
    have := exN_false hc
    unfold whenN
    rw [this]
    simp (disch := omega) only [nV, mulO_eq, Int.cast_ofNat_Int, eq_self]
    rfl
end
end Go.Eng
