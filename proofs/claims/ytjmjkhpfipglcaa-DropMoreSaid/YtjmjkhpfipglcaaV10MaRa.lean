/- Drop: two different places, by numbers. -/
import Derived.Test.YtjmjkhpfipglcaaV10DrUV
import Derived.Test.YtjmjkhpfipglcaaV10DrAB
import Derived.Test.YtjmjkhpfipglcaaV10Fhi
section
namespace Go.Eng
open Go.Proofs
set_option linter.unusedVariables false
set_option linter.unusedSimpArgs false
set_option maxRecDepth 100000
theorem u43 (n : Nat) (w : Int) (ls ld : Nat) (zs zd : Nat → Int) (H : Heap) (a b : Int) : bodyT Try.prog (cd (n+2)) 100000 43 Try.f43 (Kt.kt 43) (il noCt n 2) noBT noRT [(bathA w ls zs ld zd, none), (.agg (.I .u8 [a, b]), none)] H =
  Tr.req (inI (Int.ofNat 0) 2) (Tr.req (notB (eqI (addI .i64 (Int.ofNat ls) (Int.ofNat 2)) (Int.ofNat 0))) (Tr.req (inI (Int.ofNat 1) 2) (Tr.req (notB (eqI (addI .i64 (Int.ofNat ls) (Int.ofNat 2)) (Int.ofNat 0))) (Tr.ite (eqI (subI .i64 (remI IntKind.i64 (wrI IntKind.i64 a) (addI .i64 (Int.ofNat ls) (Int.ofNat 2))) (Int.ofNat 2)) (subI .i64 (remI IntKind.i64 (wrI IntKind.i64 b) (addI .i64 (Int.ofNat ls) (Int.ofNat 2))) (Int.ofNat 2))) (Tr.req (notB (eqI (addI .i64 (Int.ofNat ls) (Int.ofNat 2)) (Int.ofNat 0))) (Tr.req (notB (eqI (addI .i64 (Int.ofNat ls) (Int.ofNat 2)) (Int.ofNat 0))) (Tr.ok ((AV.tup [AV.int .i64 (subI .i64 (remI IntKind.i64 (wrI IntKind.i64 a) (addI .i64 (Int.ofNat ls) (Int.ofNat 2))) (Int.ofNat 2)), AV.int .i64 (subI .i64 (remI IntKind.i64 (wrI IntKind.i64 (wrI IntKind.u8 (remI IntKind.i64 (addI .i64 (addI .i64 (subI .i64 (remI IntKind.i64 (wrI IntKind.i64 a) (addI .i64 (Int.ofNat ls) (Int.ofNat 2))) (Int.ofNat 2)) (Int.ofNat 2)) (Int.ofNat 1)) (addI .i64 (Int.ofNat ls) (Int.ofNat 2))))) (addI .i64 (Int.ofNat ls) (Int.ofNat 2))) (Int.ofNat 2))], none), H)))) (Tr.ok ((AV.tup [AV.int .i64 (subI .i64 (remI IntKind.i64 (wrI IntKind.i64 a) (addI .i64 (Int.ofNat ls) (Int.ofNat 2))) (Int.ofNat 2)), AV.int .i64 (subI .i64 (remI IntKind.i64 (wrI IntKind.i64 b) (addI .i64 (Int.ofNat ls) (Int.ofNat 2))) (Int.ofNat 2))], none), H)))))) := by kernel_rfl
/-- A place, by a number. -/
def plN (ls : Nat) (a : Int) : Int := a % ((ls : Int) + 2) - 2
def twoP (ls : Nat) (a b : Int) : Int := if plN ls a = plN ls b then plN ls ((plN ls a + 3) % ((ls : Int) + 2)) else plN ls b
theorem two_ok {ls : Nat} {a b : Int} (hl : ls ≤ 15) (ha : 0 ≤ a) (hb : 0 ≤ b) : (-2 ≤ plN ls a ∧ plN ls a < ls) ∧ (-2 ≤ twoP ls a b ∧ twoP ls a b < ls) ∧ plN ls a ≠ twoP ls a b := by
  have r : ∀ x : Int, -2 ≤ plN ls x ∧ plN ls x < ls := fun x => by
    unfold plN
    have h1 := Int.emod_nonneg x (show ((ls : Int) + 2) ≠ 0 by omega)
    have h2 := Int.emod_lt_of_pos x (show 0 < ((ls : Int) + 2) by omega)
    omega
  refine ⟨r a, ?_, ?_⟩
  · unfold twoP; split
    · exact r _
    · exact r _
  · unfold twoP
    split
    · intro h
      have h0 := r a
      generalize plN ls a = p at h h0
      by_cases e : p + 3 < (ls : Int) + 2
      · have e1 : (p + 3) % ((ls : Int) + 2) = p + 3 := Int.emod_eq_of_lt (by omega) e
        unfold plN at h
        rw [e1, e1] at h; omega
      · have e1 : (p + 3) % ((ls : Int) + 2) = 0 := by
          rw [show p + 3 = (ls : Int) + 2 by omega, Int.emod_self]
        unfold plN at h
        rw [e1, Int.zero_emod] at h; omega
    · assumption
theorem rem_mod {x : Int} {m : Int} (h0 : 0 ≤ x) : remI .i64 x m = x % m := by rw [remI_eq, Int.tmod_eq_emod_of_nonneg h0]
theorem wr_64' {x : Int} (h0 : -9223372036854775808 ≤ x) (h1 : x ≤ 9223372036854775807) : wrI .i64 x = x := by rw [wrI_eq, wr_64 h0 h1]
theorem wr_8 {x : Int} (h0 : 0 ≤ x) (h1 : x ≤ 255) : wrI .u8 x = x := by
  rw [wrI_eq]
  simp only [IntKind.wrap, IntKind.signed, IntKind.bits]
  simp
  omega
theorem c43 (n : Nat) (w : Int) (ls ld : Nat) (zs zd : Nat → Int) (H : Heap) (a b : Int) (hl : ls ≤ 15) (ha : 0 ≤ a ∧ a ≤ 255) (hb : 0 ≤ b ∧ b ≤ 255) : cd (n + 3) (.fn 43) [bathA w ls zs ld zd, .agg (.I .u8 [a, b])] H = some (.tup [.int .i64 (plN ls a), .int .i64 (twoP ls a b)], H) := by
  refine fn_all (n := n + 2) Try.func43 rfl rfl rfl (u43 n w ls ld zs zd H a b) (il_no n 2) (noBT_ok _ _) (noRT_ok _ _) ?_
  obtain ⟨k1, -, -⟩ := two_ok (a := a) (b := b) hl ha.1 hb.1
  have m0 : ∀ x : Int, 0 ≤ x % ((ls : Int) + 2) ∧ x % ((ls : Int) + 2) < (ls : Int) + 2 := fun x => ⟨Int.emod_nonneg x (by omega), Int.emod_lt_of_pos x (by omega)⟩
  have eL : addI .i64 (Int.ofNat ls) (Int.ofNat 2) = (ls : Int) + 2 := by simp (disch := omega) only [nV, mulO_eq, Int.cast_ofNat_Int, eq_self]
  have eP : ∀ x : Int, 0 ≤ x → x ≤ 255 → subI .i64 (remI .i64 (wrI .i64 x) ((ls : Int) + 2)) (Int.ofNat 2) = plN ls x := fun x h0 h1 => by
    rw [wr_64' (by omega) (by omega), rem_mod h0, subI_eq]
    have := m0 x
    unfold plN
    exact wr_64 (by rw [show Int.ofNat 2 = 2 from rfl]; omega) (by rw [show Int.ofNat 2 = 2 from rfl]; omega)
  have eQ : wrI .u8 (remI .i64 (addI .i64 (addI .i64 (plN ls a) (Int.ofNat 2)) (Int.ofNat 1)) ((ls : Int) + 2)) = (plN ls a + 3) % ((ls : Int) + 2) := by
    have e : addI .i64 (addI .i64 (plN ls a) (Int.ofNat 2)) (Int.ofNat 1) = plN ls a + 3 := by
      simp (disch := omega) only [nV, mulO_eq, Int.cast_ofNat_Int, eq_self]
      omega
    have := m0 (plN ls a + 3)
    rw [e, rem_mod (by omega), wr_8 this.1 (by omega)]
  have := m0 (plN ls a + 3)
  rw [eL, eP a ha.1 ha.2, eP b hb.1 hb.2, eQ, eP _ this.1 (by omega)]
  unfold twoP
  repeat' first | (refine Tr.all_ite (fun hc => ?_) (fun hc => ?_) <;> (try simp (disch := omega) only [nV, mulO_eq, Int.cast_ofNat_Int, eq_self] at hc) <;> (try (exfalso; omega))) | (refine Tr.all_req ?_ ?_; · ((try simp (disch := omega) only [nV, mulO_eq, Int.cast_ofNat_Int, eq_self]); try omega)) | (refine Tr.all_reqP ?_ ?_; · first | exact trivial | rfl | exact ⟨rfl, rfl⟩ | exact ⟨rfl, rfl, rfl⟩ | (simp (disch := omega) only [nV, mulO_eq, Int.cast_ofNat_Int, eq_self]; done) | ((try simp (disch := omega) only [nV, mulO_eq, Int.cast_ofNat_Int, eq_self]); omega)) | fail
  · rw [if_pos hc]; exact Tr.all_ok ⟨rfl, rfl⟩
  · rw [if_neg hc]; exact Tr.all_ok ⟨rfl, rfl⟩
end Go.Eng
end

section
namespace Go.Eng
open Go.Proofs
set_option linter.unusedVariables false
set_option linter.unusedSimpArgs false
set_option maxRecDepth 100000
noncomputable def fr50 (s p : Int) : Frm := [(1, .int .i64 s), (2, .ptr 0 0 0 0), (5, .int .i64 p)]
noncomputable def g48v (f : Nat) (w : Int) (ls : Nat) (zs : Nat → Int) (s : Int) (sd : Nat → (Nat → Int) → Prop) (al : Nat → (Nat → Int) → Bool) : List AV → Option (Prop × AV)
  | [.agg (.G [.int .i64 w', S, .slcT none (.M [.arr .i64 z N]) 3 m full]), .int .i64 s'] => some (w' = w ∧ S = slA 2 ls zs ∧ N = mulO m 3 ∧ full = false ∧ s' = s ∧ sd m z, .bool (al m z))
  | _ => none
noncomputable def g47w (B : AV) (w : Int) (ls ld' : Nat) (zs : Nat → Int) (s : Int) (bz : Int → Nat → Int) : List AV → Option (Prop × AV)
  | [b, .agg (.I .i64 [s', x, y])] => some (b = B ∧ s' = s ∧ y = x, bathA w ls zs ld' (bz x))
  | _ => none
def gK2 (B : AV) (P Q k e : Int) : List AV → Option (Prop × AV)
  | [b, .int .i64 p, .int .i64 q] => some (b = B ∧ p = P ∧ q = Q, .tup [.int .i64 k, .int .i64 e])
  | _ => none
def gR2 (B : AV) (S a e : Int) : List AV → Option (Prop × AV)
  | [x, .int .i64 s] => some (x = B ∧ s = S, .tup [.int .i64 a, .int .i64 e])
  | _ => none
theorem t50 (n : Nat) (w : Int) (ls ld : Nat) (zs zd : Nat → Int) (H : Heap) (s p k e : Int) : execT (cxD (n+17) 50 31) (il (ctG noCt 21 (gK2 (bathA w ls zs ld zd) s p k e)) (n+16) 1) noBT noRT (part Try.f50 [1,0,1,0,0]) (hints (fr50 s p)) (lvB w ls ld zs zd :: H) =
  Tr.ite (ltI p (Int.ofNat ls)) (Tr.ite (eqI p s) (Tr.ok (Ex.normal, [(1, AV.int .i64 s, none), (2, AV.ptr 0 0 0 0, none), (5, AV.int .i64 (addI .i64 p (Int.ofNat 1)), none)], lvB w ls ld zs zd :: H)) (Tr.reqP (bathA w ls zs ld zd = bathA w ls zs ld zd ∧ s = s ∧ p = p) (Tr.ite (notB (eqI e (Int.ofNat 0))) (Tr.ok (Ex.ret, [(4, AV.bool false, some 1)], lvB w ls ld zs zd :: H)) (Tr.ite (notB (eqI k (Int.ofNat 0))) (Tr.ok (Ex.ret, [(4, AV.bool false, some 1)], lvB w ls ld zs zd :: H)) (Tr.ok (Ex.normal, [(1, AV.int .i64 s, none), (2, AV.ptr 0 0 0 0, none), (5, AV.int .i64 (addI .i64 p (Int.ofNat 1)), none)], lvB w ls ld zs zd :: H)))))) (Tr.ok (Ex.exit 0, [(1, AV.int .i64 s, none), (2, AV.ptr 0 0 0 0, none), (5, AV.int .i64 p, none), (12, AV.bool false, some 1)], lvB w ls ld zs zd :: H)) := by kernel_rfl
theorem t50e (n : Nat) (w : Int) (ls ld : Nat) (zs zd : Nat → Int) (H : Heap) (s p : Int) : execT (cxD (n+17) 50 31) (il (ctG noCt 21 (fun _ => none)) (n+16) 1) noBT noRT (part Try.f50 [1,0,1,0,0]) (hints (fr50 s p)) (lvB w ls ld zs zd :: H) =
  Tr.ite (ltI p (Int.ofNat ls)) (Tr.ite (eqI p s) (Tr.ok (Ex.normal, [(1, AV.int .i64 s, none), (2, AV.ptr 0 0 0 0, none), (5, AV.int .i64 (addI .i64 p (Int.ofNat 1)), none)], lvB w ls ld zs zd :: H)) Tr.bad) (Tr.ok (Ex.exit 0, [(1, AV.int .i64 s, none), (2, AV.ptr 0 0 0 0, none), (5, AV.int .i64 p, none), (12, AV.bool false, some 1)], lvB w ls ld zs zd :: H)) := by kernel_rfl
theorem u50 (n : Nat) (w : Int) (ls ld : Nat) (zs zd : Nat → Int) (H : Heap) (s : Int) (e : Bool) : bodyT Try.prog (cd (n+17)) 100000 50 Try.f50 (Kt.kt 50) (il noCt (n+16) 1) (blkE noBT 0 (fr50 s (-2)) (lvB w ls ld zs zd :: H) (.ite e (.ok (.ret, [(4, .bool false, none)], lvB w ls ld zs zd :: H)) (.ok (.normal, hints (fr50 s (Int.ofNat ls) ++ [(12, .bool false)]), lvB w ls ld zs zd :: H)))) noRT [(bathA w ls zs ld zd, none), (.int .i64 s, none)] H =
  Tr.reqP ([(1, AV.int .i64 s), (2, AV.ptr 0 0 0 0), (5, AV.int .i64 (Int.negSucc 1))] = [(1, AV.int .i64 s), (2, AV.ptr 0 0 0 0), (5, AV.int .i64 (Int.negSucc 1))] ∧ lvB w ls ld zs zd :: H = lvB w ls ld zs zd :: H) (Tr.ite e (Tr.ok ((AV.bool false, none), H)) (Tr.ok ((AV.bool true, some 1), H))) := by kernel_rfl
theorem u11 (n : Nat) (w : Int) (ls ld ld' : Nat) (zs zd : Nat → Int) (H : Heap) (a b s e0 rn re : Int) (bz : Int → Nat → Int) (sd sd2 : Nat → (Nat → Int) → Prop) (al : Nat → (Nat → Int) → Bool) : bodyT Try.prog (cd (n+20)) 100000 11 Try.f11 (Kt.kt 11) (il (ctG (ctG (ctG (ctG (ctG (ctG noCt 16 g16) 20 (g20 (bathA w ls zs ld zd) e0)) 27 (gR2 (bathA w ls zs ld zd) s rn re)) 47 (g47w (bathA w ls zs ld zd) w ls ld' zs s bz)) 48 (g48v 48 w ls zs s sd al)) 50 (g48v 50 w ls zs s sd2 al)) (n+18) 2) noBT noRT [(bathA w ls zs ld zd, none), (.int .u8 a, none), (.int .u16 b, none)] H =
  Tr.ite (ltI (Int.ofNat 15) (Int.ofNat ls)) (Tr.reqP True (Tr.ok ((AV.bool true, none), H))) (Tr.ite (notB (ltI (Int.ofNat 50) (Int.ofNat ld))) (Tr.reqP (bathA w ls zs ld zd = bathA w ls zs ld zd) (Tr.ite (notB (eqI e0 (Int.ofNat 0))) (Tr.reqP True (Tr.ok ((AV.bool true, none), H))) (Tr.ite (eqI (Int.ofNat ls) (Int.ofNat 0)) (Tr.reqP True (Tr.ok ((AV.bool true, none), H))) (Tr.req (notB (eqI (Int.ofNat ls) (Int.ofNat 0))) (Tr.reqP (bathA w ls zs ld zd = bathA w ls zs ld zd ∧ remI IntKind.i64 (wrI IntKind.i64 a) (Int.ofNat ls) = s) (Tr.ite (notB (eqI re (Int.ofNat 0))) (Tr.ite (eqI re (Int.ofNat 10)) (Tr.ite (eqI rn (Int.ofNat 0)) (Tr.reqP (w = w ∧ slA 2 ls zs = slA 2 ls zs ∧ mulO ld 3 = mulO ld 3 ∧ false = false ∧ remI IntKind.i64 (wrI IntKind.i64 a) (Int.ofNat ls) = s ∧ sd ld zd) (Tr.ite (notB (al ld zd)) (Tr.reqP True (Tr.ok ((AV.bool true, none), H))) (Tr.ok ((AV.bool false, some 1), H)))) (Tr.ok ((AV.bool false, some 1), H))) (Tr.ok ((AV.bool false, some 1), H))) (Tr.ite (ltI rn (Int.ofNat 0)) (Tr.ok ((AV.bool false, some 1), H)) (Tr.ite (ltI (Int.ofNat 10000) rn) (Tr.ok ((AV.bool false, some 1), H)) (Tr.reqP (w = w ∧ slA 2 ls zs = slA 2 ls zs ∧ mulO ld 3 = mulO ld 3 ∧ false = false ∧ remI IntKind.i64 (wrI IntKind.i64 a) (Int.ofNat ls) = s ∧ sd ld zd) (Tr.ite (notB (al ld zd)) (Tr.ok ((AV.bool false, some 1), H)) (Tr.ite (ltI (Int.ofNat 0) rn) (Tr.ite (ltI (Int.ofNat ld) (Int.ofNat 40)) (Tr.reqP (bathA w ls zs ld zd = bathA w ls zs ld zd ∧ remI IntKind.i64 (wrI IntKind.i64 a) (Int.ofNat ls) = s ∧ rn = rn) (Tr.reqP (w = w ∧ slA 2 ls zs = slA 2 ls zs ∧ mulO ld' 3 = mulO ld' 3 ∧ false = false ∧ remI IntKind.i64 (wrI IntKind.i64 a) (Int.ofNat ls) = s ∧ sd2 ld' (bz rn)) (Tr.ite (notB (al ld' (bz rn))) (Tr.ok ((AV.bool false, some 1), H)) (Tr.ite (ltI (Int.ofNat 10000) (addI .i64 (addI .i64 rn (Int.ofNat 1)) (wrI IntKind.i64 b))) (Tr.reqP True (Tr.ok ((AV.bool true, none), H))) (Tr.reqP (bathA w ls zs ld zd = bathA w ls zs ld zd ∧ remI IntKind.i64 (wrI IntKind.i64 a) (Int.ofNat ls) = s ∧ addI .i64 (addI .i64 rn (Int.ofNat 1)) (wrI IntKind.i64 b) = addI .i64 (addI .i64 rn (Int.ofNat 1)) (wrI IntKind.i64 b)) (Tr.reqP (w = w ∧ slA 2 ls zs = slA 2 ls zs ∧ mulO ld' 3 = mulO ld' 3 ∧ false = false ∧ remI IntKind.i64 (wrI IntKind.i64 a) (Int.ofNat ls) = s ∧ sd ld' (bz (addI .i64 (addI .i64 rn (Int.ofNat 1)) (wrI IntKind.i64 b)))) (Tr.ite (notB (al ld' (bz (addI .i64 (addI .i64 rn (Int.ofNat 1)) (wrI IntKind.i64 b))))) (Tr.reqP True (Tr.ok ((AV.bool true, none), H))) (Tr.ok ((AV.bool false, some 1), H))))))))) (Tr.ite (ltI (Int.ofNat 10000) (addI .i64 (addI .i64 rn (Int.ofNat 1)) (wrI IntKind.i64 b))) (Tr.reqP True (Tr.ok ((AV.bool true, none), H))) (Tr.reqP (bathA w ls zs ld zd = bathA w ls zs ld zd ∧ remI IntKind.i64 (wrI IntKind.i64 a) (Int.ofNat ls) = s ∧ addI .i64 (addI .i64 rn (Int.ofNat 1)) (wrI IntKind.i64 b) = addI .i64 (addI .i64 rn (Int.ofNat 1)) (wrI IntKind.i64 b)) (Tr.reqP (w = w ∧ slA 2 ls zs = slA 2 ls zs ∧ mulO ld' 3 = mulO ld' 3 ∧ false = false ∧ remI IntKind.i64 (wrI IntKind.i64 a) (Int.ofNat ls) = s ∧ sd ld' (bz (addI .i64 (addI .i64 rn (Int.ofNat 1)) (wrI IntKind.i64 b)))) (Tr.ite (notB (al ld' (bz (addI .i64 (addI .i64 rn (Int.ofNat 1)) (wrI IntKind.i64 b))))) (Tr.reqP True (Tr.ok ((AV.bool true, none), H))) (Tr.ok ((AV.bool false, some 1), H))))))) (Tr.ite (ltI (Int.ofNat 10000) (addI .i64 (addI .i64 rn (Int.ofNat 1)) (wrI IntKind.i64 b))) (Tr.reqP True (Tr.ok ((AV.bool true, none), H))) (Tr.reqP (bathA w ls zs ld zd = bathA w ls zs ld zd ∧ remI IntKind.i64 (wrI IntKind.i64 a) (Int.ofNat ls) = s ∧ addI .i64 (addI .i64 rn (Int.ofNat 1)) (wrI IntKind.i64 b) = addI .i64 (addI .i64 rn (Int.ofNat 1)) (wrI IntKind.i64 b)) (Tr.reqP (w = w ∧ slA 2 ls zs = slA 2 ls zs ∧ mulO ld' 3 = mulO ld' 3 ∧ false = false ∧ remI IntKind.i64 (wrI IntKind.i64 a) (Int.ofNat ls) = s ∧ sd ld' (bz (addI .i64 (addI .i64 rn (Int.ofNat 1)) (wrI IntKind.i64 b)))) (Tr.ite (notB (al ld' (bz (addI .i64 (addI .i64 rn (Int.ofNat 1)) (wrI IntKind.i64 b))))) (Tr.reqP True (Tr.ok ((AV.bool true, none), H))) (Tr.ok ((AV.bool false, some 1), H))))))))))))))))) (Tr.reqP True (Tr.ok ((AV.bool true, none), H)))) := by kernel_rfl
theorem chk_with {w : Int} {ls ld : Nat} {zs zd : Nat → Int} {s : Int} (h : chkB w ls ld zs zd = 0) (hs : 0 ≤ s ∧ s < ls) (hl : ld < 40) {m : Int} (hm : 1 ≤ m ∧ m ≤ 10000) : chkB w ls (ld + 1) zs (withZ zd ld s m m) = 0 := by
  have hb := with_bad h hs hm
  have e1 : exN (badD ls (withZ zd ld s m m)) (ld + 1) = false := by
    cases hq : exN (badD ls (withZ zd ld s m m)) (ld + 1) with
    | false => rfl
    | true =>
      obtain ⟨i, hi, hp⟩ := (exN_iff _ _).1 hq
      rw [hb i hi] at hp; cases hp
  have e2 : ¬ 40 < ld + 1 := by omega
  have e3 : ¬ 40 < ld := by omega
  unfold chkB at h ⊢
  simp only [e2, e3, decide_false, cond_false] at h ⊢
  rw [e1]
  revert h
  cases exN (badD ls zd) ld
  · exact id
  · cases decide (w < 2) <;> cases decide (1000 < w) <;> cases decide (10 < ls) <;> cases exN (badS w zs) ls <;> cases exN (fun i => exN (eqS zs i) i) ls <;> simp
theorem b50 : ∀ b, (0, b) ∈ blocksOf (bodyOf Try.f50) → b = .loop (part Try.f50 [1,0,1,0,0]) := by
  have : ((blocksOf (bodyOf Try.f50)).filter fun x => Nat.beq x.1 0) = [(0, .loop (part Try.f50 [1,0,1,0,0]))] := by kernel_rfl
  intro b hb
  have hm : (0, b) ∈ ((blocksOf (bodyOf Try.f50)).filter fun x => Nat.beq x.1 0) := List.mem_filter.2 ⟨hb, rfl⟩
  rw [this] at hm; simpa using hm
theorem pl_ok {w : Int} {ls ld : Nat} {zs zd : Nat → Int} {p q : Int} (h : chkB w ls ld zs zd = 0) (hp : -2 ≤ p ∧ p < ls) (hq : -2 ≤ q ∧ q < ls) (hpq : p ≠ q) : plE w ls ld zs zd p q = 0 ∧ touK w ls ld zs zd p q = kndR w ld zs zd p q := by
  have e : plE w ls ld zs zd p q = 0 := by
    unfold plE
    rw [if_neg (fun x => x h), if_pos ⟨by simp [isPl]; omega, by simp [isPl]; omega, hpq⟩]
  refine ⟨e, ?_⟩
  unfold touK
  rw [if_neg (fun x => x e)]
theorem ctK2 {n f : Nat} {B : AV} {P Q k e : Int} {t : Ctr} (ht : t.Ok (cd n)) (h : ∀ H, cd n (.fn f) [B, .int .i64 P, .int .i64 Q] H = some (.tup [.int .i64 k, .int .i64 e], H)) : (ctG t f (gK2 B P Q k e)).Ok (cd n) := by
  refine ctG_ok ht (fun args p v hg hp H => ?_)
  unfold gK2 at hg
  split at hg
  · simp only [Option.some.injEq, Prod.mk.injEq] at hg
    obtain ⟨rfl, rfl⟩ := hg
    obtain ⟨rfl, rfl, rfl⟩ := hp
    exact h H
  · cases hg
theorem ctR2 {n f : Nat} {B : AV} {S a e : Int} {t : Ctr} (ht : t.Ok (cd n)) (h : ∀ H, cd n (.fn f) [B, .int .i64 S] H = some (.tup [.int .i64 a, .int .i64 e], H)) : (ctG t f (gR2 B S a e)).Ok (cd n) := by
  refine ctG_ok ht (fun args p v hg hp H => ?_)
  unfold gR2 at hg
  split at hg
  · simp only [Option.some.injEq, Prod.mk.injEq] at hg
    obtain ⟨rfl, rfl⟩ := hg
    obtain ⟨rfl, rfl⟩ := hp
    exact h H
  · cases hg
section
variable (n : Nat) (w : Int) (ls ld : Nat) (zs zd : Nat → Int) (H : Heap) (s : Int)
theorem c50 (h : chkB w ls ld zs zd = 0) (hs : 0 ≤ s ∧ s < ls) : cd (n + 18) (.fn 50) [bathA w ls zs ld zd, .int .i64 s] H = some (.bool (alnR w ls ld zs zd s), H) := by
  have hls := (chk_ok h).1
  have l50 := findX (n := n + 17) (f := 50) (nt := 31) (c := part Try.f50 [1,0,1,0,0]) 0 (fun j => fr50 s ((j : Int) - 2)) (fun _ => lvB w ls ld zs zd :: H) (ls + 2) (fun j => decide ((j : Int) - 2 ≠ s) && decide (kndR w ld zs zd s ((j : Int) - 2) ≠ 0))
    (fun j => ([(4, .bool false)], lvB w ls ld zs zd :: H)) (fr50 s (Int.ofNat ls) ++ [(12, .bool false)], lvB w ls ld zs zd :: H) (by omega) (fun j hj => ?_) ?_
  · refine fn_all (n := n + 17) Try.func50 rfl rfl rfl (u50 n w ls ld zs zd H s (exN (fun j => decide ((j : Int) - 2 ≠ s) && decide (kndR w ld zs zd s ((j : Int) - 2) ≠ 0)) (ls + 2))) (il_no (n + 16) 1) (blkE_ok (noBT_ok _ _) b50 (fun x hx => ?_)) (noRT_ok _ _) ?_
    · refine l50.trans ?_
      rcases Tr.ite_some hx with ⟨hc, hx⟩ | ⟨hc, hx⟩
      · rw [← Tr.ok_some hx, hc]; rfl
      · rw [← Tr.ok_some hx, hc]; simp only [Res.st, hints_eq]; rfl
    · unfold alnR
      repeat' first | (refine Tr.all_ite (fun hc => ?_) (fun hc => ?_) <;> (try simp (disch := omega) only [nV, mulO_eq, Int.cast_ofNat_Int, eq_self] at hc) <;> (try (exfalso; omega))) | (refine Tr.all_req ?_ ?_; · ((try simp (disch := omega) only [nV, mulO_eq, Int.cast_ofNat_Int, eq_self]); try omega)) | (refine Tr.all_reqP ?_ ?_; · first | exact trivial | rfl | exact ⟨rfl, rfl⟩ | exact ⟨rfl, rfl, rfl⟩ | (simp (disch := omega) only [nV, mulO_eq, Int.cast_ofNat_Int, eq_self]; done) | ((try simp (disch := omega) only [nV, mulO_eq, Int.cast_ofNat_Int, eq_self]); omega)) | fail
      · refine Tr.all_ok ⟨?_, rfl⟩; rw [hc]; rfl
      · refine Tr.all_ok ⟨?_, rfl⟩; rw [hc]; rfl
  · have ej : IntKind.i64.wrap ((j : Int) - 2 + 1) = ((j + 1 : Nat) : Int) - 2 := by rw [wr_64 (by omega) (by omega)]; omega
    by_cases hne : s = (j : Int) - 2
    · refine ex_all (t50e n w ls ld zs zd H s ((j : Int) - 2)) (il_ok _ (n + 16) 1 (fun k => ctG_ok (noCt_ok _) (fun args p v hg hp H => by cases hg))) (noBT_ok _ _) (noRT_ok _ _) ?_
      repeat' first | (refine Tr.all_ite (fun hc => ?_) (fun hc => ?_) <;> (try simp (disch := omega) only [nV, mulO_eq, Int.cast_ofNat_Int, eq_self] at hc) <;> (try (exfalso; omega))) | (refine Tr.all_req ?_ ?_; · ((try simp (disch := omega) only [nV, mulO_eq, Int.cast_ofNat_Int, eq_self]); try omega)) | (refine Tr.all_reqP ?_ ?_; · first | exact trivial | rfl | exact ⟨rfl, rfl⟩ | exact ⟨rfl, rfl, rfl⟩ | (simp (disch := omega) only [nV, mulO_eq, Int.cast_ofNat_Int, eq_self]; done) | ((try simp (disch := omega) only [nV, mulO_eq, Int.cast_ofNat_Int, eq_self]); omega)) | fail
      refine Tr.all_ok ?_
      rw [if_neg (by simp [hne])]
      refine ⟨rfl, ?_⟩
      simp only [addI_eq, ofNat_cast, Int.natCast_one]
      rw [ej]; rfl
    · obtain ⟨k1, k2⟩ := pl_ok (p := s) (q := (j : Int) - 2) h (by omega) (by omega) hne
      refine ex_all (t50 n w ls ld zs zd H s ((j : Int) - 2) (touK w ls ld zs zd s ((j : Int) - 2)) (plE w ls ld zs zd s ((j : Int) - 2))) (il_ok _ (n + 16) 1 (fun k => ctK2 (noCt_ok _) (fun H => ?_))) (noBT_ok _ _) (noRT_ok _ _) ?_
      · rw [show n + 16 + k = n + k + 16 by omega]; exact c21 _ w ls ld zs zd H _ _
      · rw [k1, k2]
        have hne' : (j : Int) - 2 ≠ s := fun x => hne x.symm
        repeat' first | (refine Tr.all_ite (fun hc => ?_) (fun hc => ?_) <;> (try simp (disch := omega) only [nV, mulO_eq, Int.cast_ofNat_Int, eq_self] at hc) <;> (try (exfalso; omega))) | (refine Tr.all_req ?_ ?_; · ((try simp (disch := omega) only [nV, mulO_eq, Int.cast_ofNat_Int, eq_self]); try omega)) | (refine Tr.all_reqP ?_ ?_; · first | exact trivial | rfl | exact ⟨rfl, rfl⟩ | exact ⟨rfl, rfl, rfl⟩ | (simp (disch := omega) only [nV, mulO_eq, Int.cast_ofNat_Int, eq_self]; done) | ((try simp (disch := omega) only [nV, mulO_eq, Int.cast_ofNat_Int, eq_self]); omega)) | fail
        all_goals refine Tr.all_ok ?_
        · rw [if_pos (by simp [hne', hc])]; rfl
        · rw [if_neg (by simp [hc])]
          refine ⟨rfl, ?_⟩
          simp only [addI_eq, ofNat_cast, Int.natCast_one]
          rw [ej]; rfl
  · have em : ((ls + 2 : Nat) : Int) - 2 = Int.ofNat ls := by rw [ofNat_cast]; omega
    rw [em]
    have := ex_all (f := 50) (nt := 31) (Q := fun x => x = (.exit 0, fr50 s (Int.ofNat ls) ++ [(12, .bool false)], lvB w ls ld zs zd :: H)) (t50e n w ls ld zs zd H s (Int.ofNat ls)) (il_ok _ (n + 16) 1 (fun k => ctG_ok (noCt_ok _) (fun args p v hg hp H => by cases hg))) (noBT_ok _ _) (noRT_ok _ _) ?_
    · obtain ⟨x, h1, rfl⟩ := this; exact h1
    · repeat' first | (refine Tr.all_ite (fun hc => ?_) (fun hc => ?_) <;> (try simp (disch := omega) only [nV, mulO_eq, Int.cast_ofNat_Int, eq_self] at hc) <;> (try (exfalso; omega))) | (refine Tr.all_req ?_ ?_; · ((try simp (disch := omega) only [nV, mulO_eq, Int.cast_ofNat_Int, eq_self]); try omega)) | (refine Tr.all_reqP ?_ ?_; · first | exact trivial | rfl | exact ⟨rfl, rfl⟩ | exact ⟨rfl, rfl, rfl⟩ | (simp (disch := omega) only [nV, mulO_eq, Int.cast_ofNat_Int, eq_self]; done) | ((try simp (disch := omega) only [nV, mulO_eq, Int.cast_ofNat_Int, eq_self]); omega)) | fail
      exact Tr.all_ok rfl
def sdA (ld : Nat) (zd : Nat → Int) (s : Int) (m : Nat) (z : Nat → Int) : Prop := (m = ld ∧ z = zd) ∨ (m = ld + 1 ∧ ∃ x : Int, 1 ≤ x ∧ x ≤ 10000 ∧ z = withZ zd ld s x x)
def sdB (ld : Nat) (zd : Nat → Int) (s : Int) (m : Nat) (z : Nat → Int) : Prop := m = ld + 1 ∧ ld < 40 ∧ ∃ x : Int, 1 ≤ x ∧ x ≤ 10000 ∧ z = withZ zd ld s x x
theorem il11 (h : chkB w ls ld zs zd = 0) (hs : 0 ≤ s ∧ s < ls) : (il (ctG (ctG (ctG (ctG (ctG (ctG noCt 16 g16) 20 (g20 (bathA w ls zs ld zd) (chkB w ls ld zs zd))) 27 (gR2 (bathA w ls zs ld zd) s (roomX w ls ld zs zd s).1 (roomX w ls ld zs zd s).2)) 47 (g47w (bathA w ls zs ld zd) w ls (ld + 1) zs s (fun x => withZ zd ld s x x))) 48 (g48v 48 w ls zs s (sdA ld zd s) (fun m z => alnR w ls m zs z s))) 50 (g48v 50 w ls zs s (sdB ld zd s) (fun m z => alnR w ls m zs z s))) (n+18) 2).Ok (cd (n + 20)) := by
  have hc := chk_ok h
  refine il_ok _ (n + 18) 2 (fun k => ?_)
  refine ctG_ok (ctG_ok (ctG_ok (ctR2 ?_ (fun H => ?_)) (fun args p v hg hp H => ?_)) (fun args p v hg hp H => ?_)) (fun args p v hg hp H => ?_)
  · have h1 : (ctG noCt 16 g16).Ok (cd (n + 17 + k + 1)) := ctW (noCt_ok _)
    have := ct20 (n + 16) w ls ld zs zd k _ (by rw [show n + 16 + 2 + k = n + 17 + k + 1 by omega]; exact h1)
    rwa [show n + 16 + 2 + k = n + 18 + k by omega] at this
  · rw [show n + 18 + k = n + 4 + k + 14 by omega]; exact c27 _ w ls ld zs zd H s
  · unfold g47w at hg
    split at hg
    · simp only [Option.some.injEq, Prod.mk.injEq] at hg
      obtain ⟨rfl, rfl⟩ := hg
      obtain ⟨rfl, rfl, rfl⟩ := hp
      rw [show n + 18 + k = n + 16 + k + 2 by omega]
      exact c47 _ w ls ld zs zd H _ _ _ (by omega)
    · cases hg
  · unfold g48v at hg
    split at hg
    · simp only [Option.some.injEq, Prod.mk.injEq] at hg
      obtain ⟨rfl, rfl⟩ := hg
      obtain ⟨rfl, rfl, rfl, rfl, rfl, hp⟩ := hp
      rw [show n + 18 + k = n + 11 + k + 7 by omega]
      rcases hp with ⟨rfl, rfl⟩ | ⟨rfl, x, h1, h2, rfl⟩
      · exact c48 _ _ ls _ zs _ H _ hc.1 (fun p k1 k2 => knd_ok h (by simp [isPl]; omega) (by simp [isPl]; omega))
      · exact c48 _ _ ls _ zs _ H _ hc.1 (fun p k1 k2 => with_knd h hs ⟨h1, h2⟩ p k1 k2)
    · cases hg
  · unfold g48v at hg
    split at hg
    · simp only [Option.some.injEq, Prod.mk.injEq] at hg
      obtain ⟨rfl, rfl⟩ := hg
      obtain ⟨rfl, rfl, rfl, rfl, rfl, hp⟩ := hp
      rw [show n + 18 + k = n + k + 18 by omega]
      obtain ⟨rfl, hl, x, h1, h2, rfl⟩ := hp
      exact c50 _ _ ls _ zs _ H _ (chk_with h hs hl ⟨h1, h2⟩) hs
    · cases hg
end
end Go.Eng
end
