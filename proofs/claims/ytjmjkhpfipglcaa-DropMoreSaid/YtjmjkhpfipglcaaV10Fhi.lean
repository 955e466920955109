/- Drop: Room; the law DropFirsts. -/
import Derived.Test.YtjmjkhpfipglcaaV10Fdg
section
namespace Go.Eng
open Go.Proofs
set_option linter.unusedVariables false
set_option linter.unusedSimpArgs false
set_option maxRecDepth 100000
theorem t28e (n : Nat) (w : Int) (ls ld : Nat) (zs zd : Nat → Int) (H : Heap) (s g b : Int) : execT (cxD (n+8) 28 42) (il (ctG (ctG noCt 47 (fun _ => none)) 48 (fun _ => none)) (n+7) 1) noBT noRT (part Try.f28 [1,1,1,1,1,0,0,0]) (hints (fr28 s g b)) (lvB w ls ld zs zd :: H) =
  Tr.ite (ltI (addI .i64 g (Int.ofNat 1)) b) (Tr.req (notB (eqI (Int.ofNat 2) (Int.ofNat 0))) Tr.bad) (Tr.ok (Ex.exit 0, [(1, AV.int .i64 s, none), (2, AV.ptr 0 0 0 0, none), (6, AV.int .i64 g, none), (7, AV.int .i64 b, none), (25, AV.bool false, some 1)], lvB w ls ld zs zd :: H)) := by kernel_rfl
theorem t27e (n : Nat) (w : Int) (ls ld : Nat) (zs zd sz kd : Nat → Int) (H : Heap) (s r st : Int) : execT (cxD (n+13) 27 51) (il (ctG noCt 79 (fun _ => none)) (n+12) 1) noBT noRT (part Try.f27 [1,1,1,1,0,1,0,0]) (hints (fr27 w ls ld zs zd sz kd s r st)) (lvB w ls ld zs zd :: H) =
  Tr.ite (ltI (Int.ofNat 0) st) (Tr.ite (leI (addI .i64 r st) (Int.ofNat 10000)) Tr.bad (Tr.req (notB (eqI (Int.ofNat 2) (Int.ofNat 0))) (Tr.ok (Ex.normal, [(1, AV.int .i64 s, none), (6, AV.ptrT (some 0) (Row.M [Seg.one (AV.int .i64 w), Seg.one (slA 2 ls zs), Seg.one (slA 3 ld zd), Seg.one (AV.slcT none (Row.M [Seg.arr .i64 sz (mulO ls 2)]) 2 ls true), Seg.arr .i64 kd 144]) 0, none), (8, AV.int .i64 r, none), (9, AV.int .i64 (quoI IntKind.i64 st (Int.ofNat 2)), none)], lvB w ls ld zs zd :: H)))) (Tr.ok (Ex.exit 1, [(1, AV.int .i64 s, none), (6, AV.ptrT (some 0) (Row.M [Seg.one (AV.int .i64 w), Seg.one (slA 2 ls zs), Seg.one (slA 3 ld zd), Seg.one (AV.slcT none (Row.M [Seg.arr .i64 sz (mulO ls 2)]) 2 ls true), Seg.arr .i64 kd 144]) 0, none), (8, AV.int .i64 r, none), (9, AV.int .i64 st, none), (35, AV.bool false, some 1)], lvB w ls ld zs zd :: H)) := by kernel_rfl
theorem u28x (n : Nat) (w : Int) (ls ld : Nat) (zs zd : Nat → Int) (H : Heap) (s e : Int) : bodyT Try.prog (cd (n+8)) 100000 28 Try.f28 (Kt.kt 28) (il (ctG (ctG noCt 20 (g20 (bathA w ls zs ld zd) e)) 48 (fun _ => none)) (n+7) 1) (stopB noBT 0) noRT [(bathA w ls zs ld zd, none), (.int .i64 s, none)] H =
  Tr.reqP (bathA w ls zs ld zd = bathA w ls zs ld zd) (Tr.ite (notB (eqI e (Int.ofNat 0))) (Tr.reqP (bathA w ls zs ld zd = bathA w ls zs ld zd) (Tr.ok ((AV.tup [AV.int .i64 (Int.ofNat 0), AV.int .i64 e], none), H))) (Tr.ite (leI (Int.ofNat 0) s) (Tr.ite (notB (ltI s (Int.ofNat ls))) (Tr.ok ((AV.tup [AV.int .i64 (Int.ofNat 0), AV.int .i64 (Int.ofNat 2)], none), H)) Tr.bad) (Tr.ok ((AV.tup [AV.int .i64 (Int.ofNat 0), AV.int .i64 (Int.ofNat 2)], none), H)))) := by kernel_rfl
theorem quo_two {x : Int} (h0 : 0 ≤ x) (h1 : x ≤ 1000000) : quoI .i64 x 2 = x / 2 := by
  rw [quoI_eq, Int.tdiv_eq_ediv_of_nonneg h0, wr_in (by omega) (by omega)]
theorem b28 : ∀ b, (0, b) ∈ blocksOf (bodyOf Try.f28) → b = .loop (part Try.f28 [1,1,1,1,1,0,0,0]) := by
  have : ((blocksOf (bodyOf Try.f28)).filter fun x => Nat.beq x.1 0) = [(0, .loop (part Try.f28 [1,1,1,1,1,0,0,0]))] := by kernel_rfl
  intro b hb
  have hm : (0, b) ∈ ((blocksOf (bodyOf Try.f28)).filter fun x => Nat.beq x.1 0) := List.mem_filter.2 ⟨hb, rfl⟩
  rw [this] at hm; simpa using hm
theorem b27 : ∀ b, (1, b) ∈ blocksOf (bodyOf Try.f27) → b = .loop (part Try.f27 [1,1,1,1,0,1,0,0]) := by
  have : ((blocksOf (bodyOf Try.f27)).filter fun x => Nat.beq x.1 1) = [(1, .loop (part Try.f27 [1,1,1,1,0,1,0,0]))] := by kernel_rfl
  intro b hb
  have hm : (1, b) ∈ ((blocksOf (bodyOf Try.f27)).filter fun x => Nat.beq x.1 1) := List.mem_filter.2 ⟨hb, rfl⟩
  rw [this] at hm; simpa using hm
section
variable (n : Nat) (w : Int) (ls ld : Nat) (zs zd : Nat → Int) (H : Heap) (s : Int)
theorem il28 (h : chkB w ls ld zs zd = 0) (hs : 0 ≤ s ∧ s < ls) (m : Nat) (h1 : 1 ≤ m) (h2 : m ≤ 10000) : (il (ctG (ctG noCt 47 (g47 (bathA w ls zs ld zd) s (m : Int) (bathA w ls zs (ld + 1) (withZ zd ld s (m : Int) (m : Int))))) 48 (g48 (bathA w ls zs (ld + 1) (withZ zd ld s (m : Int) (m : Int))) s (alnR w ls (ld + 1) zs (withZ zd ld s (m : Int) (m : Int)) s))) (n+7) 1).Ok (cd (n + 8)) := by
  have hc := chk_ok h
  refine il_ok _ (n + 7) 1 (fun k => ctG_ok (ctG_ok (noCt_ok _) (fun args p v hg hp H => ?_)) (fun args p v hg hp H => ?_))
  · unfold g47 at hg
    split at hg
    · simp only [Option.some.injEq, Prod.mk.injEq] at hg
      obtain ⟨rfl, rfl⟩ := hg
      obtain ⟨rfl, rfl, rfl, rfl⟩ := hp
      rw [show n + 7 + k = n + 5 + k + 2 by omega]
      exact c47 _ w ls ld zs zd H _ _ _ (by omega)
    · cases hg
  · unfold g48 at hg
    split at hg
    · simp only [Option.some.injEq, Prod.mk.injEq] at hg
      obtain ⟨rfl, rfl⟩ := hg
      obtain ⟨rfl, rfl⟩ := hp
      rw [show n + 7 + k = n + k + 7 by omega]
      exact c48 _ w ls (ld + 1) zs _ H _ hc.1 (fun p k1 k2 => with_knd h hs ⟨by omega, by omega⟩ p k1 k2)
    · cases hg
theorem l28 (h : chkB w ls ld zs zd = 0) (hs : 0 ≤ s ∧ s < ls) : exec (cxD (n + 8) 28 42) (.block 0 (.loop (part Try.f28 [1,1,1,1,1,0,0,0]))) (fr28 s 0 10001) (lvB w ls ld zs zd :: H) = some (.normal, fr28 s (roomR w ls ld zs zd s : Nat) ((roomR w ls ld zs zd s : Nat) + 1) ++ [(25, .bool false)], lvB w ls ld zs zd :: H) := by
  have hR := room_le (w := w) (ls := ls) (ld := ld) (zs := zs) (zd := zd) (s := s)
  refine Exists.elim (loopI (n := n + 8) (f := 28) (nt := 42) (c := part Try.f28 [1,1,1,1,1,0,0,0]) 0
    (fun j fr G => ∃ g b : Nat, fr = fr28 s g b ∧ G = lvB w ls ld zs zd :: H ∧ g ≤ roomR w ls ld zs zd s ∧ roomR w ls ld zs zd s < b ∧ b ≤ 10001 ∧ b - g ≤ 10001 - j)
    (fun y => y = (fr28 s (roomR w ls ld zs zd s : Nat) ((roomR w ls ld zs zd s : Nat) + 1) ++ [(25, .bool false)], lvB w ls ld zs zd :: H)) 10001 (by omega) (fr0 := fr28 s 0 10001) (H0 := lvB w ls ld zs zd :: H) ⟨0, 10001, rfl, rfl, by omega, by omega, by omega, by omega⟩ (fun j fr G hI => ?_)) (fun y hy => by rw [hy.2] at hy; exact hy.1)
  · obtain ⟨g, b, rfl, rfl, i1, i2, i3, i4⟩ := hI
    by_cases hgb : g + 1 < b
    · obtain ⟨m, hm⟩ : ∃ m : Nat, m = (g + b) / 2 := ⟨_, rfl⟩
      have m1 : 1 ≤ m ∧ m ≤ 10000 ∧ g < m ∧ m < b := by omega
      have eq : quoI .i64 ((g : Int) + b) 2 = (m : Int) := by rw [quo_two (by omega) (by omega)]; omega
      have eR := room_spec h hs m m1.1 m1.2.1
      have key := ex_all (f := 28) (nt := 42) (Q := fun x => x.1 = .normal ∧ ∃ g b : Nat, tidy (hNext (lvB w ls ld zs zd :: H)) x.2.1 x.2.2 = (fr28 s g b, lvB w ls ld zs zd :: H) ∧ g ≤ roomR w ls ld zs zd s ∧ roomR w ls ld zs zd s < b ∧ b ≤ 10001 ∧ b - g ≤ 10001 - (j + 1)) (t28 n w ls ld zs zd H s g b m _ _) (il28 n w ls ld zs zd s h hs m m1.1 m1.2.1) (noBT_ok _ _) (noRT_ok _ _) (by
        repeat' first | (refine Tr.all_ite (fun hc => ?_) (fun hc => ?_) <;> (try simp (disch := omega) only [nV, mulO_eq, Int.cast_ofNat_Int, eq_self, eq] at hc) <;> (try (exfalso; omega))) | (refine Tr.all_req ?_ ?_; · ((try simp (disch := omega) only [nV, mulO_eq, Int.cast_ofNat_Int, eq_self, eq]); try omega)) | (refine Tr.all_reqP ?_ ?_; · first | exact trivial | rfl | exact ⟨rfl, rfl⟩ | exact ⟨rfl, rfl, rfl⟩ | (simp (disch := omega) only [nV, mulO_eq, Int.cast_ofNat_Int, eq_self, eq]; done) | ((try simp (disch := omega) only [nV, mulO_eq, Int.cast_ofNat_Int, eq_self, eq]); omega)) | fail
        · refine Tr.all_ok ⟨rfl, m, b, ?_, eR.1 hc, i2, i3, by omega⟩
          simp (disch := omega) only [nV, mulO_eq, Int.cast_ofNat_Int, eq_self, eq]
          rfl
        · have hlt : roomR w ls ld zs zd s < m := Nat.lt_of_not_le fun hle => by rw [eR.2 hle] at hc; cases hc
          refine Tr.all_ok ⟨rfl, g, m, ?_, i1, hlt, by omega, by omega⟩
          simp (disch := omega) only [nV, mulO_eq, Int.cast_ofNat_Int, eq_self, eq]
          rfl)
      obtain ⟨x, k1, k2, g', b', k3, k4⟩ := key
      exact ⟨x, k1, .inl ⟨k2, by omega, g', b', by rw [k3], by rw [k3], k4⟩⟩
    · have key := ex_all (f := 28) (nt := 42) (Q := fun x => x = (.exit 0, fr28 s g b ++ [(25, .bool false)], lvB w ls ld zs zd :: H)) (t28e n w ls ld zs zd H s g b) (il_ok _ (n + 7) 1 (fun k => ctG_ok (ctG_ok (noCt_ok _) (fun args p v hg hp H => by cases hg)) (fun args p v hg hp H => by cases hg))) (noBT_ok _ _) (noRT_ok _ _) (by
        repeat' first | (refine Tr.all_ite (fun hc => ?_) (fun hc => ?_) <;> (try simp (disch := omega) only [nV, mulO_eq, Int.cast_ofNat_Int, eq_self] at hc) <;> (try (exfalso; omega))) | (refine Tr.all_req ?_ ?_; · ((try simp (disch := omega) only [nV, mulO_eq, Int.cast_ofNat_Int, eq_self]); try omega)) | (refine Tr.all_reqP ?_ ?_; · first | exact trivial | rfl | exact ⟨rfl, rfl⟩ | exact ⟨rfl, rfl, rfl⟩ | (simp (disch := omega) only [nV, mulO_eq, Int.cast_ofNat_Int, eq_self]; done) | ((try simp (disch := omega) only [nV, mulO_eq, Int.cast_ofNat_Int, eq_self]); omega)) | fail
        exact Tr.all_ok rfl)
      obtain ⟨x, k1, rfl⟩ := key
      refine ⟨_, k1, .inr ⟨rfl, ?_⟩⟩
      have e1 : g = roomR w ls ld zs zd s := by omega
      have e2 : b = roomR w ls ld zs zd s + 1 := by omega
      rw [← e1, e2, ← e1]
      rfl
theorem c28 : cd (n + 9) (.fn 28) [bathA w ls zs ld zd, .int .i64 s] H = some (.tup [.int .i64 (roomX w ls ld zs zd s).1, .int .i64 (roomX w ls ld zs zd s).2], H) := by
  by_cases e : chkB w ls ld zs zd = 0
  · have hc := chk_ok e
    by_cases hs : 0 ≤ s ∧ s < ls
    · refine fn_all (n := n + 8) Try.func28 rfl rfl rfl (u28 n w ls ld zs zd H s (chkB w ls ld zs zd) (roomR w ls ld zs zd s : Nat) ((roomR w ls ld zs zd s : Nat) + 1) (alnR w ls ld zs zd s)) (il_ok _ (n + 7) 1 (fun k => ctG_ok ?_ (fun args p v hg hp H => ?_))) (blkE_ok (noBT_ok _ _) b28 (fun x hx => by rw [← Tr.ok_some hx]; exact l28 n w ls ld zs zd H s e hs)) (noRT_ok _ _) ?_
      · have := ct20 (n + 5) w ls ld zs zd k _ (noCt_ok _)
        rwa [show n + 5 + 2 + k = n + 7 + k by omega] at this
      · unfold g48 at hg
        split at hg
        · simp only [Option.some.injEq, Prod.mk.injEq] at hg
          obtain ⟨rfl, rfl⟩ := hg
          obtain ⟨rfl, rfl⟩ := hp
          rw [show n + 7 + k = n + k + 7 by omega]
          exact c48 _ w ls ld zs zd H _ hc.1 (fun p k1 k2 => knd_ok e (by simp [isPl]; omega) (by simp [isPl]; omega))
        · cases hg
      · cases ha : alnR w ls ld zs zd s with
        | false =>
          have er : roomX w ls ld zs zd s = (0, 10) := by unfold roomX; rw [if_neg (fun h => h e), if_neg (by omega), if_pos ha]
          rw [er]
          repeat' first | (refine Tr.all_ite (fun hc => ?_) (fun hc => ?_) <;> (try simp (disch := omega) only [nV, mulO_eq, Int.cast_ofNat_Int, eq_self] at hc) <;> (try (exfalso; omega))) | (refine Tr.all_req ?_ ?_; · ((try simp (disch := omega) only [nV, mulO_eq, Int.cast_ofNat_Int, eq_self]); try omega)) | (refine Tr.all_reqP ?_ ?_; · first | exact trivial | rfl | exact ⟨rfl, rfl⟩ | exact ⟨rfl, rfl, rfl⟩ | (simp (disch := omega) only [nV, mulO_eq, Int.cast_ofNat_Int, eq_self]; done) | ((try simp (disch := omega) only [nV, mulO_eq, Int.cast_ofNat_Int, eq_self]); omega)) | fail
          exact Tr.all_ok ⟨rfl, rfl⟩
        | true =>
          have er : roomX w ls ld zs zd s = (((roomR w ls ld zs zd s : Nat) : Int), 0) := by unfold roomX; rw [if_neg (fun h => h e), if_neg (by omega), if_neg (by rw [ha]; simp)]
          rw [er]
          repeat' first | (refine Tr.all_ite (fun hc => ?_) (fun hc => ?_) <;> (try simp (disch := omega) only [nV, mulO_eq, Int.cast_ofNat_Int, eq_self] at hc) <;> (try (exfalso; omega))) | (refine Tr.all_req ?_ ?_; · ((try simp (disch := omega) only [nV, mulO_eq, Int.cast_ofNat_Int, eq_self]); try omega)) | (refine Tr.all_reqP ?_ ?_; · first | exact trivial | rfl | exact ⟨rfl, rfl⟩ | exact ⟨rfl, rfl, rfl⟩ | (simp (disch := omega) only [nV, mulO_eq, Int.cast_ofNat_Int, eq_self]; done) | ((try simp (disch := omega) only [nV, mulO_eq, Int.cast_ofNat_Int, eq_self]); omega)) | fail
          exact Tr.all_ok ⟨rfl, rfl⟩
    · have er : roomX w ls ld zs zd s = (0, 2) := by unfold roomX; rw [if_neg (fun h => h e), if_pos (by omega)]
      rw [er]
      refine fn_all (n := n + 8) Try.func28 rfl rfl rfl (u28x n w ls ld zs zd H s (chkB w ls ld zs zd)) (il_ok _ (n + 7) 1 (fun k => ctG_ok ?_ (fun args p v hg hp H => by cases hg))) (stopB_ok (noBT_ok _ _) 0) (noRT_ok _ _) ?_
      · have := ct20 (n + 5) w ls ld zs zd k _ (noCt_ok _)
        rwa [show n + 5 + 2 + k = n + 7 + k by omega] at this
      · repeat' first | (refine Tr.all_ite (fun hc => ?_) (fun hc => ?_) <;> (try simp (disch := omega) only [nV, mulO_eq, Int.cast_ofNat_Int, eq_self] at hc) <;> (try (exfalso; omega))) | (refine Tr.all_req ?_ ?_; · ((try simp (disch := omega) only [nV, mulO_eq, Int.cast_ofNat_Int, eq_self]); try omega)) | (refine Tr.all_reqP ?_ ?_; · first | exact trivial | rfl | exact ⟨rfl, rfl⟩ | exact ⟨rfl, rfl, rfl⟩ | (simp (disch := omega) only [nV, mulO_eq, Int.cast_ofNat_Int, eq_self]; done) | ((try simp (disch := omega) only [nV, mulO_eq, Int.cast_ofNat_Int, eq_self]); omega)) | fail
        all_goals exact Tr.all_ok ⟨rfl, rfl⟩
  · have er : roomX w ls ld zs zd s = (0, chkB w ls ld zs zd) := by unfold roomX; rw [if_pos e]
    rw [er]
    refine fn_all (n := n + 8) Try.func28 rfl rfl rfl (u28x n w ls ld zs zd H s (chkB w ls ld zs zd)) (il_ok _ (n + 7) 1 (fun k => ctG_ok ?_ (fun args p v hg hp H => by cases hg))) (stopB_ok (noBT_ok _ _) 0) (noRT_ok _ _) ?_
    · have := ct20 (n + 5) w ls ld zs zd k _ (noCt_ok _)
      rwa [show n + 5 + 2 + k = n + 7 + k by omega] at this
    · repeat' first | (refine Tr.all_ite (fun hc => ?_) (fun hc => ?_) <;> (try simp (disch := omega) only [nV, mulO_eq, Int.cast_ofNat_Int, eq_self] at hc) <;> (try (exfalso; omega))) | (refine Tr.all_req ?_ ?_; · ((try simp (disch := omega) only [nV, mulO_eq, Int.cast_ofNat_Int, eq_self]); try omega)) | (refine Tr.all_reqP ?_ ?_; · first | exact trivial | rfl | exact ⟨rfl, rfl⟩ | exact ⟨rfl, rfl, rfl⟩ | (simp (disch := omega) only [nV, mulO_eq, Int.cast_ofNat_Int, eq_self]; done) | ((try simp (disch := omega) only [nV, mulO_eq, Int.cast_ofNat_Int, eq_self]); omega)) | fail
      all_goals exact Tr.all_ok ⟨rfl, rfl⟩
theorem U_ok : ∀ j, j < 14 → 16384 / 2 ^ j = 2 * (16384 / 2 ^ (j + 1)) ∧ 1 ≤ 16384 / 2 ^ (j + 1) ∧ 16384 / 2 ^ (j + 1) ≤ 8192 ∧ 16384 / 2 ^ (j + 1 + 1) = 16384 / 2 ^ (j + 1) / 2 := by decide
theorem l27 (h : chkB w ls ld zs zd = 0) (hs : 0 ≤ s ∧ s < ls) (kd : Nat → Int) : exec (cxD (n + 13) 27 51) (.block 1 (.loop (part Try.f27 [1,1,1,1,0,1,0,0]))) (fr27 w ls ld zs zd (szs zd ld) kd s 0 8192) (lvB w ls ld zs zd :: H) = some (.normal, fr27 w ls ld zs zd (szs zd ld) kd s (roomR w ls ld zs zd s : Nat) 0 ++ [(35, .bool false)], lvB w ls ld zs zd :: H) := by
  have hc := chk_ok h
  have hR := room_le (w := w) (ls := ls) (ld := ld) (zs := zs) (zd := zd) (s := s)
  refine Exists.elim (loopI (n := n + 13) (f := 27) (nt := 51) (c := part Try.f27 [1,1,1,1,0,1,0,0]) 1
    (fun j fr G => ∃ r : Nat, fr = fr27 w ls ld zs zd (szs zd ld) kd s r (16384 / 2 ^ (j + 1) : Nat) ∧ G = lvB w ls ld zs zd :: H ∧ r ≤ roomR w ls ld zs zd s ∧ roomR w ls ld zs zd s < r + 16384 / 2 ^ j ∧ j ≤ 14)
    (fun y => y = (fr27 w ls ld zs zd (szs zd ld) kd s (roomR w ls ld zs zd s : Nat) 0 ++ [(35, .bool false)], lvB w ls ld zs zd :: H)) 14 (by omega) (fr0 := fr27 w ls ld zs zd (szs zd ld) kd s 0 8192) (H0 := lvB w ls ld zs zd :: H) ⟨0, rfl, rfl, by omega, by rw [Nat.pow_zero, Nat.div_one]; omega, by omega⟩ (fun j fr G hI => ?_)) (fun y hy => by rw [hy.2] at hy; exact hy.1)
  obtain ⟨r, rfl, rfl, i1, i2, i3⟩ := hI
  by_cases hj : j < 14
  · obtain ⟨u1, u2, u3, u4⟩ := U_ok j hj
    rw [u1] at i2
    generalize hst : 16384 / 2 ^ (j + 1) = st at *
    have eq : quoI .i64 ((st : Nat) : Int) 2 = ((16384 / 2 ^ (j + 1 + 1) : Nat) : Int) := by rw [quo_two (by omega) (by omega), u4]; omega
    have key := ex_all (f := 27) (nt := 51) (Q := fun x => x.1 = .normal ∧ ∃ r' : Nat, tidy (hNext (lvB w ls ld zs zd :: H)) x.2.1 x.2.2 = (fr27 w ls ld zs zd (szs zd ld) kd s r' (16384 / 2 ^ (j + 1 + 1) : Nat), lvB w ls ld zs zd :: H) ∧ r' ≤ roomR w ls ld zs zd s ∧ roomR w ls ld zs zd s < r' + st) (t27 n w ls ld zs zd (szs zd ld) kd H s r st ((r : Int) + st) (!anyP w ls zs (szs zd ld) s ((r : Int) + st))) (il_ok _ (n + 12) 1 (fun k => ctG_ok (noCt_ok _) (fun args p v hg hp H => ?_))) (noBT_ok _ _) (noRT_ok _ _) ?_
    · obtain ⟨x, k1, k2, r', k3, k4, k5⟩ := key
      exact ⟨x, k1, .inl ⟨k2, by omega, r', by rw [k3], by rw [k3], k4, k5, by omega⟩⟩
    · unfold g79 at hg
      split at hg
      · simp only [Option.some.injEq, Prod.mk.injEq] at hg
        obtain ⟨rfl, rfl⟩ := hg
        obtain ⟨rfl, rfl, rfl⟩ := hp
        rw [show n + 12 + k = n + 1 + k + 11 by omega]
        exact c79 _ w ls ld zs zd _ _ H _ _ hs hc.1
      · cases hg
    · have er : r + st ≤ 10000 → ((!anyP w ls zs (szs zd ld) s ((r : Int) + st)) = true ↔ r + st ≤ roomR w ls ld zs zd s) := fun hle => by
        have := any_with h hs (m := ((r + st : Nat) : Int)) ⟨by omega, by omega⟩
        rw [show ((r : Int) + st) = ((r + st : Nat) : Int) by omega, this]
        exact room_spec h hs (r + st) (by omega) hle
      generalize (!anyP w ls zs (szs zd ld) s ((r : Int) + st)) = v at er ⊢
      repeat' first | (refine Tr.all_ite (fun hc => ?_) (fun hc => ?_) <;> (try simp (disch := omega) only [nV, mulO_eq, Int.cast_ofNat_Int, eq_self, eq] at hc) <;> (try (exfalso; omega))) | (refine Tr.all_req ?_ ?_; · ((try simp (disch := omega) only [nV, mulO_eq, Int.cast_ofNat_Int, eq_self, eq]); try omega)) | (refine Tr.all_reqP ?_ ?_; · first | exact trivial | rfl | exact ⟨rfl, rfl⟩ | exact ⟨rfl, rfl, rfl⟩ | (simp (disch := omega) only [nV, mulO_eq, Int.cast_ofNat_Int, eq_self, eq]; done) | ((try simp (disch := omega) only [nV, mulO_eq, Int.cast_ofNat_Int, eq_self, eq]); omega)) | fail
      · refine Tr.all_ok ⟨rfl, r + st, ?_, (er (by omega)).1 hc, by omega⟩
        simp (disch := omega) only [nV, Int.cast_ofNat_Int, eq_self, eq]
        rfl
      · have hlt : roomR w ls ld zs zd s < r + st := Nat.lt_of_not_le fun hle => by rw [(er (by omega)).2 hle] at hc; cases hc
        refine Tr.all_ok ⟨rfl, r, ?_, i1, hlt⟩
        simp (disch := omega) only [nV, Int.cast_ofNat_Int, eq_self, eq]
        rfl
      · refine Tr.all_ok ⟨rfl, r, ?_, i1, by omega⟩
        simp (disch := omega) only [nV, Int.cast_ofNat_Int, eq_self, eq]
        rfl
  · obtain rfl : j = 14 := by omega
    have key := ex_all (f := 27) (nt := 51) (Q := fun x => x = (.exit 1, fr27 w ls ld zs zd (szs zd ld) kd s r 0 ++ [(35, .bool false)], lvB w ls ld zs zd :: H)) (t27e n w ls ld zs zd (szs zd ld) kd H s r 0) (il_ok _ (n + 12) 1 (fun k => ctG_ok (noCt_ok _) (fun args p v hg hp H => by cases hg))) (noBT_ok _ _) (noRT_ok _ _) (by
      repeat' first | (refine Tr.all_ite (fun hc => ?_) (fun hc => ?_) <;> (try simp (disch := omega) only [nV, mulO_eq, Int.cast_ofNat_Int, eq_self] at hc) <;> (try (exfalso; omega))) | (refine Tr.all_req ?_ ?_; · ((try simp (disch := omega) only [nV, mulO_eq, Int.cast_ofNat_Int, eq_self]); try omega)) | (refine Tr.all_reqP ?_ ?_; · first | exact trivial | rfl | exact ⟨rfl, rfl⟩ | exact ⟨rfl, rfl, rfl⟩ | (simp (disch := omega) only [nV, mulO_eq, Int.cast_ofNat_Int, eq_self]; done) | ((try simp (disch := omega) only [nV, mulO_eq, Int.cast_ofNat_Int, eq_self]); omega)) | fail
      exact Tr.all_ok rfl)
    obtain ⟨x, k1, rfl⟩ := key
    refine ⟨_, k1, .inr ⟨rfl, ?_⟩⟩
    have e1 : r = roomR w ls ld zs zd s := by
      have : 16384 / 2 ^ 14 = 1 := by decide
      rw [this] at i2; omega
    rw [← e1]
end
end Go.Eng
end

section
namespace Go.Eng
open Go.Proofs
set_option linter.unusedVariables false
set_option linter.unusedSimpArgs false
set_option maxRecDepth 100000
def gF (B : AV) (P Q a b e : Int) : List AV → Option (Prop × AV)
  | [x, .int .i64 p, .int .i64 q] => some (x = B ∧ p = P ∧ q = Q, .tup [.agg (.I .i64 [a, b]), .int .i64 e])
  | _ => none
def gR (B : AV) (S a e : Int) : List AV → Option (Prop × AV)
  | [x, .int .i64 s] => some (x = B ∧ s = S, .tup [.int .i64 a, .int .i64 e])
  | _ => none
theorem u27x (n : Nat) (w : Int) (ls ld : Nat) (zs zd sz kd : Nat → Int) (H : Heap) (s e : Int) (side : Prop) : bodyT Try.prog (cd (n+13)) 100000 27 Try.f27 (Kt.kt 27) (il (ctG (ctG (ctG noCt 19 (g20 (bathA w ls zs ld zd) e)) 77 (g77 (bathA w ls zs ld zd) side (tabV w ls ld zs zd sz kd))) 79 (fun _ => none)) (n+11) 2) (stopB noBT 1) noRT [(bathA w ls zs ld zd, none), (.int .i64 s, none)] H =
  Tr.reqP (bathA w ls zs ld zd = bathA w ls zs ld zd) (Tr.ite (notB (eqI e (Int.ofNat 0))) (Tr.ite (notB (eqI e (Int.ofNat 0))) (Tr.ok ((AV.tup [AV.int .i64 (Int.ofNat 0), AV.int .i64 e], none), H)) (Tr.ite (ltI s (Int.ofNat 0)) (Tr.ok ((AV.tup [AV.int .i64 (Int.ofNat 0), AV.int .i64 (Int.ofNat 2)], none), H)) (Tr.ite (leI (Int.negSucc 1) s) Tr.bad (Tr.ok ((AV.tup [AV.int .i64 (Int.ofNat 0), AV.int .i64 (Int.ofNat 2)], none), H))))) (Tr.reqP (bathA w ls zs ld zd = bathA w ls zs ld zd ∧ side) (Tr.ite (notB (eqI (Int.ofNat 0) (Int.ofNat 0))) (Tr.ok ((AV.tup [AV.int .i64 (Int.ofNat 0), AV.int .i64 (Int.ofNat 0)], none), H)) (Tr.ite (ltI s (Int.ofNat 0)) (Tr.ok ((AV.tup [AV.int .i64 (Int.ofNat 0), AV.int .i64 (Int.ofNat 2)], none), H)) (Tr.ite (leI (Int.negSucc 1) s) (Tr.ite (notB (ltI s (Int.ofNat ls))) (Tr.ok ((AV.tup [AV.int .i64 (Int.ofNat 0), AV.int .i64 (Int.ofNat 2)], none), H)) Tr.bad) (Tr.ok ((AV.tup [AV.int .i64 (Int.ofNat 0), AV.int .i64 (Int.ofNat 2)], none), H))))))) := by kernel_rfl
theorem u5 (n : Nat) (w : Int) (ls ld : Nat) (zs zd : Nat → Int) (H : Heap) (p q s a b e a' e' : Int) : bodyT Try.prog (cd (n+17)) 100000 5 Try.f5 (Kt.kt 5) (il (ctG (ctG (ctG (ctG (ctG noCt 16 g16) 25 (gF (bathA w ls zs ld zd) p q a b e)) 26 (gF (bathA w ls zs ld zd) p q a b e)) 27 (gR (bathA w ls zs ld zd) s a' e')) 28 (gR (bathA w ls zs ld zd) s a' e')) (n+16) 1) noBT noRT [(bathA w ls zs ld zd, none), (.int .i64 p, none), (.int .i64 q, none), (.int .i64 s, none)] H =
  Tr.ite (ltI (Int.ofNat 15) (Int.ofNat ls)) (Tr.reqP True (Tr.ok ((AV.bool true, none), H))) (Tr.ite (ltI (Int.ofNat 50) (Int.ofNat ld)) (Tr.reqP True (Tr.ok ((AV.bool true, none), H))) (Tr.reqP (bathA w ls zs ld zd = bathA w ls zs ld zd ∧ p = p ∧ q = q) (Tr.reqP (bathA w ls zs ld zd = bathA w ls zs ld zd ∧ p = p ∧ q = q) (Tr.reqP (bathA w ls zs ld zd = bathA w ls zs ld zd ∧ s = s) (Tr.reqP (bathA w ls zs ld zd = bathA w ls zs ld zd ∧ s = s) (Tr.ite (andB (eqI a a) (eqI b b)) (Tr.ite (eqI e e) (Tr.ite (eqI a' a') (Tr.ite (eqI e' e') (Tr.reqP True (Tr.ok ((AV.bool true, none), H))) (Tr.ok ((AV.bool false, some 1), H))) (Tr.ok ((AV.bool false, some 1), H))) (Tr.ok ((AV.bool false, some 1), H))) (Tr.ok ((AV.bool false, some 1), H)))))))) := by kernel_rfl
section
variable (n : Nat) (w : Int) (ls ld : Nat) (zs zd : Nat → Int) (H : Heap) (p q s : Int)
def sideT (ls ld : Nat) (zd : Nat → Int) : Prop := ls ≤ 10 ∧ ld ≤ 40 ∧ ∀ j, j < ld → 0 ≤ zd (j * 3) ∧ zd (j * 3) < ls
theorem ct27 (k : Nat) : (ctG (ctG noCt 19 (g20 (bathA w ls zs ld zd) (chkB w ls ld zs zd))) 77 (g77 (bathA w ls zs ld zd) (sideT ls ld zd) (tabV w ls ld zs zd (szs zd ld) (kdO w ls zs (szs zd ld) (ls + 2))))).Ok (cd (n + 11 + k)) := by
  refine ctG_ok (ct19 n w ls ld zs zd k _ (noCt_ok _)) (fun args p v h hp H => ?_)
  unfold g77 at h
  split at h
  · simp only [Option.some.injEq, Prod.mk.injEq] at h
    obtain ⟨rfl, rfl⟩ := h
    obtain ⟨rfl, h1, h2, h3⟩ := hp
    rw [show n + 11 + k = n + 3 + k + 8 by omega]
    exact c77 _ w ls ld zs zd H h1 h2 h3
  · cases h
theorem c27 : cd (n + 14) (.fn 27) [bathA w ls zs ld zd, .int .i64 s] H = some (.tup [.int .i64 (roomX w ls ld zs zd s).1, .int .i64 (roomX w ls ld zs zd s).2], H) := by
  by_cases e : chkB w ls ld zs zd = 0
  · have hc := chk_ok e
    have hd : sideT ls ld zd := chk_drops e
    by_cases hs : 0 ≤ s ∧ s < ls
    · refine fn_all (n := n + 13) Try.func27 rfl rfl rfl (u27 n w ls ld zs zd (szs zd ld) (kdO w ls zs (szs zd ld) (ls + 2)) H s (chkB w ls ld zs zd) (roomR w ls ld zs zd s : Nat) 0 (sideT ls ld zd) (alnR w ls ld zs zd s)) (il_ok _ (n + 11) 2 (fun k => ctG_ok (ct27 n w ls ld zs zd k) (fun args p v hg hp H => ?_))) (blkE_ok (noBT_ok _ _) b27 (fun x hx => by rw [← Tr.ok_some hx]; exact l27 n w ls ld zs zd H s e hs _)) (noRT_ok _ _) ?_
      · unfold g79 at hg
        split at hg
        · simp only [Option.some.injEq, Prod.mk.injEq] at hg
          obtain ⟨rfl, rfl⟩ := hg
          obtain ⟨rfl, rfl, rfl⟩ := hp
          rw [show n + 11 + k = n + k + 11 by omega, ← any_zero e hs]
          exact c79 _ w ls ld zs zd _ _ H _ _ hs hc.1
        · cases hg
      · cases ha : alnR w ls ld zs zd s with
        | false =>
          have er : roomX w ls ld zs zd s = (0, 10) := by unfold roomX; rw [if_neg (fun h => h e), if_neg (by omega), if_pos ha]
          rw [er]
          repeat' first | (refine Tr.all_ite (fun hc => ?_) (fun hc => ?_) <;> (try simp (disch := omega) only [nV, mulO_eq, Int.cast_ofNat_Int, eq_self] at hc) <;> (try (exfalso; omega))) | (refine Tr.all_req ?_ ?_; · ((try simp (disch := omega) only [nV, mulO_eq, Int.cast_ofNat_Int, eq_self]); try omega)) | (refine Tr.all_reqP ?_ ?_; · first | exact trivial | rfl | exact ⟨rfl, rfl⟩ | exact ⟨rfl, rfl, rfl⟩ | (simp (disch := omega) only [nV, mulO_eq, Int.cast_ofNat_Int, eq_self]; done) | ((try simp (disch := omega) only [nV, mulO_eq, Int.cast_ofNat_Int, eq_self]); omega)) | fail
          all_goals first | exact Tr.all_ok ⟨rfl, rfl⟩ | skip
          all_goals (refine Tr.all_reqP ⟨rfl, hd⟩ ?_)
          repeat' first | (refine Tr.all_ite (fun hc => ?_) (fun hc => ?_) <;> (try simp (disch := omega) only [nV, mulO_eq, Int.cast_ofNat_Int, eq_self] at hc) <;> (try (exfalso; omega))) | (refine Tr.all_req ?_ ?_; · ((try simp (disch := omega) only [nV, mulO_eq, Int.cast_ofNat_Int, eq_self]); try omega)) | (refine Tr.all_reqP ?_ ?_; · first | exact trivial | rfl | exact ⟨rfl, rfl⟩ | exact ⟨rfl, rfl, rfl⟩ | (simp (disch := omega) only [nV, mulO_eq, Int.cast_ofNat_Int, eq_self]; done) | ((try simp (disch := omega) only [nV, mulO_eq, Int.cast_ofNat_Int, eq_self]); omega)) | fail
          all_goals exact Tr.all_ok ⟨rfl, rfl⟩
        | true =>
          have er : roomX w ls ld zs zd s = (((roomR w ls ld zs zd s : Nat) : Int), 0) := by unfold roomX; rw [if_neg (fun h => h e), if_neg (by omega), if_neg (by rw [ha]; simp)]
          rw [er]
          repeat' first | (refine Tr.all_ite (fun hc => ?_) (fun hc => ?_) <;> (try simp (disch := omega) only [nV, mulO_eq, Int.cast_ofNat_Int, eq_self] at hc) <;> (try (exfalso; omega))) | (refine Tr.all_req ?_ ?_; · ((try simp (disch := omega) only [nV, mulO_eq, Int.cast_ofNat_Int, eq_self]); try omega)) | (refine Tr.all_reqP ?_ ?_; · first | exact trivial | rfl | exact ⟨rfl, rfl⟩ | exact ⟨rfl, rfl, rfl⟩ | (simp (disch := omega) only [nV, mulO_eq, Int.cast_ofNat_Int, eq_self]; done) | ((try simp (disch := omega) only [nV, mulO_eq, Int.cast_ofNat_Int, eq_self]); omega)) | fail
          all_goals first | exact Tr.all_ok ⟨rfl, rfl⟩ | skip
          all_goals (refine Tr.all_reqP ⟨rfl, hd⟩ ?_)
          repeat' first | (refine Tr.all_ite (fun hc => ?_) (fun hc => ?_) <;> (try simp (disch := omega) only [nV, mulO_eq, Int.cast_ofNat_Int, eq_self] at hc) <;> (try (exfalso; omega))) | (refine Tr.all_req ?_ ?_; · ((try simp (disch := omega) only [nV, mulO_eq, Int.cast_ofNat_Int, eq_self]); try omega)) | (refine Tr.all_reqP ?_ ?_; · first | exact trivial | rfl | exact ⟨rfl, rfl⟩ | exact ⟨rfl, rfl, rfl⟩ | (simp (disch := omega) only [nV, mulO_eq, Int.cast_ofNat_Int, eq_self]; done) | ((try simp (disch := omega) only [nV, mulO_eq, Int.cast_ofNat_Int, eq_self]); omega)) | fail
          all_goals exact Tr.all_ok ⟨rfl, rfl⟩
    · have er : roomX w ls ld zs zd s = (0, 2) := by unfold roomX; rw [if_neg (fun h => h e), if_pos (by omega)]
      rw [er]
      refine fn_all (n := n + 13) Try.func27 rfl rfl rfl (u27x n w ls ld zs zd (szs zd ld) (kdO w ls zs (szs zd ld) (ls + 2)) H s (chkB w ls ld zs zd) (sideT ls ld zd)) (il_ok _ (n + 11) 2 (fun k => ctG_ok (ct27 n w ls ld zs zd k) (fun args p v hg hp H => by cases hg))) (stopB_ok (noBT_ok _ _) 1) (noRT_ok _ _) ?_
      repeat' first | (refine Tr.all_ite (fun hc => ?_) (fun hc => ?_) <;> (try simp (disch := omega) only [nV, mulO_eq, Int.cast_ofNat_Int, eq_self] at hc) <;> (try (exfalso; omega))) | (refine Tr.all_req ?_ ?_; · ((try simp (disch := omega) only [nV, mulO_eq, Int.cast_ofNat_Int, eq_self]); try omega)) | (refine Tr.all_reqP ?_ ?_; · first | exact trivial | rfl | exact ⟨rfl, rfl⟩ | exact ⟨rfl, rfl, rfl⟩ | (simp (disch := omega) only [nV, mulO_eq, Int.cast_ofNat_Int, eq_self]; done) | ((try simp (disch := omega) only [nV, mulO_eq, Int.cast_ofNat_Int, eq_self]); omega)) | fail
      all_goals first | exact Tr.all_ok ⟨rfl, rfl⟩ | skip
      all_goals (refine Tr.all_reqP ⟨rfl, hd⟩ ?_)
      repeat' first | (refine Tr.all_ite (fun hc => ?_) (fun hc => ?_) <;> (try simp (disch := omega) only [nV, mulO_eq, Int.cast_ofNat_Int, eq_self] at hc) <;> (try (exfalso; omega))) | (refine Tr.all_req ?_ ?_; · ((try simp (disch := omega) only [nV, mulO_eq, Int.cast_ofNat_Int, eq_self]); try omega)) | (refine Tr.all_reqP ?_ ?_; · first | exact trivial | rfl | exact ⟨rfl, rfl⟩ | exact ⟨rfl, rfl, rfl⟩ | (simp (disch := omega) only [nV, mulO_eq, Int.cast_ofNat_Int, eq_self]; done) | ((try simp (disch := omega) only [nV, mulO_eq, Int.cast_ofNat_Int, eq_self]); omega)) | fail
      all_goals exact Tr.all_ok ⟨rfl, rfl⟩
  · have er : roomX w ls ld zs zd s = (0, chkB w ls ld zs zd) := by unfold roomX; rw [if_pos e]
    rw [er]
    refine fn_all (n := n + 13) Try.func27 rfl rfl rfl (u27x n w ls ld zs zd (szs zd ld) (kdO w ls zs (szs zd ld) (ls + 2)) H s (chkB w ls ld zs zd) (sideT ls ld zd)) (il_ok _ (n + 11) 2 (fun k => ctG_ok (ct27 n w ls ld zs zd k) (fun args p v hg hp H => by cases hg))) (stopB_ok (noBT_ok _ _) 1) (noRT_ok _ _) ?_
    repeat' first | (refine Tr.all_ite (fun hc => ?_) (fun hc => ?_) <;> (try simp (disch := omega) only [nV, mulO_eq, Int.cast_ofNat_Int, eq_self] at hc) <;> (try (exfalso; omega))) | (refine Tr.all_req ?_ ?_; · ((try simp (disch := omega) only [nV, mulO_eq, Int.cast_ofNat_Int, eq_self]); try omega)) | (refine Tr.all_reqP ?_ ?_; · first | exact trivial | rfl | exact ⟨rfl, rfl⟩ | exact ⟨rfl, rfl, rfl⟩ | (simp (disch := omega) only [nV, mulO_eq, Int.cast_ofNat_Int, eq_self]; done) | ((try simp (disch := omega) only [nV, mulO_eq, Int.cast_ofNat_Int, eq_self]); omega)) | fail
    all_goals exact Tr.all_ok ⟨rfl, rfl⟩
theorem ctF {n f : Nat} {B : AV} {P Q a b e : Int} {t : Ctr} (ht : t.Ok (cd n)) (h : ∀ H, cd n (.fn f) [B, .int .i64 P, .int .i64 Q] H = some (.tup [.agg (.I .i64 [a, b]), .int .i64 e], H)) : (ctG t f (gF B P Q a b e)).Ok (cd n) := by
  refine ctG_ok ht (fun args p v hg hp H => ?_)
  unfold gF at hg
  split at hg
  · simp only [Option.some.injEq, Prod.mk.injEq] at hg
    obtain ⟨rfl, rfl⟩ := hg
    obtain ⟨rfl, rfl, rfl⟩ := hp
    exact h H
  · cases hg
theorem ctR {n f : Nat} {B : AV} {S a e : Int} {t : Ctr} (ht : t.Ok (cd n)) (h : ∀ H, cd n (.fn f) [B, .int .i64 S] H = some (.tup [.int .i64 a, .int .i64 e], H)) : (ctG t f (gR B S a e)).Ok (cd n) := by
  refine ctG_ok ht (fun args p v hg hp H => ?_)
  unfold gR at hg
  split at hg
  · simp only [Option.some.injEq, Prod.mk.injEq] at hg
    obtain ⟨rfl, rfl⟩ := hg
    obtain ⟨rfl, rfl⟩ := hp
    exact h H
  · cases hg
/-- The law DropFirsts. -/
theorem c5 : cd (n + 18) (.fn 5) [bathA w ls zs ld zd, .int .i64 p, .int .i64 q, .int .i64 s] H = some (.bool true, H) := by
  refine fn_all (n := n + 17) Try.func5 rfl rfl rfl (u5 n w ls ld zs zd H p q s (firN w ls ld zs zd p q).1 (firN w ls ld zs zd p q).2.1 (firN w ls ld zs zd p q).2.2 (roomX w ls ld zs zd s).1 (roomX w ls ld zs zd s).2) (il_ok _ (n + 16) 1 (fun k => ?_)) (noBT_ok _ _) (noRT_ok _ _) ?_
  · refine ctR (ctR (ctF (ctF ?_ (fun H => ?_)) (fun H => ?_)) (fun H => ?_)) (fun H => ?_)
    · rw [show n + 16 + k = n + 15 + k + 1 by omega]; exact ctW (noCt_ok _)
    · rw [show n + 16 + k = n + k + 16 by omega]; exact c25 _ w ls ld zs zd H p q
    · rw [show n + 16 + k = n + 8 + k + 8 by omega]; exact c26 _ w ls ld zs zd H p q
    · rw [show n + 16 + k = n + 2 + k + 14 by omega]; exact c27 _ w ls ld zs zd H s
    · rw [show n + 16 + k = n + 7 + k + 9 by omega]; exact c28 _ w ls ld zs zd H s
  · repeat' first | (refine Tr.all_ite (fun hc => ?_) (fun hc => ?_) <;> (try simp (disch := omega) only [nV, mulO_eq, Int.cast_ofNat_Int, eq_self] at hc) <;> (try (exfalso; omega))) | (refine Tr.all_req ?_ ?_; · ((try simp (disch := omega) only [nV, mulO_eq, Int.cast_ofNat_Int, eq_self]); try omega)) | (refine Tr.all_reqP ?_ ?_; · first | exact trivial | rfl | exact ⟨rfl, rfl⟩ | exact ⟨rfl, rfl, rfl⟩ | (simp (disch := omega) only [nV, mulO_eq, Int.cast_ofNat_Int, eq_self]; done) | ((try simp (disch := omega) only [nV, mulO_eq, Int.cast_ofNat_Int, eq_self]); omega)) | fail
    all_goals exact Tr.all_ok ⟨rfl, rfl⟩
end
end Go.Eng
end
