/- Bath: Does as it is defined; lists that are equal. -/
import Derived.Test.YtigmfpmabgekoaaGreatV7Ba5x2
section
namespace Go.Eng
open Go.Proofs
set_option linter.unusedVariables false
set_option linter.unusedSimpArgs false
set_option maxRecDepth 100000
noncomputable def fr19 (L : AV) (l : Nat) (z : Nat → Int) (q j : Int) : Frm := [(0, slA 5 l z), (1, .int .i64 q), (6, L), (7, .int .i64 j)]
noncomputable abbrev sl1 (n : Nat) (z : Nat → Int) (full : Bool) : AV := .slcT none (.M [.arr .i64 z n]) 1 n full
noncomputable def fr22 (m p : Nat) (z y : Nat → Int) (a b : Bool) (j : Int) : Frm := [(0, sl1 m z a), (1, sl1 p y b), (5, .int .i64 j)]
theorem t19a (n : Nat) (l : Nat) (z : Nat → Int) (H : Heap) (q j : Int) : execT (cxD (n+3) 19 28) (il noCt (n+1) 2) noBT noRT (part Tryz.f19 [1,1,1,0,1,0,0]) (hints (fr19 .nils l z q j)) (lvE :: H) =
  Tr.ite (ltI j (Int.ofNat l)) (Tr.req (inI j l) (Tr.req (ltN (idO 0 j 5) (mulO l 5)) (Tr.req (ltN (addO (idO 0 j 5) 1) (mulO l 5)) (Tr.req (ltN (addO (idO 0 j 5) 2) (mulO l 5)) (Tr.req (ltN (addO (idO 0 j 5) 3) (mulO l 5)) (Tr.req (ltN (addO (idO 0 j 5) 4) (mulO l 5)) (Tr.ite (leI (subI .i64 (z (addO (idO 0 j 5) 1)) (z (addO (idO 0 j 5) 3))) q) (Tr.ite (leI q (subI .i64 (z (idO 0 j 5)) (z (addO (idO 0 j 5) 2)))) (Tr.req (roomO 0 1 8) (Tr.req (eqN 0 0) (Tr.req (leN 1 1) (Tr.ok (Ex.normal, [(0, slA 5 l z, none), (1, AV.int .i64 q, none), (6, AV.slc 0 1 0 0 1 1 none, none), (7, AV.int .i64 (addI .i64 j (Int.ofNat 1)), none)], { lock := false, bs := [(0, Blk.row (Row.I .i64 [j])), (0, Blk.row (Row.M [Seg.arr .i64 (lstO [j]) 1]))] } :: H))))) (Tr.ok (Ex.normal, [(0, slA 5 l z, none), (1, AV.int .i64 q, none), (6, AV.nils, none), (7, AV.int .i64 (addI .i64 j (Int.ofNat 1)), none)], lvE :: H))) (Tr.ok (Ex.normal, [(0, slA 5 l z, none), (1, AV.int .i64 q, none), (6, AV.nils, none), (7, AV.int .i64 (addI .i64 j (Int.ofNat 1)), none)], lvE :: H))))))))) (Tr.ok (Ex.exit 0, [(0, slA 5 l z, none), (1, AV.int .i64 q, none), (6, AV.nils, none), (7, AV.int .i64 j, none), (16, AV.bool false, some 1)], lvE :: H)) := by kernel_rfl
theorem t19b (n : Nat) (l : Nat) (z y : Nat → Int) (H : Heap) (q j : Int) (v k : Nat) : execT (cxD (n+3) 19 28) (il noCt (n+1) 2) noBT noRT (part Tryz.f19 [1,1,1,0,1,0,0]) (hints (fr19 (.slc 0 0 v 0 1 k none) l z q j)) (⟨false, [(v, .row (.M [.arr .i64 y k]))]⟩ :: H) =
  Tr.ite (ltI j (Int.ofNat l)) (Tr.req (inI j l) (Tr.req (ltN (idO 0 j 5) (mulO l 5)) (Tr.req (ltN (addO (idO 0 j 5) 1) (mulO l 5)) (Tr.req (ltN (addO (idO 0 j 5) 2) (mulO l 5)) (Tr.req (ltN (addO (idO 0 j 5) 3) (mulO l 5)) (Tr.req (ltN (addO (idO 0 j 5) 4) (mulO l 5)) (Tr.ite (leI (subI .i64 (z (addO (idO 0 j 5) 1)) (z (addO (idO 0 j 5) 3))) q) (Tr.ite (leI q (subI .i64 (z (idO 0 j 5)) (z (addO (idO 0 j 5) 2)))) (Tr.req (roomO k 1 8) (Tr.req (eqN 0 0) (Tr.req (leN 1 1) (Tr.req (eqN v v) (Tr.req (eqN (addO 0 k) k) (Tr.ok (Ex.normal, [(0, slA 5 l z, none), (1, AV.int .i64 q, none), (6, AV.slc 0 0 (Nat.succ v) 0 1 (addO k 1) none, none), (7, AV.int .i64 (addI .i64 j (Int.ofNat 1)), none)], { lock := false, bs := [(Nat.succ v, Blk.row (Row.M [Seg.arr .i64 (appO (shO y 0) k (lstO [j])) (addO k 1)])), (0, Blk.row (Row.I .i64 [j]))] } :: H))))))) (Tr.ok (Ex.normal, [(0, slA 5 l z, none), (1, AV.int .i64 q, none), (6, AV.slc 0 0 v 0 1 k none, none), (7, AV.int .i64 (addI .i64 j (Int.ofNat 1)), none)], { lock := false, bs := [(v, Blk.row (Row.M [Seg.arr .i64 y k]))] } :: H))) (Tr.ok (Ex.normal, [(0, slA 5 l z, none), (1, AV.int .i64 q, none), (6, AV.slc 0 0 v 0 1 k none, none), (7, AV.int .i64 (addI .i64 j (Int.ofNat 1)), none)], { lock := false, bs := [(v, Blk.row (Row.M [Seg.arr .i64 y k]))] } :: H))))))))) (Tr.ok (Ex.exit 0, [(0, slA 5 l z, none), (1, AV.int .i64 q, none), (6, AV.slc 0 0 v 0 1 k none, none), (7, AV.int .i64 j, none), (16, AV.bool false, some 1)], { lock := false, bs := [(v, Blk.row (Row.M [Seg.arr .i64 y k]))] } :: H)) := by kernel_rfl
theorem u19x (n : Nat) (l : Nat) (z : Nat → Int) (H : Heap) (q e : Int) : bodyT Tryz.prog (cd (n+5)) 100000 19 Tryz.f19 (KtB.kt 19) (il (ctG noCt 21 (g20 (slA 5 l z) e)) (n+3) 2) (stopB noBT 0) noRT [(slA 5 l z, none), (.int .i64 q, none)] H =
  Tr.reqP (slA 5 l z = slA 5 l z) (Tr.ite (notB (eqI e (Int.ofNat 0))) (Tr.reqP (slA 5 l z = slA 5 l z) (Tr.ok ((AV.tup [AV.nils, AV.int .i64 e], none), H))) Tr.bad) := by kernel_rfl
theorem u19p (n : Nat) (l : Nat) (z : Nat → Int) (H : Heap) (q : Int) : bodyT Tryz.prog (cd (n+5)) 100000 19 Tryz.f19 (KtB.kt 19) (il (ctG noCt 21 (g20 (slA 5 l z) 0)) (n+3) 2) (blkE noBT 0 (fr19 .nils l z q 0) (lvE :: H) (.ok (.normal, hints (fr19 .nils l z q (Int.ofNat l) ++ [(16, .bool false)]), lvE :: H))) noRT [(slA 5 l z, none), (.int .i64 q, none)] H =
  Tr.reqP (slA 5 l z = slA 5 l z) (Tr.ite (notB (eqI (Int.ofNat 0) (Int.ofNat 0))) (Tr.reqP (slA 5 l z = slA 5 l z) (Tr.ok ((AV.tup [AV.nils, AV.int .i64 (Int.ofNat 0)], none), H))) (Tr.reqP ([(0, slA 5 l z), (1, AV.int .i64 q), (6, AV.nils), (7, AV.int .i64 (Int.ofNat 0))] = [(0, slA 5 l z), (1, AV.int .i64 q), (6, AV.nils), (7, AV.int .i64 (Int.ofNat 0))] ∧ lvE :: H = lvE :: H) (Tr.ok ((AV.tup [AV.nils, AV.int .i64 (Int.ofNat 0)], none), H)))) := by kernel_rfl
theorem u19q (n : Nat) (l : Nat) (z g : Nat → Int) (H : Heap) (q : Int) (v k : Nat) : bodyT Tryz.prog (cd (n+5)) 100000 19 Tryz.f19 (KtB.kt 19) (il (ctG noCt 21 (g20 (slA 5 l z) 0)) (n+3) 2) (blkE noBT 0 (fr19 .nils l z q 0) (lvE :: H) (.ok (.normal, hints (fr19 (.slc 0 0 v 0 1 k none) l z q (Int.ofNat l) ++ [(16, .bool false)]), ⟨false, [(v, .row (.M [.arr .i64 g k]))]⟩ :: H))) noRT [(slA 5 l z, none), (.int .i64 q, none)] H =
  Tr.reqP (slA 5 l z = slA 5 l z) (Tr.ite (notB (eqI (Int.ofNat 0) (Int.ofNat 0))) (Tr.reqP (slA 5 l z = slA 5 l z) (Tr.ok ((AV.tup [AV.nils, AV.int .i64 (Int.ofNat 0)], none), H))) (Tr.reqP ([(0, slA 5 l z), (1, AV.int .i64 q), (6, AV.nils), (7, AV.int .i64 (Int.ofNat 0))] = [(0, slA 5 l z), (1, AV.int .i64 q), (6, AV.nils), (7, AV.int .i64 (Int.ofNat 0))] ∧ lvE :: H = lvE :: H) (Tr.req (eqN v v) (Tr.req (inO 0 k 0 k) (Tr.ok ((AV.tup [AV.slcT none (Row.M [Seg.arr .i64 (shO g 0) k]) 1 k false, AV.int .i64 (Int.ofNat 0)], none), H)))))) := by kernel_rfl
theorem t22 (n : Nat) (H : Heap) (m p : Nat) (z y : Nat → Int) (a b : Bool) (j : Int) : execT (cxD n 22 26) (il noCt n 0) noBT noRT (part Tryz.f22 [1,1,0,1,0,0]) (hints (fr22 m p z y a b j)) (lvE :: H) =
  Tr.ite (ltI j (Int.ofNat m)) (Tr.req (inI j m) (Tr.req (ltN (idO 0 j 1) m) (Tr.req (inI j p) (Tr.req (ltN (idO 0 j 1) p) (Tr.ite (notB (eqI (z (idO 0 j 1)) (y (idO 0 j 1)))) (Tr.ok (Ex.ret, [(4, AV.bool false, some 1)], lvE :: H)) (Tr.ok (Ex.normal, [(0, AV.slcT none (Row.M [Seg.arr .i64 z m]) 1 m a, none), (1, AV.slcT none (Row.M [Seg.arr .i64 y p]) 1 p b, none), (5, AV.int .i64 (addI .i64 j (Int.ofNat 1)), none)], lvE :: H))))))) (Tr.ok (Ex.exit 0, [(0, AV.slcT none (Row.M [Seg.arr .i64 z m]) 1 m a, none), (1, AV.slcT none (Row.M [Seg.arr .i64 y p]) 1 p b, none), (5, AV.int .i64 j, none), (14, AV.bool false, some 1)], lvE :: H)) := by kernel_rfl
theorem u22 (n : Nat) (H : Heap) (m p : Nat) (z y : Nat → Int) (a b : Bool) : bodyT Tryz.prog (cd n) 100000 22 Tryz.f22 (KtB.kt 22) (il noCt n 0) (blkE noBT 0 (fr22 m p z y a b 0) (lvE :: H) (.ok (.normal, hints (fr22 m p z y a b (Int.ofNat m) ++ [(14, .bool false)]), lvE :: H))) noRT [(sl1 m z a, none), (sl1 p y b, none)] H =
  Tr.ite (notB (eqI (Int.ofNat m) (Int.ofNat p))) (Tr.ok ((AV.bool false, some 1), H)) (Tr.reqP ([(0, AV.slcT none (Row.M [Seg.arr .i64 z m]) 1 m a), (1, AV.slcT none (Row.M [Seg.arr .i64 y p]) 1 p b), (5, AV.int .i64 (Int.ofNat 0))] = [(0, AV.slcT none (Row.M [Seg.arr .i64 z m]) 1 m a), (1, AV.slcT none (Row.M [Seg.arr .i64 y p]) 1 p b), (5, AV.int .i64 (Int.ofNat 0))] ∧ lvE :: H = lvE :: H) (Tr.ok ((AV.bool true, some 1), H))) := by kernel_rfl
theorem u22n (n : Nat) (H : Heap) : bodyT Tryz.prog (cd n) 100000 22 Tryz.f22 (KtB.kt 22) (il noCt n 0) noBT noRT [(.nils, none), (.nils, none)] H =
  Tr.ok ((AV.bool true, some 1), H) := by kernel_rfl
noncomputable def dW : List Int → AV
  | [] => .nils
  | a :: r => .slc 0 0 r.length 0 1 (r.length + 1) none
noncomputable def dLw : List Int → Lvl
  | [] => ⟨false, []⟩
  | a :: r => ⟨false, [(r.length, .row (.M [.arr .i64 (lstO (a :: r)) (r.length + 1)]))]⟩
theorem b19 : ∀ b, (0, b) ∈ blocksOf (bodyOf Tryz.f19) → b = .loop (part Tryz.f19 [1,1,1,0,1,0,0]) := by
  have : ((blocksOf (bodyOf Tryz.f19)).filter fun x => Nat.beq x.1 0) = [(0, .loop (part Tryz.f19 [1,1,1,0,1,0,0]))] := by kernel_rfl
  intro b hb
  have hm : (0, b) ∈ ((blocksOf (bodyOf Tryz.f19)).filter fun x => Nat.beq x.1 0) := List.mem_filter.2 ⟨hb, rfl⟩
  rw [this] at hm; simpa using hm
theorem b22 : ∀ b, (0, b) ∈ blocksOf (bodyOf Tryz.f22) → b = .loop (part Tryz.f22 [1,1,0,1,0,0]) := by
  have : ((blocksOf (bodyOf Tryz.f22)).filter fun x => Nat.beq x.1 0) = [(0, .loop (part Tryz.f22 [1,1,0,1,0,0]))] := by kernel_rfl
  intro b hb
  have hm : (0, b) ∈ ((blocksOf (bodyOf Tryz.f22)).filter fun x => Nat.beq x.1 0) := List.mem_filter.2 ⟨hb, rfl⟩
  rw [this] at hm; simpa using hm
theorem dl_mk (z : Nat → Int) (q : Int) (l : Nat) (k : Nat) : dl (mkJ z q l) (l + k) = dl (mkJ z q l) l := by
  induction k with
  | zero => rfl
  | succ k ih =>
    show (if mkJ z q l (l + k) = 1 then _ else dl (mkJ z q l) (l + k)) = _
    rw [if_neg (by unfold mkJ; rw [if_neg (by omega)]; decide), ih]
theorem dl_14 (z : Nat → Int) (q : Int) {l : Nat} (h : l ≤ 14) : dl (mkJ z q l) l = dl (mkJ z q l) 14 := by
  have := dl_mk z q l (14 - l)
  rwa [show l + (14 - l) = 14 by omega, eq_comm] at this
section
variable (n : Nat) (l : Nat) (z : Nat → Int) (H : Heap) (q : Int)
theorem l19 (h : chkO l z = 0) : exec (cxD (n + 3) 19 28) (.block 0 (.loop (part Tryz.f19 [1,1,1,0,1,0,0]))) (fr19 .nils l z q 0) (lvE :: H) = some (.normal, fr19 (dW (dl (mkJ z q l) l)) l z q (Int.ofNat l) ++ [(16, .bool false)], dLw (dl (mkJ z q l) l) :: H) := by
  obtain ⟨hl, hb⟩ := chk_odd h
  have := forX (n := n + 3) (f := 19) (nt := 28) (c := part Tryz.f19 [1,1,1,0,1,0,0]) 0 (fun j => fr19 (dW (dl (mkJ z q l) j)) l z q (j : Int)) (fun j => dLw (dl (mkJ z q l) j) :: H) l (fr19 (dW (dl (mkJ z q l) l)) l z q (Int.ofNat l) ++ [(16, .bool false)], dLw (dl (mkJ z q l) l) :: H) (by omega) (fun j hj => ?_) ?_
  · exact this
  · have b := hb j hj
    have ej : addI .i64 (j : Int) (Int.ofNat 1) = ((j + 1 : Nat) : Int) := by rw [addI_eq, show Int.ofNat 1 = 1 from rfl]; exact wr_64 (by omega) (by omega)
    have ei : idO 0 (j : Int) 5 = j * 5 := by rw [idO_eq]; omega
    have hm := dl_len (mkJ z q l) j
    have hd : dl (mkJ z q l) (j + 1) = if mkJ z q l j = 1 then dl (mkJ z q l) j ++ [(j : Int)] else dl (mkJ z q l) j := rfl
    have ht : mkJ z q l j = 1 ↔ bLo z j ≤ q ∧ q ≤ bHi z j := by unfold mkJ dnB; simp [hj]
    have s1 : subI .i64 (z (j * 5 + 1)) (z (j * 5 + 3)) = bLo z j := by rw [subI_eq]; exact wr_64 (by omega) (by omega)
    have s2 : subI .i64 (z (j * 5)) (z (j * 5 + 2)) = bHi z j := by rw [subI_eq]; exact wr_64 (by omega) (by omega)
    cases e : dl (mkJ z q l) j with
    | nil =>
      rw [e] at hd
      refine ex_all (t19a n l z H q (j : Int)) (il_no (n + 1) 2) (noBT_ok _ _) (noRT_ok _ _) ?_
      simp only [ei, addO_eq]
      rw [ej, s1, s2]
      generalize bLo z j = lo at *
      generalize bHi z j = hi at *
      generalize dl (mkJ z q l) (j + 1) = D at *
      generalize mkJ z q l j = mj at *
      repeat' first | (refine Tr.all_ite (fun hc => ?_) (fun hc => ?_) <;> (try simp (disch := omega) only [nV, mulO_eq, Int.cast_ofNat_Int, eq_self] at hc) <;> (try (exfalso; omega))) | (refine Tr.all_req ?_ ?_; · ((try simp (disch := omega) only [nV, mulO_eq, Int.cast_ofNat_Int, eq_self]); try omega)) | (refine Tr.all_reqP ?_ ?_; · first | exact trivial | rfl | exact ⟨rfl, rfl⟩ | exact ⟨rfl, rfl, rfl⟩ | (simp (disch := omega) only [nV, mulO_eq, Int.cast_ofNat_Int, eq_self]; done) | ((try simp (disch := omega) only [nV, mulO_eq, Int.cast_ofNat_Int, eq_self]); omega)) | fail
      all_goals first
        | (rw [if_pos (by omega)] at hd; subst hd; exact Tr.all_ok ⟨rfl, rfl⟩)
        | (rw [if_neg (by omega)] at hd; subst hd; exact Tr.all_ok ⟨rfl, rfl⟩)
        | fail
    | cons a r =>
      rw [e] at hd hm
      have e1 := lst_app (a :: r) (j : Int)
      simp only [List.length_cons] at hm e1
      have e3 : addO (r.length + 1) 1 = r.length + 1 + 1 := by rw [addO_eq]
      refine ex_all (t19b n l z (lstO (a :: r)) H q (j : Int) r.length (r.length + 1)) (il_no (n + 1) 2) (noBT_ok _ _) (noRT_ok _ _) ?_
      rw [e1, e3]
      simp only [ei, addO_eq]
      rw [ej, s1, s2]
      generalize bLo z j = lo at *
      generalize bHi z j = hi at *
      generalize hD : dl (mkJ z q l) (j + 1) = D at *
      generalize mkJ z q l j = mj at *
      have e4 : (r ++ [(j : Int)]).length = r.length + 1 := by simp
      repeat' first | (refine Tr.all_ite (fun hc => ?_) (fun hc => ?_) <;> (try simp (disch := omega) only [nV, mulO_eq, Int.cast_ofNat_Int, eq_self] at hc) <;> (try (exfalso; omega))) | (refine Tr.all_req ?_ ?_; · ((try simp (disch := omega) only [nV, mulO_eq, Int.cast_ofNat_Int, eq_self]); try omega)) | (refine Tr.all_reqP ?_ ?_; · first | exact trivial | rfl | exact ⟨rfl, rfl⟩ | exact ⟨rfl, rfl, rfl⟩ | (simp (disch := omega) only [nV, mulO_eq, Int.cast_ofNat_Int, eq_self]; done) | ((try simp (disch := omega) only [nV, mulO_eq, Int.cast_ofNat_Int, eq_self]); omega)) | fail
      all_goals first
        | (rw [if_pos (by omega)] at hd; subst hd
           refine Tr.all_ok ⟨rfl, ?_⟩
           show _ = (fr19 (.slc 0 0 (r ++ [(j : Int)]).length 0 1 ((r ++ [(j : Int)]).length + 1) none) l z q ((j + 1 : Nat) : Int), (⟨false, [((r ++ [(j : Int)]).length, .row (.M [.arr .i64 (lstO (a :: r ++ [(j : Int)])) ((r ++ [(j : Int)]).length + 1)]))]⟩ : Lvl) :: H)
           rw [e4]; rfl)
        | (rw [if_neg (by omega)] at hd; subst hd; exact Tr.all_ok ⟨rfl, rfl⟩)
        | fail
  · cases e : dl (mkJ z q l) l with
    | nil =>
      obtain ⟨x, h1, rfl⟩ := ex_all (Q := fun x => x = (.exit 0, fr19 .nils l z q (Int.ofNat l) ++ [(16, .bool false)], lvE :: H)) (t19a n l z H q (Int.ofNat l)) (il_no (n + 1) 2) (noBT_ok _ _) (noRT_ok _ _) (by
        repeat' first | (refine Tr.all_ite (fun hc => ?_) (fun hc => ?_) <;> (try simp (disch := omega) only [nV, mulO_eq, Int.cast_ofNat_Int, eq_self] at hc) <;> (try (exfalso; omega))) | (refine Tr.all_req ?_ ?_; · ((try simp (disch := omega) only [nV, mulO_eq, Int.cast_ofNat_Int, eq_self]); try omega)) | (refine Tr.all_reqP ?_ ?_; · first | exact trivial | rfl | exact ⟨rfl, rfl⟩ | exact ⟨rfl, rfl, rfl⟩ | (simp (disch := omega) only [nV, mulO_eq, Int.cast_ofNat_Int, eq_self]; done) | ((try simp (disch := omega) only [nV, mulO_eq, Int.cast_ofNat_Int, eq_self]); omega)) | fail
        all_goals exact Tr.all_ok rfl)
      exact h1
    | cons a r =>
      obtain ⟨x, h1, rfl⟩ := ex_all (Q := fun x => x = (.exit 0, fr19 (.slc 0 0 r.length 0 1 (r.length + 1) none) l z q (Int.ofNat l) ++ [(16, .bool false)], (⟨false, [(r.length, .row (.M [.arr .i64 (lstO (a :: r)) (r.length + 1)]))]⟩ : Lvl) :: H)) (t19b n l z (lstO (a :: r)) H q (Int.ofNat l) r.length (r.length + 1)) (il_no (n + 1) 2) (noBT_ok _ _) (noRT_ok _ _) (by
        repeat' first | (refine Tr.all_ite (fun hc => ?_) (fun hc => ?_) <;> (try simp (disch := omega) only [nV, mulO_eq, Int.cast_ofNat_Int, eq_self] at hc) <;> (try (exfalso; omega))) | (refine Tr.all_req ?_ ?_; · ((try simp (disch := omega) only [nV, mulO_eq, Int.cast_ofNat_Int, eq_self]); try omega)) | (refine Tr.all_reqP ?_ ?_; · first | exact trivial | rfl | exact ⟨rfl, rfl⟩ | exact ⟨rfl, rfl, rfl⟩ | (simp (disch := omega) only [nV, mulO_eq, Int.cast_ofNat_Int, eq_self]; done) | ((try simp (disch := omega) only [nV, mulO_eq, Int.cast_ofNat_Int, eq_self]); omega)) | fail
        all_goals exact Tr.all_ok rfl)
      exact h1
theorem c19 : cd (n + 6) (.fn 19) [slA 5 l z, .int .i64 q] H = some (doeV l z q, H) := by
  have hc : ∀ k H, cd (n + 3 + k) (.fn 21) [slA 5 l z] H = some (.int .i64 (chkO l z), H) := fun k H => by rw [show n + 3 + k = n + k + 3 by omega]; exact c21 _ l z H
  unfold doeV
  by_cases h : chkO l z = 0
  · rw [h] at hc
    rw [if_pos h]
    obtain ⟨hl, _⟩ := chk_odd h
    have hx := l19 (n + 2) l z H q h
    rw [dl_14 z q hl.2] at hx
    cases e : dl (mkJ z q l) 14 with
    | nil =>
      rw [e] at hx
      refine fn_all (n := n + 5) Tryz.func19 rfl rfl rfl (u19p n l z H q) (il_ok _ (n + 3) 2 (fun k => ctO l z (noCt_ok _) (hc k))) (blkE_ok (noBT_ok _ _) b19 (fun x h => by rw [← Tr.ok_some h]; simp only [Res.st, hints_eq]; exact hx)) (noRT_ok _ _) ?_
      repeat' first | (refine Tr.all_ite (fun hc => ?_) (fun hc => ?_) <;> (try simp (disch := omega) only [nV, mulO_eq, Int.cast_ofNat_Int, eq_self] at hc) <;> (try (exfalso; omega))) | (refine Tr.all_req ?_ ?_; · ((try simp (disch := omega) only [nV, mulO_eq, Int.cast_ofNat_Int, eq_self]); try omega)) | (refine Tr.all_reqP ?_ ?_; · first | exact trivial | rfl | exact ⟨rfl, rfl⟩ | exact ⟨rfl, rfl, rfl⟩ | (simp (disch := omega) only [nV, mulO_eq, Int.cast_ofNat_Int, eq_self]; done) | ((try simp (disch := omega) only [nV, mulO_eq, Int.cast_ofNat_Int, eq_self]); omega)) | fail
      all_goals first
        | exact Tr.all_ok ⟨rfl, rfl⟩
        | fail
    | cons a r =>
      rw [e] at hx
      refine fn_all (n := n + 5) Tryz.func19 rfl rfl rfl (u19q n l z (lstO (a :: r)) H q r.length (r.length + 1)) (il_ok _ (n + 3) 2 (fun k => ctO l z (noCt_ok _) (hc k))) (blkE_ok (noBT_ok _ _) b19 (fun x h => by rw [← Tr.ok_some h]; simp only [Res.st, hints_eq]; exact hx)) (noRT_ok _ _) ?_
      rw [shO_zero]
      repeat' first | (refine Tr.all_ite (fun hc => ?_) (fun hc => ?_) <;> (try simp (disch := omega) only [nV, mulO_eq, Int.cast_ofNat_Int, eq_self] at hc) <;> (try (exfalso; omega))) | (refine Tr.all_req ?_ ?_; · ((try simp (disch := omega) only [nV, mulO_eq, Int.cast_ofNat_Int, eq_self]); try omega)) | (refine Tr.all_reqP ?_ ?_; · first | exact trivial | rfl | exact ⟨rfl, rfl⟩ | exact ⟨rfl, rfl, rfl⟩ | (simp (disch := omega) only [nV, mulO_eq, Int.cast_ofNat_Int, eq_self]; done) | ((try simp (disch := omega) only [nV, mulO_eq, Int.cast_ofNat_Int, eq_self]); omega)) | fail
      all_goals first
        | exact Tr.all_ok ⟨rfl, rfl⟩
        | fail
  · rw [if_neg h]
    refine fn_all (n := n + 5) Tryz.func19 rfl rfl rfl (u19x n l z H q (chkO l z)) (il_ok _ (n + 3) 2 (fun k => ctO l z (noCt_ok _) (hc k))) (stopB_ok (noBT_ok _ _) 0) (noRT_ok _ _) ?_
    repeat' first | (refine Tr.all_ite (fun hc => ?_) (fun hc => ?_) <;> (try simp (disch := omega) only [nV, mulO_eq, Int.cast_ofNat_Int, eq_self] at hc) <;> (try (exfalso; omega))) | (refine Tr.all_req ?_ ?_; · ((try simp (disch := omega) only [nV, mulO_eq, Int.cast_ofNat_Int, eq_self]); try omega)) | (refine Tr.all_reqP ?_ ?_; · first | exact trivial | rfl | exact ⟨rfl, rfl⟩ | exact ⟨rfl, rfl, rfl⟩ | (simp (disch := omega) only [nV, mulO_eq, Int.cast_ofNat_Int, eq_self]; done) | ((try simp (disch := omega) only [nV, mulO_eq, Int.cast_ofNat_Int, eq_self]); omega)) | fail
    all_goals first
      | exact Tr.all_ok ⟨rfl, rfl⟩
      | fail
theorem c22 (m : Nat) (z y : Nat → Int) (a b : Bool) (hm : m ≤ 1000) (hz : ∀ j, j < m → z j = y j) : cd (n + 1) (.fn 22) [sl1 m z a, sl1 m y b] H = some (.bool true, H) := by
  have l := forX (n := n) (f := 22) (nt := 26) (c := part Tryz.f22 [1,1,0,1,0,0]) 0 (fun j => fr22 m m z y a b (j : Int)) (fun _ => lvE :: H) m (fr22 m m z y a b (Int.ofNat m) ++ [(14, .bool false)], lvE :: H) (by omega) (fun j hj => ?_) ?_
  · refine fn_all (n := n) Tryz.func22 rfl rfl rfl (u22 n H m m z y a b) (il_no0 n) (blkE_ok (noBT_ok _ _) b22 (fun x hx => by rw [← Tr.ok_some hx]; simp only [Res.st, hints_eq]; exact l)) (noRT_ok _ _) ?_
    repeat' first | (refine Tr.all_ite (fun hc => ?_) (fun hc => ?_) <;> (try simp (disch := omega) only [nV, mulO_eq, Int.cast_ofNat_Int, eq_self] at hc) <;> (try (exfalso; omega))) | (refine Tr.all_req ?_ ?_; · ((try simp (disch := omega) only [nV, mulO_eq, Int.cast_ofNat_Int, eq_self]); try omega)) | (refine Tr.all_reqP ?_ ?_; · first | exact trivial | rfl | exact ⟨rfl, rfl⟩ | exact ⟨rfl, rfl, rfl⟩ | (simp (disch := omega) only [nV, mulO_eq, Int.cast_ofNat_Int, eq_self]; done) | ((try simp (disch := omega) only [nV, mulO_eq, Int.cast_ofNat_Int, eq_self]); omega)) | fail
    exact Tr.all_ok ⟨rfl, rfl⟩
  · have ej : addI .i64 (j : Int) (Int.ofNat 1) = ((j + 1 : Nat) : Int) := by rw [addI_eq, show Int.ofNat 1 = 1 from rfl]; exact wr_64 (by omega) (by omega)
    have := hz j hj
    refine ex_all (t22 n H m m z y a b (j : Int)) (il_no0 n) (noBT_ok _ _) (noRT_ok _ _) ?_
    repeat' first | (refine Tr.all_ite (fun hc => ?_) (fun hc => ?_) <;> (try simp (disch := omega) only [nV, mulO_eq, Int.cast_ofNat_Int, eq_self, Nat.mul_one] at hc) <;> (try (exfalso; omega))) | (refine Tr.all_req ?_ ?_; · ((try simp (disch := omega) only [nV, mulO_eq, Int.cast_ofNat_Int, eq_self, Nat.mul_one]); try omega)) | (refine Tr.all_reqP ?_ ?_; · first | exact trivial | rfl | exact ⟨rfl, rfl⟩ | exact ⟨rfl, rfl, rfl⟩ | (simp (disch := omega) only [nV, mulO_eq, Int.cast_ofNat_Int, eq_self, Nat.mul_one]; done) | ((try simp (disch := omega) only [nV, mulO_eq, Int.cast_ofNat_Int, eq_self, Nat.mul_one]); omega)) | fail
    refine Tr.all_ok ⟨rfl, ?_⟩
    rw [ej]; rfl
  · obtain ⟨x, h1, rfl⟩ := ex_all (Q := fun x => x = (.exit 0, fr22 m m z y a b (Int.ofNat m) ++ [(14, .bool false)], lvE :: H)) (t22 n H m m z y a b (Int.ofNat m)) (il_no0 n) (noBT_ok _ _) (noRT_ok _ _) (by
      repeat' first | (refine Tr.all_ite (fun hc => ?_) (fun hc => ?_) <;> (try simp (disch := omega) only [nV, mulO_eq, Int.cast_ofNat_Int, eq_self] at hc) <;> (try (exfalso; omega))) | (refine Tr.all_req ?_ ?_; · ((try simp (disch := omega) only [nV, mulO_eq, Int.cast_ofNat_Int, eq_self]); try omega)) | (refine Tr.all_reqP ?_ ?_; · first | exact trivial | rfl | exact ⟨rfl, rfl⟩ | exact ⟨rfl, rfl, rfl⟩ | (simp (disch := omega) only [nV, mulO_eq, Int.cast_ofNat_Int, eq_self]; done) | ((try simp (disch := omega) only [nV, mulO_eq, Int.cast_ofNat_Int, eq_self]); omega)) | fail
      exact Tr.all_ok rfl)
    exact h1
theorem c22n : cd (n + 1) (.fn 22) [.nils, .nils] H = some (.bool true, H) :=
  fn_all (n := n) Tryz.func22 rfl rfl rfl (u22n n H) (il_no0 n) (noBT_ok _ _) (noRT_ok _ _) (Tr.all_ok ⟨rfl, rfl⟩)
/-- A list equals itself. -/
theorem c22d (L : List Int) (hL : L.length ≤ 1000) : cd (n + 1) (.fn 22) [dA L, dA L] H = some (.bool true, H) := by
  cases L with
  | nil => exact c22n n H
  | cons a r => exact c22 n H (r.length + 1) (lstO (a :: r)) (lstO (a :: r)) false false hL (fun _ _ => rfl)
end
end Go.Eng
end
section
namespace Go.Eng
open Go.Proofs
set_option linter.unusedVariables false
set_option linter.unusedSimpArgs false
set_option maxRecDepth 100000
noncomputable def g22 (A : AV) : List AV → Option (Prop × AV)
  | [a, b] => some (a = A ∧ b = A, .bool true)
  | _ => none
noncomputable def ct3 (L A : AV) (q s a b e f g : Int) : Ctr := ctG (ctG (ctG (ctG (ctG (ctG (ctG noCt 16 (g56 L q (.tup [.agg (.I .i64 [a, b]), .int .i64 e]))) 17 (g56 L q (.tup [.agg (.I .i64 [a, b]), .int .i64 e]))) 18 (g56 L s (.tup [A, .int .i64 f]))) 19 (g56 L s (.tup [A, .int .i64 f]))) 20 (g20 L g)) 21 (g20 L g)) 22 (g22 A)
def g15 : List AV → Option (Prop × AV)
  | [] => some (True, .bool true)
  | _ => none
theorem u3n (n : Nat) (l : Nat) (z : Nat → Int) (H : Heap) (q s a b e f g : Int) : bodyT Tryz.prog (cd (n+14)) 100000 3 Tryz.f3 (KtB.kt 3) (il (ctG (ct3 (slA 5 l z) .nils q s a b e f g) 15 g15) (n+12) 2) noBT noRT [(slA 5 l z, none), (.int .i64 q, none), (.int .i64 s, none)] H =
  Tr.ite (ltI (Int.ofNat 20) (Int.ofNat l)) (Tr.reqP True (Tr.ok ((AV.bool true, none), H))) (Tr.reqP (slA 5 l z = slA 5 l z ∧ q = q) (Tr.reqP (slA 5 l z = slA 5 l z ∧ q = q) (Tr.reqP (slA 5 l z = slA 5 l z ∧ s = s) (Tr.reqP (slA 5 l z = slA 5 l z ∧ s = s) (Tr.reqP (slA 5 l z = slA 5 l z) (Tr.reqP (slA 5 l z = slA 5 l z) (Tr.ite (eqI g g) (Tr.ite (andB (eqI a a) (eqI b b)) (Tr.ite (eqI e e) (Tr.reqP (AV.nils = AV.nils ∧ AV.nils = AV.nils) (Tr.ite true (Tr.ite (eqI f f) (Tr.reqP True (Tr.ok ((AV.bool true, none), H))) (Tr.ok ((AV.bool false, some 1), H))) (Tr.ok ((AV.bool false, some 1), H)))) (Tr.ok ((AV.bool false, some 1), H))) (Tr.ok ((AV.bool false, some 1), H))) (Tr.ok ((AV.bool false, some 1), H))))))))) := by kernel_rfl
theorem u3c (n : Nat) (l : Nat) (z : Nat → Int) (H : Heap) (q s a b e f g : Int) (m : Nat) (y : Nat → Int) : bodyT Tryz.prog (cd (n+14)) 100000 3 Tryz.f3 (KtB.kt 3) (il (ctG (ct3 (slA 5 l z) (sl1 m y false) q s a b e f g) 15 g15) (n+12) 2) noBT noRT [(slA 5 l z, none), (.int .i64 q, none), (.int .i64 s, none)] H =
  Tr.ite (ltI (Int.ofNat 20) (Int.ofNat l)) (Tr.reqP True (Tr.ok ((AV.bool true, none), H))) (Tr.reqP (slA 5 l z = slA 5 l z ∧ q = q) (Tr.reqP (slA 5 l z = slA 5 l z ∧ q = q) (Tr.reqP (slA 5 l z = slA 5 l z ∧ s = s) (Tr.reqP (slA 5 l z = slA 5 l z ∧ s = s) (Tr.reqP (slA 5 l z = slA 5 l z) (Tr.reqP (slA 5 l z = slA 5 l z) (Tr.ite (eqI g g) (Tr.ite (andB (eqI a a) (eqI b b)) (Tr.ite (eqI e e) (Tr.reqP (AV.slcT none (Row.M [Seg.arr .i64 y m]) 1 m false = AV.slcT none (Row.M [Seg.arr .i64 y m]) 1 m false ∧ AV.slcT none (Row.M [Seg.arr .i64 y m]) 1 m false = AV.slcT none (Row.M [Seg.arr .i64 y m]) 1 m false) (Tr.ite true (Tr.ite (eqI f f) (Tr.reqP True (Tr.ok ((AV.bool true, none), H))) (Tr.ok ((AV.bool false, some 1), H))) (Tr.ok ((AV.bool false, some 1), H)))) (Tr.ok ((AV.bool false, some 1), H))) (Tr.ok ((AV.bool false, some 1), H))) (Tr.ok ((AV.bool false, some 1), H))))))))) := by kernel_rfl
theorem c15 (n : Nat) (H : Heap) : cd (n + 1) (.fn 15) [] H = some (.bool true, H) := by unfold cd callN; rfl
theorem ctWk {n : Nat} {t : Ctr} (ht : t.Ok (cd (n + 1))) : (ctG t 15 g15).Ok (cd (n + 1)) := by
  refine ctG_ok ht (fun args p v hg hp H => ?_)
  unfold g15 at hg
  split at hg
  · simp only [Option.some.injEq, Prod.mk.injEq] at hg
    obtain ⟨_, rfl⟩ := hg
    exact c15 _ H
  · cases hg
theorem ctB {f k : Nat} {t : Ctr} {B V : AV} {q : Int} (ht : t.Ok (cd k)) (h : ∀ H, cd k (.fn f) [B, .int .i64 q] H = some (V, H)) : (ctG t f (g56 B q V)).Ok (cd k) := by
  refine ctG_ok ht (fun args p v hg hp H => ?_)
  unfold g56 at hg
  split at hg
  · simp only [Option.some.injEq, Prod.mk.injEq] at hg
    obtain ⟨rfl, rfl⟩ := hg
    obtain ⟨rfl, rfl⟩ := hp
    exact h H
  · cases hg
theorem ctA {f k : Nat} {t : Ctr} {A : AV} (ht : t.Ok (cd k)) (h : ∀ H, cd k (.fn f) [A, A] H = some (.bool true, H)) : (ctG t f (g22 A)).Ok (cd k) := by
  refine ctG_ok ht (fun args p v hg hp H => ?_)
  unfold g22 at hg
  split at hg
  · simp only [Option.some.injEq, Prod.mk.injEq] at hg
    obtain ⟨rfl, rfl⟩ := hg
    obtain ⟨rfl, rfl⟩ := hp
    exact h H
  · cases hg
theorem bir_e (l : Nat) (z : Nat → Int) (q : Int) : ∃ a b e, birV l z q = .tup [.agg (.I .i64 [a, b]), .int .i64 e] := by
  unfold birV
  split
  · exact ⟨_, _, _, rfl⟩
  split
  · exact ⟨_, _, _, rfl⟩
  split
  · exact ⟨_, _, _, rfl⟩
  · exact ⟨_, _, _, rfl⟩
theorem doe_e (l : Nat) (z : Nat → Int) (q : Int) : ∃ L e, doeV l z q = .tup [dA L, .int .i64 e] ∧ L.length ≤ 14 := by
  unfold doeV
  split
  · exact ⟨_, _, rfl, dl_len _ _⟩
  · exact ⟨[], _, rfl, by simp⟩
section
variable (n : Nat) (l : Nat) (z : Nat → Int) (H : Heap) (q s : Int)
/-- The law BathOrders. -/
theorem c3 : cd (n + 15) (.fn 3) [slA 5 l z, .int .i64 q, .int .i64 s] H = some (.bool true, H) := by
  obtain ⟨a, b, e, hb⟩ := bir_e l z q
  obtain ⟨L, f, hd, hL⟩ := doe_e l z s
  have hC : ∀ k, (ctG (ct3 (slA 5 l z) (dA L) q s a b e f (chkO l z)) 15 g15).Ok (cd (n + 12 + k)) := fun k => by
    unfold ct3
    rw [show n + 12 + k = n + k + 11 + 1 by omega]
    refine ctWk (ctA (ctO l z (ctO l z (ctB (ctB (ctB (ctB (noCt_ok _) ?_) ?_) ?_) ?_) ?_) ?_) ?_)
    · intro H; rw [← hb]; exact c16 _ l z H q
    · intro H; rw [← hb]; exact c17 (n + k + 6) l z H q
    · intro H; rw [← hd]; exact c18 _ l z H s
    · intro H; rw [← hd]; exact c19 (n + k + 6) l z H s
    · intro H; exact c20 (n + k + 3) l z H
    · intro H; exact c21 (n + k + 9) l z H
    · intro H; exact c22d _ H L (by omega)
  generalize chkO l z = g at *
  cases L with
  | nil =>
    refine fn_all (n := n + 14) Tryz.func3 rfl rfl rfl (u3n n l z H q s a b e f g) (il_ok _ (n + 12) 2 hC) (noBT_ok _ _) (noRT_ok _ _) ?_
    repeat' first | (refine Tr.all_ite (fun hc => ?_) (fun hc => ?_) <;> (try simp (disch := omega) only [nV, mulO_eq, Int.cast_ofNat_Int, eq_self] at hc) <;> (try (exfalso; omega))) | (refine Tr.all_req ?_ ?_; · ((try simp (disch := omega) only [nV, mulO_eq, Int.cast_ofNat_Int, eq_self]); try omega)) | (refine Tr.all_reqP ?_ ?_; · first | exact trivial | rfl | exact ⟨rfl, rfl⟩ | exact ⟨rfl, rfl, rfl⟩ | (simp (disch := omega) only [nV, mulO_eq, Int.cast_ofNat_Int, eq_self]; done) | ((try simp (disch := omega) only [nV, mulO_eq, Int.cast_ofNat_Int, eq_self]); omega)) | fail
    all_goals first
      | exact Tr.all_ok ⟨rfl, rfl⟩
      | fail
  | cons x r =>
    refine fn_all (n := n + 14) Tryz.func3 rfl rfl rfl (u3c n l z H q s a b e f g (r.length + 1) (lstO (x :: r))) (il_ok _ (n + 12) 2 hC) (noBT_ok _ _) (noRT_ok _ _) ?_
    repeat' first | (refine Tr.all_ite (fun hc => ?_) (fun hc => ?_) <;> (try simp (disch := omega) only [nV, mulO_eq, Int.cast_ofNat_Int, eq_self] at hc) <;> (try (exfalso; omega))) | (refine Tr.all_req ?_ ?_; · ((try simp (disch := omega) only [nV, mulO_eq, Int.cast_ofNat_Int, eq_self]); try omega)) | (refine Tr.all_reqP ?_ ?_; · first | exact trivial | rfl | exact ⟨rfl, rfl⟩ | exact ⟨rfl, rfl, rfl⟩ | (simp (disch := omega) only [nV, mulO_eq, Int.cast_ofNat_Int, eq_self]; done) | ((try simp (disch := omega) only [nV, mulO_eq, Int.cast_ofNat_Int, eq_self]); omega)) | fail
    all_goals first
      | exact Tr.all_ok ⟨rfl, rfl⟩
      | fail
end
end Go.Eng
end
