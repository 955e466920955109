/- Drop: group. -/
import Derived.Test.YtjmjkhpfipglcaaV9Khx2
section
namespace Go.Eng
open Go.Proofs
set_option linter.unusedVariables false
set_option linter.unusedSimpArgs false
set_option maxRecDepth 100000
noncomputable def slP : AV := .slc 0 2 0 0 1 1 (some 1)
noncomputable def fr115s (i : Int) : Frm := [(0, .slc 3 2 0 0 1 1 (some 1)), (1, .int .i64 0), (2, .int .i64 1), (6, .int .i64 i)]
theorem u115s (n : Nat) (H : Heap) (p : Int) (mk : Nat → Int) (i2 : Int) : bodyT Try.prog (cd (n+2)) 100000 115 Try.f115 (Kt.kt 115) (il noCt n 2) (blkE noBT 0 (fr115s (addI .i64 0 1)) (lv0 :: lv0 :: lv0 :: lvGr p mk slP [] :: H) (.ok (.normal, hints (fr115s i2 ++ [(12, .bool false)]), lv0 :: lv0 :: lv0 :: lvGr p mk slP [] :: H))) noRT [(.slc 2 2 0 0 1 1 (some 1), none), (.int .i64 0, none), (.int .i64 1, none)] (lv0 :: lv0 :: lvGr p mk slP [] :: H) =
 (fun (Z0 : Lvl) => ((fun (Z1 : Frm) => Tr.reqP (Z1 = Z1 ∧ lv0 :: lv0 :: lv0 :: Z0 :: H = lv0 :: lv0 :: lv0 :: Z0 :: H) (Tr.ok ((AV.tup [], none), lv0 :: lv0 :: Z0 :: H))) [(0, AV.slc 3 2 0 0 1 1 (some 1)), (1, AV.int .i64 (Int.ofNat 0)), (2, AV.int .i64 (Int.ofNat 1)), (6, AV.int .i64 (addI .i64 (Int.ofNat 0) (Int.ofNat 1)))])) { lock := false, bs := [(0, Blk.row (Row.I .i64 [p])), (0, Blk.row (Row.M [Seg.arr .i64 mk 12])), (0, Blk.row (Row.I .i64 [p])), (0, Blk.row (Row.G [AV.slc 0 2 0 0 1 1 (some 1)]))] } := by kernel_rfl
theorem t115s (n : Nat) (H : Heap) (p : Int) (mk : Nat → Int) (i : Int) : execT (cxD (n+2) 115 49) (il noCt n 2) (stopB noBT 2) noRT (part Try.f115 [1,0,0]) (hints (fr115s i)) (lv0 :: lv0 :: lv0 :: lvGr p mk slP [] :: H) =
 Tr.ite (ltI i (Int.ofNat 1)) Tr.bad (Tr.ok (Ex.exit 0, [(0, AV.slc 3 2 0 0 1 1 (some 1), none), (1, AV.int .i64 (Int.ofNat 0), none), (2, AV.int .i64 (Int.ofNat 1), none), (6, AV.int .i64 i, none), (12, AV.bool false, some 1)], lv0 :: lv0 :: lv0 :: { lock := false, bs := [(0, Blk.row (Row.I .i64 [p])), (0, Blk.row (Row.M [Seg.arr .i64 mk 12])), (0, Blk.row (Row.I .i64 [p])), (0, Blk.row (Row.G [AV.slc 0 2 0 0 1 1 (some 1)]))] } :: H)) := by kernel_rfl
theorem u113s (n : Nat) (H : Heap) (p : Int) (mk : Nat → Int) (lim : Int) : bodyT Try.prog (cd (n+3)) 100000 113 Try.f113 (Kt.kt 113) (il (ctE noCt 115 [.slc 2 2 0 0 1 1 (some 1), .int .i64 0, .int .i64 1] (lv0 :: lv0 :: lvGr p mk slP [] :: H) (.ok (.tup [], lv0 :: lv0 :: lvGr p mk slP [] :: H))) (n+3) 0) noBT noRT [(.slc 1 2 0 0 1 1 (some 1), none), (.int .i64 0, none), (.int .i64 1, none), (.int .i64 lim, none)] (lv0 :: lvGr p mk slP [] :: H) =
 (fun (Z0 : Lvl) => Tr.ite (leI (subI .i64 (Int.ofNat 1) (Int.ofNat 0)) (Int.ofNat 12)) (Tr.reqP ([AV.slc 2 2 0 0 1 1 (some 1), AV.int .i64 (Int.ofNat 0), AV.int .i64 (Int.ofNat 1)] = [AV.slc 2 2 0 0 1 1 (some 1), AV.int .i64 (Int.ofNat 0), AV.int .i64 (Int.ofNat 1)] ∧ lv0 :: lv0 :: Z0 :: H = lv0 :: lv0 :: Z0 :: H) (Tr.ok ((AV.tup [], none), lv0 :: Z0 :: H))) (Tr.ite (eqI lim (Int.ofNat 0)) Tr.bad Tr.bad)) { lock := false, bs := [(0, Blk.row (Row.I .i64 [p])), (0, Blk.row (Row.M [Seg.arr .i64 mk 12])), (0, Blk.row (Row.I .i64 [p])), (0, Blk.row (Row.G [AV.slc 0 2 0 0 1 1 (some 1)]))] } := by kernel_rfl
theorem u108s (n : Nat) (H : Heap) (p : Int) (mk : Nat → Int) (lim : Int) : bodyT Try.prog (cd (n+4)) 100000 108 Try.f108 (Kt.kt 108) (il (ctG (ctE noCt 113 [.slc 1 2 0 0 1 1 (some 1), .int .i64 0, .int .i64 1, .int .i64 lim] (lv0 :: lvGr p mk slP [] :: H) (.ok (.tup [], lv0 :: lvGr p mk slP [] :: H))) 114 (g114 1 lim)) (n+4) 0) noBT noRT [(slP, none)] (lvGr p mk slP [] :: H) =
 (fun (Z0 : Lvl) => ((fun (Z1 : List AV) => Tr.reqP (wrI IntKind.u64 (Int.ofNat 1) = Int.ofNat 1) (Tr.reqP (Z1 = Z1 ∧ lv0 :: Z0 :: H = lv0 :: Z0 :: H) (Tr.ok ((AV.tup [], none), Z0 :: H)))) [AV.slc 1 2 0 0 1 1 (some 1), AV.int .i64 (Int.ofNat 0), AV.int .i64 (Int.ofNat 1), AV.int .i64 lim])) { lock := false, bs := [(0, Blk.row (Row.I .i64 [p])), (0, Blk.row (Row.M [Seg.arr .i64 mk 12])), (0, Blk.row (Row.I .i64 [p])), (0, Blk.row (Row.G [AV.slc 0 2 0 0 1 1 (some 1)]))] } := by kernel_rfl
theorem u88a (n : Nat) (tk : Nat) (w : Int) (ls ld : Nat) (zs zd sz kd mk mk2 : Nat → Int) (H : Heap) (p i2 : Int) (sure : Bool) : bodyT Try.prog (cd (n+5)) 100000 88 Try.f88 (Kt.kt 88) (il (ctE noCt 108 [slP] (lvGr p mk2 slP [] :: H) (.ok (.tup [], lvGr p mk2 slP [] :: H))) (n+5) 0) (blkE noBT 0 (fr88 tk w ls ld zs zd sz kd sure 0) (lvGr p mk slP [] :: H) (.ok (.normal, hints (fr88 tk w ls ld zs zd sz kd sure i2 ++ [(21, .bool false)]), lvGr p mk2 slP [] :: H))) noRT [(tabR tk w ls ld zs zd sz kd, none), (.int .i64 p, none), (.bool sure, none)] H =
 (fun (Z0 : Frm) => ((fun (Z1 : Lvl) => Tr.req (inO 0 12 0 12) (Tr.req (inI (addI .i64 p (Int.ofNat 2)) 12) (Tr.req (eqN 0 0) (Tr.req (ltN (idO 0 (addI .i64 p (Int.ofNat 2)) 1) 12) (Tr.reqP (Z0 = Z0 ∧ { lock := false, bs := [(0, Blk.row (Row.I .i64 [p])), (0, Blk.row (Row.M [Seg.arr .i64 (updO (copO (fun x => Int.ofNat 0) 0 (fun x => Int.ofNat 0) 12) (idO 0 (addI .i64 p (Int.ofNat 2)) 1) (Int.ofNat 1)) 12])), (0, Blk.row (Row.I .i64 [p])), (0, Blk.row (Row.G [AV.slc 0 2 0 0 1 1 (some 1)]))] } :: H = { lock := false, bs := [(0, Blk.row (Row.I .i64 [p])), (0, Blk.row (Row.M [Seg.arr .i64 mk 12])), (0, Blk.row (Row.I .i64 [p])), (0, Blk.row (Row.G [AV.slc 0 2 0 0 1 1 (some 1)]))] } :: H) (Tr.reqP ([AV.slc 0 2 0 0 1 1 (some 1)] = [AV.slc 0 2 0 0 1 1 (some 1)] ∧ Z1 :: H = Z1 :: H) (Tr.req (eqN 0 0) (Tr.ok ((AV.slcT none (Row.I .i64 [p]) 1 1 (eqN 1 1), none), H))))))))) { lock := false, bs := [(0, Blk.row (Row.I .i64 [p])), (0, Blk.row (Row.M [Seg.arr .i64 mk2 12])), (0, Blk.row (Row.I .i64 [p])), (0, Blk.row (Row.G [AV.slc 0 2 0 0 1 1 (some 1)]))] })) [(0, AV.ptrT (some (Nat.succ tk)) (Row.M [Seg.one (AV.int .i64 w), Seg.one (slA 2 ls zs), Seg.one (slA 3 ld zd), Seg.one (.slcT none (.M [.arr .i64 sz (mulO ls 2)]) 2 ls true), Seg.arr .i64 kd 144]) 0), (2, AV.bool sure), (4, AV.ptr 0 0 0 0), (7, AV.ptr 0 1 0 0), (8, AV.ptr 0 3 0 0), (9, AV.int .i64 (Int.ofNat 0))] := by kernel_rfl
theorem u88b (n : Nat) (tk : Nat) (w : Int) (ls ld : Nat) (zs zd sz kd mk mk2 z z2 : Nat → Int) (H : Heap) (p i2 : Int) (sure : Bool) (v m : Nat) : bodyT Try.prog (cd (n+5)) 100000 88 Try.f88 (Kt.kt 88) (il (ctE noCt 108 [.slc 0 4 v 0 1 m none] (lvSo p mk2 z (.slc 0 4 v 0 1 m none) v m :: H) (.ok (.tup [], lvSo p mk2 z2 (.slc 0 4 v 0 1 m none) v m :: H))) (n+5) 0) (blkE noBT 0 (fr88 tk w ls ld zs zd sz kd sure 0) (lvGr p mk slP [] :: H) (.ok (.normal, hints (fr88 tk w ls ld zs zd sz kd sure i2 ++ [(21, .bool false)]), lvSo p mk2 z (.slc 0 4 v 0 1 m none) v m :: H))) noRT [(tabR tk w ls ld zs zd sz kd, none), (.int .i64 p, none), (.bool sure, none)] H =
 (fun (Z0 : Frm) => ((fun (Z1 : Lvl) => Tr.req (inO 0 12 0 12) (Tr.req (inI (addI .i64 p (Int.ofNat 2)) 12) (Tr.req (eqN 0 0) (Tr.req (ltN (idO 0 (addI .i64 p (Int.ofNat 2)) 1) 12) (Tr.reqP (Z0 = Z0 ∧ { lock := false, bs := [(0, Blk.row (Row.I .i64 [p])), (0, Blk.row (Row.M [Seg.arr .i64 (updO (copO (fun x => Int.ofNat 0) 0 (fun x => Int.ofNat 0) 12) (idO 0 (addI .i64 p (Int.ofNat 2)) 1) (Int.ofNat 1)) 12])), (0, Blk.row (Row.I .i64 [p])), (0, Blk.row (Row.G [AV.slc 0 2 0 0 1 1 (some 1)]))] } :: H = { lock := false, bs := [(0, Blk.row (Row.I .i64 [p])), (0, Blk.row (Row.M [Seg.arr .i64 mk 12])), (0, Blk.row (Row.I .i64 [p])), (0, Blk.row (Row.G [AV.slc 0 2 0 0 1 1 (some 1)]))] } :: H) (Tr.reqP ([AV.slc 0 4 v 0 1 m none] = [AV.slc 0 4 v 0 1 m none] ∧ Z1 :: H = Z1 :: H) (Tr.req (eqN v v) (Tr.req (inO 0 m 0 m) (Tr.ok ((AV.slcT none (Row.M [Seg.arr .i64 (shO z2 0) m]) 1 m false, none), H)))))))))) { lock := false, bs := [(0, Blk.row (Row.I .i64 [p])), (0, Blk.row (Row.M [Seg.arr .i64 mk2 12])), (0, Blk.row (Row.I .i64 [p])), (0, Blk.row (Row.G [AV.slc 0 4 v 0 1 m none])), (v, Blk.row (Row.M [Seg.arr .i64 z m]))] })) [(0, AV.ptrT (some (Nat.succ tk)) (Row.M [Seg.one (AV.int .i64 w), Seg.one (slA 2 ls zs), Seg.one (slA 3 ld zd), Seg.one (.slcT none (.M [.arr .i64 sz (mulO ls 2)]) 2 ls true), Seg.arr .i64 kd 144]) 0), (2, AV.bool sure), (4, AV.ptr 0 0 0 0), (7, AV.ptr 0 1 0 0), (8, AV.ptr 0 3 0 0), (9, AV.int .i64 (Int.ofNat 0))] := by kernel_rfl
noncomputable def mk0 (p : Int) : Nat → Int := updO (copO (fun _ => 0) 0 (fun _ => 0) 12) (p + 2).toNat 1
noncomputable def grpV (p : Int) : List Int → AV
 | [] => .slcT none (.I .i64 [p]) 1 1 true
 | y :: r => sl1 (r.length + 2) (srtF (lstO (p :: y :: r)) (r.length + 1)) false
noncomputable def grpL (kd : Nat → Int) (sure : Bool) (ls : Nat) (p : Int) : List Int := (grS kd sure ls p (mk0 p) (grN kd sure ls p (mk0 p))).2
section
variable (n : Nat) (tk : Nat) (w : Int) (ls ld : Nat) (zs zd sz kd : Nat → Int) (H : Heap) (p : Int) (sure : Bool) (mk : Nat → Int)
theorem c115s : cd (n + 3) (.fn 115) [.slc 2 2 0 0 1 1 (some 1), .int .i64 0, .int .i64 1] (lv0 :: lv0 :: lvGr p mk slP [] :: H) = some (.tup [], lv0 :: lv0 :: lvGr p mk slP [] :: H) := by
 have l := forX (n := n + 2) (f := 115) (nt := 49) (c := part Try.f115 [1,0,0]) 0 (fun k => fr115s ((k + 1 : Nat) : Int)) (fun k => lv0 :: lv0 :: lv0 :: lvGr p mk slP [] :: H) 0 (fr115s ((1 : Nat) : Int) ++ [(12, .bool false)], lv0 :: lv0 :: lv0 :: lvGr p mk slP [] :: H) (by omega) (fun k hk => by omega) (by
  obtain ⟨x, h1, rfl⟩ := ex_all (Q := fun x => x = (.exit 0, fr115s ((1 : Nat) : Int) ++ [(12, .bool false)], lv0 :: lv0 :: lv0 :: lvGr p mk slP [] :: H)) (t115s n H p mk ((1 : Nat) : Int)) (il_no n 2) (stopB_ok (noBT_ok _ _) 2) (noRT_ok _ _) (by
   repeat' first | (refine Tr.all_ite (fun hc => ?_) (fun hc => ?_) <;> (try simp (disch := omega) only [nV, mulO_eq, Int.cast_ofNat_Int, eq_self] at hc) <;> (try (exfalso; omega))) | (refine Tr.all_req ?_ ?_; · ((try simp (disch := omega) only [nV, mulO_eq, Int.cast_ofNat_Int, eq_self]); try omega)) | (refine Tr.all_reqP ?_ ?_; · first | exact trivial | rfl | exact ⟨rfl, rfl⟩ | exact ⟨rfl, rfl, rfl⟩ | (simp (disch := omega) only [nV, mulO_eq, Int.cast_ofNat_Int, eq_self]; done) | ((try simp (disch := omega) only [nV, mulO_eq, Int.cast_ofNat_Int, eq_self]); omega)) | fail
   exact Tr.all_ok rfl)
  exact h1)
 have e1 : addI .i64 0 1 = ((1 : Nat) : Int) := by rw [addI_eq]; rfl
 refine fn_all (n := n + 2) Try.func115 rfl rfl rfl (u115s n H p mk ((1 : Nat) : Int)) (il_no n 2) (blkE_ok (noBT_ok _ _) b115 (fun x hx => by rw [← Tr.ok_some hx, e1]; simp only [Res.st, hints_eq]; exact l)) (noRT_ok _ _) ?_
 repeat' first | (refine Tr.all_ite (fun hc => ?_) (fun hc => ?_) <;> (try simp (disch := omega) only [nV, mulO_eq, Int.cast_ofNat_Int, eq_self] at hc) <;> (try (exfalso; omega))) | (refine Tr.all_req ?_ ?_; · ((try simp (disch := omega) only [nV, mulO_eq, Int.cast_ofNat_Int, eq_self]); try omega)) | (refine Tr.all_reqP ?_ ?_; · first | exact trivial | rfl | exact ⟨rfl, rfl⟩ | exact ⟨rfl, rfl, rfl⟩ | (simp (disch := omega) only [nV, mulO_eq, Int.cast_ofNat_Int, eq_self]; done) | ((try simp (disch := omega) only [nV, mulO_eq, Int.cast_ofNat_Int, eq_self]); omega)) | fail
 exact Tr.all_ok ⟨rfl, rfl⟩
theorem c113s (lim : Int) : cd (n + 4) (.fn 113) [.slc 1 2 0 0 1 1 (some 1), .int .i64 0, .int .i64 1, .int .i64 lim] (lv0 :: lvGr p mk slP [] :: H) = some (.tup [], lv0 :: lvGr p mk slP [] :: H) := by
 refine fn_all (n := n + 3) Try.func113 rfl rfl rfl (u113s n H p mk lim) (il_ok _ (n + 3) 0 (fun k => ctE_ok (noCt_ok _) (fun x hx => ?_))) (noBT_ok _ _) (noRT_ok _ _) ?_
 · rw [← Tr.ok_some hx, show n + 3 + k = n + k + 3 by omega]
   exact c115s (n + k) H p mk
 · repeat' first | (refine Tr.all_ite (fun hc => ?_) (fun hc => ?_) <;> (try simp (disch := omega) only [nV, mulO_eq, Int.cast_ofNat_Int, eq_self] at hc) <;> (try (exfalso; omega))) | (refine Tr.all_req ?_ ?_; · ((try simp (disch := omega) only [nV, mulO_eq, Int.cast_ofNat_Int, eq_self]); try omega)) | (refine Tr.all_reqP ?_ ?_; · first | exact trivial | rfl | exact ⟨rfl, rfl⟩ | exact ⟨rfl, rfl, rfl⟩ | (simp (disch := omega) only [nV, mulO_eq, Int.cast_ofNat_Int, eq_self]; done) | ((try simp (disch := omega) only [nV, mulO_eq, Int.cast_ofNat_Int, eq_self]); omega)) | fail
   exact Tr.all_ok ⟨rfl, rfl⟩
theorem c108s : cd (n + 5) (.fn 108) [slP] (lvGr p mk slP [] :: H) = some (.tup [], lvGr p mk slP [] :: H) := by
 have ew : wrI .u64 (Int.ofNat 1) = Int.ofNat 1 := by rw [wrI_eq]; rfl
 refine fn_all (n := n + 4) Try.func108 rfl rfl rfl (u108s n H p mk (limN 1)) (il_ok _ (n + 4) 0 (fun k => ctG_ok (ctE_ok (noCt_ok _) (fun x hx => ?_)) (fun args p' v' hg hp H => ?_))) (noBT_ok _ _) (noRT_ok _ _) ?_
 · rw [← Tr.ok_some hx, show n + 4 + k = n + k + 4 by omega]
   exact c113s (n + k) H p mk _
 · unfold g114 at hg
   split at hg
   · simp only [Option.some.injEq, Prod.mk.injEq] at hg
     obtain ⟨rfl, rfl⟩ := hg
     subst hp
     rw [show n + 4 + k = n + 1 + k + 3 by omega]
     exact c114_1 _ H
   · cases hg
 · rw [ew]
   refine Tr.all_reqP rfl (Tr.all_reqP ⟨rfl, rfl⟩ (Tr.all_ok ⟨rfl, rfl⟩))
theorem b88 : ∀ b, (0, b) ∈ blocksOf (bodyOf Try.f88) → b = .loop (part Try.f88 [1,1,1,1,1,0,1,0,0]) := by
 have : ((blocksOf (bodyOf Try.f88)).filter fun x => Nat.beq x.1 0) = [(0, .loop (part Try.f88 [1,1,1,1,1,0,1,0,0]))] := by kernel_rfl
 intro b hb
 have hm : (0, b) ∈ ((blocksOf (bodyOf Try.f88)).filter fun x => Nat.beq x.1 0) := List.mem_filter.2 ⟨hb, rfl⟩
 rw [this] at hm; simpa using hm
theorem c88 (hp : -2 ≤ p ∧ p < ls) (hls : ls ≤ 10) : cd (n + 6) (.fn 88) [tabR tk w ls ld zs zd sz kd, .int .i64 p, .bool sure] H = some (grpV p (grpL kd sure ls p), H) := by
 have l := l88 n tk w ls ld zs zd sz kd H p sure (mk0 p) hp hls
 have hg := grS_ok ls kd p sure (mk0 p) hp (grN kd sure ls p (mk0 p))
 have hlen := hg.len
 have e1 : addI .i64 p (Int.ofNat 2) = p + 2 := by rw [addI_eq, show Int.ofNat 2 = 2 from rfl]; exact wr_64 (by omega) (by omega)
 have e2 : idO 0 (p + 2) 1 = (p + 2).toNat := by rw [idO_eq]; omega
 have e3 : updO (copO (fun _ => Int.ofNat 0) 0 (fun _ => Int.ofNat 0) 12) (p + 2).toNat (Int.ofNat 1) = mk0 p := rfl
 unfold grpL
 generalize grN kd sure ls p (mk0 p) = N at *
 generalize grS kd sure ls p (mk0 p) N = s at *
 obtain ⟨mk2, r⟩ := s
 cases r with
 | nil =>
   refine fn_all (n := n + 5) Try.func88 rfl rfl rfl (u88a n tk w ls ld zs zd sz kd (mk0 p) mk2 H p (N : Int) sure) (il_ok _ (n + 5) 0 (fun k => ctE_ok (noCt_ok _) (fun x hx => ?_))) (blkE_ok (noBT_ok _ _) b88 (fun x hx => by rw [← Tr.ok_some hx]; simp only [Res.st, hints_eq]; exact l)) (noRT_ok _ _) ?_
   · rw [← Tr.ok_some hx, show n + 5 + k = n + k + 5 by omega]
     exact c108s (n + k) H p mk2
   · rw [e1, e2, e3]
     repeat' first | (refine Tr.all_ite (fun hc => ?_) (fun hc => ?_) <;> (try simp (disch := omega) only [nV, mulO_eq, Int.cast_ofNat_Int, eq_self] at hc) <;> (try (exfalso; omega))) | (refine Tr.all_req ?_ ?_; · ((try simp (disch := omega) only [nV, mulO_eq, Int.cast_ofNat_Int, eq_self]); try omega)) | (refine Tr.all_reqP ?_ ?_; · first | exact trivial | rfl | exact ⟨rfl, rfl⟩ | exact ⟨rfl, rfl, rfl⟩ | (simp (disch := omega) only [nV, mulO_eq, Int.cast_ofNat_Int, eq_self]; done) | ((try simp (disch := omega) only [nV, mulO_eq, Int.cast_ofNat_Int, eq_self]); omega)) | fail
     refine Tr.all_ok ⟨?_, rfl⟩
     simp only [beqN_self]
     rfl
 | cons y r =>
   have hr : r.length + 1 ≤ ls + 2 := by simpa using hlen
   have hr2 : r.length + 1 ≤ ls + 1 := by
    have h1 := nd_len (ls + 2) (-2) (p :: y :: r) (List.nodup_cons.2 ⟨fun hm => (hg.mem p hm).2.2.1 rfl, hg.nd⟩) (fun q hq => by
     rcases List.mem_cons.1 hq with h | h
     · rw [h]; omega
     · have := hg.mem q h; omega)
    have : r.length + 1 + 1 ≤ ls + 2 := by simpa using h1
    omega
   refine fn_all (n := n + 5) Try.func88 rfl rfl rfl (u88b n tk w ls ld zs zd sz kd (mk0 p) mk2 (lstO (p :: y :: r)) (srtF (lstO (p :: y :: r)) (r.length + 2 - 1)) H p (N : Int) sure r.length (r.length + 2)) (il_ok _ (n + 5) 0 (fun k => ctE_ok (noCt_ok _) (fun x hx => ?_))) (blkE_ok (noBT_ok _ _) b88 (fun x hx => by rw [← Tr.ok_some hx]; simp only [Res.st, hints_eq]; exact l)) (noRT_ok _ _) ?_
   · rw [← Tr.ok_some hx, show n + 5 + k = n + k + 5 by omega]
     exact c108 (n + k) H p mk2 (lstO (p :: y :: r)) _ r.length (r.length + 2) (by omega) (by omega)
   · rw [e1, e2, e3]
     repeat' first | (refine Tr.all_ite (fun hc => ?_) (fun hc => ?_) <;> (try simp (disch := omega) only [nV, mulO_eq, Int.cast_ofNat_Int, eq_self] at hc) <;> (try (exfalso; omega))) | (refine Tr.all_req ?_ ?_; · ((try simp (disch := omega) only [nV, mulO_eq, Int.cast_ofNat_Int, eq_self]); try omega)) | (refine Tr.all_reqP ?_ ?_; · first | exact trivial | rfl | exact ⟨rfl, rfl⟩ | exact ⟨rfl, rfl, rfl⟩ | (simp (disch := omega) only [nV, mulO_eq, Int.cast_ofNat_Int, eq_self]; done) | ((try simp (disch := omega) only [nV, mulO_eq, Int.cast_ofNat_Int, eq_self]); omega)) | fail
     refine Tr.all_ok ⟨?_, rfl⟩
     rw [shO_zero]
     rfl
end
end Go.Eng
end
section
namespace Go.Eng
open Go.Proofs
set_option linter.unusedVariables false
set_option linter.unusedSimpArgs false
set_option maxRecDepth 100000
noncomputable def fr107 (m : Nat) (z : Nat → Int) (full : Bool) (q j : Int) : Frm := [(0, sl1 m z full), (1, .int .i64 q), (7, .int .i64 (Int.ofNat m)), (8, .int .i64 j)]
noncomputable def slI (p : Int) : AV := .slcT none (.I .i64 [p]) 1 1 true
theorem t107 (n : Nat) (H : Heap) (m : Nat) (z : Nat → Int) (full : Bool) (q j : Int) : execT (cxD n 107 19) (il noCt n 0) noBT noRT (part Try.f107 [1,0,1,0,0]) (hints (fr107 m z full q j)) (lv0 :: H) =
 Tr.ite (ltI j (Int.ofNat m)) (Tr.req (inI j m) (Tr.req (ltN (idO 0 j 1) m) (Tr.ite (eqI q (z (idO 0 j 1))) (Tr.ok (Ex.ret, [(4, AV.int .i64 j, none)], lv0 :: H)) (Tr.ok (Ex.normal, [(0, AV.slcT none (Row.M [Seg.arr .i64 z m]) 1 m full, none), (1, AV.int .i64 q, none), (7, AV.int .i64 (Int.ofNat m), none), (8, AV.int .i64 (addI .i64 j (Int.ofNat 1)), none)], lv0 :: H))))) (Tr.ok (Ex.exit 0, [(0, AV.slcT none (Row.M [Seg.arr .i64 z m]) 1 m full, none), (1, AV.int .i64 q, none), (7, AV.int .i64 (Int.ofNat m), none), (8, AV.int .i64 j, none), (9, AV.bool false, some 1)], lv0 :: H)) := by kernel_rfl
theorem u107 (n : Nat) (H : Heap) (m : Nat) (z : Nat → Int) (full : Bool) (q i : Int) (e : Bool) : bodyT Try.prog (cd n) 100000 107 Try.f107 (Kt.kt 107) (il noCt n 0) (blkE noBT 0 (fr107 m z full q 0) (lv0 :: H) (.ite e (.ok (.ret, [(4, .int .i64 i, none)], lv0 :: H)) (.ok (.normal, hints (fr107 m z full q (Int.ofNat m) ++ [(9, .bool false)]), lv0 :: H)))) noRT [(sl1 m z full, none), (.int .i64 q, none)] H =
 (fun (Z0 : Frm) => Tr.reqP (Z0 = Z0 ∧ lv0 :: H = lv0 :: H) (Tr.ite e (Tr.ok ((AV.int .i64 i, none), H)) (Tr.ok ((AV.int .i64 (Int.negSucc 0), some 1), H)))) [(0, AV.slcT none (Row.M [Seg.arr .i64 z m]) 1 m full), (1, AV.int .i64 q), (7, AV.int .i64 (Int.ofNat m)), (8, AV.int .i64 (Int.ofNat 0))] := by kernel_rfl
theorem u107s (n : Nat) (H : Heap) (p q : Int) : bodyT Try.prog (cd n) 100000 107 Try.f107 (Kt.kt 107) (il noCt n 0) noBT noRT [(slI p, some 1), (.int .i64 q, none)] H =
 Tr.req (inI (Int.ofNat 0) 1) (Tr.ite (eqI q p) (Tr.ok ((AV.int .i64 (Int.ofNat 0), some 1), H)) (Tr.ok ((AV.int .i64 (Int.negSucc 0), some 1), H))) := by kernel_rfl
theorem u85 (n : Nat) (H : Heap) (a : AV) (m : Nat) (z : Nat → Int) (full : Bool) (q i : Int) : bodyT Try.prog (cd (n+1)) 100000 85 Try.f85 (Kt.kt 85) (il (ctE noCt 107 [sl1 m z full, .int .i64 q] (lv0 :: H) (.ok (.int .i64 i, lv0 :: H))) (n+1) 0) noBT noRT [(sl1 m z full, none), (.int .i64 q, none)] H =
 Tr.reqP ([AV.slcT none (Row.M [Seg.arr .i64 z m]) 1 m full, AV.int .i64 q] = [AV.slcT none (Row.M [Seg.arr .i64 z m]) 1 m full, AV.int .i64 q] ∧ lv0 :: H = lv0 :: H) (Tr.ok ((AV.bool (leI (Int.ofNat 0) i), none), H)) := by kernel_rfl
theorem u85s (n : Nat) (H : Heap) (p q i : Int) : bodyT Try.prog (cd (n+1)) 100000 85 Try.f85 (Kt.kt 85) (il (ctE noCt 107 [slI p, .int .i64 q] (lv0 :: H) (.ok (.int .i64 i, lv0 :: H))) (n+1) 0) noBT noRT [(slI p, none), (.int .i64 q, none)] H =
 Tr.reqP ([AV.slcT none (Row.I .i64 [p]) 1 1 true, AV.int .i64 q] = [AV.slcT none (Row.I .i64 [p]) 1 1 true, AV.int .i64 q] ∧ lv0 :: H = lv0 :: H) (Tr.ok ((AV.bool (leI (Int.ofNat 0) i), none), H)) := by kernel_rfl
theorem u34x (n : Nat) (w : Int) (ls ld : Nat) (zs zd : Nat → Int) (H : Heap) (p q e : Int) (sure : Bool) : bodyT Try.prog (cd (n+14)) 100000 34 Try.f34 (Kt.kt 34) (il (ctG (ctG noCt 68 (g68 (bathA w ls zs ld zd) p q .nilp e)) 88 (fun _ => none)) (n+14) 0) noBT noRT [(bathA w ls zs ld zd, none), (.int .i64 p, none), (.int .i64 q, none), (.bool sure, none)] H =
 Tr.reqP (bathA w ls zs ld zd = bathA w ls zs ld zd ∧ p = p ∧ q = q) (Tr.ite (notB (eqI e (Int.ofNat 0))) (Tr.ok ((AV.tup [AV.nils, AV.int .i64 e], none), H)) Tr.bad) := by kernel_rfl
noncomputable def g88 (T : AV) (p : Int) (sure : Bool) (l : AV) : List AV → Option (Prop × AV)
 | [t, .int .i64 q, .bool s] => some (t = T ∧ q = p ∧ s = sure, l)
 | _ => none
def g85 (A : AV) (q : Int) (b : Bool) : List AV → Option (Prop × AV)
 | [a, .int .i64 x] => some (a = A ∧ x = q, .bool b)
 | _ => none
theorem u34a (n : Nat) (w : Int) (ls ld : Nat) (zs zd sz kd : Nat → Int) (H : Heap) (p q : Int) (sure b : Bool) : bodyT Try.prog (cd (n+14)) 100000 34 Try.f34 (Kt.kt 34) (il (ctG (ctG (ctG noCt 68 (g68 (bathA w ls zs ld zd) p q (tabV w ls ld zs zd sz kd) 0)) 88 (g88 (tabV w ls ld zs zd sz kd) p sure (slI p))) 85 (g85 (slI p) q b)) (n+14) 0) noBT noRT [(bathA w ls zs ld zd, none), (.int .i64 p, none), (.int .i64 q, none), (.bool sure, none)] H =
 (fun (Z0 : Row) => Tr.reqP (bathA w ls zs ld zd = bathA w ls zs ld zd ∧ p = p ∧ q = q) (Tr.ite (notB (eqI (Int.ofNat 0) (Int.ofNat 0))) (Tr.ok ((AV.tup [AV.nils, AV.int .i64 (Int.ofNat 0)], none), H)) (Tr.reqP (AV.ptrT (some 0) Z0 0 = AV.ptrT (some 0) Z0 0 ∧ p = p ∧ sure = sure) (Tr.reqP (AV.slcT none (Row.I .i64 [p]) 1 1 true = AV.slcT none (Row.I .i64 [p]) 1 1 true ∧ q = q) (Tr.ite b (Tr.ok ((AV.tup [AV.nils, AV.int .i64 (Int.ofNat 11)], none), H)) (Tr.ok ((AV.tup [AV.slcT none (Row.I .i64 [p]) 1 1 true, AV.int .i64 (Int.ofNat 0)], none), H))))))) (Row.M [Seg.one (AV.int .i64 w), Seg.one (slA 2 ls zs), Seg.one (slA 3 ld zd), Seg.one (AV.slcT none (Row.M [Seg.arr .i64 sz (mulO ls 2)]) 2 ls true), Seg.arr .i64 kd 144]) := by kernel_rfl
theorem u34b (n : Nat) (w : Int) (ls ld m : Nat) (zs zd sz kd z : Nat → Int) (H : Heap) (p q : Int) (sure b : Bool) : bodyT Try.prog (cd (n+14)) 100000 34 Try.f34 (Kt.kt 34) (il (ctG (ctG (ctG noCt 68 (g68 (bathA w ls zs ld zd) p q (tabV w ls ld zs zd sz kd) 0)) 88 (g88 (tabV w ls ld zs zd sz kd) p sure (sl1 m z false))) 85 (g85 (sl1 m z false) q b)) (n+14) 0) noBT noRT [(bathA w ls zs ld zd, none), (.int .i64 p, none), (.int .i64 q, none), (.bool sure, none)] H =
 (fun (Z0 : Row) => Tr.reqP (bathA w ls zs ld zd = bathA w ls zs ld zd ∧ p = p ∧ q = q) (Tr.ite (notB (eqI (Int.ofNat 0) (Int.ofNat 0))) (Tr.ok ((AV.tup [AV.nils, AV.int .i64 (Int.ofNat 0)], none), H)) (Tr.reqP (AV.ptrT (some 0) Z0 0 = AV.ptrT (some 0) Z0 0 ∧ p = p ∧ sure = sure) (Tr.reqP (AV.slcT none (Row.M [Seg.arr .i64 z m]) 1 m false = AV.slcT none (Row.M [Seg.arr .i64 z m]) 1 m false ∧ q = q) (Tr.ite b (Tr.ok ((AV.tup [AV.nils, AV.int .i64 (Int.ofNat 11)], none), H)) (Tr.ok ((AV.tup [AV.slcT none (Row.M [Seg.arr .i64 z m]) 1 m false, AV.int .i64 (Int.ofNat 0)], none), H))))))) (Row.M [Seg.one (AV.int .i64 w), Seg.one (slA 2 ls zs), Seg.one (slA 3 ld zd), Seg.one (AV.slcT none (Row.M [Seg.arr .i64 sz (mulO ls 2)]) 2 ls true), Seg.arr .i64 kd 144]) := by kernel_rfl
section
variable (n : Nat) (H : Heap) (m : Nat) (z : Nat → Int) (full : Bool) (p q : Int)
theorem b107 : ∀ b, (0, b) ∈ blocksOf (bodyOf Try.f107) → b = .loop (part Try.f107 [1,0,1,0,0]) := by
 have : ((blocksOf (bodyOf Try.f107)).filter fun x => Nat.beq x.1 0) = [(0, .loop (part Try.f107 [1,0,1,0,0]))] := by kernel_rfl
 intro b hb
 have hm : (0, b) ∈ ((blocksOf (bodyOf Try.f107)).filter fun x => Nat.beq x.1 0) := List.mem_filter.2 ⟨hb, rfl⟩
 rw [this] at hm; simpa using hm
theorem c107 (hm : m ≤ 1000) : cd (n + 1) (.fn 107) [sl1 m z full, .int .i64 q] H = some (.int .i64 (cond (inN z m q) ((fN (fun j => decide (z j = q)) m 0 : Nat) : Int) (-1)), H) := by
 have l := findX (n := n) (f := 107) (nt := 19) (c := part Try.f107 [1,0,1,0,0]) 0 (fun j => fr107 m z full q (j : Int)) (fun _ => lv0 :: H) m (fun j => decide (z j = q)) (fun j => ([(4, .int .i64 (j : Int))], lv0 :: H)) (fr107 m z full q (Int.ofNat m) ++ [(9, .bool false)], lv0 :: H) (by omega) (fun j hj => ?_) ?_
 · refine fn_all (n := n) Try.func107 rfl rfl rfl (u107 n H m z full q ((fN (fun j => decide (z j = q)) m 0 : Nat) : Int) (inN z m q)) (il_no0 n) (blkE_ok (noBT_ok _ _) b107 (fun x hx => ?_)) (noRT_ok _ _) ?_
   · refine Eq.trans l ?_
     rcases Tr.ite_some hx with ⟨hc, hx⟩ | ⟨hc, hx⟩
     · rw [← Tr.ok_some hx, show exN (fun j => decide (z j = q)) m = true from hc]; rfl
     · rw [← Tr.ok_some hx, show exN (fun j => decide (z j = q)) m = false from hc]; simp only [Res.st, hints_eq]; rfl
   · repeat' first | (refine Tr.all_ite (fun hc => ?_) (fun hc => ?_) <;> (try simp (disch := omega) only [nV, mulO_eq, Int.cast_ofNat_Int, eq_self] at hc) <;> (try (exfalso; omega))) | (refine Tr.all_req ?_ ?_; · ((try simp (disch := omega) only [nV, mulO_eq, Int.cast_ofNat_Int, eq_self]); try omega)) | (refine Tr.all_reqP ?_ ?_; · first | exact trivial | rfl | exact ⟨rfl, rfl⟩ | exact ⟨rfl, rfl, rfl⟩ | (simp (disch := omega) only [nV, mulO_eq, Int.cast_ofNat_Int, eq_self]; done) | ((try simp (disch := omega) only [nV, mulO_eq, Int.cast_ofNat_Int, eq_self]); omega)) | fail
     · refine Tr.all_ok ⟨?_, rfl⟩; rw [hc]; rfl
     · refine Tr.all_ok ⟨?_, rfl⟩; rw [hc]; rfl
 · have ej : addI .i64 (j : Int) (Int.ofNat 1) = ((j + 1 : Nat) : Int) := by rw [addI_eq, show Int.ofNat 1 = 1 from rfl]; exact wr_64 (by omega) (by omega)
   refine ex_all (t107 n H m z full q (j : Int)) (il_no0 n) (noBT_ok _ _) (noRT_ok _ _) ?_
   repeat' first | (refine Tr.all_ite (fun hc => ?_) (fun hc => ?_) <;> (try simp (disch := omega) only [nV, mulO_eq, Int.cast_ofNat_Int, eq_self, Nat.mul_one] at hc) <;> (try (exfalso; omega))) | (refine Tr.all_req ?_ ?_; · ((try simp (disch := omega) only [nV, mulO_eq, Int.cast_ofNat_Int, eq_self, Nat.mul_one]); try omega)) | (refine Tr.all_reqP ?_ ?_; · first | exact trivial | rfl | exact ⟨rfl, rfl⟩ | exact ⟨rfl, rfl, rfl⟩ | (simp (disch := omega) only [nV, mulO_eq, Int.cast_ofNat_Int, eq_self, Nat.mul_one]; done) | ((try simp (disch := omega) only [nV, mulO_eq, Int.cast_ofNat_Int, eq_self, Nat.mul_one]); omega)) | fail
   all_goals refine Tr.all_ok ?_
   · rw [if_pos (by simpa using hc.symm)]; rfl
   · rw [if_neg (by simpa using fun h => hc (Eq.symm h))]
     refine ⟨rfl, ?_⟩
     rw [ej]; rfl
 · obtain ⟨x, h1, rfl⟩ := ex_all (Q := fun x => x = (.exit 0, fr107 m z full q (Int.ofNat m) ++ [(9, .bool false)], lv0 :: H)) (t107 n H m z full q (Int.ofNat m)) (il_no0 n) (noBT_ok _ _) (noRT_ok _ _) (by
    repeat' first | (refine Tr.all_ite (fun hc => ?_) (fun hc => ?_) <;> (try simp (disch := omega) only [nV, mulO_eq, Int.cast_ofNat_Int, eq_self] at hc) <;> (try (exfalso; omega))) | (refine Tr.all_req ?_ ?_; · ((try simp (disch := omega) only [nV, mulO_eq, Int.cast_ofNat_Int, eq_self]); try omega)) | (refine Tr.all_reqP ?_ ?_; · first | exact trivial | rfl | exact ⟨rfl, rfl⟩ | exact ⟨rfl, rfl, rfl⟩ | (simp (disch := omega) only [nV, mulO_eq, Int.cast_ofNat_Int, eq_self]; done) | ((try simp (disch := omega) only [nV, mulO_eq, Int.cast_ofNat_Int, eq_self]); omega)) | fail
    exact Tr.all_ok rfl)
   exact h1
theorem c85 (hm : m ≤ 1000) : cd (n + 2) (.fn 85) [sl1 m z full, .int .i64 q] H = some (.bool (inN z m q), H) := by
 refine fn_all (n := n + 1) Try.func85 rfl rfl rfl (u85 n H .undef m z full q (cond (inN z m q) ((fN (fun j => decide (z j = q)) m 0 : Nat) : Int) (-1))) (il_ok _ (n + 1) 0 (fun k => ctE_ok (noCt_ok _) (fun x hx => ?_))) (noBT_ok _ _) (noRT_ok _ _) ?_
 · rw [← Tr.ok_some hx, show n + 1 + k = n + k + 1 by omega]
   exact c107 _ _ _ _ _ _ hm
 · refine Tr.all_reqP ⟨rfl, rfl⟩ (Tr.all_ok ⟨?_, rfl⟩)
   rw [leI_eq]
   cases inN z m q
   · rfl
   · simp
theorem c85s : cd (n + 2) (.fn 85) [slI p, .int .i64 q] H = some (.bool (decide (q = p)), H) := by
 refine fn_all (n := n + 1) Try.func85 rfl rfl rfl (u85s n H p q (if q = p then 0 else -1)) (il_ok _ (n + 1) 0 (fun k => ctE_ok (noCt_ok _) (fun x hx => ?_))) (noBT_ok _ _) (noRT_ok _ _) ?_
 · rw [← Tr.ok_some hx, show n + 1 + k = n + k + 1 by omega]
   refine fn_all (n := n + k) Try.func107 rfl rfl rfl (u107s (n + k) (lv0 :: H) p q) (il_no0 (n + k)) (noBT_ok _ _) (noRT_ok _ _) ?_
   repeat' first | (refine Tr.all_ite (fun hc => ?_) (fun hc => ?_) <;> (try simp (disch := omega) only [nV, mulO_eq, Int.cast_ofNat_Int, eq_self] at hc) <;> (try (exfalso; omega))) | (refine Tr.all_req ?_ ?_; · ((try simp (disch := omega) only [nV, mulO_eq, Int.cast_ofNat_Int, eq_self]); try omega)) | (refine Tr.all_reqP ?_ ?_; · first | exact trivial | rfl | exact ⟨rfl, rfl⟩ | exact ⟨rfl, rfl, rfl⟩ | (simp (disch := omega) only [nV, mulO_eq, Int.cast_ofNat_Int, eq_self]; done) | ((try simp (disch := omega) only [nV, mulO_eq, Int.cast_ofNat_Int, eq_self]); omega)) | fail
   · rw [if_pos hc]; exact Tr.all_ok ⟨rfl, rfl⟩
   · rw [if_neg hc]; exact Tr.all_ok ⟨rfl, rfl⟩
 · refine Tr.all_reqP ⟨rfl, rfl⟩ (Tr.all_ok ⟨?_, rfl⟩)
   rw [leI_eq]
   by_cases h : q = p <;> simp [h]
end
end Go.Eng
end
section
namespace Go.Eng
open Go.Proofs
set_option linter.unusedVariables false
set_option linter.unusedSimpArgs false
set_option maxRecDepth 100000
noncomputable def kdT (w : Int) (ls ld : Nat) (zs zd : Nat → Int) : Nat → Int := kdO w ls zs (szs zd ld) (ls + 2)
noncomputable def grT (w : Int) (ls ld : Nat) (zs zd : Nat → Int) (sure : Bool) (p : Int) : List Int := grpL (kdT w ls ld zs zd) sure ls p
noncomputable def inG (p : Int) (q : Int) : List Int → Bool
 | [] => decide (q = p)
 | y :: r => inN (srtF (lstO (p :: y :: r)) (r.length + 1)) (r.length + 2) q
noncomputable def sidP (w : Int) (ls ld : Nat) (zs zd : Nat → Int) (sure : Bool) (p q : Int) : AV :=
 if plE w ls ld zs zd p q ≠ 0 then .tup [.nils, .int .i64 (plE w ls ld zs zd p q)]
 else if inG p q (grT w ls ld zs zd sure p) = true then .tup [.nils, .int .i64 11]
 else .tup [grpV p (grT w ls ld zs zd sure p), .int .i64 0]
theorem grpL_len {kd : Nat → Int} {sure : Bool} {ls : Nat} {p : Int} (hp : -2 ≤ p ∧ p < ls) : (grpL kd sure ls p).length ≤ ls + 2 :=
 (grS_ok ls kd p sure (mk0 p) hp (grN kd sure ls p (mk0 p))).len
section
variable (n : Nat) (w : Int) (ls ld : Nat) (zs zd : Nat → Int) (H : Heap) (p q : Int) (sure : Bool)
theorem ct68s (k : Nat) (t : AV) (e : Int) (ht : t = plT w ls ld zs zd p q) (he : e = plE w ls ld zs zd p q) : (ctG noCt 68 (g68 (bathA w ls zs ld zd) p q t e)).Ok (cd (n + 14 + k)) := by
 subst ht; subst he
 refine ctG_ok (noCt_ok _) (fun args p v hg hp H => ?_)
 unfold g68 at hg
 split at hg
 · simp only [Option.some.injEq, Prod.mk.injEq] at hg
   obtain ⟨rfl, rfl⟩ := hg
   obtain ⟨rfl, rfl, rfl⟩ := hp
   rw [show n + 14 + k = n + k + 14 by omega]
   exact c68 _ w ls ld zs zd H _ _
 · cases hg
theorem ct88s (k : Nat) (hp : -2 ≤ p ∧ p < ls) (hls : ls ≤ 10) {c : Ctr} (hc : c.Ok (cd (n + 14 + k))) (l : AV) (hl : l = grpV p (grT w ls ld zs zd sure p)) : (ctG c 88 (g88 (tabV w ls ld zs zd (szs zd ld) (kdT w ls ld zs zd)) p sure l)).Ok (cd (n + 14 + k)) := by
 subst hl
 refine ctG_ok hc (fun args p' v hg hp' H => ?_)
 unfold g88 at hg
 split at hg
 · simp only [Option.some.injEq, Prod.mk.injEq] at hg
   obtain ⟨rfl, rfl⟩ := hg
   obtain ⟨rfl, rfl, rfl⟩ := hp'
   rw [show n + 14 + k = n + 8 + k + 6 by omega]
   exact c88 _ 0 w ls ld zs zd _ _ H _ _ hp hls
 · cases hg
theorem ct85s (k : Nat) (a : AV) (b : Bool) {c : Ctr} (hc : c.Ok (cd (n + 14 + k))) (h : ∀ H, cd (n + 14 + k) (.fn 85) [a, .int .i64 q] H = some (.bool b, H)) : (ctG c 85 (g85 a q b)).Ok (cd (n + 14 + k)) := by
 refine ctG_ok hc (fun args p' v hg hp' H => ?_)
 unfold g85 at hg
 split at hg
 · simp only [Option.some.injEq, Prod.mk.injEq] at hg
   obtain ⟨rfl, rfl⟩ := hg
   obtain ⟨rfl, rfl⟩ := hp'
   exact h H
 · cases hg
theorem c34 : cd (n + 15) (.fn 34) [bathA w ls zs ld zd, .int .i64 p, .int .i64 q, .bool sure] H = some (sidP w ls ld zs zd sure p q, H) := by
 by_cases h1 : plE w ls ld zs zd p q = 0
 · obtain ⟨a1, a2, a3, a4⟩ := plE_zero h1
   simp only [isPl, Bool.and_eq_true, decide_eq_true_eq] at a2 a3
   have hc := chk_drops a1
   have hpT : tabV w ls ld zs zd (szs zd ld) (kdT w ls ld zs zd) = plT w ls ld zs zd p q := by unfold plT kdT; rw [if_neg (fun h => h h1)]
   have hlen : (grT w ls ld zs zd sure p).length ≤ ls + 2 := grpL_len (by omega)
   unfold sidP
   rw [if_neg (fun h => h h1)]
   have hl : grpV p (grT w ls ld zs zd sure p) = grpV p (grT w ls ld zs zd sure p) := rfl
   generalize hL : grT w ls ld zs zd sure p = L at *
   cases L with
   | nil =>
     refine fn_all (n := n + 14) Try.func34 rfl rfl rfl (u34a n w ls ld zs zd (szs zd ld) (kdT w ls ld zs zd) H p q sure (decide (q = p))) (il_ok _ (n + 14) 0 (fun k => ct85s n q k _ _ (ct88s n w ls ld zs zd p sure k (by omega) (by omega) (ct68s n w ls ld zs zd p q k _ 0 hpT h1.symm) _ (by rw [hL]; rfl)) (fun H => by rw [show n + 14 + k = n + 12 + k + 2 by omega]; exact c85s _ H p q))) (noBT_ok _ _) (noRT_ok _ _) ?_
     repeat' first | (refine Tr.all_ite (fun hc => ?_) (fun hc => ?_) <;> (try simp (disch := omega) only [nV, mulO_eq, Int.cast_ofNat_Int, eq_self] at hc) <;> (try (exfalso; omega))) | (refine Tr.all_req ?_ ?_; · ((try simp (disch := omega) only [nV, mulO_eq, Int.cast_ofNat_Int, eq_self]); try omega)) | (refine Tr.all_reqP ?_ ?_; · first | exact trivial | rfl | exact ⟨rfl, rfl⟩ | exact ⟨rfl, rfl, rfl⟩ | (simp (disch := omega) only [nV, mulO_eq, Int.cast_ofNat_Int, eq_self]; done) | ((try simp (disch := omega) only [nV, mulO_eq, Int.cast_ofNat_Int, eq_self]); omega)) | fail
     all_goals refine Tr.all_ok ⟨?_, rfl⟩
     · rw [show inG p q [] = true from hc]; rfl
     · rw [show inG p q [] = false from hc]; rfl
   | cons y r =>
     have hlen' : r.length + 1 ≤ ls + 2 := by simpa using hlen
     refine fn_all (n := n + 14) Try.func34 rfl rfl rfl (u34b n w ls ld (r.length + 2) zs zd (szs zd ld) (kdT w ls ld zs zd) (srtF (lstO (p :: y :: r)) (r.length + 1)) H p q sure (inG p q (y :: r))) (il_ok _ (n + 14) 0 (fun k => ct85s n q k _ _ (ct88s n w ls ld zs zd p sure k (by omega) (by omega) (ct68s n w ls ld zs zd p q k _ 0 hpT h1.symm) _ (by rw [hL]; rfl)) (fun H => by rw [show n + 14 + k = n + 12 + k + 2 by omega]; exact c85 _ H _ _ _ q (by omega)))) (noBT_ok _ _) (noRT_ok _ _) ?_
     repeat' first | (refine Tr.all_ite (fun hc => ?_) (fun hc => ?_) <;> (try simp (disch := omega) only [nV, mulO_eq, Int.cast_ofNat_Int, eq_self] at hc) <;> (try (exfalso; omega))) | (refine Tr.all_req ?_ ?_; · ((try simp (disch := omega) only [nV, mulO_eq, Int.cast_ofNat_Int, eq_self]); try omega)) | (refine Tr.all_reqP ?_ ?_; · first | exact trivial | rfl | exact ⟨rfl, rfl⟩ | exact ⟨rfl, rfl, rfl⟩ | (simp (disch := omega) only [nV, mulO_eq, Int.cast_ofNat_Int, eq_self]; done) | ((try simp (disch := omega) only [nV, mulO_eq, Int.cast_ofNat_Int, eq_self]); omega)) | fail
     all_goals refine Tr.all_ok ⟨?_, rfl⟩
     · rw [hc]; rfl
     · rw [hc]; rfl
 · refine fn_all (n := n + 14) Try.func34 rfl rfl rfl (u34x n w ls ld zs zd H p q (plE w ls ld zs zd p q) sure) (il_ok _ (n + 14) 0 (fun k => ctG_ok (ct68s n w ls ld zs zd p q k _ _ (by unfold plT; rw [if_pos h1]) rfl) (fun args p v hg hp H => by cases hg))) (noBT_ok _ _) (noRT_ok _ _) ?_
   unfold sidP
   rw [if_pos h1]
   repeat' first | (refine Tr.all_ite (fun hc => ?_) (fun hc => ?_) <;> (try simp (disch := omega) only [nV, mulO_eq, Int.cast_ofNat_Int, eq_self] at hc) <;> (try (exfalso; omega))) | (refine Tr.all_req ?_ ?_; · ((try simp (disch := omega) only [nV, mulO_eq, Int.cast_ofNat_Int, eq_self]); try omega)) | (refine Tr.all_reqP ?_ ?_; · first | exact trivial | rfl | exact ⟨rfl, rfl⟩ | exact ⟨rfl, rfl, rfl⟩ | (simp (disch := omega) only [nV, mulO_eq, Int.cast_ofNat_Int, eq_self]; done) | ((try simp (disch := omega) only [nV, mulO_eq, Int.cast_ofNat_Int, eq_self]); omega)) | fail
   exact Tr.all_ok ⟨rfl, rfl⟩
end
end Go.Eng
end
