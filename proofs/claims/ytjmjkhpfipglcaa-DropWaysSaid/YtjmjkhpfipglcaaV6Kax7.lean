/- Drop: steps, as they are defined. -/
import Derived.Test.YtjmjkhpfipglcaaV6DrUx2
import Derived.Test.YtjmjkhpfipglcaaV6DrAx4
section
namespace Go.Eng
open Go.Proofs
set_option linter.unusedVariables false
set_option linter.unusedSimpArgs false
set_option maxRecDepth 100000
def g71r (B : AV) (side : Int → Int → Prop) (kr : Int → Int → Int) : List AV → Option (Prop × AV)
 | [b, .int .i64 p, .int .i64 q] => some (b = B ∧ side p q, .int .i64 (kr p q))
 | _ => none
def g82 (B : AV) (sure : Bool) (side : Int → Int → Prop) (hl : Int → Int → Bool) : List AV → Option (Prop × AV)
 | [b, .int .i64 p, .int .i64 q, .bool s] => some (b = B ∧ side p q ∧ s = sure, .bool (hl p q))
 | _ => none
noncomputable def lv81 (w : Int) (ls ld : Nat) (zs zd : Nat → Int) (z : Nat → Int) (N : Nat) : Lvl := ⟨false, [(0, .row (.G [.int .i64 w, slA 2 ls zs, slA 3 ld zd])), (0, .row (.M [.arr .i64 z N]))]⟩
noncomputable def fr81 (sure : Bool) (N : Nat) (s : Int) : Frm := [(2, .bool sure), (3, .ptr 0 0 0 0), (7, .int .i64 (Int.ofNat N)), (8, .slc 0 1 0 0 1 N (some N)), (9, .int .i64 s)]
noncomputable def fr81i (sure : Bool) (N : Nat) (s i : Int) : Frm := [(2, .bool sure), (3, .ptr 0 0 0 0), (7, .int .i64 (Int.ofNat N)), (8, .slc 0 1 0 0 1 N (some N)), (9, .int .i64 s), (10, .int .i64 i)]
noncomputable def fr81k (sure : Bool) (N : Nat) (s i k : Int) : Frm := [(2, .bool sure), (3, .ptr 0 0 0 0), (7, .int .i64 (Int.ofNat N)), (8, .slc 0 1 0 0 1 N (some N)), (9, .int .i64 s), (10, .int .i64 i), (11, .int .i64 k)]
theorem u82 (n : Nat) (w : Int) (ls ld : Nat) (zs zd : Nat → Int) (H : Heap) (p q : Int) (sure : Bool) (side : Int → Int → Prop) (kr : Int → Int → Int) : bodyT Try.prog (cd (n+5)) 100000 82 Try.f82 (Kt.kt 82) (il (ctG noCt 71 (g71r (bathA w ls zs ld zd) side kr)) (n+5) 0) noBT noRT [(bathA w ls zs ld zd, none), (.int .i64 p, none), (.int .i64 q, none), (.bool sure, none)] H =
 Tr.reqP (bathA w ls zs ld zd = bathA w ls zs ld zd ∧ side p q) (Tr.ite (eqI (kr p q) (Int.ofNat 2)) (Tr.ok ((AV.bool true, some 1), H)) (Tr.ite (notB sure) (Tr.reqP (bathA w ls zs ld zd = bathA w ls zs ld zd ∧ side p q) (Tr.ok ((AV.bool (eqI (kr p q) (Int.ofNat 1)), none), H))) (Tr.ok ((AV.bool false, some 1), H)))) := by kernel_rfl
theorem t81k (n : Nat) (w : Int) (ls ld N : Nat) (zs zd z : Nat → Int) (H : Heap) (sure : Bool) (s i k : Int) (side : Int → Int → Prop) (hl : Int → Int → Bool) : execT (cxD (n+6) 81 70) (il (ctG noCt 82 (g82 (bathA w ls zs ld zd) sure side hl)) (n+6) 0) noBT noRT (part Try.f81 [1,1,1,1,0,1,0,0,1,0,0,1,0,0,1,0,0,1,0,0]) (hints (fr81k sure N s i k)) (lv81 w ls ld zs zd z N :: H) =
 (fun (Z0 : HFrm) => ((fun (Z1 : Lvl) => Tr.ite (ltI k (Int.ofNat N)) (Tr.req (inI i N) (Tr.req (eqN 0 0) (Tr.req (ltN (idO 0 i 1) N) (Tr.ite (eqI (z (idO 0 i 1)) (Int.ofNat 0)) (Tr.req (inI k N) (Tr.req (eqN 0 0) (Tr.req (ltN (idO 0 k 1) N) (Tr.ite (eqI (z (idO 0 k 1)) s) (Tr.ite (notB (eqI i k)) (Tr.reqP (bathA w ls zs ld zd = bathA w ls zs ld zd ∧ side (subI .i64 i (Int.ofNat 2)) (subI .i64 k (Int.ofNat 2)) ∧ sure = sure) (Tr.ite (hl (subI .i64 i (Int.ofNat 2)) (subI .i64 k (Int.ofNat 2))) (Tr.req (inI i N) (Tr.req (eqN 0 0) (Tr.req (ltN (idO 0 i 1) N) (Tr.ok (Ex.normal, Z0, { lock := false, bs := [(0, Blk.row (Row.G [AV.int .i64 w, slA 2 ls zs, slA 3 ld zd])), (0, Blk.row (Row.M [Seg.arr .i64 (updO z (idO 0 i 1) (addI .i64 s (Int.ofNat 1))) N]))] } :: H))))) (Tr.ok (Ex.normal, Z0, Z1 :: H)))) (Tr.ok (Ex.normal, Z0, Z1 :: H))) (Tr.ok (Ex.normal, Z0, Z1 :: H)))))) (Tr.ok (Ex.normal, Z0, Z1 :: H)))))) (Tr.ok (Ex.exit 4, [(2, AV.bool sure, none), (3, AV.ptr 0 0 0 0, none), (7, AV.int .i64 (Int.ofNat N), none), (8, AV.slc 0 1 0 0 1 N (some N), none), (9, AV.int .i64 s, none), (10, AV.int .i64 i, none), (11, AV.int .i64 k, none), (34, AV.bool false, some 1)], Z1 :: H))) { lock := false, bs := [(0, Blk.row (Row.G [AV.int .i64 w, slA 2 ls zs, slA 3 ld zd])), (0, Blk.row (Row.M [Seg.arr .i64 z N]))] })) [(2, AV.bool sure, none), (3, AV.ptr 0 0 0 0, none), (7, AV.int .i64 (Int.ofNat N), none), (8, AV.slc 0 1 0 0 1 N (some N), none), (9, AV.int .i64 s, none), (10, AV.int .i64 i, none), (11, AV.int .i64 (addI .i64 k (Int.ofNat 1)), none)] := by kernel_rfl
theorem t81i (n : Nat) (w : Int) (ls ld N : Nat) (zs zd z z2 : Nat → Int) (H : Heap) (sure : Bool) (s i : Int) : execT (cxD (n+6) 81 70) (il noCt (n+6) 0) (blkE noBT 4 (fr81k sure N s i 0) (lv81 w ls ld zs zd z N :: H) (.ok (.normal, hints (fr81k sure N s i (Int.ofNat N) ++ [(34, .bool false)]), lv81 w ls ld zs zd z2 N :: H))) noRT (part Try.f81 [1,1,1,1,0,1,0,0,1,0,0,1,0,0]) (hints (fr81i sure N s i)) (lv81 w ls ld zs zd z N :: H) =
 (fun (Z0 : Lvl) => ((fun (Z1 : Frm) => Tr.ite (ltI i (Int.ofNat N)) (Tr.reqP (Z1 = Z1 ∧ Z0 :: H = Z0 :: H) (Tr.ok (Ex.normal, [(2, AV.bool sure, none), (3, AV.ptr 0 0 0 0, none), (7, AV.int .i64 (Int.ofNat N), none), (8, AV.slc 0 1 0 0 1 N (some N), none), (9, AV.int .i64 s, none), (10, AV.int .i64 (addI .i64 i (Int.ofNat 1)), none)], { lock := false, bs := [(0, Blk.row (Row.G [AV.int .i64 w, slA 2 ls zs, slA 3 ld zd])), (0, Blk.row (Row.M [Seg.arr .i64 z2 N]))] } :: H))) (Tr.ok (Ex.exit 2, [(2, AV.bool sure, none), (3, AV.ptr 0 0 0 0, none), (7, AV.int .i64 (Int.ofNat N), none), (8, AV.slc 0 1 0 0 1 N (some N), none), (9, AV.int .i64 s, none), (10, AV.int .i64 i, none), (29, AV.bool false, some 1)], Z0 :: H))) [(2, AV.bool sure), (3, AV.ptr 0 0 0 0), (7, AV.int .i64 (Int.ofNat N)), (8, AV.slc 0 1 0 0 1 N (some N)), (9, AV.int .i64 s), (10, AV.int .i64 i), (11, AV.int .i64 (Int.ofNat 0))])) { lock := false, bs := [(0, Blk.row (Row.G [AV.int .i64 w, slA 2 ls zs, slA 3 ld zd])), (0, Blk.row (Row.M [Seg.arr .i64 z N]))] } := by kernel_rfl
theorem t81s (n : Nat) (w : Int) (ls ld N : Nat) (zs zd z z2 : Nat → Int) (H : Heap) (sure : Bool) (s : Int) : execT (cxD (n+6) 81 70) (il noCt (n+6) 0) (blkE noBT 2 (fr81i sure N s 0) (lv81 w ls ld zs zd z N :: H) (.ok (.normal, hints (fr81i sure N s (Int.ofNat N) ++ [(29, .bool false)]), lv81 w ls ld zs zd z2 N :: H))) noRT (part Try.f81 [1,1,1,1,0,1,0,0]) (hints (fr81 sure N s)) (lv81 w ls ld zs zd z N :: H) =
 (fun (Z0 : Lvl) => ((fun (Z1 : Frm) => Tr.ite (ltI s (Int.ofNat N)) (Tr.reqP (Z1 = Z1 ∧ Z0 :: H = Z0 :: H) (Tr.ok (Ex.normal, [(2, AV.bool sure, none), (3, AV.ptr 0 0 0 0, none), (7, AV.int .i64 (Int.ofNat N), none), (8, AV.slc 0 1 0 0 1 N (some N), none), (9, AV.int .i64 (addI .i64 s (Int.ofNat 1)), none)], { lock := false, bs := [(0, Blk.row (Row.G [AV.int .i64 w, slA 2 ls zs, slA 3 ld zd])), (0, Blk.row (Row.M [Seg.arr .i64 z2 N]))] } :: H))) (Tr.ok (Ex.exit 0, [(2, AV.bool sure, none), (3, AV.ptr 0 0 0 0, none), (7, AV.int .i64 (Int.ofNat N), none), (8, AV.slc 0 1 0 0 1 N (some N), none), (9, AV.int .i64 s, none), (24, AV.bool false, some 1)], Z0 :: H))) [(2, AV.bool sure), (3, AV.ptr 0 0 0 0), (7, AV.int .i64 (Int.ofNat N)), (8, AV.slc 0 1 0 0 1 N (some N)), (9, AV.int .i64 s), (10, AV.int .i64 (Int.ofNat 0))])) { lock := false, bs := [(0, Blk.row (Row.G [AV.int .i64 w, slA 2 ls zs, slA 3 ld zd])), (0, Blk.row (Row.M [Seg.arr .i64 z N]))] } := by kernel_rfl
theorem t81ie (n : Nat) (w : Int) (ls ld N : Nat) (zs zd z : Nat → Int) (H : Heap) (sure : Bool) (s i : Int) : execT (cxD (n+6) 81 70) (il noCt (n+6) 0) (stopB noBT 4) noRT (part Try.f81 [1,1,1,1,0,1,0,0,1,0,0,1,0,0]) (hints (fr81i sure N s i)) (lv81 w ls ld zs zd z N :: H) =
 Tr.ite (ltI i (Int.ofNat N)) Tr.bad (Tr.ok (Ex.exit 2, [(2, AV.bool sure, none), (3, AV.ptr 0 0 0 0, none), (7, AV.int .i64 (Int.ofNat N), none), (8, AV.slc 0 1 0 0 1 N (some N), none), (9, AV.int .i64 s, none), (10, AV.int .i64 i, none), (29, AV.bool false, some 1)], { lock := false, bs := [(0, Blk.row (Row.G [AV.int .i64 w, slA 2 ls zs, slA 3 ld zd])), (0, Blk.row (Row.M [Seg.arr .i64 z N]))] } :: H)) := by kernel_rfl
theorem t81se (n : Nat) (w : Int) (ls ld N : Nat) (zs zd z : Nat → Int) (H : Heap) (sure : Bool) (s : Int) : execT (cxD (n+6) 81 70) (il noCt (n+6) 0) (stopB noBT 2) noRT (part Try.f81 [1,1,1,1,0,1,0,0]) (hints (fr81 sure N s)) (lv81 w ls ld zs zd z N :: H) =
 Tr.ite (ltI s (Int.ofNat N)) Tr.bad (Tr.ok (Ex.exit 0, [(2, AV.bool sure, none), (3, AV.ptr 0 0 0 0, none), (7, AV.int .i64 (Int.ofNat N), none), (8, AV.slc 0 1 0 0 1 N (some N), none), (9, AV.int .i64 s, none), (24, AV.bool false, some 1)], { lock := false, bs := [(0, Blk.row (Row.G [AV.int .i64 w, slA 2 ls zs, slA 3 ld zd])), (0, Blk.row (Row.M [Seg.arr .i64 z N]))] } :: H)) := by kernel_rfl
theorem u81 (n : Nat) (w : Int) (ls ld N : Nat) (zs zd z0 z2 : Nat → Int) (H : Heap) (to s2 : Int) (sure : Bool) : bodyT Try.prog (cd (n+6)) 100000 81 Try.f81 (Kt.kt 81) (il noCt (n+6) 0) (blkE noBT 0 (fr81 sure N 1) (lv81 w ls ld zs zd z0 N :: H) (.ok (.normal, hints (fr81 sure N s2 ++ [(24, .bool false)]), lv81 w ls ld zs zd z2 N :: H))) noRT [(bathA w ls zs ld zd, none), (.int .i64 to, none), (.bool sure, none)] H =
 Tr.req (mkO (addI .i64 (Int.ofNat ls) (Int.ofNat 2)) (addI .i64 (Int.ofNat ls) (Int.ofNat 2)) 8) (Tr.req (inI (addI .i64 to (Int.ofNat 2)) (toN (addI .i64 (Int.ofNat ls) (Int.ofNat 2)))) (Tr.req (eqN 0 0) (Tr.req (ltN (idO 0 (addI .i64 to (Int.ofNat 2)) 1) (toN (addI .i64 (Int.ofNat ls) (Int.ofNat 2)))) (Tr.reqP ([(2, AV.bool sure), (3, AV.ptr 0 0 0 0), (7, AV.int .i64 (addI .i64 (Int.ofNat ls) (Int.ofNat 2))), (8, AV.slc 0 1 0 0 1 (toN (addI .i64 (Int.ofNat ls) (Int.ofNat 2))) (some (toN (addI .i64 (Int.ofNat ls) (Int.ofNat 2))))), (9, AV.int .i64 (Int.ofNat 1))] = [(2, AV.bool sure), (3, AV.ptr 0 0 0 0), (7, AV.int .i64 (Int.ofNat N)), (8, AV.slc 0 1 0 0 1 N (some N)), (9, AV.int .i64 (Int.ofNat 1))] ∧ { lock := false, bs := [(0, Blk.row (Row.G [AV.int .i64 w, slA 2 ls zs, slA 3 ld zd])), (0, Blk.row (Row.M [Seg.arr .i64 (updO (fun x => Int.ofNat 0) (idO 0 (addI .i64 to (Int.ofNat 2)) 1) (Int.ofNat 1)) (toN (addI .i64 (Int.ofNat ls) (Int.ofNat 2)))]))] } :: H = { lock := false, bs := [(0, Blk.row (Row.G [AV.int .i64 w, slA 2 ls zs, slA 3 ld zd])), (0, Blk.row (Row.M [Seg.arr .i64 z0 N]))] } :: H) (Tr.req (eqN 0 0) (Tr.req (inO 0 N 0 N) (Tr.ok ((AV.slcT none (Row.M [Seg.arr .i64 (shO z2 0) N]) 1 N (eqN N N), none), H)))))))) := by kernel_rfl
def hlF (w : Int) (ld : Nat) (zs zd : Nat → Int) (sure : Bool) (p q : Int) : Bool := decide ((if sure then 2 else 1) ≤ kndR w ld zs zd p q)
section
variable (n : Nat) (w : Int) (ls ld : Nat) (zs zd : Nat → Int) (H : Heap) (sure : Bool)
theorem c82 (p q : Int) (hK : KndB ls ld zs zd p q) : cd (n + 6) (.fn 82) [bathA w ls zs ld zd, .int .i64 p, .int .i64 q, .bool sure] H = some (.bool (hlF w ld zs zd sure p q), H) := by
 refine fn_all (n := n + 5) Try.func82 rfl rfl rfl (u82 n w ls ld zs zd H p q sure (KndB ls ld zs zd) (kndR w ld zs zd)) (il_ok _ (n + 5) 0 (fun k => ctG_ok (noCt_ok _) (fun args p v hg hp H => ?_))) (noBT_ok _ _) (noRT_ok _ _) ?_
 · unfold g71r at hg
   split at hg
   · simp only [Option.some.injEq, Prod.mk.injEq] at hg
     obtain ⟨rfl, rfl⟩ := hg
     obtain ⟨rfl, hp⟩ := hp
     rw [show n + 5 + k = n + k + 5 by omega]
     exact c71 _ w ls ld zs zd H _ _ hp
   · cases hg
 · have h1 : 0 ≤ kndR w ld zs zd p q ∧ kndR w ld zs zd p q ≤ 2 := by
    unfold kndR; split
    · omega
    · split <;> omega
   unfold hlF
   repeat' first | (refine Tr.all_ite (fun hc => ?_) (fun hc => ?_) <;> (try simp (disch := omega) only [nV, mulO_eq, Int.cast_ofNat_Int, eq_self, hK, and_true] at hc) <;> (try (exfalso; omega))) | (refine Tr.all_req ?_ ?_; · ((try simp (disch := omega) only [nV, mulO_eq, Int.cast_ofNat_Int, eq_self, hK, and_true]); try omega)) | (refine Tr.all_reqP ?_ ?_; · first | exact trivial | rfl | exact ⟨rfl, rfl⟩ | exact ⟨rfl, rfl, rfl⟩ | (simp (disch := omega) only [nV, mulO_eq, Int.cast_ofNat_Int, eq_self, hK, and_true]; done) | ((try simp (disch := omega) only [nV, mulO_eq, Int.cast_ofNat_Int, eq_self, hK, and_true]); omega)) | fail
   all_goals refine Tr.all_ok ⟨?_, rfl⟩
   all_goals (cases sure <;> simp_all [eqI_dec] <;> omega)
def hitK (z : Nat → Int) (s : Int) (hl : Int → Int → Bool) (i k : Nat) : Bool := decide (k ≠ i) && (decide (z k = s) && hl ((i : Int) - 2) ((k : Int) - 2))
def stpI (z : Nat → Int) (s : Int) (hl : Int → Int → Bool) (N i : Nat) : Int := if z i = 0 ∧ exN (hitK z s hl i) N = true then s + 1 else z i
def stpS (z : Nat → Int) (s : Int) (hl : Int → Int → Bool) (N i : Nat) : Int := if i < N then stpI z s hl N i else z i
theorem il82 (h : chkB w ls ld zs zd = 0) : (il (ctG noCt 82 (g82 (bathA w ls zs ld zd) sure (fun p q => isPl ls p = true ∧ isPl ls q = true) (hlF w ld zs zd sure))) (n+6) 0).Ok (cd (n + 6)) := by
 refine il_ok _ (n + 6) 0 (fun k => ctG_ok (noCt_ok _) (fun args p v hg hp H => ?_))
 unfold g82 at hg
 split at hg
 · simp only [Option.some.injEq, Prod.mk.injEq] at hg
   obtain ⟨rfl, rfl⟩ := hg
   obtain ⟨rfl, hp, rfl⟩ := hp
   rw [show n + 6 + k = n + k + 6 by omega]
   exact c82 _ w ls ld zs zd H _ _ _ (knd_ok h hp.1 hp.2)
 · cases hg
theorem l81k (h : chkB w ls ld zs zd = 0) (z : Nat → Int) (s i : Nat) (hs : s ≤ 100) (hi : i < ls + 2) : exec (cxD (n + 6) 81 70) (.block 4 (.loop (part Try.f81 [1,1,1,1,0,1,0,0,1,0,0,1,0,0,1,0,0,1,0,0]))) (fr81k sure (ls + 2) s i 0) (lv81 w ls ld zs zd z (ls + 2) :: H) =
 some (.normal, fr81k sure (ls + 2) s i (Int.ofNat (ls + 2)) ++ [(34, .bool false)], lv81 w ls ld zs zd (updO z i (stpI z s (hlF w ld zs zd sure) (ls + 2) i)) (ls + 2) :: H) := by
 have c := chk_ok h
 have key : ∀ k, k ≤ ls + 2 → ∀ z' : Nat → Int, z' = updO z i (stpI z s (hlF w ld zs zd sure) k i) → z' i = stpI z s (hlF w ld zs zd sure) k i ∧ ∀ x, x ≠ i → z' x = z x := fun k hk z' e => by
  rw [e, updO_fn]
  exact ⟨by simp, fun x hx => by simp [hx]⟩
 have e0 : updO z i (stpI z s (hlF w ld zs zd sure) 0 i) = z := by
  rw [updO_fn]; funext x
  have : stpI z s (hlF w ld zs zd sure) 0 i = z i := by
   unfold stpI; rw [if_neg]; rintro ⟨_, h⟩
   obtain ⟨j, hj, _⟩ := (exN_iff _ _).1 h; omega
  rw [this]
  by_cases e : x = i
  · subst e; simp
  · simp [e]
 have := forT (n := n + 6) (f := 81) (nt := 70) (c := part Try.f81 [1,1,1,1,0,1,0,0,1,0,0,1,0,0,1,0,0,1,0,0]) (il82 n w ls ld zs zd sure h) (noBT_ok _ _) (noRT_ok _ _) 4 (fun k => fr81k sure (ls + 2) s i (k : Int)) (fun k => lv81 w ls ld zs zd (updO z i (stpI z s (hlF w ld zs zd sure) k i)) (ls + 2) :: H) (ls + 2) (fr81k sure (ls + 2) s i (Int.ofNat (ls + 2)) ++ [(34, .bool false)], lv81 w ls ld zs zd (updO z i (stpI z s (hlF w ld zs zd sure) (ls + 2) i)) (ls + 2) :: H) (by omega) (fun k hk => ?_) ?_
 · rw [e0] at this; exact this
 · obtain ⟨k1, k2⟩ := key k (by omega) _ rfl
   have ej : addI .i64 (k : Int) (Int.ofNat 1) = ((k + 1 : Nat) : Int) := by rw [addI_eq, show Int.ofNat 1 = 1 from rfl]; exact wr_64 (by omega) (by omega)
   have fin : updO z i (stpI z s (hlF w ld zs zd sure) (k + 1) i) = if stpI z s (hlF w ld zs zd sure) k i = 0 ∧ hitK z s (hlF w ld zs zd sure) i k = true then updO (updO z i (stpI z s (hlF w ld zs zd sure) k i)) i (s + 1) else updO z i (stpI z s (hlF w ld zs zd sure) k i) := by
    have es : exN (hitK z s (hlF w ld zs zd sure) i) (k + 1) = (exN (hitK z s (hlF w ld zs zd sure) i) k || hitK z s (hlF w ld zs zd sure) i k) := by
     rw [Bool.eq_iff_iff, Bool.or_eq_true, exN_iff, exN_iff]
     constructor
     · rintro ⟨j, h1, h2⟩
       by_cases e : j = k
       · subst e; exact .inr h2
       · exact .inl ⟨j, by omega, h2⟩
     · rintro (⟨j, h1, h2⟩ | h)
       · exact ⟨j, by omega, h2⟩
       · exact ⟨k, by omega, h⟩
    have uu : ∀ (a b : Int), updO (updO z i a) i b = updO z i b := fun a b => by
     simp only [updO_fn]; funext x
     by_cases e : x = i
     · subst e; simp
     · simp [e]
    rw [uu]
    unfold stpI
    rw [es]
    by_cases g1 : z i = 0 <;> cases g2 : exN (hitK z s (hlF w ld zs zd sure) i) k <;> cases g3 : hitK z s (hlF w ld zs zd sure) i k <;> simp [g1]
    all_goals (intro h; exfalso; omega)
   generalize hz : updO z i (stpI z s (hlF w ld zs zd sure) k i) = z' at *
   rw [t81k]
   have q1 : subI .i64 (i : Int) (Int.ofNat 2) = (i : Int) - 2 := by rw [subI_eq, show Int.ofNat 2 = 2 from rfl]; exact wr_64 (by omega) (by omega)
   have q2 : subI .i64 (k : Int) (Int.ofNat 2) = (k : Int) - 2 := by rw [subI_eq, show Int.ofNat 2 = 2 from rfl]; exact wr_64 (by omega) (by omega)
   have q3 : isPl ls ((i : Int) - 2) = true := by simp [isPl]; omega
   have q4 : isPl ls ((k : Int) - 2) = true := by simp [isPl]; omega
   rw [q1, q2]
   have hk' : k ≠ i → z' k = z k := fun x => k2 k x
   have hh : (stpI z s (hlF w ld zs zd sure) k i = 0 ∧ hitK z s (hlF w ld zs zd sure) i k = true) ↔ (z' i = 0 ∧ k ≠ i ∧ z k = s ∧ hlF w ld zs zd sure ((i : Int) - 2) ((k : Int) - 2) = true) := by
    rw [k1]; simp [hitK]
   repeat' first | (refine Tr.all_ite (fun hc => ?_) (fun hc => ?_) <;> (try simp (disch := omega) only [nV, mulO_eq, Int.cast_ofNat_Int, eq_self, q3, q4, and_true, Nat.mul_one] at hc) <;> (try (exfalso; omega))) | (refine Tr.all_req ?_ ?_; · ((try simp (disch := omega) only [nV, mulO_eq, Int.cast_ofNat_Int, eq_self, q3, q4, and_true, Nat.mul_one]); try omega)) | (refine Tr.all_reqP ?_ ?_; · first | exact trivial | rfl | exact ⟨rfl, rfl⟩ | exact ⟨rfl, rfl, rfl⟩ | (simp (disch := omega) only [nV, mulO_eq, Int.cast_ofNat_Int, eq_self, q3, q4, and_true, Nat.mul_one]; done) | ((try simp (disch := omega) only [nV, mulO_eq, Int.cast_ofNat_Int, eq_self, q3, q4, and_true, Nat.mul_one]); omega)) | fail
   all_goals
    refine Tr.all_ok ⟨rfl, ?_⟩
    rw [ej, fin]
   · rw [if_pos (hh.2 ⟨by assumption, by omega, (by rw [← hk' (by omega)]; assumption), by assumption⟩)]
     simp (disch := omega) only [nV, mulO_eq, Int.cast_ofNat_Int, eq_self, Nat.mul_one, Nat.zero_add, Int.toNat_natCast, ofNat_cast]
     rfl
   all_goals
    rw [if_neg (fun x => by
     obtain ⟨x1, x2, x3, x4⟩ := hh.1 x
     rw [← hk' x2] at x3
     first | omega | simp_all)]
    rfl
 · rw [t81k]
   repeat' first | (refine Tr.all_ite (fun hc => ?_) (fun hc => ?_) <;> (try simp (disch := omega) only [nV, mulO_eq, Int.cast_ofNat_Int, eq_self] at hc) <;> (try (exfalso; omega))) | (refine Tr.all_req ?_ ?_; · ((try simp (disch := omega) only [nV, mulO_eq, Int.cast_ofNat_Int, eq_self]); try omega)) | (refine Tr.all_reqP ?_ ?_; · first | exact trivial | rfl | exact ⟨rfl, rfl⟩ | exact ⟨rfl, rfl, rfl⟩ | (simp (disch := omega) only [nV, mulO_eq, Int.cast_ofNat_Int, eq_self]; done) | ((try simp (disch := omega) only [nV, mulO_eq, Int.cast_ofNat_Int, eq_self]); omega)) | fail
   exact Tr.all_ok ⟨rfl, rfl, rfl⟩
def zI (z : Nat → Int) (s : Int) (hl : Int → Int → Bool) (N i x : Nat) : Int := if x < i then stpI z s hl N x else z x
theorem hit_same {z : Nat → Int} {s : Int} (hs : 1 ≤ s) {hl : Int → Int → Bool} {N i x k : Nat} : hitK (zI z s hl N i) s hl x k = hitK z s hl x k := by
 have : (zI z s hl N i k = s) = (z k = s) := by
  unfold zI stpI
  by_cases h1 : k < i
  · rw [if_pos h1]
    by_cases h2 : z k = 0 ∧ exN (hitK z s hl k) N = true
    · rw [if_pos h2, eq_iff_iff]; omega
    · rw [if_neg h2]
  · rw [if_neg h1]
 unfold hitK
 simp only [this]
theorem zI_step {z : Nat → Int} {s : Int} (hs : 1 ≤ s) {hl : Int → Int → Bool} {N i : Nat} : updO (zI z s hl N i) i (stpI (zI z s hl N i) s hl N i) = zI z s hl N (i + 1) := by
 have e1 : zI z s hl N i i = z i := by unfold zI; rw [if_neg (by omega)]
 have e2 : stpI (zI z s hl N i) s hl N i = stpI z s hl N i := by
  unfold stpI
  rw [e1, exN_congr (fun k hk => hit_same hs)]
 rw [e2, updO_fn]; funext x
 unfold zI
 by_cases h : x = i
 · subst h; simp
 · by_cases h2 : x < i
   · simp [h, h2, show x < i + 1 by omega]
   · simp [h, h2, show ¬ x < i + 1 by omega]
theorem forX {n f nt : Nat} {c : Code} (id : Nat) (F : Nat → Frm) (G : Nat → Heap) (N : Nat) (Y : Frm × Heap) (hN : N < 99999)
 (hs : ∀ j, j < N → ∃ x, exec (cxD n f nt) c (F j) (G j) = some x ∧ (x.1 = .normal ∧ tidy (hNext (G 0)) x.2.1 x.2.2 = (F (j + 1), G (j + 1))))
 (he : exec (cxD n f nt) c (F N) (G N) = some (.exit id, Y)) : exec (cxD n f nt) (.block id (.loop c)) (F 0) (G 0) = some (.normal, Y) := by
 have := findX id F G N (fun _ => false) (fun _ => Y) Y hN (fun j hj => by
  obtain ⟨x, h1, h2⟩ := hs j hj
  exact ⟨x, h1, by rw [if_neg (by simp)]; exact h2⟩) he
 have h0 : exN (fun _ => false) N = false := by
  cases h : exN (fun _ => false) N with
  | false => rfl
  | true => obtain ⟨i, _, h2⟩ := (exN_iff _ _).1 h; cases h2
 rw [h0] at this
 exact this
theorem b81 : ((blocksOf (bodyOf Try.f81)).filter fun x => Nat.beq x.1 0) = [(0, .loop (part Try.f81 [1,1,1,1,0,1,0,0]))] := by kernel_rfl
theorem b81s : ∀ b, (0, b) ∈ blocksOf (bodyOf Try.f81) → b = .loop (part Try.f81 [1,1,1,1,0,1,0,0]) := by
 intro b hb
 have hm : (0, b) ∈ ((blocksOf (bodyOf Try.f81)).filter fun x => Nat.beq x.1 0) := List.mem_filter.2 ⟨hb, rfl⟩
 rw [b81] at hm; simpa using hm
theorem b81' : ((blocksOf (part Try.f81 [1,1,1,1,0,1,0,0])).filter fun x => Nat.beq x.1 2) = [(2, .loop (part Try.f81 [1,1,1,1,0,1,0,0,1,0,0,1,0,0]))] := by kernel_rfl
theorem b81i : ∀ b, (2, b) ∈ blocksOf (part Try.f81 [1,1,1,1,0,1,0,0]) → b = .loop (part Try.f81 [1,1,1,1,0,1,0,0,1,0,0,1,0,0]) := by
 intro b hb
 have hm : (2, b) ∈ ((blocksOf (part Try.f81 [1,1,1,1,0,1,0,0])).filter fun x => Nat.beq x.1 2) := List.mem_filter.2 ⟨hb, rfl⟩
 rw [b81'] at hm; simpa using hm
theorem b81'' : ((blocksOf (part Try.f81 [1,1,1,1,0,1,0,0,1,0,0,1,0,0])).filter fun x => Nat.beq x.1 4) = [(4, .loop (part Try.f81 [1,1,1,1,0,1,0,0,1,0,0,1,0,0,1,0,0,1,0,0]))] := by kernel_rfl
theorem b81k : ∀ b, (4, b) ∈ blocksOf (part Try.f81 [1,1,1,1,0,1,0,0,1,0,0,1,0,0]) → b = .loop (part Try.f81 [1,1,1,1,0,1,0,0,1,0,0,1,0,0,1,0,0,1,0,0]) := by
 intro b hb
 have hm : (4, b) ∈ ((blocksOf (part Try.f81 [1,1,1,1,0,1,0,0,1,0,0,1,0,0])).filter fun x => Nat.beq x.1 4) := List.mem_filter.2 ⟨hb, rfl⟩
 rw [b81''] at hm; simpa using hm
theorem l81i (h : chkB w ls ld zs zd = 0) (z : Nat → Int) (s : Nat) (hs : 1 ≤ s ∧ s ≤ 100) : exec (cxD (n + 6) 81 70) (.block 2 (.loop (part Try.f81 [1,1,1,1,0,1,0,0,1,0,0,1,0,0]))) (fr81i sure (ls + 2) s 0) (lv81 w ls ld zs zd z (ls + 2) :: H) =
 some (.normal, fr81i sure (ls + 2) s (Int.ofNat (ls + 2)) ++ [(29, .bool false)], lv81 w ls ld zs zd (stpS z s (hlF w ld zs zd sure) (ls + 2)) (ls + 2) :: H) := by
 have c := chk_ok h
 have e0 : zI z s (hlF w ld zs zd sure) (ls + 2) 0 = z := by funext x; unfold zI; rw [if_neg (by omega)]
 have e1 : zI z s (hlF w ld zs zd sure) (ls + 2) (ls + 2) = stpS z s (hlF w ld zs zd sure) (ls + 2) := by funext x; rfl
 have := forX (n := n + 6) (f := 81) (nt := 70) (c := part Try.f81 [1,1,1,1,0,1,0,0,1,0,0,1,0,0]) 2 (fun i => fr81i sure (ls + 2) s (i : Int)) (fun i => lv81 w ls ld zs zd (zI z s (hlF w ld zs zd sure) (ls + 2) i) (ls + 2) :: H) (ls + 2) (fr81i sure (ls + 2) s (Int.ofNat (ls + 2)) ++ [(29, .bool false)], lv81 w ls ld zs zd (zI z s (hlF w ld zs zd sure) (ls + 2) (ls + 2)) (ls + 2) :: H) (by omega) (fun i hi => ?_) ?_
 · rw [e0, e1] at this; exact this
 · have lk := l81k n w ls ld zs zd H sure h (zI z s (hlF w ld zs zd sure) (ls + 2) i) s i hs.2 hi
   rw [zI_step (by omega)] at lk
   have ej : addI .i64 (i : Int) (Int.ofNat 1) = ((i + 1 : Nat) : Int) := by rw [addI_eq, show Int.ofNat 1 = 1 from rfl]; exact wr_64 (by omega) (by omega)
   refine ex_all (t81i n w ls ld (ls + 2) zs zd (zI z s (hlF w ld zs zd sure) (ls + 2) i) (zI z s (hlF w ld zs zd sure) (ls + 2) (i + 1)) H sure s (i : Int)) (il_no (n + 6) 0) (blkE_ok (noBT_ok _ _) b81k (fun x hx => by rw [← Tr.ok_some hx]; simp only [Res.st, hints_eq]; exact lk)) (noRT_ok _ _) ?_
   repeat' first | (refine Tr.all_ite (fun hc => ?_) (fun hc => ?_) <;> (try simp (disch := omega) only [nV, mulO_eq, Int.cast_ofNat_Int, eq_self] at hc) <;> (try (exfalso; omega))) | (refine Tr.all_req ?_ ?_; · ((try simp (disch := omega) only [nV, mulO_eq, Int.cast_ofNat_Int, eq_self]); try omega)) | (refine Tr.all_reqP ?_ ?_; · first | exact trivial | rfl | exact ⟨rfl, rfl⟩ | exact ⟨rfl, rfl, rfl⟩ | (simp (disch := omega) only [nV, mulO_eq, Int.cast_ofNat_Int, eq_self]; done) | ((try simp (disch := omega) only [nV, mulO_eq, Int.cast_ofNat_Int, eq_self]); omega)) | fail
   refine Tr.all_ok ⟨rfl, ?_⟩
   rw [ej]; rfl
 · obtain ⟨x, h1, rfl⟩ := ex_all (Q := fun x => x = (.exit 2, fr81i sure (ls + 2) s (Int.ofNat (ls + 2)) ++ [(29, .bool false)], lv81 w ls ld zs zd (zI z s (hlF w ld zs zd sure) (ls + 2) (ls + 2)) (ls + 2) :: H)) (t81ie n w ls ld (ls + 2) zs zd (zI z s (hlF w ld zs zd sure) (ls + 2) (ls + 2)) H sure s (Int.ofNat (ls + 2))) (il_no (n + 6) 0) (stopB_ok (noBT_ok _ _) 4) (noRT_ok _ _) (by
    repeat' first | (refine Tr.all_ite (fun hc => ?_) (fun hc => ?_) <;> (try simp (disch := omega) only [nV, mulO_eq, Int.cast_ofNat_Int, eq_self] at hc) <;> (try (exfalso; omega))) | (refine Tr.all_req ?_ ?_; · ((try simp (disch := omega) only [nV, mulO_eq, Int.cast_ofNat_Int, eq_self]); try omega)) | (refine Tr.all_reqP ?_ ?_; · first | exact trivial | rfl | exact ⟨rfl, rfl⟩ | exact ⟨rfl, rfl, rfl⟩ | (simp (disch := omega) only [nV, mulO_eq, Int.cast_ofNat_Int, eq_self]; done) | ((try simp (disch := omega) only [nV, mulO_eq, Int.cast_ofNat_Int, eq_self]); omega)) | fail
    exact Tr.all_ok rfl)
   exact h1
def stJ (z0 : Nat → Int) (hl : Int → Int → Bool) (N : Nat) : Nat → Nat → Int
 | 0 => z0
 | j + 1 => stpS (stJ z0 hl N j) ((j : Int) + 1) hl N
theorem l81s (h : chkB w ls ld zs zd = 0) (z0 : Nat → Int) : exec (cxD (n + 6) 81 70) (.block 0 (.loop (part Try.f81 [1,1,1,1,0,1,0,0]))) (fr81 sure (ls + 2) 1) (lv81 w ls ld zs zd z0 (ls + 2) :: H) =
 some (.normal, fr81 sure (ls + 2) (Int.ofNat (ls + 2)) ++ [(24, .bool false)], lv81 w ls ld zs zd (stJ z0 (hlF w ld zs zd sure) (ls + 2) (ls + 1)) (ls + 2) :: H) := by
 have c := chk_ok h
 have := forX (n := n + 6) (f := 81) (nt := 70) (c := part Try.f81 [1,1,1,1,0,1,0,0]) 0 (fun j => fr81 sure (ls + 2) ((j : Int) + 1)) (fun j => lv81 w ls ld zs zd (stJ z0 (hlF w ld zs zd sure) (ls + 2) j) (ls + 2) :: H) (ls + 1) (fr81 sure (ls + 2) (Int.ofNat (ls + 2)) ++ [(24, .bool false)], lv81 w ls ld zs zd (stJ z0 (hlF w ld zs zd sure) (ls + 2) (ls + 1)) (ls + 2) :: H) (by omega) (fun j hj => ?_) ?_
 · exact this
 · have lk := l81i n w ls ld zs zd H sure h (stJ z0 (hlF w ld zs zd sure) (ls + 2) j) (j + 1) (by omega)
   have ej : addI .i64 ((j : Int) + 1) (Int.ofNat 1) = ((j + 1 : Nat) : Int) + 1 := by rw [addI_eq, show Int.ofNat 1 = 1 from rfl]; exact wr_64 (by omega) (by omega)
   refine ex_all (t81s n w ls ld (ls + 2) zs zd (stJ z0 (hlF w ld zs zd sure) (ls + 2) j) (stJ z0 (hlF w ld zs zd sure) (ls + 2) (j + 1)) H sure ((j : Int) + 1)) (il_no (n + 6) 0) (blkE_ok (noBT_ok _ _) b81i (fun x hx => by rw [← Tr.ok_some hx]; simp only [Res.st, hints_eq]; exact lk)) (noRT_ok _ _) ?_
   repeat' first | (refine Tr.all_ite (fun hc => ?_) (fun hc => ?_) <;> (try simp (disch := omega) only [nV, mulO_eq, Int.cast_ofNat_Int, eq_self] at hc) <;> (try (exfalso; omega))) | (refine Tr.all_req ?_ ?_; · ((try simp (disch := omega) only [nV, mulO_eq, Int.cast_ofNat_Int, eq_self]); try omega)) | (refine Tr.all_reqP ?_ ?_; · first | exact trivial | rfl | exact ⟨rfl, rfl⟩ | exact ⟨rfl, rfl, rfl⟩ | (simp (disch := omega) only [nV, mulO_eq, Int.cast_ofNat_Int, eq_self]; done) | ((try simp (disch := omega) only [nV, mulO_eq, Int.cast_ofNat_Int, eq_self]); omega)) | fail
   refine Tr.all_ok ⟨rfl, ?_⟩
   rw [ej]; rfl
 · have e : ((ls + 1 : Nat) : Int) + 1 = Int.ofNat (ls + 2) := by rw [ofNat_cast]; omega
   rw [e]
   obtain ⟨x, h1, rfl⟩ := ex_all (Q := fun x => x = (.exit 0, fr81 sure (ls + 2) (Int.ofNat (ls + 2)) ++ [(24, .bool false)], lv81 w ls ld zs zd (stJ z0 (hlF w ld zs zd sure) (ls + 2) (ls + 1)) (ls + 2) :: H)) (t81se n w ls ld (ls + 2) zs zd (stJ z0 (hlF w ld zs zd sure) (ls + 2) (ls + 1)) H sure (Int.ofNat (ls + 2))) (il_no (n + 6) 0) (stopB_ok (noBT_ok _ _) 2) (noRT_ok _ _) (by
    repeat' first | (refine Tr.all_ite (fun hc => ?_) (fun hc => ?_) <;> (try simp (disch := omega) only [nV, mulO_eq, Int.cast_ofNat_Int, eq_self] at hc) <;> (try (exfalso; omega))) | (refine Tr.all_req ?_ ?_; · ((try simp (disch := omega) only [nV, mulO_eq, Int.cast_ofNat_Int, eq_self]); try omega)) | (refine Tr.all_reqP ?_ ?_; · first | exact trivial | rfl | exact ⟨rfl, rfl⟩ | exact ⟨rfl, rfl, rfl⟩ | (simp (disch := omega) only [nV, mulO_eq, Int.cast_ofNat_Int, eq_self]; done) | ((try simp (disch := omega) only [nV, mulO_eq, Int.cast_ofNat_Int, eq_self]); omega)) | fail
    exact Tr.all_ok rfl)
   exact h1
def st0 (to : Int) (i : Nat) : Int := if (i : Int) = to + 2 then 1 else 0
noncomputable def stZ (w : Int) (ls ld : Nat) (zs zd : Nat → Int) (sure : Bool) (to : Int) : Nat → Int := stJ (st0 to) (hlF w ld zs zd sure) (ls + 2) (ls + 1)
theorem c81 (h : chkB w ls ld zs zd = 0) (to : Int) (ht : -2 ≤ to ∧ to < ls) : cd (n + 7) (.fn 81) [bathA w ls zs ld zd, .int .i64 to, .bool sure] H = some (.slcT none (.M [.arr .i64 (stZ w ls ld zs zd sure to) (ls + 2)]) 1 (ls + 2) true, H) := by
 have c := chk_ok h
 have lk := l81s n w ls ld zs zd H sure h (st0 to)
 have e1 : addI .i64 (Int.ofNat ls) (Int.ofNat 2) = Int.ofNat (ls + 2) := by rw [addI_eq, show Int.ofNat 2 = 2 from rfl, ofNat_cast, ofNat_cast]; exact wr_64 (by omega) (by omega)
 have e2 : toN (Int.ofNat (ls + 2)) = ls + 2 := by rw [toN_eq]; rfl
 have e3 : addI .i64 to (Int.ofNat 2) = to + 2 := by rw [addI_eq, show Int.ofNat 2 = 2 from rfl]; exact wr_64 (by omega) (by omega)
 have e4 : updO (fun _ => Int.ofNat 0) (idO 0 (to + 2) 1) (Int.ofNat 1) = st0 to := by
  rw [updO_fn, idO_eq]; funext x
  unfold st0
  by_cases g : (x : Int) = to + 2
  · rw [if_pos g]; simp; omega
  · rw [if_neg g]; simp; omega
 refine fn_all (n := n + 6) Try.func81 rfl rfl rfl (u81 n w ls ld (ls + 2) zs zd (st0 to) (stZ w ls ld zs zd sure to) H to (Int.ofNat (ls + 2)) sure) (il_no (n + 6) 0) (blkE_ok (noBT_ok _ _) b81s (fun x hx => by rw [← Tr.ok_some hx]; simp only [Res.st, hints_eq]; exact lk)) (noRT_ok _ _) ?_
 rw [e1, e2, e3, e4]
 repeat' first | (refine Tr.all_ite (fun hc => ?_) (fun hc => ?_) <;> (try simp (disch := omega) only [nV, mulO_eq, Int.cast_ofNat_Int, eq_self] at hc) <;> (try (exfalso; omega))) | (refine Tr.all_req ?_ ?_; · ((try simp (disch := omega) only [nV, mulO_eq, Int.cast_ofNat_Int, eq_self]); try omega)) | (refine Tr.all_reqP ?_ ?_; · first | exact trivial | rfl | exact ⟨rfl, rfl⟩ | exact ⟨rfl, rfl, rfl⟩ | (simp (disch := omega) only [nV, mulO_eq, Int.cast_ofNat_Int, eq_self]; done) | ((try simp (disch := omega) only [nV, mulO_eq, Int.cast_ofNat_Int, eq_self]); omega)) | fail
 refine Tr.all_ok ⟨?_, rfl⟩
 rw [shO_zero]
 simp only [beqN_self]
end
end Go.Eng
end
section
namespace Go.Eng
open Go.Proofs
set_option linter.unusedVariables false
set_option linter.unusedSimpArgs false
set_option maxRecDepth 100000
noncomputable def sl1 (m : Nat) (z : Nat → Int) (full : Bool) : AV := .slcT none (.M [.arr .i64 z m]) 1 m full
noncomputable def g81 (B : AV) (to : Int) (sure : Bool) (T : AV) : List AV → Option (Prop × AV)
 | [b, .int .i64 p, .bool s] => some (b = B ∧ p = to ∧ s = sure, T)
 | _ => none
def gIn (f : (Nat → Int) → Nat → Int → Bool) : List AV → Option (Prop × AV)
 | [.slcT none (.M [.arr .i64 z N]) 1 m full, .int .i64 p] => some (N = m ∧ leN m 1000 = true, .bool (f z m p))
 | _ => none
def inN (z : Nat → Int) (m : Nat) (p : Int) : Bool := exN (fun j => decide (z j = p)) m
theorem lst_app (L : List Int) (v : Int) : appO (shO (lstO L) 0) L.length (lstO [v]) = lstO (L ++ [v]) := by
 rw [shO_zero, appO_fn, lstO_fn]; funext i
 by_cases h : i < L.length
 · simp [h, List.getElem?_append]
 · by_cases h2 : i = L.length
   · subst h2; simp
   · have e1 : [v][i - L.length]? = none := List.getElem?_eq_none (by simp; omega)
     have e2 : (L ++ [v])[i]? = none := List.getElem?_eq_none (by simp; omega)
     simp only [h, if_false, List.getD_eq_getElem?_getD, e1, e2]
section
variable (n : Nat) (w : Int) (ls ld : Nat) (zs zd : Nat → Int) (H : Heap) (sure : Bool)
end
end Go.Eng
end
section
namespace Go.Eng
open Go.Proofs
set_option linter.unusedVariables false
set_option linter.unusedSimpArgs false
set_option maxRecDepth 100000
noncomputable def fr31 (m k : Nat) (z y : Nat → Int) (a b : Bool) (j : Int) : Frm := [(0, sl1 m z a), (1, sl1 k y b), (5, .int .i64 j)]
theorem t31 (n : Nat) (H : Heap) (m k : Nat) (z y : Nat → Int) (a b : Bool) (j : Int) : execT (cxD n 31 26) (il noCt n 0) noBT noRT (part Try.f31 [1,1,0,1,0,0]) (hints (fr31 m k z y a b j)) (lv0 :: H) =
 Tr.ite (ltI j (Int.ofNat m)) (Tr.req (inI j m) (Tr.req (ltN (idO 0 j 1) m) (Tr.req (inI j k) (Tr.req (ltN (idO 0 j 1) k) (Tr.ite (notB (eqI (z (idO 0 j 1)) (y (idO 0 j 1)))) (Tr.ok (Ex.ret, [(4, AV.bool false, some 1)], lv0 :: H)) (Tr.ok (Ex.normal, [(0, AV.slcT none (Row.M [Seg.arr .i64 z m]) 1 m a, none), (1, AV.slcT none (Row.M [Seg.arr .i64 y k]) 1 k b, none), (5, AV.int .i64 (addI .i64 j (Int.ofNat 1)), none)], lv0 :: H))))))) (Tr.ok (Ex.exit 0, [(0, AV.slcT none (Row.M [Seg.arr .i64 z m]) 1 m a, none), (1, AV.slcT none (Row.M [Seg.arr .i64 y k]) 1 k b, none), (5, AV.int .i64 j, none), (14, AV.bool false, some 1)], lv0 :: H)) := by kernel_rfl
theorem u31 (n : Nat) (H : Heap) (m k : Nat) (z y : Nat → Int) (a b : Bool) : bodyT Try.prog (cd n) 100000 31 Try.f31 (Kt.kt 31) (il noCt n 0) (blkE noBT 0 (fr31 m k z y a b 0) (lv0 :: H) (.ok (.normal, hints (fr31 m k z y a b (Int.ofNat m) ++ [(14, .bool false)]), lv0 :: H))) noRT [(sl1 m z a, none), (sl1 k y b, none)] H =
 (fun (Z0 : Frm) => Tr.ite (notB (eqI (Int.ofNat m) (Int.ofNat k))) (Tr.ok ((AV.bool false, some 1), H)) (Tr.reqP (Z0 = Z0 ∧ lv0 :: H = lv0 :: H) (Tr.ok ((AV.bool true, some 1), H)))) [(0, AV.slcT none (Row.M [Seg.arr .i64 z m]) 1 m a), (1, AV.slcT none (Row.M [Seg.arr .i64 y k]) 1 k b), (5, AV.int .i64 (Int.ofNat 0))] := by kernel_rfl
theorem u31n (n : Nat) (H : Heap) : bodyT Try.prog (cd n) 100000 31 Try.f31 (Kt.kt 31) (il noCt n 0) noBT noRT [(.nils, none), (.nils, none)] H =
 Tr.ok ((AV.bool true, some 1), H) := by kernel_rfl
section
variable (n : Nat) (w : Int) (ls ld : Nat) (zs zd : Nat → Int) (H : Heap) (sure : Bool)
end
section
variable (n : Nat) (H : Heap)
theorem b31 : ∀ b, (0, b) ∈ blocksOf (bodyOf Try.f31) → b = .loop (part Try.f31 [1,1,0,1,0,0]) := by
 have : ((blocksOf (bodyOf Try.f31)).filter fun x => Nat.beq x.1 0) = [(0, .loop (part Try.f31 [1,1,0,1,0,0]))] := by kernel_rfl
 intro b hb
 have hm : (0, b) ∈ ((blocksOf (bodyOf Try.f31)).filter fun x => Nat.beq x.1 0) := List.mem_filter.2 ⟨hb, rfl⟩
 rw [this] at hm; simpa using hm
theorem c31 (m : Nat) (z y : Nat → Int) (a b : Bool) (hm : m ≤ 1000) (hz : ∀ j, j < m → z j = y j) : cd (n + 1) (.fn 31) [sl1 m z a, sl1 m y b] H = some (.bool true, H) := by
 have l := forX (n := n) (f := 31) (nt := 26) (c := part Try.f31 [1,1,0,1,0,0]) 0 (fun j => fr31 m m z y a b (j : Int)) (fun _ => lv0 :: H) m (fr31 m m z y a b (Int.ofNat m) ++ [(14, .bool false)], lv0 :: H) (by omega) (fun j hj => ?_) ?_
 · refine fn_all (n := n) Try.func31 rfl rfl rfl (u31 n H m m z y a b) (il_no0 n) (blkE_ok (noBT_ok _ _) b31 (fun x hx => by rw [← Tr.ok_some hx]; simp only [Res.st, hints_eq]; exact l)) (noRT_ok _ _) ?_
   repeat' first | (refine Tr.all_ite (fun hc => ?_) (fun hc => ?_) <;> (try simp (disch := omega) only [nV, mulO_eq, Int.cast_ofNat_Int, eq_self] at hc) <;> (try (exfalso; omega))) | (refine Tr.all_req ?_ ?_; · ((try simp (disch := omega) only [nV, mulO_eq, Int.cast_ofNat_Int, eq_self]); try omega)) | (refine Tr.all_reqP ?_ ?_; · first | exact trivial | rfl | exact ⟨rfl, rfl⟩ | exact ⟨rfl, rfl, rfl⟩ | (simp (disch := omega) only [nV, mulO_eq, Int.cast_ofNat_Int, eq_self]; done) | ((try simp (disch := omega) only [nV, mulO_eq, Int.cast_ofNat_Int, eq_self]); omega)) | fail
   exact Tr.all_ok ⟨rfl, rfl⟩
 · have ej : addI .i64 (j : Int) (Int.ofNat 1) = ((j + 1 : Nat) : Int) := by rw [addI_eq, show Int.ofNat 1 = 1 from rfl]; exact wr_64 (by omega) (by omega)
   have := hz j hj
   refine ex_all (t31 n H m m z y a b (j : Int)) (il_no0 n) (noBT_ok _ _) (noRT_ok _ _) ?_
   repeat' first | (refine Tr.all_ite (fun hc => ?_) (fun hc => ?_) <;> (try simp (disch := omega) only [nV, mulO_eq, Int.cast_ofNat_Int, eq_self, Nat.mul_one] at hc) <;> (try (exfalso; omega))) | (refine Tr.all_req ?_ ?_; · ((try simp (disch := omega) only [nV, mulO_eq, Int.cast_ofNat_Int, eq_self, Nat.mul_one]); try omega)) | (refine Tr.all_reqP ?_ ?_; · first | exact trivial | rfl | exact ⟨rfl, rfl⟩ | exact ⟨rfl, rfl, rfl⟩ | (simp (disch := omega) only [nV, mulO_eq, Int.cast_ofNat_Int, eq_self, Nat.mul_one]; done) | ((try simp (disch := omega) only [nV, mulO_eq, Int.cast_ofNat_Int, eq_self, Nat.mul_one]); omega)) | fail
   refine Tr.all_ok ⟨rfl, ?_⟩
   rw [ej]; rfl
 · obtain ⟨x, h1, rfl⟩ := ex_all (Q := fun x => x = (.exit 0, fr31 m m z y a b (Int.ofNat m) ++ [(14, .bool false)], lv0 :: H)) (t31 n H m m z y a b (Int.ofNat m)) (il_no0 n) (noBT_ok _ _) (noRT_ok _ _) (by
    repeat' first | (refine Tr.all_ite (fun hc => ?_) (fun hc => ?_) <;> (try simp (disch := omega) only [nV, mulO_eq, Int.cast_ofNat_Int, eq_self] at hc) <;> (try (exfalso; omega))) | (refine Tr.all_req ?_ ?_; · ((try simp (disch := omega) only [nV, mulO_eq, Int.cast_ofNat_Int, eq_self]); try omega)) | (refine Tr.all_reqP ?_ ?_; · first | exact trivial | rfl | exact ⟨rfl, rfl⟩ | exact ⟨rfl, rfl, rfl⟩ | (simp (disch := omega) only [nV, mulO_eq, Int.cast_ofNat_Int, eq_self]; done) | ((try simp (disch := omega) only [nV, mulO_eq, Int.cast_ofNat_Int, eq_self]); omega)) | fail
    exact Tr.all_ok rfl)
   exact h1
theorem c31n : cd (n + 1) (.fn 31) [.nils, .nils] H = some (.bool true, H) :=
 fn_all (n := n) Try.func31 rfl rfl rfl (u31n n H) (il_no0 n) (noBT_ok _ _) (noRT_ok _ _) (Tr.all_ok ⟨rfl, rfl⟩)
end
end Go.Eng
end
section
namespace Go.Eng
open Go.Proofs
set_option linter.unusedVariables false
set_option linter.unusedSimpArgs false
set_option maxRecDepth 100000
section
variable (n : Nat) (w : Int) (ls ld m : Nat) (zs zd z : Nat → Int) (H : Heap) (p q : Int) (sure full : Bool)
end
end Go.Eng
end
section
namespace Go.Eng
open Go.Proofs
set_option linter.unusedVariables false
set_option linter.unusedSimpArgs false
set_option maxRecDepth 100000
section
variable (n : Nat) (w k p q : Int) (ls ld : Nat) (zs zd : Nat → Int) (H : Heap)
end
end Go.Eng
end
section
namespace Go.Eng
open Go.Proofs
set_option linter.unusedVariables false
set_option linter.unusedSimpArgs false
set_option maxRecDepth 100000
section
variable (n : Nat) (w : Int) (ls ld : Nat) (zs zd : Nat → Int) (H : Heap) (p q : Int)
end
end Go.Eng
end
section
namespace Go.Eng
open Go.Proofs
set_option linter.unusedVariables false
set_option linter.unusedSimpArgs false
set_option maxRecDepth 100000
noncomputable def tabR (k : Nat) (w : Int) (ls ld : Nat) (zs zd sz kd : Nat → Int) : AV := .ptrT (some k) (.M [.one (.int .i64 w), .one (slA 2 ls zs), .one (slA 3 ld zd), .one (.slcT none (.M [.arr .i64 sz (mulO ls 2)]) 2 ls true), .arr .i64 kd 144]) 0
section
variable (n : Nat) (w : Int) (ls ld : Nat) (zs zd sz kd : Nat → Int) (H : Heap) (s more : Int)
end
end Go.Eng
end
