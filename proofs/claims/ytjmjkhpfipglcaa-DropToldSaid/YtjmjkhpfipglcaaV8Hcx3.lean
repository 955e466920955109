/- Drop: the law DropTold: its code. -/
import Derived.Test.YtjmjkhpfipglcaaV8Fex4
section
namespace Go.Eng
open Go.Proofs
set_option linter.unusedVariables false
set_option linter.unusedSimpArgs false
set_option maxRecDepth 100000
noncomputable def g42 (B U T : AV) : List AV → Option (Prop × AV)
  | [b, u] => some (b = B ∧ u = U, T)
  | _ => none
noncomputable def g43t (B : AV) (a b p q : Int) : List AV → Option (Prop × AV)
  | [x, .agg (.I .u8 [c, d])] => some (x = B ∧ c = a ∧ d = b, .tup [.int .i64 p, .int .i64 q])
  | _ => none
def gKf (B : AV) (side : Int → Int → Prop) (k e : Int → Int → Int) : List AV → Option (Prop × AV)
  | [b, .int .i64 p, .int .i64 q] => some (b = B ∧ side p q, .tup [.int .i64 (k p q), .int .i64 (e p q)])
  | _ => none
def gSf (B : AV) (lo hi e : Int → Int) : List AV → Option (Prop × AV)
  | [b, .int .i64 p] => some (b = B, .tup [.agg (.I .i64 [lo p, hi p]), .int .i64 (e p)])
  | _ => none
def g44 (B T : AV) (side : Int → Int → Prop) (tv : Int → Int → Int → Bool) : List AV → Option (Prop × AV)
  | [b, t, .int .i64 p, .int .i64 q, .int .i64 k] => some (b = B ∧ t = T ∧ side p q, .bool (tv p q k))
  | _ => none
noncomputable def lvL (w : Int) (ls ld : Nat) (zs zd : Nat → Int) (a b c d : Int) : Lvl := ⟨false, [(0, .row (.G [.int .i64 w, slA 2 ls zs, slA 3 ld zd])), (0, Blk.row (Row.I IntKind.u8 [a, b])), (0, Blk.row (Row.I IntKind.u8 [c, d]))]⟩
noncomputable def fr8a (T : AV) (j : Int) : Frm := [(4, AV.ptr 0 0 0 0), (7, AV.ptr 0 2 0 0), (9, T), (14, AV.int .i64 j)]
noncomputable def fr8b (T : AV) (D F K : Int) (bw fs : Bool) (j : Int) : Frm := [(4, AV.ptr 0 0 0 0), (9, T), (18, AV.int .i64 D), (19, AV.int .i64 F), (20, AV.int .i64 K), (21, AV.bool bw), (22, AV.bool fs), (23, AV.int .i64 j)]
theorem t8a (n : Nat) (w : Int) (ls ld lt : Nat) (zs zd tr : Nat → Int) (H : Heap) (a b c d j : Int) (lo hi er so : Int → Int) : execT (cxD (n+20) 8 250) (il (ctG (ctG noCt 17 (gSf (bathA w ls zs ld zd) lo hi er)) 45 (g45t (bathA w ls zs ld zd) (slA 1 lt tr) True so)) (n+18) 2) noBT noRT (part Try.f8 [1, 1, 1, 1, 1, 1, 0, 1, 0, 0]) (hints (fr8a (slA 1 lt tr) j)) (lvL w ls ld zs zd a b c d :: H) =
  Tr.ite (ltI j (Int.ofNat ls)) (Tr.reqP (bathA w ls zs ld zd = bathA w ls zs ld zd) (Tr.reqP (bathA w ls zs ld zd = bathA w ls zs ld zd ∧ slA 1 lt tr = slA 1 lt tr ∧ True) (Tr.ite (notB (eqI (er j) (Int.ofNat 0))) (Tr.ok (Ex.ret, [(8, AV.bool false, some 1)], { lock := false, bs := [(0, Blk.row (Row.G [AV.int .i64 w, slA 2 ls zs, slA 3 ld zd])), (0, Blk.row (Row.I IntKind.u8 [a, b])), (0, Blk.row (Row.I IntKind.u8 [c, d])), (0, Blk.row (Row.I .i64 [lo j, hi j]))] } :: H)) (Tr.ite (ltI (so j) (lo j)) (Tr.ok (Ex.ret, [(8, AV.bool false, some 1)], { lock := false, bs := [(0, Blk.row (Row.G [AV.int .i64 w, slA 2 ls zs, slA 3 ld zd])), (0, Blk.row (Row.I IntKind.u8 [a, b])), (0, Blk.row (Row.I IntKind.u8 [c, d])), (0, Blk.row (Row.I .i64 [lo j, hi j]))] } :: H)) (Tr.ite (ltI (hi j) (so j)) (Tr.ok (Ex.ret, [(8, AV.bool false, some 1)], { lock := false, bs := [(0, Blk.row (Row.G [AV.int .i64 w, slA 2 ls zs, slA 3 ld zd])), (0, Blk.row (Row.I IntKind.u8 [a, b])), (0, Blk.row (Row.I IntKind.u8 [c, d])), (0, Blk.row (Row.I .i64 [lo j, hi j]))] } :: H)) (Tr.ok (Ex.normal, [(4, AV.ptr 0 0 0 0, none), (7, AV.ptr 0 2 0 0, none), (9, slA 1 lt tr, none), (14, AV.int .i64 (addI .i64 j (Int.ofNat 1)), none)], { lock := false, bs := [(0, Blk.row (Row.G [AV.int .i64 w, slA 2 ls zs, slA 3 ld zd])), (0, Blk.row (Row.I IntKind.u8 [a, b])), (0, Blk.row (Row.I IntKind.u8 [c, d])), (0, Blk.row (Row.I .i64 [lo j, hi j]))] } :: H))))))) (Tr.ok (Ex.exit 0, [(4, AV.ptr 0 0 0 0, none), (7, AV.ptr 0 2 0 0, none), (9, slA 1 lt tr, none), (14, AV.int .i64 j, none), (65, AV.bool false, some 1)], lvL w ls ld zs zd a b c d :: H)) := by kernel_rfl
theorem t8n (n : Nat) (w : Int) (ls ld : Nat) (zs zd : Nat → Int) (H : Heap) (a b c d j : Int) (lo hi er so : Int → Int) : execT (cxD (n+20) 8 250) (il (ctG (ctG noCt 17 (gSf (bathA w ls zs ld zd) lo hi er)) 45 (g45t (bathA w ls zs ld zd) .nils True so)) (n+18) 2) noBT noRT (part Try.f8 [1, 1, 1, 1, 1, 1, 0, 1, 0, 0]) (hints (fr8a .nils j)) (lvL w ls ld zs zd a b c d :: H) =
  Tr.ite (ltI j (Int.ofNat ls)) (Tr.reqP (bathA w ls zs ld zd = bathA w ls zs ld zd) (Tr.reqP (bathA w ls zs ld zd = bathA w ls zs ld zd ∧ AV.nils = AV.nils ∧ True) (Tr.ite (notB (eqI (er j) (Int.ofNat 0))) (Tr.ok (Ex.ret, [(8, AV.bool false, some 1)], { lock := false, bs := [(0, Blk.row (Row.G [AV.int .i64 w, slA 2 ls zs, slA 3 ld zd])), (0, Blk.row (Row.I IntKind.u8 [a, b])), (0, Blk.row (Row.I IntKind.u8 [c, d])), (0, Blk.row (Row.I .i64 [lo j, hi j]))] } :: H)) (Tr.ite (ltI (so j) (lo j)) (Tr.ok (Ex.ret, [(8, AV.bool false, some 1)], { lock := false, bs := [(0, Blk.row (Row.G [AV.int .i64 w, slA 2 ls zs, slA 3 ld zd])), (0, Blk.row (Row.I IntKind.u8 [a, b])), (0, Blk.row (Row.I IntKind.u8 [c, d])), (0, Blk.row (Row.I .i64 [lo j, hi j]))] } :: H)) (Tr.ite (ltI (hi j) (so j)) (Tr.ok (Ex.ret, [(8, AV.bool false, some 1)], { lock := false, bs := [(0, Blk.row (Row.G [AV.int .i64 w, slA 2 ls zs, slA 3 ld zd])), (0, Blk.row (Row.I IntKind.u8 [a, b])), (0, Blk.row (Row.I IntKind.u8 [c, d])), (0, Blk.row (Row.I .i64 [lo j, hi j]))] } :: H)) (Tr.ok (Ex.normal, [(4, AV.ptr 0 0 0 0, none), (7, AV.ptr 0 2 0 0, none), (9, AV.nils, none), (14, AV.int .i64 (addI .i64 j (Int.ofNat 1)), none)], { lock := false, bs := [(0, Blk.row (Row.G [AV.int .i64 w, slA 2 ls zs, slA 3 ld zd])), (0, Blk.row (Row.I IntKind.u8 [a, b])), (0, Blk.row (Row.I IntKind.u8 [c, d])), (0, Blk.row (Row.I .i64 [lo j, hi j]))] } :: H))))))) (Tr.ok (Ex.exit 0, [(4, AV.ptr 0 0 0 0, none), (7, AV.ptr 0 2 0 0, none), (9, AV.nils, none), (14, AV.int .i64 j, none), (65, AV.bool false, some 1)], lvL w ls ld zs zd a b c d :: H)) := by kernel_rfl
theorem t8b (n : Nat) (w : Int) (ls ld lt : Nat) (zs zd tr : Nat → Int) (H : Heap) (a b c d j D F K : Int) (bw fs : Bool) : execT (cxD (n+20) 8 250) (il noCt (n+18) 2) noBT noRT (part Try.f8 [1, 1, 1, 1, 1, 1, 1, 1, 1, 1, 1, 1, 1, 0, 1, 0, 0]) (hints (fr8b (slA 1 lt tr) D F K bw fs j)) (lvL w ls ld zs zd a b c d :: H) =
  Tr.ite (ltI j (Int.ofNat ld)) (Tr.req (inI j ld) (Tr.req (ltN (idO 0 j 3) (mulO ld 3)) (Tr.req (inI D ld) (Tr.req (ltN (idO 0 D 3) (mulO ld 3)) (Tr.ite bw (Tr.ite fs (Tr.ite (eqI (zd (idO 0 j 3)) (zd (idO 0 D 3))) (Tr.ite (notB (ltI j D)) (Tr.req (inI j ld) (Tr.req (ltN (idO 0 j 3) (mulO ld 3)) (Tr.req (inI F ld) (Tr.req (ltN (idO 0 F 3) (mulO ld 3)) (Tr.ite (eqI (zd (idO 0 j 3)) (zd (idO 0 F 3))) (Tr.ok (Ex.normal, [(4, AV.ptr 0 0 0 0, none), (9, slA 1 lt tr, none), (18, AV.int .i64 D, none), (19, AV.int .i64 F, none), (20, AV.int .i64 K, none), (21, AV.bool true, some 1), (22, AV.bool (notB (ltI j F)), none), (23, AV.int .i64 (addI .i64 j (Int.ofNat 1)), none)], lvL w ls ld zs zd a b c d :: H)) (Tr.ok (Ex.normal, [(4, AV.ptr 0 0 0 0, none), (9, slA 1 lt tr, none), (18, AV.int .i64 D, none), (19, AV.int .i64 F, none), (20, AV.int .i64 K, none), (21, AV.bool true, some 1), (22, AV.bool true, some 1), (23, AV.int .i64 (addI .i64 j (Int.ofNat 1)), none)], lvL w ls ld zs zd a b c d :: H))))))) (Tr.ok (Ex.normal, [(4, AV.ptr 0 0 0 0, none), (9, slA 1 lt tr, none), (18, AV.int .i64 D, none), (19, AV.int .i64 F, none), (20, AV.int .i64 K, none), (21, AV.bool true, some 1), (22, AV.bool false, some 1), (23, AV.int .i64 (addI .i64 j (Int.ofNat 1)), none)], lvL w ls ld zs zd a b c d :: H))) (Tr.req (inI j ld) (Tr.req (ltN (idO 0 j 3) (mulO ld 3)) (Tr.req (inI F ld) (Tr.req (ltN (idO 0 F 3) (mulO ld 3)) (Tr.ite (eqI (zd (idO 0 j 3)) (zd (idO 0 F 3))) (Tr.ok (Ex.normal, [(4, AV.ptr 0 0 0 0, none), (9, slA 1 lt tr, none), (18, AV.int .i64 D, none), (19, AV.int .i64 F, none), (20, AV.int .i64 K, none), (21, AV.bool true, some 1), (22, AV.bool (notB (ltI j F)), none), (23, AV.int .i64 (addI .i64 j (Int.ofNat 1)), none)], lvL w ls ld zs zd a b c d :: H)) (Tr.ok (Ex.normal, [(4, AV.ptr 0 0 0 0, none), (9, slA 1 lt tr, none), (18, AV.int .i64 D, none), (19, AV.int .i64 F, none), (20, AV.int .i64 K, none), (21, AV.bool true, some 1), (22, AV.bool true, some 1), (23, AV.int .i64 (addI .i64 j (Int.ofNat 1)), none)], lvL w ls ld zs zd a b c d :: H)))))))) (Tr.ok (Ex.normal, [(4, AV.ptr 0 0 0 0, none), (9, slA 1 lt tr, none), (18, AV.int .i64 D, none), (19, AV.int .i64 F, none), (20, AV.int .i64 K, none), (21, AV.bool true, some 1), (22, AV.bool false, some 1), (23, AV.int .i64 (addI .i64 j (Int.ofNat 1)), none)], lvL w ls ld zs zd a b c d :: H))) (Tr.ite (eqI (zd (idO 0 j 3)) (zd (idO 0 D 3))) (Tr.ite (ltI (minO D F) j) (Tr.ite fs (Tr.ite (eqI (zd (idO 0 j 3)) (zd (idO 0 D 3))) (Tr.ite (notB (ltI j D)) (Tr.req (inI j ld) (Tr.req (ltN (idO 0 j 3) (mulO ld 3)) (Tr.req (inI F ld) (Tr.req (ltN (idO 0 F 3) (mulO ld 3)) (Tr.ite (eqI (zd (idO 0 j 3)) (zd (idO 0 F 3))) (Tr.ok (Ex.normal, [(4, AV.ptr 0 0 0 0, none), (9, slA 1 lt tr, none), (18, AV.int .i64 D, none), (19, AV.int .i64 F, none), (20, AV.int .i64 K, none), (21, AV.bool (ltI j (maxO D F)), none), (22, AV.bool (notB (ltI j F)), none), (23, AV.int .i64 (addI .i64 j (Int.ofNat 1)), none)], lvL w ls ld zs zd a b c d :: H)) (Tr.ok (Ex.normal, [(4, AV.ptr 0 0 0 0, none), (9, slA 1 lt tr, none), (18, AV.int .i64 D, none), (19, AV.int .i64 F, none), (20, AV.int .i64 K, none), (21, AV.bool (ltI j (maxO D F)), none), (22, AV.bool true, some 1), (23, AV.int .i64 (addI .i64 j (Int.ofNat 1)), none)], lvL w ls ld zs zd a b c d :: H))))))) (Tr.ok (Ex.normal, [(4, AV.ptr 0 0 0 0, none), (9, slA 1 lt tr, none), (18, AV.int .i64 D, none), (19, AV.int .i64 F, none), (20, AV.int .i64 K, none), (21, AV.bool (ltI j (maxO D F)), none), (22, AV.bool false, some 1), (23, AV.int .i64 (addI .i64 j (Int.ofNat 1)), none)], lvL w ls ld zs zd a b c d :: H))) (Tr.req (inI j ld) (Tr.req (ltN (idO 0 j 3) (mulO ld 3)) (Tr.req (inI F ld) (Tr.req (ltN (idO 0 F 3) (mulO ld 3)) (Tr.ite (eqI (zd (idO 0 j 3)) (zd (idO 0 F 3))) (Tr.ok (Ex.normal, [(4, AV.ptr 0 0 0 0, none), (9, slA 1 lt tr, none), (18, AV.int .i64 D, none), (19, AV.int .i64 F, none), (20, AV.int .i64 K, none), (21, AV.bool (ltI j (maxO D F)), none), (22, AV.bool (notB (ltI j F)), none), (23, AV.int .i64 (addI .i64 j (Int.ofNat 1)), none)], lvL w ls ld zs zd a b c d :: H)) (Tr.ok (Ex.normal, [(4, AV.ptr 0 0 0 0, none), (9, slA 1 lt tr, none), (18, AV.int .i64 D, none), (19, AV.int .i64 F, none), (20, AV.int .i64 K, none), (21, AV.bool (ltI j (maxO D F)), none), (22, AV.bool true, some 1), (23, AV.int .i64 (addI .i64 j (Int.ofNat 1)), none)], lvL w ls ld zs zd a b c d :: H)))))))) (Tr.ok (Ex.normal, [(4, AV.ptr 0 0 0 0, none), (9, slA 1 lt tr, none), (18, AV.int .i64 D, none), (19, AV.int .i64 F, none), (20, AV.int .i64 K, none), (21, AV.bool (ltI j (maxO D F)), none), (22, AV.bool false, some 1), (23, AV.int .i64 (addI .i64 j (Int.ofNat 1)), none)], lvL w ls ld zs zd a b c d :: H))) (Tr.ite fs (Tr.ite (eqI (zd (idO 0 j 3)) (zd (idO 0 D 3))) (Tr.ite (notB (ltI j D)) (Tr.req (inI j ld) (Tr.req (ltN (idO 0 j 3) (mulO ld 3)) (Tr.req (inI F ld) (Tr.req (ltN (idO 0 F 3) (mulO ld 3)) (Tr.ite (eqI (zd (idO 0 j 3)) (zd (idO 0 F 3))) (Tr.ok (Ex.normal, [(4, AV.ptr 0 0 0 0, none), (9, slA 1 lt tr, none), (18, AV.int .i64 D, none), (19, AV.int .i64 F, none), (20, AV.int .i64 K, none), (21, AV.bool false, some 1), (22, AV.bool (notB (ltI j F)), none), (23, AV.int .i64 (addI .i64 j (Int.ofNat 1)), none)], lvL w ls ld zs zd a b c d :: H)) (Tr.ok (Ex.normal, [(4, AV.ptr 0 0 0 0, none), (9, slA 1 lt tr, none), (18, AV.int .i64 D, none), (19, AV.int .i64 F, none), (20, AV.int .i64 K, none), (21, AV.bool false, some 1), (22, AV.bool true, some 1), (23, AV.int .i64 (addI .i64 j (Int.ofNat 1)), none)], lvL w ls ld zs zd a b c d :: H))))))) (Tr.ok (Ex.normal, [(4, AV.ptr 0 0 0 0, none), (9, slA 1 lt tr, none), (18, AV.int .i64 D, none), (19, AV.int .i64 F, none), (20, AV.int .i64 K, none), (21, AV.bool false, some 1), (22, AV.bool false, some 1), (23, AV.int .i64 (addI .i64 j (Int.ofNat 1)), none)], lvL w ls ld zs zd a b c d :: H))) (Tr.req (inI j ld) (Tr.req (ltN (idO 0 j 3) (mulO ld 3)) (Tr.req (inI F ld) (Tr.req (ltN (idO 0 F 3) (mulO ld 3)) (Tr.ite (eqI (zd (idO 0 j 3)) (zd (idO 0 F 3))) (Tr.ok (Ex.normal, [(4, AV.ptr 0 0 0 0, none), (9, slA 1 lt tr, none), (18, AV.int .i64 D, none), (19, AV.int .i64 F, none), (20, AV.int .i64 K, none), (21, AV.bool false, some 1), (22, AV.bool (notB (ltI j F)), none), (23, AV.int .i64 (addI .i64 j (Int.ofNat 1)), none)], lvL w ls ld zs zd a b c d :: H)) (Tr.ok (Ex.normal, [(4, AV.ptr 0 0 0 0, none), (9, slA 1 lt tr, none), (18, AV.int .i64 D, none), (19, AV.int .i64 F, none), (20, AV.int .i64 K, none), (21, AV.bool false, some 1), (22, AV.bool true, some 1), (23, AV.int .i64 (addI .i64 j (Int.ofNat 1)), none)], lvL w ls ld zs zd a b c d :: H)))))))) (Tr.ok (Ex.normal, [(4, AV.ptr 0 0 0 0, none), (9, slA 1 lt tr, none), (18, AV.int .i64 D, none), (19, AV.int .i64 F, none), (20, AV.int .i64 K, none), (21, AV.bool false, some 1), (22, AV.bool false, some 1), (23, AV.int .i64 (addI .i64 j (Int.ofNat 1)), none)], lvL w ls ld zs zd a b c d :: H)))) (Tr.ite fs (Tr.ite (eqI (zd (idO 0 j 3)) (zd (idO 0 D 3))) (Tr.ite (notB (ltI j D)) (Tr.req (inI j ld) (Tr.req (ltN (idO 0 j 3) (mulO ld 3)) (Tr.req (inI F ld) (Tr.req (ltN (idO 0 F 3) (mulO ld 3)) (Tr.ite (eqI (zd (idO 0 j 3)) (zd (idO 0 F 3))) (Tr.ok (Ex.normal, [(4, AV.ptr 0 0 0 0, none), (9, slA 1 lt tr, none), (18, AV.int .i64 D, none), (19, AV.int .i64 F, none), (20, AV.int .i64 K, none), (21, AV.bool false, some 1), (22, AV.bool (notB (ltI j F)), none), (23, AV.int .i64 (addI .i64 j (Int.ofNat 1)), none)], lvL w ls ld zs zd a b c d :: H)) (Tr.ok (Ex.normal, [(4, AV.ptr 0 0 0 0, none), (9, slA 1 lt tr, none), (18, AV.int .i64 D, none), (19, AV.int .i64 F, none), (20, AV.int .i64 K, none), (21, AV.bool false, some 1), (22, AV.bool true, some 1), (23, AV.int .i64 (addI .i64 j (Int.ofNat 1)), none)], lvL w ls ld zs zd a b c d :: H))))))) (Tr.ok (Ex.normal, [(4, AV.ptr 0 0 0 0, none), (9, slA 1 lt tr, none), (18, AV.int .i64 D, none), (19, AV.int .i64 F, none), (20, AV.int .i64 K, none), (21, AV.bool false, some 1), (22, AV.bool false, some 1), (23, AV.int .i64 (addI .i64 j (Int.ofNat 1)), none)], lvL w ls ld zs zd a b c d :: H))) (Tr.req (inI j ld) (Tr.req (ltN (idO 0 j 3) (mulO ld 3)) (Tr.req (inI F ld) (Tr.req (ltN (idO 0 F 3) (mulO ld 3)) (Tr.ite (eqI (zd (idO 0 j 3)) (zd (idO 0 F 3))) (Tr.ok (Ex.normal, [(4, AV.ptr 0 0 0 0, none), (9, slA 1 lt tr, none), (18, AV.int .i64 D, none), (19, AV.int .i64 F, none), (20, AV.int .i64 K, none), (21, AV.bool false, some 1), (22, AV.bool (notB (ltI j F)), none), (23, AV.int .i64 (addI .i64 j (Int.ofNat 1)), none)], lvL w ls ld zs zd a b c d :: H)) (Tr.ok (Ex.normal, [(4, AV.ptr 0 0 0 0, none), (9, slA 1 lt tr, none), (18, AV.int .i64 D, none), (19, AV.int .i64 F, none), (20, AV.int .i64 K, none), (21, AV.bool false, some 1), (22, AV.bool true, some 1), (23, AV.int .i64 (addI .i64 j (Int.ofNat 1)), none)], lvL w ls ld zs zd a b c d :: H)))))))) (Tr.ok (Ex.normal, [(4, AV.ptr 0 0 0 0, none), (9, slA 1 lt tr, none), (18, AV.int .i64 D, none), (19, AV.int .i64 F, none), (20, AV.int .i64 K, none), (21, AV.bool false, some 1), (22, AV.bool false, some 1), (23, AV.int .i64 (addI .i64 j (Int.ofNat 1)), none)], lvL w ls ld zs zd a b c d :: H))))))))) (Tr.ok (Ex.exit 2, [(4, AV.ptr 0 0 0 0, none), (9, slA 1 lt tr, none), (18, AV.int .i64 D, none), (19, AV.int .i64 F, none), (20, AV.int .i64 K, none), (21, AV.bool bw, none), (22, AV.bool fs, none), (23, AV.int .i64 j, none), (132, AV.bool false, some 1)], lvL w ls ld zs zd a b c d :: H)) := by kernel_rfl
theorem u8a (n : Nat) (w : Int) (ls ld lb lt : Nat) (zs zd zb tr : Nat → Int) (H : Heap) (a b c d p q e0 D F : Int) (bw fs : Bool) (k e bk be : Int → Int → Int) (tv : Int → Int → Int → Bool) (sd : Int → Int → Prop) : bodyT Try.prog (cd (n+20)) 100000 8 Try.f8 (Kt.kt 8) (il (ctG (ctG (ctG (ctG (ctG (ctG (ctG noCt 16 g16) 20 (g20 (bathA w ls zs ld zd) e0)) 21 (gKf (bathA w ls zs ld zd) sd k e)) 23 (gKf (bathA w ls zs ld zd) (fun _ _ => True) bk be)) 42 (g42 (bathA w ls zs ld zd) (slU lb zb) (slA 1 lt tr))) 43 (g43t (bathA w ls zs ld zd) a b p q)) 44 (g44 (bathA w ls zs ld zd) (slA 1 lt tr) sd tv)) (n+18) 2) (blkE (blkE noBT 2 (fr8b (slA 1 lt tr) D F (bk D F) false true 0) (lvL w ls ld zs zd a b c d :: H) (.ok (.normal, hints (fr8b (slA 1 lt tr) D F (bk D F) bw fs (Int.ofNat ld) ++ [(132, .bool false)]), lvL w ls ld zs zd a b c d :: H))) 0 (fr8a (slA 1 lt tr) 0) (lvL w ls ld zs zd a b c d :: H) (.ok (.normal, hints (fr8a (slA 1 lt tr) (Int.ofNat ls) ++ [(65, .bool false)]), lvL w ls ld zs zd a b c d :: H))) noRT [(bathA w ls zs ld zd, none), (slU lb zb, none), (.agg (.I .u8 [a, b]), none), (.agg (.I .u8 [c, d]), none)] H =
  Tr.ite (ltI (Int.ofNat 15) (Int.ofNat ls)) (Tr.reqP True (Tr.ok ((AV.bool true, none), H))) (Tr.ite (notB (ltI (Int.ofNat 50) (Int.ofNat ld))) (Tr.reqP (bathA w ls zs ld zd = bathA w ls zs ld zd) (Tr.ite (notB (eqI e0 (Int.ofNat 0))) (Tr.reqP True (Tr.ok ((AV.bool true, none), H))) (Tr.ite (ltI (Int.ofNat 60) (Int.ofNat lb)) (Tr.reqP True (Tr.ok ((AV.bool true, none), H))) (Tr.reqP (bathA w ls zs ld zd = bathA w ls zs ld zd ∧ AV.slcT none (Row.M [Seg.arr IntKind.u16 zb lb]) 1 lb false = AV.slcT none (Row.M [Seg.arr IntKind.u16 zb lb]) 1 lb false) (Tr.reqP (bathA w ls zs ld zd = bathA w ls zs ld zd ∧ a = a ∧ b = b) (Tr.reqP (bathA w ls zs ld zd = bathA w ls zs ld zd ∧ sd p q) (Tr.ite (notB (eqI (e p q) (Int.ofNat 0))) (Tr.ok ((AV.bool false, some 1), H)) (Tr.reqP (bathA w ls zs ld zd = bathA w ls zs ld zd ∧ slA 1 lt tr = slA 1 lt tr ∧ sd p q) (Tr.ite (notB (tv p q (k p q))) (Tr.ok ((AV.bool false, some 1), H)) (Tr.reqP ([(4, AV.ptr 0 0 0 0), (7, AV.ptr 0 2 0 0), (9, slA 1 lt tr), (14, AV.int .i64 (Int.ofNat 0))] = [(4, AV.ptr 0 0 0 0), (7, AV.ptr 0 2 0 0), (9, slA 1 lt tr), (14, AV.int .i64 (Int.ofNat 0))] ∧ lvL w ls ld zs zd a b c d :: H = lvL w ls ld zs zd a b c d :: H) (Tr.ite (ltI (Int.ofNat ld) (Int.ofNat 2)) (Tr.reqP True (Tr.ok ((AV.bool true, none), H))) (Tr.req (inI (Int.ofNat 0) 2) (Tr.req (notB (eqI (Int.ofNat ld) (Int.ofNat 0))) (Tr.req (inI (Int.ofNat 1) 2) (Tr.req (notB (eqI (subI .i64 (Int.ofNat ld) (Int.ofNat 1)) (Int.ofNat 0))) (Tr.req (notB (eqI (Int.ofNat ld) (Int.ofNat 0))) (Tr.reqP (bathA w ls zs ld zd = bathA w ls zs ld zd ∧ True) (Tr.ite (notB (eqI (be (remI IntKind.i64 (wrI IntKind.i64 c) (Int.ofNat ld)) (remI IntKind.i64 (addI .i64 (addI .i64 (remI IntKind.i64 (wrI IntKind.i64 c) (Int.ofNat ld)) (Int.ofNat 1)) (remI IntKind.i64 (wrI IntKind.i64 d) (subI .i64 (Int.ofNat ld) (Int.ofNat 1)))) (Int.ofNat ld))) (Int.ofNat 0))) (Tr.ok ((AV.bool false, some 1), H)) (Tr.reqP ([(4, AV.ptr 0 0 0 0), (9, slA 1 lt tr), (18, AV.int .i64 (remI IntKind.i64 (wrI IntKind.i64 c) (Int.ofNat ld))), (19, AV.int .i64 (remI IntKind.i64 (addI .i64 (addI .i64 (remI IntKind.i64 (wrI IntKind.i64 c) (Int.ofNat ld)) (Int.ofNat 1)) (remI IntKind.i64 (wrI IntKind.i64 d) (subI .i64 (Int.ofNat ld) (Int.ofNat 1)))) (Int.ofNat ld))), (20, AV.int .i64 (bk (remI IntKind.i64 (wrI IntKind.i64 c) (Int.ofNat ld)) (remI IntKind.i64 (addI .i64 (addI .i64 (remI IntKind.i64 (wrI IntKind.i64 c) (Int.ofNat ld)) (Int.ofNat 1)) (remI IntKind.i64 (wrI IntKind.i64 d) (subI .i64 (Int.ofNat ld) (Int.ofNat 1)))) (Int.ofNat ld)))), (21, AV.bool false), (22, AV.bool true), (23, AV.int .i64 (Int.ofNat 0))] = [(4, AV.ptr 0 0 0 0), (9, slA 1 lt tr), (18, AV.int .i64 D), (19, AV.int .i64 F), (20, AV.int .i64 (bk D F)), (21, AV.bool false), (22, AV.bool true), (23, AV.int .i64 (Int.ofNat 0))] ∧ lvL w ls ld zs zd a b c d :: H = lvL w ls ld zs zd a b c d :: H) (Tr.req (inI D ld) (Tr.req (ltN (idO 0 D 3) (mulO ld 3)) (Tr.req (inI F ld) (Tr.req (ltN (idO 0 F 3) (mulO ld 3)) (Tr.ite (eqI (zd (idO 0 D 3)) (zd (idO 0 F 3))) (Tr.ite (eqB (eqI (bk D F) (Int.ofNat 2)) (notB bw)) (Tr.ite (eqB (eqI (bk D F) (Int.ofNat 0)) bw) (Tr.reqP True (Tr.ok ((AV.bool true, none), H))) (Tr.ok ((AV.bool false, some 1), H))) (Tr.ok ((AV.bool false, some 1), H))) (Tr.ite (notB fs) (Tr.ite (eqI (bk D F) (Int.ofNat 0)) (Tr.reqP True (Tr.ok ((AV.bool true, none), H))) (Tr.ok ((AV.bool false, some 1), H))) (Tr.req (inI D ld) (Tr.req (ltN (idO 0 D 3) (mulO ld 3)) (Tr.req (inI F ld) (Tr.req (ltN (idO 0 F 3) (mulO ld 3)) (Tr.reqP (bathA w ls zs ld zd = bathA w ls zs ld zd ∧ slA 1 lt tr = slA 1 lt tr ∧ sd (zd (idO 0 D 3)) (zd (idO 0 F 3))) (Tr.ite (tv (zd (idO 0 D 3)) (zd (idO 0 F 3)) (bk D F)) (Tr.reqP True (Tr.ok ((AV.bool true, none), H))) (Tr.ok ((AV.bool false, some 1), H))))))))))))))))))))))))))))))))) (Tr.reqP True (Tr.ok ((AV.bool true, none), H)))) := by kernel_rfl
theorem u8n (n : Nat) (w : Int) (ls ld lb : Nat) (zs zd zb : Nat → Int) (H : Heap) (a b c d p q e0 : Int) (k e : Int → Int → Int) (tv : Int → Int → Int → Bool) (sd : Int → Int → Prop) : bodyT Try.prog (cd (n+20)) 100000 8 Try.f8 (Kt.kt 8) (il (ctG (ctG (ctG (ctG (ctG (ctG (ctG noCt 16 g16) 20 (g20 (bathA w ls zs ld zd) e0)) 21 (gKf (bathA w ls zs ld zd) sd k e)) 23 (fun _ => none)) 42 (g42 (bathA w ls zs ld zd) (slU lb zb) .nils)) 43 (g43t (bathA w ls zs ld zd) a b p q)) 44 (g44 (bathA w ls zs ld zd) .nils sd tv)) (n+18) 2) (blkE noBT 0 (fr8a .nils 0) (lvL w ls ld zs zd a b c d :: H) (.ok (.normal, hints (fr8a .nils (Int.ofNat ls) ++ [(65, .bool false)]), lvL w ls ld zs zd a b c d :: H))) noRT [(bathA w ls zs ld zd, none), (slU lb zb, none), (.agg (.I .u8 [a, b]), none), (.agg (.I .u8 [c, d]), none)] H =
  Tr.ite (ltI (Int.ofNat 15) (Int.ofNat ls)) (Tr.reqP True (Tr.ok ((AV.bool true, none), H))) (Tr.ite (notB (ltI (Int.ofNat 50) (Int.ofNat ld))) (Tr.reqP (bathA w ls zs ld zd = bathA w ls zs ld zd) (Tr.ite (notB (eqI e0 (Int.ofNat 0))) (Tr.reqP True (Tr.ok ((AV.bool true, none), H))) (Tr.ite (ltI (Int.ofNat 60) (Int.ofNat lb)) (Tr.reqP True (Tr.ok ((AV.bool true, none), H))) (Tr.reqP (bathA w ls zs ld zd = bathA w ls zs ld zd ∧ AV.slcT none (Row.M [Seg.arr IntKind.u16 zb lb]) 1 lb false = AV.slcT none (Row.M [Seg.arr IntKind.u16 zb lb]) 1 lb false) (Tr.reqP (bathA w ls zs ld zd = bathA w ls zs ld zd ∧ a = a ∧ b = b) (Tr.reqP (bathA w ls zs ld zd = bathA w ls zs ld zd ∧ sd p q) (Tr.ite (notB (eqI (e p q) (Int.ofNat 0))) (Tr.ok ((AV.bool false, some 1), H)) (Tr.reqP (bathA w ls zs ld zd = bathA w ls zs ld zd ∧ AV.nils = AV.nils ∧ sd p q) (Tr.ite (notB (tv p q (k p q))) (Tr.ok ((AV.bool false, some 1), H)) (Tr.reqP ([(4, AV.ptr 0 0 0 0), (7, AV.ptr 0 2 0 0), (9, AV.nils), (14, AV.int .i64 (Int.ofNat 0))] = [(4, AV.ptr 0 0 0 0), (7, AV.ptr 0 2 0 0), (9, AV.nils), (14, AV.int .i64 (Int.ofNat 0))] ∧ lvL w ls ld zs zd a b c d :: H = lvL w ls ld zs zd a b c d :: H) (Tr.ite (ltI (Int.ofNat ld) (Int.ofNat 2)) (Tr.reqP True (Tr.ok ((AV.bool true, none), H))) (Tr.req (inI (Int.ofNat 0) 2) (Tr.req (notB (eqI (Int.ofNat ld) (Int.ofNat 0))) (Tr.req (inI (Int.ofNat 1) 2) (Tr.req (notB (eqI (subI .i64 (Int.ofNat ld) (Int.ofNat 1)) (Int.ofNat 0))) (Tr.req (notB (eqI (Int.ofNat ld) (Int.ofNat 0))) Tr.bad)))))))))))))))) (Tr.reqP True (Tr.ok ((AV.bool true, none), H)))) := by kernel_rfl
theorem u8x (n : Nat) (w : Int) (ls ld lb : Nat) (zs zd zb : Nat → Int) (H : Heap) (a b c d e0 : Int) : bodyT Try.prog (cd (n+20)) 100000 8 Try.f8 (Kt.kt 8) (il (ctG (ctG (ctG noCt 16 g16) 20 (g20 (bathA w ls zs ld zd) e0)) 42 (fun _ => none)) (n+18) 2) noBT noRT [(bathA w ls zs ld zd, none), (slU lb zb, none), (.agg (.I .u8 [a, b]), none), (.agg (.I .u8 [c, d]), none)] H =
  Tr.ite (ltI (Int.ofNat 15) (Int.ofNat ls)) (Tr.reqP True (Tr.ok ((AV.bool true, none), H))) (Tr.ite (notB (ltI (Int.ofNat 50) (Int.ofNat ld))) (Tr.reqP (bathA w ls zs ld zd = bathA w ls zs ld zd) (Tr.ite (notB (eqI e0 (Int.ofNat 0))) (Tr.reqP True (Tr.ok ((AV.bool true, none), H))) (Tr.ite (ltI (Int.ofNat 60) (Int.ofNat lb)) (Tr.reqP True (Tr.ok ((AV.bool true, none), H))) Tr.bad))) (Tr.reqP True (Tr.ok ((AV.bool true, none), H)))) := by kernel_rfl
/-- Is a drop on the spot of the one between the two? Is none before them on their spots? -/
def bwN (zd : Nat → Int) (D F : Int) : Nat → Bool
  | 0 => false
  | j + 1 => bwN zd D F j || (decide (zd (j * 3) = zd (D.toNat * 3)) && (decide (min D F < (j : Int)) && decide ((j : Int) < max D F)))
def fsN (zd : Nat → Int) (D F : Int) : Nat → Bool
  | 0 => true
  | j + 1 => fsN zd D F j && !(decide (zd (j * 3) = zd (D.toNat * 3)) && decide ((j : Int) < D)) && !(decide (zd (j * 3) = zd (F.toNat * 3)) && decide ((j : Int) < F))
section
variable (n : Nat) (w : Int) (ls ld lt : Nat) (zs zd tr : Nat → Int) (H : Heap) (a b c d D F K : Int)
theorem l8b (hl : ld ≤ 40) (hD : 0 ≤ D ∧ D < ld) (hF : 0 ≤ F ∧ F < ld) : exec (cxD (n + 20) 8 250) (.block 2 (.loop (part Try.f8 [1, 1, 1, 1, 1, 1, 1, 1, 1, 1, 1, 1, 1, 0, 1, 0, 0]))) (fr8b (slA 1 lt tr) D F K false true 0) (lvL w ls ld zs zd a b c d :: H) = some (.normal, fr8b (slA 1 lt tr) D F K (bwN zd D F ld) (fsN zd D F ld) (ld : Int) ++ [(132, .bool false)], lvL w ls ld zs zd a b c d :: H) := by
  refine forT (il_no (n + 18) 2) (noBT_ok _ _) (noRT_ok _ _) 2 (fun j => fr8b (slA 1 lt tr) D F K (bwN zd D F j) (fsN zd D F j) (j : Int)) (fun _ => lvL w ls ld zs zd a b c d :: H) ld (fr8b (slA 1 lt tr) D F K (bwN zd D F ld) (fsN zd D F ld) (ld : Int) ++ [(132, .bool false)], lvL w ls ld zs zd a b c d :: H) (by omega) (fun j hj => ?_) ?_
  · have key : ∀ X Y Z, X = bwN zd D F (j + 1) → Y = fsN zd D F (j + 1) → Z = ((j + 1 : Nat) : Int) → (fr8b (slA 1 lt tr) D F K X Y Z, lvL w ls ld zs zd a b c d :: H) = (fr8b (slA 1 lt tr) D F K (bwN zd D F (j + 1)) (fsN zd D F (j + 1)) ((j + 1 : Nat) : Int), lvL w ls ld zs zd a b c d :: H) := by
      rintro _ _ _ rfl rfl rfl; rfl
    rw [t8b]
    have ej : addI .i64 (j : Int) (Int.ofNat 1) = ((j + 1 : Nat) : Int) := by rw [addI_eq, show Int.ofNat 1 = 1 from rfl]; exact wr_64 (by omega) (by omega)
    repeat' first | (refine Tr.all_ite (fun hc => ?_) (fun hc => ?_) <;> (try simp (disch := omega) only [nV, mulO_eq, Int.cast_ofNat_Int, eq_self] at hc) <;> (try (exfalso; omega))) | (refine Tr.all_req ?_ ?_; · ((try simp (disch := omega) only [nV, mulO_eq, Int.cast_ofNat_Int, eq_self]); try omega)) | (refine Tr.all_reqP ?_ ?_; · first | exact trivial | rfl | exact ⟨rfl, rfl⟩ | exact ⟨rfl, rfl, rfl⟩ | (simp (disch := omega) only [nV, mulO_eq, Int.cast_ofNat_Int, eq_self]; done) | ((try simp (disch := omega) only [nV, mulO_eq, Int.cast_ofNat_Int, eq_self]); omega)) | fail
    all_goals
      refine Tr.all_ok ⟨rfl, key _ _ _ ?_ ?_ ej⟩
    all_goals
      simp only [bwN, fsN, ltI_eq, notB_eq, maxO_max]
      simp_all
    all_goals omega
  · rw [t8b]
    repeat' first | (refine Tr.all_ite (fun hc => ?_) (fun hc => ?_) <;> (try simp (disch := omega) only [nV, mulO_eq, Int.cast_ofNat_Int, eq_self] at hc) <;> (try (exfalso; omega))) | (refine Tr.all_req ?_ ?_; · ((try simp (disch := omega) only [nV, mulO_eq, Int.cast_ofNat_Int, eq_self]); try omega)) | (refine Tr.all_reqP ?_ ?_; · first | exact trivial | rfl | exact ⟨rfl, rfl⟩ | exact ⟨rfl, rfl, rfl⟩ | (simp (disch := omega) only [nV, mulO_eq, Int.cast_ofNat_Int, eq_self]; done) | ((try simp (disch := omega) only [nV, mulO_eq, Int.cast_ofNat_Int, eq_self]); omega)) | fail
    exact Tr.all_ok ⟨rfl, rfl, rfl⟩
end
end Go.Eng
end
section
namespace Go.Eng
open Go.Proofs
set_option linter.unusedVariables false
set_option linter.unusedSimpArgs false
set_option maxRecDepth 100000
theorem size_in {w : Int} {ls ld : Nat} {zs zd : Nat → Int} {s : Int} (h : chkB w ls ld zs zd = 0) (hs : 0 ≤ s ∧ s < ls) : sizeN w ls ld zs zd s = (szE false zd ld s, szE true zd ld s, 0) := by
  unfold sizeN
  rw [if_neg (fun x => x h), if_neg (by omega)]
section
variable (n : Nat) (w : Int) (ls ld lb : Nat) (zs zd zb : Nat → Int) (H : Heap) (a b c d : Int)
theorem il8a (T : AV) (hT : T = truV lb zb zd ld) (h2 : ld < 2 ^ 16) : (il (ctG (ctG noCt 17 (gSf (bathA w ls zs ld zd) (fun s => (sizeN w ls ld zs zd s).1) (fun s => (sizeN w ls ld zs zd s).2.1) (fun s => (sizeN w ls ld zs zd s).2.2))) 45 (g45t (bathA w ls zs ld zd) T True (soT lb zb zd ld))) (n+18) 2).Ok (cd (n + 20)) := by
  subst hT
  refine il_ok _ (n + 18) 2 (fun k => ctG_ok (ctG_ok (noCt_ok _) (fun args p v hg hp H => ?_)) (fun args p v hg hp H => ?_))
  · unfold gSf at hg
    split at hg
    · simp only [Option.some.injEq, Prod.mk.injEq] at hg
      obtain ⟨rfl, rfl⟩ := hg
      subst hp
      rw [show n + 18 + k = n + 5 + k + 13 by omega, ← sizeN_eq]
      exact c17 _ w ls ld zs zd H _
    · cases hg
  · unfold g45t at hg
    split at hg
    · simp only [Option.some.injEq, Prod.mk.injEq] at hg
      obtain ⟨rfl, rfl⟩ := hg
      obtain ⟨rfl, rfl, _⟩ := hp
      rw [show n + 18 + k = n + 17 + k + 1 by omega]
      exact c45t _ w ls ld lb zs zd zb H _ h2
    · cases hg
theorem l8a (h : chkB w ls ld zs zd = 0) (hb : ∀ i, 0 ≤ zb i ∧ zb i ≤ 65535) : exec (cxD (n + 20) 8 250) (.block 0 (.loop (part Try.f8 [1, 1, 1, 1, 1, 1, 0, 1, 0, 0]))) (fr8a (truV lb zb zd ld) 0) (lvL w ls ld zs zd a b c d :: H) = some (.normal, fr8a (truV lb zb zd ld) (ls : Int) ++ [(65, .bool false)], lvL w ls ld zs zd a b c d :: H) := by
  obtain ⟨h1, h2, h3, h4, h5, h6⟩ := chk_ok h
  have e1 : ∀ s : Int, 0 ≤ s ∧ s < ls → sizeN w ls ld zs zd s = (szE false zd ld s, szE true zd ld s, 0) := fun s hs => size_in h hs
  have e2 := so_mid (lb := lb) h6 (by omega) hb
  have hJ : ∀ j : Nat, j < ls → addI .i64 (j : Int) (Int.ofNat 1) = ((j + 1 : Nat) : Int) := fun j hj => by rw [addI_eq, show Int.ofNat 1 = 1 from rfl]; exact wr_64 (by omega) (by omega)
  cases ld with
  | zero =>
    have il := il8a n w ls 0 lb zs zd zb .nils rfl (by omega)
    refine forT il (noBT_ok _ _) (noRT_ok _ _) 0 (fun j => fr8a .nils (j : Int)) (fun _ => lvL w ls 0 zs zd a b c d :: H) ls (fr8a .nils (ls : Int) ++ [(65, .bool false)], lvL w ls 0 zs zd a b c d :: H) (by omega) (fun j hj => ?_) ?_
    · have f1 := e1 j (by omega)
      have f2 := e2 j
      rw [t8n]
      repeat' first | (refine Tr.all_ite (fun hc => ?_) (fun hc => ?_) <;> (try simp (disch := omega) only [nV, mulO_eq, Int.cast_ofNat_Int, eq_self, f1] at hc) <;> (try (exfalso; omega))) | (refine Tr.all_req ?_ ?_; · ((try simp (disch := omega) only [nV, mulO_eq, Int.cast_ofNat_Int, eq_self, f1]); try omega)) | (refine Tr.all_reqP ?_ ?_; · first | exact trivial | rfl | exact ⟨rfl, rfl⟩ | exact ⟨rfl, rfl, rfl⟩ | (simp (disch := omega) only [nV, mulO_eq, Int.cast_ofNat_Int, eq_self, f1]; done) | ((try simp (disch := omega) only [nV, mulO_eq, Int.cast_ofNat_Int, eq_self, f1]); omega)) | fail
      refine Tr.all_ok ⟨rfl, ?_⟩
      rw [hJ j hj]; rfl
    · rw [t8n]
      repeat' first | (refine Tr.all_ite (fun hc => ?_) (fun hc => ?_) <;> (try simp (disch := omega) only [nV, mulO_eq, Int.cast_ofNat_Int, eq_self] at hc) <;> (try (exfalso; omega))) | (refine Tr.all_req ?_ ?_; · ((try simp (disch := omega) only [nV, mulO_eq, Int.cast_ofNat_Int, eq_self]); try omega)) | (refine Tr.all_reqP ?_ ?_; · first | exact trivial | rfl | exact ⟨rfl, rfl⟩ | exact ⟨rfl, rfl, rfl⟩ | (simp (disch := omega) only [nV, mulO_eq, Int.cast_ofNat_Int, eq_self]; done) | ((try simp (disch := omega) only [nV, mulO_eq, Int.cast_ofNat_Int, eq_self]); omega)) | fail
      exact Tr.all_ok ⟨rfl, rfl, rfl⟩
  | succ m =>
    have il := il8a n w ls (m + 1) lb zs zd zb (slA 1 (m + 1) (upto (truS lb zb zd) (m + 1))) rfl (by omega)
    refine forT il (noBT_ok _ _) (noRT_ok _ _) 0 (fun j => fr8a (slA 1 (m + 1) (upto (truS lb zb zd) (m + 1))) (j : Int)) (fun _ => lvL w ls (m + 1) zs zd a b c d :: H) ls (fr8a (slA 1 (m + 1) (upto (truS lb zb zd) (m + 1))) (ls : Int) ++ [(65, .bool false)], lvL w ls (m + 1) zs zd a b c d :: H) (by omega) (fun j hj => ?_) ?_
    · have f1 := e1 j (by omega)
      have f2 := e2 j
      rw [t8a]
      repeat' first | (refine Tr.all_ite (fun hc => ?_) (fun hc => ?_) <;> (try simp (disch := omega) only [nV, mulO_eq, Int.cast_ofNat_Int, eq_self, f1] at hc) <;> (try (exfalso; omega))) | (refine Tr.all_req ?_ ?_; · ((try simp (disch := omega) only [nV, mulO_eq, Int.cast_ofNat_Int, eq_self, f1]); try omega)) | (refine Tr.all_reqP ?_ ?_; · first | exact trivial | rfl | exact ⟨rfl, rfl⟩ | exact ⟨rfl, rfl, rfl⟩ | (simp (disch := omega) only [nV, mulO_eq, Int.cast_ofNat_Int, eq_self, f1]; done) | ((try simp (disch := omega) only [nV, mulO_eq, Int.cast_ofNat_Int, eq_self, f1]); omega)) | fail
      refine Tr.all_ok ⟨rfl, ?_⟩
      rw [hJ j hj]; rfl
    · rw [t8a]
      repeat' first | (refine Tr.all_ite (fun hc => ?_) (fun hc => ?_) <;> (try simp (disch := omega) only [nV, mulO_eq, Int.cast_ofNat_Int, eq_self] at hc) <;> (try (exfalso; omega))) | (refine Tr.all_req ?_ ?_; · ((try simp (disch := omega) only [nV, mulO_eq, Int.cast_ofNat_Int, eq_self]); try omega)) | (refine Tr.all_reqP ?_ ?_; · first | exact trivial | rfl | exact ⟨rfl, rfl⟩ | exact ⟨rfl, rfl, rfl⟩ | (simp (disch := omega) only [nV, mulO_eq, Int.cast_ofNat_Int, eq_self]; done) | ((try simp (disch := omega) only [nV, mulO_eq, Int.cast_ofNat_Int, eq_self]); omega)) | fail
      exact Tr.all_ok ⟨rfl, rfl, rfl⟩
end
end Go.Eng
end
section
namespace Go.Eng
open Go.Proofs
set_option linter.unusedVariables false
set_option linter.unusedSimpArgs false
set_option maxRecDepth 100000
theorem bothR_sym {a c x y x' y' : Int} (ha : 0 ≤ a ∧ a ≤ 1000000) (hc : 0 ≤ c ∧ c ≤ 1000000) (hx : 0 ≤ x ∧ x ≤ 1000) (hy : 0 ≤ y ∧ y ≤ 1000) (hx' : 0 ≤ x' ∧ x' ≤ 1000) (hy' : 0 ≤ y' ∧ y' ≤ 1000) : bothR a c x y x' y' = bothR c a x' y' x y := by
  have s1 := sq_le (k := x - x') (M := 1000) (by omega) (by omega)
  have s2 := sq_le (k := y - y') (M := 1000) (by omega) (by omega)
  have e1 : IntKind.i64.wrap (x - x') = x - x' := wr_in (by omega) (by omega)
  have e2 : IntKind.i64.wrap (y - y') = y - y' := wr_in (by omega) (by omega)
  have e3 : IntKind.i64.wrap (x' - x) = -(x - x') := by rw [wr_in (by omega) (by omega)]; omega
  have e4 : IntKind.i64.wrap (y' - y) = -(y - y') := by rw [wr_in (by omega) (by omega)]; omega
  have pr : ∀ u v : Int, 0 ≤ u → u ≤ 1000000 → 0 ≤ v → v ≤ 1000000 → 0 ≤ 4 * u * v ∧ 4 * u * v ≤ 4000000000000 := fun u v h1 h2 h3 h4 => by
    constructor
    · exact Int.mul_nonneg (by omega) h3
    · exact Int.le_trans (Int.mul_le_mul (show 4 * u ≤ 4000000 by omega) h4 h3 (by omega)) (by omega)
  have q1 := pr a c ha.1 ha.2 hc.1 hc.2
  have q2 : 4 * c * a = 4 * a * c := by rw [Int.mul_assoc, Int.mul_comm c a, ← Int.mul_assoc]
  unfold bothR
  simp only [e1, e2, e3, e4, Int.neg_mul_neg]
  generalize (x - x') * (x - x') = X at s1 ⊢
  generalize (y - y') * (y - y') = Y at s2 ⊢
  rw [wr_in (k := X) (by omega) (by omega), wr_in (k := Y) (by omega) (by omega), wr_in (k := X + Y) (by omega) (by omega), wr_in (k := X + Y - a) (by omega) (by omega), wr_in (k := X + Y - c) (by omega) (by omega), wr_in (k := X + Y - a - c) (by omega) (by omega), show X + Y - c - a = X + Y - a - c by omega, wr_in (k := X + Y - a - c) (by omega) (by omega), Int.add_comm c a, wr_in (k := 4 * a) (by omega) (by omega), wr_in (k := 4 * c) (by omega) (by omega), q2]
theorem touch_sym {w : Int} {ls : Nat} {zs : Nat → Int} {so : Int → Int} {p q : Int} (hB : TouchB ls zs so p q) (hp : 0 ≤ p) (hq : 0 ≤ q) : touchT w zs so p q = touchT w zs so q p := by
  obtain ⟨h1, h2, h3, h4⟩ := hB
  have g1 := h3 p.toNat (by omega)
  have g2 := h3 q.toNat (by omega)
  unfold spotB at g1 g2
  unfold touchT
  simp only [show ¬ p < 0 by omega, show ¬ q < 0 by omega, and_self, if_false, show ¬ q = -2 by omega, show ¬ p = -2 by omega, if_pos hq, if_pos hp]
  rw [both_eq (h4 p) (h4 q) (by omega) (by omega) (by omega) (by omega), both_eq (h4 q) (h4 p) (by omega) (by omega) (by omega) (by omega), bothR_sym (h4 p) (h4 q) (by omega) (by omega) (by omega) (by omega)]
  by_cases z1 : so p = 0 <;> by_cases z2 : so q = 0 <;> simp [z1, z2]
theorem tld_sym {w : Int} {ls ld lb : Nat} {zs zd zb : Nat → Int} {p q k : Int} (h : chkB w ls ld zs zd = 0) (hb : ∀ i, 0 ≤ zb i ∧ zb i ≤ 65535) (hp : 0 ≤ p ∧ p < ls) (hq : 0 ≤ q ∧ q < ls) : tldB w ld zs zd (soT lb zb zd ld) p q k = tldB w ld zs zd (soT lb zb zd ld) q p k ∧ kndR w ld zs zd p q = kndR w ld zs zd q p := by
  have ip : isPl ls p = true := by simp [isPl]; omega
  have iq : isPl ls q = true := by simp [isPl]; omega
  have k1 := (knd_ok (p := p) (q := q) h ip iq).2
  have k2 := tru_touchB (lb := lb) (p := p) (q := q) h hb ip iq
  unfold tldB kndR
  rw [touch_sym (k1 false) hp.1 hq.1, touch_sym (k1 true) hp.1 hq.1, touch_sym k2 hp.1 hq.1]
  exact ⟨rfl, rfl⟩
theorem bwN_iff {zd : Nat → Int} {D F : Int} : ∀ {N : Nat}, bwN zd D F N = true ↔ ∃ i : Nat, i < N ∧ zd (i * 3) = zd (D.toNat * 3) ∧ min D F < i ∧ (i : Int) < max D F
  | 0 => ⟨fun h => (by cases h), fun ⟨i, h, _⟩ => by omega⟩
  | N + 1 => by
    unfold bwN
    rw [Bool.or_eq_true, bwN_iff (N := N), Bool.and_eq_true, Bool.and_eq_true, decide_eq_true_eq, decide_eq_true_eq, decide_eq_true_eq]
    constructor
    · rintro (⟨i, h1, h2⟩ | h)
      · exact ⟨i, by omega, h2⟩
      · exact ⟨N, by omega, h⟩
    · rintro ⟨i, h1, h2⟩
      by_cases e : i = N
      · subst e; exact .inr h2
      · exact .inl ⟨i, by omega, h2⟩
theorem fsN_iff {zd : Nat → Int} {D F : Int} : ∀ {N : Nat}, fsN zd D F N = false ↔ ∃ i : Nat, i < N ∧ ((zd (i * 3) = zd (D.toNat * 3) ∧ (i : Int) < D) ∨ (zd (i * 3) = zd (F.toNat * 3) ∧ (i : Int) < F))
  | 0 => ⟨fun h => (by cases h), fun ⟨i, h, _⟩ => by omega⟩
  | N + 1 => by
    unfold fsN
    simp only [Bool.and_eq_false_iff, Bool.not_eq_false', fsN_iff (N := N), Bool.and_eq_true, decide_eq_true_eq]
    constructor
    · rintro ((⟨i, h1, h2⟩ | h) | h)
      · exact ⟨i, by omega, h2⟩
      · exact ⟨N, by omega, .inl h⟩
      · exact ⟨N, by omega, .inr h⟩
    · rintro ⟨i, h1, h2⟩
      by_cases e : i = N
      · subst e
        rcases h2 with h2 | h2
        · exact .inl (.inr h2)
        · exact .inr h2
      · exact .inl (.inl ⟨i, by omega, h2⟩)
/-- What is told of two drops. -/
theorem bes_told {w : Int} {ls ld lb : Nat} {zs zd zb : Nat → Int} {D F : Int} (h : chkB w ls ld zs zd = 0) (hb : ∀ i, 0 ≤ zb i ∧ zb i ≤ 65535) (hD : 0 ≤ D ∧ D < ld) (hF : 0 ≤ F ∧ F < ld) (hDF : D ≠ F) :
    bsE w ls ld zs zd D F = 0 ∧ (zd (D.toNat * 3) = zd (F.toNat * 3) → bsK w ls ld zs zd D F = if bwN zd D F ld = true then 0 else 2) ∧
    (zd (D.toNat * 3) ≠ zd (F.toNat * 3) → fsN zd D F ld = false → bsK w ls ld zs zd D F = 0) ∧
    (zd (D.toNat * 3) ≠ zd (F.toNat * 3) → fsN zd D F ld = true → tldB w ld zs zd (soT lb zb zd ld) (zd (D.toNat * 3)) (zd (F.toNat * 3)) (bsK w ls ld zs zd D F) = true) := by
  have hd := (chk_drops h).2.2
  have d1 := hd D.toNat (by omega)
  have d2 := hd F.toNat (by omega)
  have eE : bsE w ls ld zs zd D F = 0 := by unfold bsE; rw [if_neg (fun x => x h), if_pos (by omega)]
  have eK : bsK w ls ld zs zd D F = bsO w ld zs zd (min D F).toNat (max D F).toNat := by unfold bsK; rw [if_neg (fun x => x eE)]
  refine ⟨eE, fun e => ?_, fun e hf => ?_, fun e hf => ?_⟩
  · have em : zd ((min D F).toNat * 3) = zd (D.toNat * 3) := by
      by_cases x : D ≤ F
      · rw [Int.min_eq_left x]
      · rw [Int.min_eq_right (by omega), e]
    have eM : zd ((max D F).toNat * 3) = zd (D.toNat * 3) := by
      by_cases x : D ≤ F
      · rw [Int.max_eq_right x, e]
      · rw [Int.max_eq_left (by omega)]
    rw [eK]
    unfold bsO
    rw [em, eM, if_pos rfl]
    have : exN (eqD (shO zd (((min D F).toNat + 1) * 3)) (zd (D.toNat * 3))) ((max D F).toNat - ((min D F).toNat + 1)) = bwN zd D F ld := by
      rw [Bool.eq_iff_iff, exN_iff, bwN_iff]
      constructor
      · rintro ⟨i, h1, h2⟩
        unfold eqD at h2
        rw [shO_fn, beq_iff_eq] at h2
        dsimp only at h2
        refine ⟨(min D F).toNat + 1 + i, by omega, ?_, by omega, by omega⟩
        rw [← h2]
        congr 1; omega
      · rintro ⟨i, h1, h2, h3, h4⟩
        refine ⟨i - ((min D F).toNat + 1), by omega, ?_⟩
        unfold eqD
        rw [shO_fn, beq_iff_eq]
        dsimp only
        rw [← h2]
        congr 1; omega
    rw [this]
  · rw [eK]
    unfold bsO
    obtain ⟨i, h1, h2⟩ := fsN_iff.1 hf
    by_cases x : D ≤ F
    · rw [Int.min_eq_left x, Int.max_eq_right x, if_neg e, if_pos]
      rcases h2 with ⟨h2, h3⟩ | ⟨h2, h3⟩
      · exact .inl ((exN_iff _ _).2 ⟨i, by omega, by unfold eqD; rw [beq_iff_eq]; exact h2⟩)
      · exact .inr ((exN_iff _ _).2 ⟨i, by omega, by unfold eqD; rw [beq_iff_eq]; exact h2⟩)
    · rw [Int.min_eq_right (by omega), Int.max_eq_left (by omega), if_neg (fun y => e y.symm), if_pos]
      rcases h2 with ⟨h2, h3⟩ | ⟨h2, h3⟩
      · exact .inr ((exN_iff _ _).2 ⟨i, by omega, by unfold eqD; rw [beq_iff_eq]; exact h2⟩)
      · exact .inl ((exN_iff _ _).2 ⟨i, by omega, by unfold eqD; rw [beq_iff_eq]; exact h2⟩)
  · rw [eK]
    have nx : ∀ m : Int, (m = D ∨ m = F) → exN (eqD zd (zd (m.toNat * 3))) m.toNat = false := fun m hm => by
      cases hq : exN (eqD zd (zd (m.toNat * 3))) m.toNat with
      | false => rfl
      | true =>
        obtain ⟨i, h1, h2⟩ := (exN_iff _ _).1 hq
        unfold eqD at h2
        rw [beq_iff_eq] at h2
        have : fsN zd D F ld = false := fsN_iff.2 ⟨i, by omega, by
          rcases hm with rfl | rfl
          · exact .inl ⟨h2, by omega⟩
          · exact .inr ⟨h2, by omega⟩⟩
        rw [this] at hf; cases hf
    have p1 : isPl ls (zd (D.toNat * 3)) = true := by simp [isPl]; omega
    have p2 : isPl ls (zd (F.toNat * 3)) = true := by simp [isPl]; omega
    unfold bsO
    by_cases x : D ≤ F
    · rw [Int.min_eq_left x, Int.max_eq_right x, if_neg e, nx D (.inl rfl), nx F (.inr rfl), if_neg (by simp)]
      exact tld_knd h hb p1 p2
    · rw [Int.min_eq_right (by omega), Int.max_eq_left (by omega), if_neg (fun y => e y.symm), nx D (.inl rfl), nx F (.inr rfl), if_neg (by simp), (tld_sym (lb := lb) h hb d2 d1 (k := 0)).2]
      exact tld_knd h hb p1 p2
end Go.Eng
end
