/- Gall: the reference's ways: trees. -/
import Derived.Test.YtgphpjdchnfjlaaDoorV6Gahx19
import Derived.Test.YtgphpjdchnfjlaaDoorV6Gbjx18
set_option linter.unusedVariables false
set_option linter.unusedSimpArgs false
set_option maxRecDepth 100000
section
namespace Go.Eng
open Int (ofNat)
open Go.Proofs Go.Eng.Gall
noncomputable def xY (x k:Int):aC:=[(0,.int .i64 x),(3,.int .i64 k)]
noncomputable def uE (one two co pl:Int) (U M:Nat) (s:Int):aC:=[(1,.int .i64 one),(2,.int .i64 two),(3,.int .i64 co),(4,.int .i64 pl),(5,.ptr 0 0 0 0),(11,.int .i64 (ofNat U)),(12,.slc 0 1 0 0 1 M (some M)),(13,.int .i64 s)]
noncomputable def uD (one two co pl:Int) (U M:Nat) (s k c:Int):aC:=uE one two co pl U M s++[(14,.int .i64 k),(15,.int .i64 c)]
noncomputable def xT (one two co pl:Int) (U M:Nat) (s k c:Int) (g:Bool) (b:Int):aC:=uD one two co pl U M s k c++[(16,.bool g),(17,.int .i64 b)]
noncomputable def gS (O:Int) (U:Nat) (Z:Nat→Int) (V:Nat) (J:Nat→Int) (M:Nat) (z:Nat→Int):bG:=⟨false,[(0,.row (.G [.int .i64 O,slA 4 U Z,slA 2 V J])),(0,.row (.M [.arr .i64 z M]))]⟩
theorem t91 (n:Nat) (H:ab) (x k:Int):aS (bQ n 91 13) (il aF n 0) aR aQ (part Tryd.f91 [1,1,0,0,0]) (hints (xY x k)) (av::H) =
 Tr.ite (bM (ofNat 0) x) (Tr.req (bF (b9 (ofNat 2) (ofNat 0))) (Tr.req (bF (b9 (ofNat 2) (ofNat 0))) (Tr.ok (Ex.normal,[(0,AV.int .i64 (yU IntKind.i64 x (ofNat 2)),none),(3,AV.int .i64 (bm .i64 k (qY IntKind.i64 x (ofNat 2))),none)],av::H)))) (Tr.ok (Ex.exit 0,[(0,AV.int .i64 x,none),(3,AV.int .i64 k,none),(5,AV.bool false,some 1)],av::H)):=by kernel_rfl
theorem XI (n:Nat) (H:ab) (x k:Int):bg Tryd.prog (cd n) 100000 91 Tryd.f91 (KtG.kt 91) (il aF n 0) (cV aR 0 (xY x (ofNat 0)) (av::H) (.ok (.normal,hints (xY (ofNat 0) k++[(5,.bool false)]),av::H))) aQ [(.int .i64 x,none)] H =
 Tr.reqP ([(0,AV.int .i64 x),(3,iI 0)]=[(0,AV.int .i64 x),(3,iI 0)]∧av::H=av::H) (Tr.ok ((AV.int .i64 k,none),H)):=by kernel_rfl
theorem Xz (n:Nat) (O:Int) (U:Nat) (Z:Nat→Int) (V:Nat) (J:Nat→Int) (H:ab) (one two co pl:Int) (M:Nat) (z z2:Nat→Int) (s:Int):bg Tryd.prog (cd n) 100000 72 Tryd.f72 (KtG.kt 72) (il aF n 0) (cV aR 0 (uE one two co pl U M s) (gS O U Z V J M z::H) (.ok (.normal,hints (uE one two co pl U M (Int.negSucc 0)++[(33,.bool false)]),gS O U Z V J M z2::H))) aQ [(a8 O U Z V J,none),(.int .i64 one,none),(.int .i64 two,none),(.int .i64 co,none),(.int .i64 pl,none)] H =
 Tr.req (dp (ofNat 0) (ofNat U)) (Tr.req (Ec (cI IntKind.i64 (ofNat 1) (ofNat U)) (cI IntKind.i64 (ofNat 1) (ofNat U)) 8) (Tr.req (dp (ofNat 0) (ofNat U)) (Tr.req (c6 (bX .i64 (cI IntKind.i64 (ofNat 1) (ofNat U)) (ofNat 1)) (bY (cI IntKind.i64 (ofNat 1) (ofNat U)))) (Tr.req (cg 0 0) (Tr.req (cK (aw 0 (bX .i64 (cI IntKind.i64 (ofNat 1) (ofNat U)) (ofNat 1)) 1) (bY (cI IntKind.i64 (ofNat 1) (ofNat U)))) (Tr.req (dp (ofNat 0) (ofNat U)) (Tr.reqP ([(1,AV.int .i64 one),(2,AV.int .i64 two),(3,AV.int .i64 co),(4,AV.int .i64 pl),(5,AV.ptr 0 0 0 0),(11,iI U),(12,AV.slc 0 1 0 0 1 (bY (cI IntKind.i64 (ofNat 1) (ofNat U))) (some (bY (cI IntKind.i64 (ofNat 1) (ofNat U))))),(13,AV.int .i64 (bX .i64 (cI IntKind.i64 (ofNat 1) (ofNat U)) (ofNat 2)))]=[(1,AV.int .i64 one),(2,AV.int .i64 two),(3,AV.int .i64 co),(4,AV.int .i64 pl),(5,AV.ptr 0 0 0 0),(11,iI U),(12,AV.slc 0 1 0 0 1 M (some M)),(13,AV.int .i64 s)]∧(bz [(0,dk O U Z V J),(0,an.row (rM (dc (fun x=>ofNat 0) (aw 0 (bX .i64 (cI IntKind.i64 (ofNat 1) (ofNat U)) (ofNat 1)) 1) (ofNat 1)) (bY (cI IntKind.i64 (ofNat 1) (ofNat U)))))])::H=(gS O U Z V J M z)::H) (Tr.req (cg 0 0) (Tr.req (eD 0 M 0 M) (Tr.ok ((AV.slcT none (rM (rJ z2 0) M) 1 M (cg M M),none),H))))))))))):=by kernel_rfl
theorem SN (n:Nat) (O:Int) (U:Nat) (Z:Nat→Int) (V:Nat) (J:Nat→Int) (H:ab) (one two co pl:Int) (M:Nat) (z z2:Nat→Int) (s k:Int):aS (bQ n 72 115) (il (tX aF 91 [.int .i64 s] (.int .i64 k)) n 0) (cV aR 2 (uD one two co pl U M s k (ofNat 0)) (gS O U Z V J M z::H) (.ok (.normal,hints (uD one two co pl U M s k (ofNat U)++[(40,.bool false)]),gS O U Z V J M z2::H))) aQ (part Tryd.f72 [1,1,1,1,0,1,0,0]) (hints (uE one two co pl U M s)) (gS O U Z V J M z::H) =
 (fun (Z0:aC)=>Tr.ite (dp (ofNat 0) s) (Tr.reqP ([AV.int .i64 s]=[AV.int .i64 s]) (Tr.reqP (Z0=Z0∧(gS O U Z V J M z)::H=(gS O U Z V J M z)::H) (Tr.ok (Ex.normal,[(1,AV.int .i64 one,none),(2,AV.int .i64 two,none),(3,AV.int .i64 co,none),(4,AV.int .i64 pl,none),(5,AV.ptr 0 0 0 0,none),(11,iI U,none),(12,AV.slc 0 1 0 0 1 M (some M),none),(13,AV.int .i64 (bX .i64 s (ofNat 1)),none)],(bz [(0,dk O U Z V J),(0,an.row (rM z2 M))])::H)))) (Tr.ok (Ex.exit 0,[(1,AV.int .i64 one,none),(2,AV.int .i64 two,none),(3,AV.int .i64 co,none),(4,AV.int .i64 pl,none),(5,AV.ptr 0 0 0 0,none),(11,iI U,none),(12,AV.slc 0 1 0 0 1 M (some M),none),(13,AV.int .i64 s,none),(33,AV.bool false,some 1)],(gS O U Z V J M z)::H))) [(1,AV.int .i64 one),(2,AV.int .i64 two),(3,AV.int .i64 co),(4,AV.int .i64 pl),(5,AV.ptr 0 0 0 0),(11,iI U),(12,AV.slc 0 1 0 0 1 M (some M)),(13,AV.int .i64 s),(14,AV.int .i64 k),(15,iI 0)]:=by kernel_rfl
theorem Pr (n:Nat) (O:Int) (U:Nat) (Z:Nat→Int) (V:Nat) (J:Nat→Int) (H:ab) (one two co pl:Int) (M:Nat) (z z2:Nat→Int) (s:Int):aS (bQ n 72 115) (il aF n 0) (gf aR 2) aQ (part Tryd.f72 [1,1,1,1,0,1,0,0]) (hints (uE one two co pl U M s)) (gS O U Z V J M z::H) =
 Tr.ite (dp (ofNat 0) s) Tr.bad (Tr.ok (Ex.exit 0,[(1,AV.int .i64 one,none),(2,AV.int .i64 two,none),(3,AV.int .i64 co,none),(4,AV.int .i64 pl,none),(5,AV.ptr 0 0 0 0,none),(11,iI U,none),(12,AV.slc 0 1 0 0 1 M (some M),none),(13,AV.int .i64 s,none),(33,AV.bool false,some 1)],(gS O U Z V J M z)::H)):=by kernel_rfl
theorem SM (n:Nat) (O:Int) (U:Nat) (Z:Nat→Int) (V:Nat) (J:Nat→Int) (H:ab) (one two co pl:Int) (M:Nat) (z z2:Nat→Int) (s k c:Int) (q g:Bool):aS (bQ n 72 115) (il (tX aF 78 [a8 O U Z V J,.int .i64 c,.int .i64 k] (.bool q)) n 0) (cV aR 4 (xT one two co pl U M s k c true (ofNat 0)) (gS O U Z V J M z::H) (.ok (.normal,hints (xT one two co pl U M s k c g (ofNat U)++[(71,.bool false)]),(gS O U Z V J M z::H)))) aQ (part Tryd.f72 [1,1,1,1,0,1,0,0,1,0,0,1,1,0,0]) (hints (uD one two co pl U M s k c)) (gS O U Z V J M z::H) =
 (fun (Z0:aH)=>((fun (Z1:aC)=>((fun (Z2:bG)=>Tr.ite (bM c (ofNat U)) (Tr.req (dp (ofNat 0) c) (Tr.ite (b9 (lQ IntKind.i64 (zo IntKind.i64 s c) (ofNat 1)) (ofNat 1)) (Tr.ok (Ex.normal,Z0,(gS O U Z V J M z)::H)) (Tr.reqP ([a8 O U Z V J,AV.int .i64 c,AV.int .i64 k]=[a8 O U Z V J,AV.int .i64 c,AV.int .i64 k]) (Tr.ite (bF q) (Tr.ok (Ex.normal,Z0,(gS O U Z V J M z)::H)) (Tr.ite (b9 c co) (Tr.ite (dp (ofNat 0) pl) (Tr.ite (bF (b9 k pl)) (Tr.ok (Ex.normal,Z0,(gS O U Z V J M z)::H)) (Tr.reqP (Z1=Z1∧(gS O U Z V J M z)::H=(gS O U Z V J M z)::H) (Tr.ite g (Tr.req (c6 s M) (Tr.req (cg 0 0) (Tr.req (cK (aw 0 s 1) M) (Tr.req (dp (ofNat 0) c) (Tr.req (c6 (bm .i64 s (cI IntKind.i64 (ofNat 1) c)) M) (Tr.req (cg 0 0) (Tr.req (cK (aw 0 (bm .i64 s (cI IntKind.i64 (ofNat 1) c)) 1) M) (Tr.req (c6 s M) (Tr.req (cg 0 0) (Tr.req (cK (aw 0 s 1) M) (Tr.req (bV (fp 0 0) (fp 0 1)) (Tr.ok (Ex.normal,Z0,Z2::H))))))))))))) (Tr.ok (Ex.normal,Z0,(gS O U Z V J M z)::H))))) (Tr.reqP (Z1=Z1∧(gS O U Z V J M z)::H=(gS O U Z V J M z)::H) (Tr.ite g (Tr.req (c6 s M) (Tr.req (cg 0 0) (Tr.req (cK (aw 0 s 1) M) (Tr.req (dp (ofNat 0) c) (Tr.req (c6 (bm .i64 s (cI IntKind.i64 (ofNat 1) c)) M) (Tr.req (cg 0 0) (Tr.req (cK (aw 0 (bm .i64 s (cI IntKind.i64 (ofNat 1) c)) 1) M) (Tr.req (c6 s M) (Tr.req (cg 0 0) (Tr.req (cK (aw 0 s 1) M) (Tr.req (bV (fp 0 0) (fp 0 1)) (Tr.ok (Ex.normal,Z0,Z2::H))))))))))))) (Tr.ok (Ex.normal,Z0,(gS O U Z V J M z)::H))))) (Tr.reqP (Z1=Z1∧(gS O U Z V J M z)::H=(gS O U Z V J M z)::H) (Tr.ite g (Tr.req (c6 s M) (Tr.req (cg 0 0) (Tr.req (cK (aw 0 s 1) M) (Tr.req (dp (ofNat 0) c) (Tr.req (c6 (bm .i64 s (cI IntKind.i64 (ofNat 1) c)) M) (Tr.req (cg 0 0) (Tr.req (cK (aw 0 (bm .i64 s (cI IntKind.i64 (ofNat 1) c)) 1) M) (Tr.req (c6 s M) (Tr.req (cg 0 0) (Tr.req (cK (aw 0 s 1) M) (Tr.req (bV (fp 0 0) (fp 0 1)) (Tr.ok (Ex.normal,Z0,Z2::H))))))))))))) (Tr.ok (Ex.normal,Z0,(gS O U Z V J M z)::H))))))))) (Tr.ok (Ex.exit 2,[(1,AV.int .i64 one,none),(2,AV.int .i64 two,none),(3,AV.int .i64 co,none),(4,AV.int .i64 pl,none),(5,AV.ptr 0 0 0 0,none),(11,iI U,none),(12,AV.slc 0 1 0 0 1 M (some M),none),(13,AV.int .i64 s,none),(14,AV.int .i64 k,none),(15,AV.int .i64 c,none),(40,AV.bool false,some 1)],(gS O U Z V J M z)::H))) (bz [(0,dk O U Z V J),(0,an.row (rM (dc z (aw 0 s 1) (bm .i64 (z (aw 0 s 1)) (z (aw 0 (bm .i64 s (cI IntKind.i64 (ofNat 1) c)) 1)))) M))]))) [(1,AV.int .i64 one),(2,AV.int .i64 two),(3,AV.int .i64 co),(4,AV.int .i64 pl),(5,AV.ptr 0 0 0 0),(11,iI U),(12,AV.slc 0 1 0 0 1 M (some M)),(13,AV.int .i64 s),(14,AV.int .i64 k),(15,AV.int .i64 c),(16,AV.bool true),(17,iI 0)])) [(1,AV.int .i64 one,none),(2,AV.int .i64 two,none),(3,AV.int .i64 co,none),(4,AV.int .i64 pl,none),(5,AV.ptr 0 0 0 0,none),(11,iI U,none),(12,AV.slc 0 1 0 0 1 M (some M),none),(13,AV.int .i64 s,none),(14,AV.int .i64 k,none),(15,AV.int .i64 (bm .i64 c (ofNat 1)),none)]:=by kernel_rfl
theorem Pq (n:Nat) (O:Int) (U:Nat) (Z:Nat→Int) (V:Nat) (J:Nat→Int) (H:ab) (one two co pl:Int) (M:Nat) (z z2:Nat→Int) (s k c:Int):aS (bQ n 72 115) (il aF n 0) (gf aR 4) aQ (part Tryd.f72 [1,1,1,1,0,1,0,0,1,0,0,1,1,0,0]) (hints (uD one two co pl U M s k c)) (gS O U Z V J M z::H) =
 Tr.ite (bM c (ofNat U)) (Tr.req (dp (ofNat 0) c) (Tr.ite (b9 (lQ IntKind.i64 (zo IntKind.i64 s c) (ofNat 1)) (ofNat 1)) (Tr.ok (Ex.normal,[(1,AV.int .i64 one,none),(2,AV.int .i64 two,none),(3,AV.int .i64 co,none),(4,AV.int .i64 pl,none),(5,AV.ptr 0 0 0 0,none),(11,iI U,none),(12,AV.slc 0 1 0 0 1 M (some M),none),(13,AV.int .i64 s,none),(14,AV.int .i64 k,none),(15,AV.int .i64 (bm .i64 c (ofNat 1)),none)],(gS O U Z V J M z)::H)) Tr.bad)) (Tr.ok (Ex.exit 2,[(1,AV.int .i64 one,none),(2,AV.int .i64 two,none),(3,AV.int .i64 co,none),(4,AV.int .i64 pl,none),(5,AV.ptr 0 0 0 0,none),(11,iI U,none),(12,AV.slc 0 1 0 0 1 M (some M),none),(13,AV.int .i64 s,none),(14,AV.int .i64 k,none),(15,AV.int .i64 c,none),(40,AV.bool false,some 1)],(gS O U Z V J M z)::H)):=by kernel_rfl
theorem Pp (n:Nat) (O:Int) (U:Nat) (Z:Nat→Int) (V:Nat) (J:Nat→Int) (H:ab) (one two co pl:Int) (M:Nat) (z z2:Nat→Int) (s k c b:Int) (g q:Bool):aS (bQ n 72 115) (il (tX aF 79 [a8 O U Z V J,.int .i64 b,.int .i64 c] (.bool q)) n 0) aR aQ (part Tryd.f72 [1,1,1,1,0,1,0,0,1,0,0,1,1,0,0,1,0,0,1,1,0,1,0,0]) (hints (xT one two co pl U M s k c g b)) (gS O U Z V J M z::H) =
 (fun (Z0:aH)=>((fun (Z1:aH)=>Tr.ite (bM b (ofNat U)) (Tr.req (dp (ofNat 0) b) (Tr.ite (b9 (lQ IntKind.i64 (zo IntKind.i64 s b) (ofNat 1)) (ofNat 0)) (Tr.ite (bF (b9 b c)) (Tr.reqP ([a8 O U Z V J,AV.int .i64 b,AV.int .i64 c]=[a8 O U Z V J,AV.int .i64 b,AV.int .i64 c]) (Tr.ite q (Tr.ok (Ex.normal,Z1,(gS O U Z V J M z)::H)) (Tr.ite (b9 b one) (Tr.ite (b9 c two) (Tr.ok (Ex.normal,Z1,(gS O U Z V J M z)::H)) (Tr.ok (Ex.normal,Z0,(gS O U Z V J M z)::H))) (Tr.ok (Ex.normal,Z0,(gS O U Z V J M z)::H))))) (Tr.ok (Ex.normal,Z0,(gS O U Z V J M z)::H))) (Tr.ok (Ex.normal,Z0,(gS O U Z V J M z)::H)))) (Tr.ok (Ex.exit 4,[(1,AV.int .i64 one,none),(2,AV.int .i64 two,none),(3,AV.int .i64 co,none),(4,AV.int .i64 pl,none),(5,AV.ptr 0 0 0 0,none),(11,iI U,none),(12,AV.slc 0 1 0 0 1 M (some M),none),(13,AV.int .i64 s,none),(14,AV.int .i64 k,none),(15,AV.int .i64 c,none),(16,AV.bool g,none),(17,AV.int .i64 b,none),(71,AV.bool false,some 1)],(gS O U Z V J M z)::H))) [(1,AV.int .i64 one,none),(2,AV.int .i64 two,none),(3,AV.int .i64 co,none),(4,AV.int .i64 pl,none),(5,AV.ptr 0 0 0 0,none),(11,iI U,none),(12,AV.slc 0 1 0 0 1 M (some M),none),(13,AV.int .i64 s,none),(14,AV.int .i64 k,none),(15,AV.int .i64 c,none),(16,AV.bool false,some 1),(17,AV.int .i64 (bm .i64 b (ofNat 1)),none)])) [(1,AV.int .i64 one,none),(2,AV.int .i64 two,none),(3,AV.int .i64 co,none),(4,AV.int .i64 pl,none),(5,AV.ptr 0 0 0 0,none),(11,iI U,none),(12,AV.slc 0 1 0 0 1 M (some M),none),(13,AV.int .i64 s,none),(14,AV.int .i64 k,none),(15,AV.int .i64 c,none),(16,AV.bool g,none),(17,AV.int .i64 (bm .i64 b (ofNat 1)),none)]:=by kernel_rfl
end Go.Eng
end
section
namespace Go.Eng
open Go.Proofs Go.Eng.Gall Go.Eng.Q
section
variable (n:Nat) (ok:Nat→Nat→Nat→Bool)
def B7:Nat→Nat→Nat→Nat
 | 0,k,X=>1
 | d+1,k,X=>((nx ok n k X).map fun c=>B7 d (k+1) (X+2 ^ c)).sum
theorem B8:∀ d k,k+d=n→((ro n ok k).map fun L=>B7 n ok d k (mask L)).sum=(ro n ok n).length
 | 0,k,h=>by
   obtain rfl:k=n:=by omega
   show ((ro k ok k).map fun _=>1).sum=_;generalize ro k ok k=l;induction l with
   | nil=>rfl
   | cons x l ih=>simp only[List.map_cons,List.sum_cons,ih,List.length_cons];omega
 | d + 1,k,h=>by
   rw[← B8 d (k+1) wO];show _=(((ro n ok k).flatMap fun L=>(nx ok n k (mask L)).map fun c=>L++[c]).map fun L=>B7 n ok d (k+1) (mask L)).sum;generalize ro n ok k=l;induction l with
   | nil=>rfl
   | cons x l ih =>
     rw[List.map_cons,List.sum_cons,ih,List.flatMap_cons,List.map_append,List.sum_append];congr 1;show ((nx ok n k (mask x)).map fun c=>B7 n ok d (k+1) (mask x+2 ^ c)).sum=_;rw[List.map_map];congr 1;refine List.map_congr_left fun c _=>?_;show _=B7 n ok d (k+1) (mask (x++[c]));rw[o9]
theorem HT:B7 n ok n 0 0=(ro n ok n).length:=by
 rw[← B8 n ok n 0 wO];show _=([[]].map fun L=>B7 n ok n 0 (mask L)).sum;show _=B7 n ok n 0 (mask [])+0;rfl
end
end Go.Eng
end
section
namespace Go.Eng
open Go.Proofs Go.Eng.Gall Go.Eng.Q
def eU (X:Nat):Nat→Nat
 | 0=>0
 | j+1=>eU X j+(X / 2 ^ j) % 2
theorem oD (X j:Nat):(X / 2 ^ j) % 2=if X.testBit j=true then 1 else 0:=by
 rw[Nat.testBit_eq_decide_div_mod_eq];by_cases h:X / 2 ^ j % 2=1
 · rw[h];simp
 · rw[if_neg (by simpa using h)];omega
theorem C9 (X:Nat):∀ j,eU X j≤j
 | 0=>Nat.le_refl _
 | j+1=>by have:=C9 X j;show eU X j+(X / 2 ^ j) % 2≤_;omega
theorem wX {X N:Nat} (h:X<2 ^ N):∀ d,eU X (N+d)=eU X N
 | 0=>rfl
 | d+1=>by
   show eU X (N+d)+(X / 2 ^ (N+d)) % 2=_;rw[wX h d,Nat.div_eq_of_lt (Nat.lt_of_lt_of_le h (Nat.pow_le_pow_right (by decide) wO)),Nat.zero_mod,Nat.add_zero]
theorem GK {X c:Nat} (h:X.testBit c=false):∀ j,eU (X+2 ^ c) j=eU X j+if c<j then 1 else 0
 | 0=>rfl
 | j + 1=>by
   show eU (X+2 ^ c) j+((X+2 ^ c) / 2 ^ j) % 2=eU X j+(X / 2 ^ j) % 2+_;rw[GK h j,oD,oD,xp h];by_cases e:j=c
   · subst e;rw[h,if_neg wO,if_pos (by simp),if_neg (by simp),if_pos wO]
   · rw[decide_eq_false e,Bool.false_or];by_cases q:c<j
     · rw[if_pos q,if_pos (show c<j+1 by omega)];omega
     · rw[if_neg q,if_neg (show ¬ c<j+1 by omega)];omega
theorem C8 {n:Nat}:∀ j,j≤n→eU (2 ^ n-1) j=j
 | 0,_=>rfl
 | j+1,h=>by
   show eU (2 ^ n-1) j+((2 ^ n-1) / 2 ^ j) % 2=_;rw[C8 j wO,oD,Nat.testBit_two_pow_sub_one,if_pos (by simp;omega)]
theorem GL {X:Nat}:∀ j,eU X j=j→∀ i,i<j→X.testBit i=true
 | 0,_,i,hi=>absurd hi wO
 | j + 1,h,i,hi=>by
   have h:eU X j+(X / 2 ^ j) % 2=j+1:=h;have:=C9 X j;have hm:(X / 2 ^ j) % 2=1:=by omega
   by_cases e:i=j
   · subst e;rw[oD] at hm;by_cases q:X.testBit i=true
     · exact q
     · rw[if_neg q] at hm;omega
   · exact GL j wO i wO
theorem Kh {X n:Nat} (h:X<2 ^ n-1):eU X n<n:=by
 have h1:=C9 X n;by_cases e:eU X n=n
 · exfalso;have hb:=GL n e;have:X=2 ^ n-1:=by
    apply Nat.eq_of_testBit_eq;intro i;rw[Nat.testBit_two_pow_sub_one];by_cases q:i<n
    · rw[hb i q,decide_eq_true q]
    · rw[decide_eq_false q,Nat.testBit_lt_two_pow (Nat.lt_of_lt_of_le (show X<2 ^ n by omega) (Nat.pow_le_pow_right (by decide) wO))]
   omega
 · omega
section
variable (n:Nat) (ok:Nat→Nat→Nat→Bool)
def Ay (X:Nat):Nat:=B7 n ok (n-eU X n) (eU X n) X
theorem JM:Ay n ok (2 ^ n-1)=1:=by
 unfold Ay;rw[C8 n (Nat.le_refl n),Nat.sub_self];rfl
theorem JO:Ay n ok 0=(ro n ok n).length:=by
 have h:eU 0 n=0:=by
  have:=wX (X:=0) (N:=0) (by decide) n;rw[Nat.zero_add] at this;exact this
 unfold Ay;rw[h,Nat.sub_zero,HT]
def qe (X j:Nat):Nat:=((nx ok j (eU X n) X).map fun c=>Ay n ok (X+2 ^ c)).sum
theorem MB (X j:Nat):qe n ok X (j+1)=qe n ok X j+if (!X.testBit j && ok (eU X n) X j)=true then Ay n ok (X+2 ^ j) else 0:=by
 unfold qe;rw[Gz,List.map_append,List.sum_append];split<;>simp
theorem JN {X:Nat} (h:X<2 ^ n-1):qe n ok X n=Ay n ok X:=by
 have hp:=Kh h;obtain ⟨d,hd⟩:∃ d,n-eU X n=d+1:=⟨n-eU X n-1,by omega⟩
 unfold qe;show _=B7 n ok (n-eU X n) (eU X n) X;rw[hd];show _=((nx ok n (eU X n) X).map fun c=>B7 n ok d (eU X n+1) (X+2 ^ c)).sum;congr 1;refine List.map_congr_left fun c hc=>?_;obtain ⟨h1,h2,_⟩:=mq.1 hc;unfold Ay;rw[GK h2,if_pos h1,show n-(eU X n+1)=d by omega]
theorem Dq {l:List Nat} {f:Nat→Nat} {B:Nat} (h:∀ x ∈ l,f x≤B):(l.map f).sum≤l.length*B:=by
 induction l with
 | nil=>simp
 | cons x l ih =>
   have h1:=h x (by simp);have h2:=ih fun y hy=>h y (by simp[hy]);rw[List.map_cons,List.sum_cons,List.length_cons,Nat.succ_mul];omega
theorem Ff:∀ d k X,B7 n ok d k X≤n ^ d
 | 0,k,X=>by show 1≤n ^ 0;simp
 | d+1,k,X=>by
   show ((nx ok n k X).map fun c=>B7 n ok d (k+1) (X+2 ^ c)).sum≤_;have h1:=Dq (l:=nx ok n k X) (f:=fun c=>B7 n ok d (k+1) (X+2 ^ c)) (B:=n ^ d) fun c _=>Ff d (k+1) (X+2 ^ c);have h2:(nx ok n k X).length≤n:=by
    unfold nx;exact Nat.le_trans (List.length_filter_le _ _) (by simp)
   have h3:(nx ok n k X).length*n ^ d≤n*n ^ d:=Nat.mul_le_mul_right _ h2;rw[Nat.pow_succ,Nat.mul_comm (n ^ d) n];omega
theorem Lf (hn:n≤10) (X:Nat):Ay n ok X≤10000000000:=by
 have h1:=Ff n ok (n-eU X n) (eU X n) X;unfold Ay;have h2:n ^ (n-eU X n)≤10 ^ (n-eU X n):=Nat.pow_le_pow_left hn _;have h3:(10:Nat) ^ (n-eU X n)≤10 ^ 10:=Nat.pow_le_pow_right (by decide) wO;have h4:(10:Nat) ^ 10=10000000000:=by decide
 omega
theorem OY (hn:n≤10) (X j:Nat) (hj:j≤n):qe n ok X j≤100000000000:=by
 unfold qe;have h1:=Dq (l:=nx ok j (eU X n) X) (f:=fun c=>Ay n ok (X+2 ^ c)) (B:=10000000000) fun c _=>Lf n ok hn _;have h2:(nx ok j (eU X n) X).length≤j:=by
  unfold nx;exact Nat.le_trans (List.length_filter_le _ _) (by simp)
 omega
def zW (m i:Nat):Int:=if m≤i∧i<2 ^ n then (Ay n ok i:Int) else 0
def zI (m:Nat) (v:Nat) (i:Nat):Int:=if i+1=m then (v:Int) else zW n ok m i
theorem Tx (m:Nat):zI n ok m 0=zW n ok m:=by
 funext i;unfold zI;by_cases h:i+1=m
 · rw[if_pos h];unfold zW;rw[if_neg wO];rfl
 · rw[if_neg h]
theorem Nd {m:Nat} (h:m+1<2 ^ n):zI n ok (m+1) (Ay n ok m)=zW n ok m:=by
 funext i;unfold zI;by_cases e:i+1=m+1
 · obtain rfl:i=m:=by omega
   rw[if_pos rfl];unfold zW;rw[if_pos wO]
 · rw[if_neg e];unfold zW;by_cases q:m+1≤i∧i<2 ^ n
   · rw[if_pos q,if_pos wO]
   · rw[if_neg q,if_neg wO]
theorem Hu (hn:0<n):(fun i=>if i=2 ^ n-1 then (1:Int) else 0)=zW n ok (2 ^ n-1):=by
 have hp:0<2 ^ n:=Nat.two_pow_pos n;funext i;unfold zW;by_cases e:i=2 ^ n-1
 · subst e;rw[if_pos rfl,if_pos wO,JM];rfl
 · rw[if_neg e,if_neg wO]
theorem Lk {X c:Nat} (hX:X<2 ^ n) (hc:c<n) (h:X.testBit c=false):X+2 ^ c<2 ^ n:=by
 rw[← GI h];exact Nat.or_lt_two_pow hX (Nat.pow_lt_pow_right (by decide) hc)
end
def Ax (p:Nat→Bool):Nat→Bool
 | 0=>true
 | j+1=>Ax p j && !p j
theorem F0 (p:Nat→Bool):∀ j,Ax p j=true↔∀ b,b<j→p b=false
 | 0=>⟨fun _ b hb=>absurd hb wO,fun _=>rfl⟩
 | j + 1=>by
   show (Ax p j && !p j)=true↔_;rw[Bool.and_eq_true,F0 p j,Bool.not_eq_true'];constructor
   · rintro ⟨h1,h2⟩ b hb;by_cases e:b=j
     · subst e;exact h2
     · exact h1 b wO
   · intro h;exact ⟨fun b hb=>h b wO,h j wO⟩
theorem Hf {X c:Nat} (hX:X<2 ^ 62) (hc:c<62):lQ .i64 (zo .i64 (X:Int) (c:Int)) (Int.ofNat 1)=if X.testBit c=true then 1 else 0:=by
 have e1:zo .i64 (X:Int) (c:Int)=((X / 2 ^ c:Nat):Int):=by
  rw[Dm,Int.toNat_natCast,Nat.min_eq_left (show c≤IntKind.i64.bits by show c≤64;omega),Int.fdiv_eq_ediv_of_nonneg _ (Int.pow_nonneg (by decide))];rw[Int.natCast_ediv,Int.natCast_pow];rfl
 have h2:X / 2 ^ c≤X:=Nat.div_le_self _ _;rw[e1,ov];show IntKind.i64.wrap ((BitVec.ofInt 64 ((X / 2 ^ c:Nat):Int) &&& BitVec.ofInt 64 ((1:Nat):Int)).toNat:Nat)=_;rw[H6,H6,BitVec.toNat_and,BitVec.toNat_ofNat,BitVec.toNat_ofNat,Nat.mod_eq_of_lt wO,Nat.mod_eq_of_lt wO,Nat.and_one_is_mod,oD];split<;>decide
theorem Kq {i:Nat} (hi:i<62):cI .i64 (Int.ofNat 1) (i:Int)=((2 ^ i:Nat):Int):=by
 rw[rK];have:(2:Nat) ^ i≤2 ^ 61:=Nat.pow_le_pow_right (by decide) wO;have e:(1:Int)*2 ^ i=((2 ^ i:Nat):Int):=by rw[Int.one_mul,Int.natCast_pow];rfl
 show IntKind.i64.wrap (1*2 ^ min (Int.toNat (i:Int)) 64)=_;rw[Int.toNat_natCast,Nat.min_eq_left wO,e];generalize (2:Nat) ^ i=P at *;exact iy wO wO
end Go.Eng
end
section
namespace Go.Eng
open Int (ofNat)
open Go.Proofs Go.Eng.Gall
theorem Sw {x:Nat} (h:x<2 ^ 62):yU .i64 (x:Int) (ofNat 2)=((x / 2:Nat):Int):=by
 rw[w7,Int.tdiv_eq_ediv_of_nonneg wO];show IntKind.i64.wrap ((x:Int) / 2)=_;rw[iy wO wO];omega
theorem SA {x:Nat}:qY .i64 (x:Int) (ofNat 2)=((x % 2:Nat):Int):=by
 rw[rH,Int.tmod_eq_emod_of_nonneg wO];show (x:Int) % 2=_;omega
theorem UL:∀ b,(0,b) ∈ aP (bA Tryd.f91)→b=.loop (part Tryd.f91 [1,1,0,0,0]):=eN (by kernel_rfl)
theorem Lv {X n0:Nat} (hX:X<2 ^ n0):∃ N,X<2 ^ N∧(∀ j,j<N→0<X / 2 ^ j)∧N≤n0:=by
 by_cases h:X=0
 · subst h;exact ⟨0,by decide,fun j hj=>absurd hj wO,by omega⟩
 · have h1:=Nat.log2_self_le h;refine ⟨X.log2+1,Nat.lt_log2_self,fun j hj=>Nat.div_pos (Nat.le_trans (Nat.pow_le_pow_right (by decide) wO) h1) (Nat.two_pow_pos j),?_⟩;have:2 ^ X.log2<2 ^ n0:=by omega
   have:=(Nat.pow_lt_pow_iff_right (a:=2) (by decide)).1 this;omega
section
variable (n:Nat) (H:ab)
theorem WL {X n0:Nat} (hX:X<2 ^ n0) (hn:n0≤60):exec (bQ n 91 13) (.block 0 (.loop (part Tryd.f91 [1,1,0,0,0]))) (xY (X:Int) (ofNat 0)) (av::H)=some (.normal,xY (ofNat 0) (eU X n0:Int)++[(5,.bool false)],av::H):=by
 obtain ⟨N,h1,h2,h3⟩:=Lv hX;have hs:X<2 ^ 62:=Nat.lt_of_lt_of_le hX (Nat.pow_le_pow_right (by decide) wO);have he:eU X n0=eU X N:=by
  have:=wX h1 (n0-N);rw[show N+(n0-N)=n0 by omega] at this;exact this
 rw[he];have:=ig (n:=n) (f:=91) (nt:=13) (c:=part Tryd.f91 [1,1,0,0,0]) 0 (fun j=>xY ((X / 2 ^ j:Nat):Int) (eU X j:Int)) (fun _=>av::H) N (xY (ofNat 0) (eU X N:Int)++[(5,.bool false)],av::H) wO (fun j hj=>?_) ?_
 · rw[Nat.pow_zero,Nat.div_one] at this;exact this
 · have hp:=h2 j hj;have hb:X / 2 ^ j<2 ^ 62:=Nat.lt_of_le_of_lt (Nat.div_le_self _ _) hs;have hc:=C9 X j;have T:=t91 n H ((X / 2 ^ j:Nat):Int) (eU X j:Int);have e1:X / 2 ^ j / 2=X / 2 ^ (j+1):=by rw[Nat.div_div_eq_div_mul,Nat.pow_succ]
   have e2:bm .i64 (eU X j:Int) ((X / 2 ^ j % 2:Nat):Int)=(eU X (j+1):Int):=by
    rw[ET wO wO];show _=((eU X j+(X / 2 ^ j) % 2:Nat):Int);omega
   rw[Sw hb,SA,e1,e2] at T;refine aB T (ay n) (aj _ _) (ak _ _) ?_;refine Tr.af (fun _=>?_) (fun h0=>by rw[bx,decide_eq_false_iff_not] at h0;exact absurd (Int.ofNat_lt.2 hp) h0);exact Tr.aa (by rw[ar,aE];decide) (Tr.aa (by rw[ar,aE];decide) (Tr.ag ⟨rfl,rfl⟩))
 · have T:=t91 n H ((X / 2 ^ N:Nat):Int) (eU X N:Int);rw[Nat.div_eq_of_lt h1] at T;obtain ⟨x,h1,rfl⟩:=aB (Q:=fun x=>x=(.exit 0,xY (ofNat 0) (eU X N:Int)++[(5,.bool false)],av::H)) T (ay n) (aj _ _) (ak _ _) (by
    refine Tr.af (fun h0=>by rw[bx] at h0;simp at h0) (fun h0=>Tr.ag rfl))
   rw[Nat.div_eq_of_lt (by assumption)];exact h1
theorem U9 {X n0:Nat} (hX:X<2 ^ n0) (hn:n0≤60):cd (n+1) (.fn 91) [.int .i64 (X:Int)] H=some (.int .i64 (eU X n0:Int),H) :=
 bj (n:=n) Tryd.func91 rfl rfl rfl (XI n H (X:Int) (eU X n0:Int)) (ay n) (aZ (aj _ _) UL (fun x hx=>dL hx (by simp only[eB.st,aL];exact WL n H hX hn))) (ak _ _) (Tr.ai ⟨rfl,rfl⟩ (Tr.ag ⟨rfl,rfl⟩))
end
theorem UG:∀ b,(0,b) ∈ aP (bA Tryd.f72)→b=.loop (part Tryd.f72 [1,1,1,1,0,1,0,0]):=eN (by kernel_rfl)
theorem P7:∀ b,(2,b) ∈ aP (part Tryd.f72 [1,1,1,1,0,1,0,0])→b=.loop (part Tryd.f72 [1,1,1,1,0,1,0,0,1,0,0,1,1,0,0]):=eN (by kernel_rfl)
theorem NC:∀ b,(4,b) ∈ aP (part Tryd.f72 [1,1,1,1,0,1,0,0,1,0,0,1,1,0,0])→b=.loop (part Tryd.f72 [1,1,1,1,0,1,0,0,1,0,0,1,1,0,0,1,0,0,1,1,0,1,0,0]):=eN (by kernel_rfl)
def Au (V:Nat) (J:Nat→Int) (one two:Int) (X c b:Nat):Bool:=!X.testBit b && !decide (b=c) && (rG V J (b:Int) (c:Int) || (decide ((b:Int)=one) && decide ((c:Int)=two)))
def nY (O:Int) (U:Nat) (Z:Nat→Int) (V:Nat) (J:Nat→Int) (one two co pl:Int) (k X c:Nat):Bool:=vR (c9 O U Z) (c:Int) (k:Int) && !(decide ((c:Int)=co) && (decide (0≤pl) && !decide ((k:Int)=pl))) && Ax (Au V J one two X c) U
section
variable (n:Nat) (O:Int) (U:Nat) (Z:Nat→Int) (V:Nat) (J:Nat→Int) (H:ab) (one two co pl:Int) (M:Nat)
theorem Rp (hl:U≤10) (hb:V≤1000) {X c k:Nat} (hX:X<2 ^ 62) (z:Nat→Int):exec (bQ (n+2) 72 115) (.block 4 (.loop (part Tryd.f72 [1,1,1,1,0,1,0,0,1,0,0,1,1,0,0,1,0,0,1,1,0,1,0,0]))) (xT one two co pl U M (X:Int) (k:Int) (c:Int) true (ofNat 0)) (gS O U Z V J M z::H)=some (.normal,xT one two co pl U M (X:Int) (k:Int) (c:Int) (Ax (Au V J one two X c) U) (ofNat U)++[(71,.bool false)],gS O U Z V J M z::H):=by
 refine ig (n:=n+2) (f:=72) (nt:=115) (c:=part Tryd.f72 [1,1,1,1,0,1,0,0,1,0,0,1,1,0,0,1,0,0,1,1,0,1,0,0]) 4 (fun j=>xT one two co pl U M (X:Int) (k:Int) (c:Int) (Ax (Au V J one two X c) j) (j:Int)) (fun _=>gS O U Z V J M z::H) U (xT one two co pl U M (X:Int) (k:Int) (c:Int) (Ax (Au V J one two X c) U) (ofNat U)++[(71,.bool false)],gS O U Z V J M z::H) wO (fun j hj=>?_) ?_
 · have T := Pp (n+2) O U Z V J H one two co pl M z z (X:Int) (k:Int) (c:Int) (j:Int) (Ax (Au V J one two X c) j) (rG V J (j:Int) (c:Int));have hs:Ax (Au V J one two X c) (j+1)=(Ax (Au V J one two X c) j && !(!X.testBit j && !decide (j=c) && (rG V J (j:Int) (c:Int) || (decide ((j:Int)=one) && decide ((c:Int)=two))))):=rfl;have tb:(tX aF 79 [a8 O U Z V J,.int .i64 (j:Int),.int .i64 (c:Int)] (.bool (rG V J (j:Int) (c:Int)))).Ok (cd (n+2)):=bO (aN _) (fun H=>Qt (n+1) O U Z V J H (j:Int) (c:Int) hb);rw[Hf hX wO,eX wO] at T;rw[hs];generalize Ax (Au V J one two X c) j=g at *;generalize rG V J (j:Int) (c:Int)=q at *;refine aB T (bo _ _ tb) (aj _ _) (ak _ _) ?_;clear T tb hs;cases hx:X.testBit j
   · rw [if_neg (by simp)];by_cases hc:j=c
     · subst hc;rw[decide_eq_true rfl];simp only[Bool.not_true,Bool.and_false,Bool.false_and,Bool.not_false,Bool.and_true];repeat' first
        | (refine Tr.af (fun hc=>?_) (fun hc=>?_)<;>(try simp (disch:=omega) only[nV,nW] at hc)<;>(try (exfalso;omega)))
        | (refine Tr.aa ?_ ?_;· ((try simp (disch:=omega) only[nV,nW]);try omega))
        | (refine Tr.ai ?_ ?_;· first | exact trivial | rfl | exact ⟨rfl,rfl⟩ | fail)
        | fail
       all_goals first
        | exact Tr.ag ⟨rfl,rfl⟩
        | fail
     · rw [decide_eq_false hc];cases q with
       | true =>
         simp only[Bool.not_false,Bool.true_and,Bool.true_or,Bool.not_true,Bool.and_false];repeat' first
          | (refine Tr.af (fun hc=>?_) (fun hc=>?_)<;>(try simp (disch:=omega) only[nV,nW] at hc)<;>(try (exfalso;omega)))
          | (refine Tr.aa ?_ ?_;· ((try simp (disch:=omega) only[nV,nW]);try omega))
          | (refine Tr.ai ?_ ?_;· first | exact trivial | rfl | exact ⟨rfl,rfl⟩ | fail)
          | fail
         all_goals first
          | exact Tr.ag ⟨rfl,rfl⟩
          | fail
       | false =>
         by_cases ho:(j:Int)=one∧(c:Int)=two
         · rw[decide_eq_true ho.1,decide_eq_true ho.2];obtain ⟨ho1,ho2⟩:=ho;simp only[Bool.not_false,Bool.true_and,Bool.or_true,Bool.not_true,Bool.and_false];repeat' first
            | (refine Tr.af (fun hc=>?_) (fun hc=>?_)<;>(try simp (disch:=omega) only[nV,nW] at hc)<;>(try (exfalso;omega)))
            | (refine Tr.aa ?_ ?_;· ((try simp (disch:=omega) only[nV,nW]);try omega))
            | (refine Tr.ai ?_ ?_;· first | exact trivial | rfl | exact ⟨rfl,rfl⟩ | fail)
            | fail
           all_goals first
            | exact Tr.ag ⟨rfl,rfl⟩
            | fail
         · have:(decide ((j:Int)=one) && decide ((c:Int)=two))=false:=by
            by_cases h1:(j:Int)=one
            · rw[decide_eq_false (fun h2=>ho ⟨h1,h2⟩),Bool.and_false]
            · rw[decide_eq_false h1,Bool.false_and]
           rw[this];simp only[Bool.not_false,Bool.true_and,Bool.or_false,Bool.and_true];repeat' first
            | (refine Tr.af (fun hc=>?_) (fun hc=>?_)<;>(try simp (disch:=omega) only[nV,nW] at hc)<;>(try (exfalso;omega)))
            | (refine Tr.aa ?_ ?_;· ((try simp (disch:=omega) only[nV,nW]);try omega))
            | (refine Tr.ai ?_ ?_;· first | exact trivial | rfl | exact ⟨rfl,rfl⟩ | fail)
            | fail
           all_goals first
            | exact Tr.ag ⟨rfl,rfl⟩
            | fail
   · rw[if_pos rfl];simp only[Bool.not_true,Bool.false_and,Bool.not_false,Bool.and_true];repeat' first
      | (refine Tr.af (fun hc=>?_) (fun hc=>?_)<;>(try simp (disch:=omega) only[nV,nW] at hc)<;>(try (exfalso;omega)))
      | (refine Tr.aa ?_ ?_;· ((try simp (disch:=omega) only[nV,nW]);try omega))
      | (refine Tr.ai ?_ ?_;· first | exact trivial | rfl | exact ⟨rfl,rfl⟩ | fail)
      | fail
     all_goals first
      | exact Tr.ag ⟨rfl,rfl⟩
      | fail
 · obtain ⟨x,h1,rfl⟩:=aB (Q:=fun x=>x=(.exit 4,xT one two co pl U M (X:Int) (k:Int) (c:Int) (Ax (Au V J one two X c) U) (ofNat U)++[(71,.bool false)],gS O U Z V J M z::H)) (Pp (n+2) O U Z V J H one two co pl M z z (X:Int) (k:Int) (c:Int) (ofNat U) (Ax (Au V J one two X c) U) (rG V J (ofNat U) (c:Int))) (bo _ _ (bO (aN _) (fun H=>Qt (n+1) O U Z V J H _ (c:Int) hb))) (aj _ _) (ak _ _) (by
    refine Tr.af wJ (fun h0=>Tr.ag rfl))
   exact h1
end
end Go.Eng
end
section
namespace Go.Eng
open Int (ofNat)
open Go.Proofs Go.Eng.Gall
theorem PO {n:Nat} {ok:Nat→Nat→Nat→Bool} {X v:Nat}:zI n ok (X+1) v X=(v:Int):=by
 unfold zI;rw[if_pos rfl]
theorem PQ {n:Nat} {ok:Nat→Nat→Nat→Bool} {X v c:Nat} (h:X+2 ^ c<2 ^ n):zI n ok (X+1) v (X+2 ^ c)=(Ay n ok (X+2 ^ c):Int):=by
 have:=Nat.two_pow_pos c;unfold zI;rw[if_neg wO];unfold zW;rw[if_pos wO]
theorem Nc {n:Nat} {ok:Nat→Nat→Nat→Bool} {X v c:Nat} (h:X+2 ^ c<2 ^ n) (hn:n≤10) (hv:v≤100000000000):dc (zI n ok (X+1) v) X (bm .i64 (zI n ok (X+1) v X) (zI n ok (X+1) v (X+2 ^ c)))=zI n ok (X+1) (v+Ay n ok (X+2 ^ c)):=by
 have:=Lf n ok hn (X+2 ^ c);rw[PO,PQ h,ET wO wO,gh];funext i;unfold zI;by_cases e:i=X
 · rw[if_pos e,if_pos wO];omega
 · rw[if_neg e,if_neg wO,if_neg wO]
section
variable (n:Nat) (O:Int) (U:Nat) (Z:Nat→Int) (V:Nat) (J:Nat→Int) (H:ab) (one two co pl:Int) (M:Nat)
theorem Rq (h1:1≤U∧U≤10) (h2:V≤1000) (h3:1≤O∧O≤100) (h4:qQ U Z) (hM:M=2 ^ U) {X:Nat} (hX:X<2 ^ U-1):exec (bQ (n+2) 72 115) (.block 2 (.loop (part Tryd.f72 [1,1,1,1,0,1,0,0,1,0,0,1,1,0,0]))) (uD one two co pl U M (X:Int) (eU X U:Int) (ofNat 0)) (gS O U Z V J M (zW U (nY O U Z V J one two co pl) (X+1))::H)=some (.normal,uD one two co pl U M (X:Int) (eU X U:Int) (ofNat U)++[(40,.bool false)],gS O U Z V J M (zW U (nY O U Z V J one two co pl) X)::H):=by
 have hp:2 ^ U≤2 ^ 10:=Nat.pow_le_pow_right (by decide) h1.2;have h1062:(2:Nat) ^ 10<2 ^ 62:=by decide
 have hX2:X<2 ^ 62:=by omega
 have hpc:=Kh hX;obtain ⟨ok,hok⟩:∃ ok,nY O U Z V J one two co pl=ok:=⟨_,rfl⟩
 have e0:zI U ok (X+1) (qe U ok X 0)=zW U ok (X+1):=Tx U ok (X+1);have e1:zI U ok (X+1) (qe U ok X U)=zW U ok X:=by rw[JN U ok hX];exact Nd U ok wO
 rw[hok,← e0,← e1];refine ig (n:=n+2) (f:=72) (nt:=115) (c:=part Tryd.f72 [1,1,1,1,0,1,0,0,1,0,0,1,1,0,0]) 2 (fun j=>uD one two co pl U M (X:Int) (eU X U:Int) (j:Int)) (fun j=>gS O U Z V J M (zI U ok (X+1) (qe U ok X j))::H) U (uD one two co pl U M (X:Int) (eU X U:Int) (ofNat U)++[(40,.bool false)],gS O U Z V J M (zI U ok (X+1) (qe U ok X U))::H) wO (fun j hj=>?_) ?_
 · have T := SM (n+2) O U Z V J H one two co pl M (zI U ok (X+1) (qe U ok X j)) (zI U ok (X+1) (qe U ok X j)) (X:Int) (eU X U:Int) (j:Int) (vR (c9 O U Z) (j:Int) (eU X U:Int)) (Ax (Au V J one two X j) U);have lp:=Rp n O U Z V J H one two co pl M h1.2 h2 (X:=X) (c:=j) (k:=eU X U) hX2 (zI U ok (X+1) (qe U ok X j));have tb:(tX aF 78 [a8 O U Z V J,.int .i64 (j:Int),.int .i64 (eU X U:Int)] (.bool (vR (c9 O U Z) (j:Int) (eU X U:Int)))).Ok (cd (n+2)):=bO (aN _) (fun H=>U3 n O U Z V J H h3 h1.2 h4 j (eU X U) hj hpc);have hs:=MB U ok X j;have hj2:2 ^ j<2 ^ 10:=Nat.pow_lt_pow_right (by decide) wO;have ha:bm .i64 (X:Int) ((2 ^ j:Nat):Int)=((X+2 ^ j:Nat):Int):=by
    generalize (2:Nat) ^ j=P at hj2 ⊢;rw[ET wO wO];omega
   have hv:=OY U ok h1.2 X j wO;have hko:ok (eU X U) X j=(vR (c9 O U Z) (j:Int) (eU X U:Int) && !(decide ((j:Int)=co) && (decide (0≤pl) && !decide ((eU X U:Int)=pl))) && Ax (Au V J one two X j) U):=by rw[← hok];rfl
   rw[Hf hX2 wO,Kq wO,ha,yf,yf,eX wO] at T;rw[hko] at hs;generalize Ax (Au V J one two X j) U=g at *;generalize vR (c9 O U Z) (j:Int) (eU X U:Int)=q at *;obtain ⟨K,hK⟩:∃ K,eU X U=K:=⟨_,rfl⟩
   cases hx:X.testBit j
   · have hlt:=Lk U (show X<2 ^ U by omega) hj hx;rw[Nc hlt h1.2 hv,if_neg (by rw[hx];decide)] at T;refine aB T (bo _ _ tb) (aZ (aj _ _) NC (fun x hx=>dL hx (by simp only[eB.st,aL];exact lp))) (ak _ _) ?_;clear T tb lp;rw[hx] at hs;have hjM:X+2 ^ j<M:=by omega
     generalize X+2 ^ j=XX at *;by_cases hcp:(j:Int)=co∧0≤pl∧¬ (eU X U:Int)=pl
     · have hz:qe U ok X (j+1)=qe U ok X j:=by
        rw[hs,decide_eq_true hcp.1,decide_eq_true hcp.2.1,decide_eq_false hcp.2.2];simp
       rw[hz];clear hs hz;obtain ⟨c1,c2,c3⟩:=hcp;cases q<;>cases g;all_goals
        repeat' first
         | (refine Tr.af (fun hc=>?_) (fun hc=>?_)<;>(try simp (disch:=omega) only[nV,nW] at hc)<;>(try (exfalso;omega)))
         | (refine Tr.aa ?_ ?_;· ((try simp (disch:=omega) only[nV,nW]);try omega))
         | (refine Tr.ai ?_ ?_;· first | exact trivial | rfl | exact ⟨rfl,rfl⟩ | fail)
         | fail
        all_goals first
         | exact Tr.ag ⟨rfl,rfl⟩
         | fail
     · have hd:(decide ((j:Int)=co) && (decide (0≤pl) && !decide ((eU X U:Int)=pl)))=false:=by
        rw[Bool.eq_false_iff];intro h;rw[Bool.and_eq_true,Bool.and_eq_true,decide_eq_true_iff,decide_eq_true_iff,Bool.not_eq_true',decide_eq_false_iff_not] at h;exact hcp h
       rw[hd] at hs;cases q with
       | false =>
         have hz:qe U ok X (j+1)=qe U ok X j:=by rw[hs];simp
         rw[hz];clear hs hz hd;cases g;all_goals
          repeat' first
           | (refine Tr.af (fun hc=>?_) (fun hc=>?_)<;>(try simp (disch:=omega) only[nV,nW] at hc)<;>(try (exfalso;omega)))
           | (refine Tr.aa ?_ ?_;· ((try simp (disch:=omega) only[nV,nW]);try omega))
           | (refine Tr.ai ?_ ?_;· first | exact trivial | rfl | exact ⟨rfl,rfl⟩ | fail)
           | fail
          all_goals first
           | exact Tr.ag ⟨rfl,rfl⟩
           | fail
       | true=>cases g with
         | false =>
           have hz:qe U ok X (j+1)=qe U ok X j:=by rw[hs];simp
           rw[hz]
           clear hs hz hd
           repeat' first
            | (refine Tr.af (fun hc=>?_) (fun hc=>?_)<;>(try simp (disch:=omega) only[nV,nW] at hc)<;>(try (exfalso;omega)))
            | (refine Tr.aa ?_ ?_;· ((try simp (disch:=omega) only[nV,nW]);try omega))
            | (refine Tr.ai ?_ ?_;· first | exact trivial | rfl | exact ⟨rfl,rfl⟩ | fail)
            | fail
           all_goals first
            | exact Tr.ag ⟨rfl,rfl⟩
            | fail
         | true =>
           have hz:qe U ok X (j+1)=qe U ok X j+Ay U ok XX:=by rw[hs];simp
           rw[hz]
           clear hs hz hd
           repeat' first
            | (refine Tr.af (fun hc=>?_) (fun hc=>?_)<;>(try simp (disch:=omega) only[nV,nW] at hc)<;>(try (exfalso;omega)))
            | (refine Tr.aa ?_ ?_;· ((try simp (disch:=omega) only[nV,nW]);try omega))
            | (refine Tr.ai ?_ ?_;· first | exact trivial | rfl | exact ⟨rfl,rfl⟩ | fail)
            | fail
           all_goals first
            | exact Tr.ag ⟨rfl,rfl⟩
            | fail
   · have hz:qe U ok X (j+1)=qe U ok X j:=by rw[hs,hx];simp
     rw[hz];rw[if_pos hx] at T;refine aB T (bo _ _ tb) (aZ (aj _ _) NC (fun x hx=>dL hx (by simp only[eB.st,aL];exact lp))) (ak _ _) ?_;exact Tr.af (fun _=>Tr.aa wG (Tr.af (fun _=>Tr.ag ⟨rfl,rfl⟩) (fun h=>by rw[aE] at h;simp at h))) wJ
 · obtain ⟨x,h1,rfl⟩:=aB (Q:=fun x=>x=(.exit 2,uD one two co pl U M (X:Int) (eU X U:Int) (ofNat U)++[(40,.bool false)],gS O U Z V J M (zI U ok (X+1) (qe U ok X U))::H)) (Pq (n+2) O U Z V J H one two co pl M (zI U ok (X+1) (qe U ok X U)) (zI U ok (X+1) (qe U ok X U)) (X:Int) (eU X U:Int) (ofNat U)) (ay (n+2)) (cY (aj _ _) 4) (ak _ _) (by
    refine Tr.af wJ (fun h0=>Tr.ag rfl))
   exact h1
theorem WK (h1:1≤U∧U≤10) (h2:V≤1000) (h3:1≤O∧O≤100) (h4:qQ U Z) (hM:M=2 ^ U):exec (bQ (n+2) 72 115) (.block 0 (.loop (part Tryd.f72 [1,1,1,1,0,1,0,0]))) (uE one two co pl U M ((2 ^ U:Nat)-2:Int)) (gS O U Z V J M (zW U (nY O U Z V J one two co pl) (2 ^ U-1))::H)=some (.normal,uE one two co pl U M (Int.negSucc 0)++[(33,.bool false)],gS O U Z V J M (zW U (nY O U Z V J one two co pl) 0)::H):=by
 have hp:2 ^ U≤2 ^ 10:=Nat.pow_le_pow_right (by decide) h1.2;have hp2:2 ^ 1≤2 ^ U:=Nat.pow_le_pow_right (by decide) h1.1;obtain ⟨P,hP⟩:∃ P,2 ^ U=P:=⟨_,rfl⟩
 rw[hP];have e1:((P:Int)-2)=(P:Int)-2-((0:Nat):Int):=by omega
 have e2:Int.negSucc 0=(P:Int)-2-((P-1:Nat):Int):=by omega
 have e3:zW U (nY O U Z V J one two co pl) 0=zW U (nY O U Z V J one two co pl) (P-1-(P-1)):=by rw[Nat.sub_self]
 rw[e1,e2,e3];refine ig (n:=n+2) (f:=72) (nt:=115) (c:=part Tryd.f72 [1,1,1,1,0,1,0,0]) 0 (fun j=>uE one two co pl U M ((P:Int)-2-(j:Int))) (fun j=>gS O U Z V J M (zW U (nY O U Z V J one two co pl) (P-1-j))::H) (P-1) (uE one two co pl U M ((P:Int)-2-((P-1:Nat):Int))++[(33,.bool false)],gS O U Z V J M (zW U (nY O U Z V J one two co pl) (P-1-(P-1)))::H) wO (fun j hj=>?_) ?_
 · obtain ⟨X,hX⟩:∃ X:Nat,X=P-2-j:=⟨_,rfl⟩
   have hlt:X<2 ^ U-1:=by omega
   have g1:(P:Int)-2-(j:Int)=(X:Int):=by omega
   have g2:P-1-j=X+1:=by omega
   have g3:P-1-(j+1)=X:=by omega
   have g4:(P:Int)-2-((j+1:Nat):Int)=(X:Int)-1:=by omega
   have lp:=Rq n O U Z V J H one two co pl M h1 h2 h3 h4 hM hlt;have T:=SN (n+2) O U Z V J H one two co pl M (zW U (nY O U Z V J one two co pl) (X+1)) (zW U (nY O U Z V J one two co pl) X) (X:Int) (eU X U:Int);have s1:bX .i64 (X:Int) (ofNat 1)=(X:Int)-1:=by rw[show ofNat 1=(1:Int) from rfl,BB wO wO]
   rw[s1] at T;rw[g1,g2,g3,g4];refine aB T (bo _ _ (bO (aN _) (fun H=>U9 (n+1) H (show X<2 ^ U by omega) wO))) (aZ (aj _ _) P7 (fun x hx=>dL hx (by simp only[eB.st,aL];exact lp))) (ak _ _) ?_;clear T lp;exact Tr.af (fun _=>Tr.ai rfl (Tr.ai ⟨rfl,rfl⟩ (Tr.ag ⟨rfl,rfl⟩))) wJ
 · have e4:(P:Int)-2-((P-1:Nat):Int)=Int.negSucc 0:=by omega
   rw[e4];obtain ⟨x,h1,rfl⟩:=aB (Q:=fun x=>x=(.exit 0,uE one two co pl U M (Int.negSucc 0)++[(33,.bool false)],gS O U Z V J M (zW U (nY O U Z V J one two co pl) (P-1-(P-1)))::H)) (Pr (n+2) O U Z V J H one two co pl M (zW U (nY O U Z V J one two co pl) (P-1-(P-1))) (zW U (nY O U Z V J one two co pl) 0) (Int.negSucc 0)) (ay (n+2)) (cY (aj _ _) 2) (ak _ _) (by
    refine Tr.af (fun h0=>by rw[bh] at h0;simp at h0) (fun h0=>Tr.ag rfl))
   exact h1
theorem Qr (h1:1≤U∧U≤10) (h2:V≤1000) (h3:1≤O∧O≤100) (h4:qQ U Z):cd (n+3) (.fn 72) [a8 O U Z V J,.int .i64 one,.int .i64 two,.int .i64 co,.int .i64 pl] H=some (cw (2 ^ U) (zW U (nY O U Z V J one two co pl) 0) true,H):=by
 have hp:2 ^ U≤2 ^ 10:=Nat.pow_le_pow_right (by decide) h1.2;have hp2:2 ^ 1≤2 ^ U:=Nat.pow_le_pow_right (by decide) h1.1;have lp:=WK n O U Z V J H one two co pl (2 ^ U) h1 h2 h3 h4 rfl;have T:=Xz (n+2) O U Z V J H one two co pl (2 ^ U) (zW U (nY O U Z V J one two co pl) (2 ^ U-1)) (zW U (nY O U Z V J one two co pl) 0) ((2 ^ U:Nat)-2:Int);have s0:cI .i64 (ofNat 1) (ofNat U)=((2 ^ U:Nat):Int):=Kq (i:=U) wO;have hz:=Hu U (nY O U Z V J one two co pl) wO;have s1:bX .i64 ((2 ^ U:Nat):Int) (ofNat 1)=((2 ^ U-1:Nat):Int):=by
  generalize (2:Nat) ^ U=P at hp hp2 ⊢;rw[show ofNat 1=(1:Int) from rfl,BB wO wO];omega
 have s2:bX .i64 ((2 ^ U:Nat):Int) (ofNat 2)=((2 ^ U:Nat):Int)-2:=by
  generalize (2:Nat) ^ U=P at hp hp2 ⊢;rw[show ofNat 2=(2:Int) from rfl,BB wO wO]
 have s3:bY ((2 ^ U:Nat):Int)=2 ^ U:=by rw[jV,Int.toNat_natCast]
 have s4:dc (fun x=>ofNat 0) (2 ^ U-1) (ofNat 1)=zW U (nY O U Z V J one two co pl) (2 ^ U-1):=by rw[gh,← hz];rfl
 have s5:cg (2 ^ U) (2 ^ U)=true:=by rw[ft];simp
 rw[s0,s1,s2,s3,yf,s4,s5,jm] at T;refine bj (n:=n+2) Tryd.func72 rfl rfl rfl T (ay (n+2)) (aZ (aj _ _) UG (fun x hx=>dL hx (by simp only[eB.st,aL];exact lp))) (ak _ _) ?_;clear T lp s0 s1 s2 s3 s4 s5 hz;have hr:(2:Nat) ^ 20≤room:=by decide +kernel
 have e20:(2:Nat) ^ 20=1048576:=by decide
 generalize (2:Nat) ^ U=P at *;refine Tr.aa ?_ (Tr.aa ?_ (Tr.aa ?_ (Tr.aa ?_ (Tr.aa ?_ (Tr.aa ?_ (Tr.aa ?_ (Tr.ai ⟨rfl,rfl⟩ (Tr.aa ?_ (Tr.aa ?_ (Tr.ag ⟨rfl,rfl⟩))))))))));all_goals first
  | (rw[wH,decide_eq_true_iff]
     refine ⟨by omega,by omega,?_,?_⟩<;>(rw[Int.toNat_natCast];omega))
  | ((try simp (disch:=omega) only[nV,nW]);try omega)
end
end Go.Eng
end
