/- Gall: the reference's ways: trees. -/
import Derived.Test.YtgphpjdchnfjlaaDoorV6Gahx18
import Derived.Test.YtgphpjdchnfjlaaDoorV6Gp12x15
import Derived.Test.YtgphpjdchnfjlaaDoorV6Gbdx11
set_option linter.unusedVariables false
set_option linter.unusedSimpArgs false
set_option maxRecDepth 100000
section
namespace Go.Eng
open Int (ofNat)
open Go.Proofs Go.Eng.Gall
noncomputable def x8 (x k:Int):aA:=[(0,.int .i64 x),(3,.int .i64 k)]
noncomputable def uD (one two co pl:Int) (U M:Nat) (s:Int):aA:=[(1,.int .i64 one),(2,.int .i64 two),(3,.int .i64 co),(4,.int .i64 pl),(5,.ptr 0 0 0 0),(11,.int .i64 (ofNat U)),(12,.slc 0 1 0 0 1 M (some M)),(13,.int .i64 s)]
noncomputable def uz (one two co pl:Int) (U M:Nat) (s k c:Int):aA:=uD one two co pl U M s++[(14,.int .i64 k),(15,.int .i64 c)]
noncomputable def xY (one two co pl:Int) (U M:Nat) (s k c:Int) (g:Bool) (b:Int):aA:=uz one two co pl U M s k c++[(16,.bool g),(17,.int .i64 b)]
noncomputable def gK (O:Int) (U:Nat) (Z:Nat→Int) (V:Nat) (J:Nat→Int) (M:Nat) (z:Nat→Int):bJ:=⟨false,[(0,.row (.G [.int .i64 O,slA 4 U Z,slA 2 V J])),(0,.row (.M [.arr .i64 z M]))]⟩
theorem t91 (n:Nat) (H:ab) (x k:Int):aH (bO n 91 13) (il aJ n 0) aS aR (part Tryd.f91 [1,1,0,0,0]) (hints (x8 x k)) (aV::H) =
 Tr.ite (bw (ofNat 0) x) (Tr.req (bU (cK (ofNat 2) (ofNat 0))) (Tr.req (bU (cK (ofNat 2) (ofNat 0))) (Tr.ok (Ex.normal,[(0,AV.int .i64 (ra IntKind.i64 x (ofNat 2)),none),(3,AV.int .i64 (aQ .i64 k (rb IntKind.i64 x (ofNat 2))),none)],aV::H)))) (Tr.ok (Ex.exit 0,[(0,AV.int .i64 x,none),(3,AV.int .i64 k,none),(5,AV.bool false,some 1)],aV::H)):=by kernel_rfl
theorem XB (n:Nat) (H:ab) (x k:Int):bu Tryd.prog (cd n) 100000 91 Tryd.f91 (KtG.kt 91) (il aJ n 0) (cw aS 0 (x8 x (ofNat 0)) (aV::H) (.ok (.normal,hints (x8 (ofNat 0) k++[(5,.bool false)]),aV::H))) aR [(.int .i64 x,none)] H =
 Tr.reqP ([(0,AV.int .i64 x),(3,iI 0)]=[(0,AV.int .i64 x),(3,iI 0)]∧aV::H=aV::H) (Tr.ok ((AV.int .i64 k,none),H)):=by kernel_rfl
theorem Xr (n:Nat) (O:Int) (U:Nat) (Z:Nat→Int) (V:Nat) (J:Nat→Int) (H:ab) (one two co pl:Int) (M:Nat) (z z2:Nat→Int) (s:Int):bu Tryd.prog (cd n) 100000 72 Tryd.f72 (KtG.kt 72) (il aJ n 0) (cw aS 0 (uD one two co pl U M s) (gK O U Z V J M z::H) (.ok (.normal,hints (uD one two co pl U M (Int.negSucc 0)++[(33,.bool false)]),gK O U Z V J M z2::H))) aR [(bk O U Z V J,none),(.int .i64 one,none),(.int .i64 two,none),(.int .i64 co,none),(.int .i64 pl,none)] H =
 Tr.req (cU (ofNat 0) (ofNat U)) (Tr.req (Ec (dc IntKind.i64 (ofNat 1) (ofNat U)) (dc IntKind.i64 (ofNat 1) (ofNat U)) 8) (Tr.req (cU (ofNat 0) (ofNat U)) (Tr.req (b8 (bH .i64 (dc IntKind.i64 (ofNat 1) (ofNat U)) (ofNat 1)) (cg (dc IntKind.i64 (ofNat 1) (ofNat U)))) (Tr.req (cu 0 0) (Tr.req (bR (aq 0 (bH .i64 (dc IntKind.i64 (ofNat 1) (ofNat U)) (ofNat 1)) 1) (cg (dc IntKind.i64 (ofNat 1) (ofNat U)))) (Tr.req (cU (ofNat 0) (ofNat U)) (Tr.reqP ([(1,AV.int .i64 one),(2,AV.int .i64 two),(3,AV.int .i64 co),(4,AV.int .i64 pl),(5,AV.ptr 0 0 0 0),(11,iI U),(12,AV.slc 0 1 0 0 1 (cg (dc IntKind.i64 (ofNat 1) (ofNat U))) (some (cg (dc IntKind.i64 (ofNat 1) (ofNat U))))),(13,AV.int .i64 (bH .i64 (dc IntKind.i64 (ofNat 1) (ofNat U)) (ofNat 2)))]=[(1,AV.int .i64 one),(2,AV.int .i64 two),(3,AV.int .i64 co),(4,AV.int .i64 pl),(5,AV.ptr 0 0 0 0),(11,iI U),(12,AV.slc 0 1 0 0 1 M (some M)),(13,AV.int .i64 s)]∧(bK [(0,cW O U Z V J),(0,an.row (rM (ft (fun x=>ofNat 0) (aq 0 (bH .i64 (dc IntKind.i64 (ofNat 1) (ofNat U)) (ofNat 1)) 1) (ofNat 1)) (cg (dc IntKind.i64 (ofNat 1) (ofNat U)))))])::H=(gK O U Z V J M z)::H) (Tr.req (cu 0 0) (Tr.req (fF 0 M 0 M) (Tr.ok ((AV.slcT none (rM (qj z2 0) M) 1 M (cu M M),none),H))))))))))):=by kernel_rfl
theorem SK (n:Nat) (O:Int) (U:Nat) (Z:Nat→Int) (V:Nat) (J:Nat→Int) (H:ab) (one two co pl:Int) (M:Nat) (z z2:Nat→Int) (s k:Int):aH (bO n 72 115) (il (tX aJ 91 [.int .i64 s] (.int .i64 k)) n 0) (cw aS 2 (uz one two co pl U M s k (ofNat 0)) (gK O U Z V J M z::H) (.ok (.normal,hints (uz one two co pl U M s k (ofNat U)++[(40,.bool false)]),gK O U Z V J M z2::H))) aR (part Tryd.f72 [1,1,1,1,0,1,0,0]) (hints (uD one two co pl U M s)) (gK O U Z V J M z::H) =
 (fun (Z0:aA)=>Tr.ite (cU (ofNat 0) s) (Tr.reqP ([AV.int .i64 s]=[AV.int .i64 s]) (Tr.reqP (Z0=Z0∧(gK O U Z V J M z)::H=(gK O U Z V J M z)::H) (Tr.ok (Ex.normal,[(1,AV.int .i64 one,none),(2,AV.int .i64 two,none),(3,AV.int .i64 co,none),(4,AV.int .i64 pl,none),(5,AV.ptr 0 0 0 0,none),(11,iI U,none),(12,AV.slc 0 1 0 0 1 M (some M),none),(13,AV.int .i64 (bH .i64 s (ofNat 1)),none)],(bK [(0,cW O U Z V J),(0,an.row (rM z2 M))])::H)))) (Tr.ok (Ex.exit 0,[(1,AV.int .i64 one,none),(2,AV.int .i64 two,none),(3,AV.int .i64 co,none),(4,AV.int .i64 pl,none),(5,AV.ptr 0 0 0 0,none),(11,iI U,none),(12,AV.slc 0 1 0 0 1 M (some M),none),(13,AV.int .i64 s,none),(33,AV.bool false,some 1)],(gK O U Z V J M z)::H))) [(1,AV.int .i64 one),(2,AV.int .i64 two),(3,AV.int .i64 co),(4,AV.int .i64 pl),(5,AV.ptr 0 0 0 0),(11,iI U),(12,AV.slc 0 1 0 0 1 M (some M)),(13,AV.int .i64 s),(14,AV.int .i64 k),(15,iI 0)]:=by kernel_rfl
theorem Pq (n:Nat) (O:Int) (U:Nat) (Z:Nat→Int) (V:Nat) (J:Nat→Int) (H:ab) (one two co pl:Int) (M:Nat) (z z2:Nat→Int) (s:Int):aH (bO n 72 115) (il aJ n 0) (dC aS 2) aR (part Tryd.f72 [1,1,1,1,0,1,0,0]) (hints (uD one two co pl U M s)) (gK O U Z V J M z::H) =
 Tr.ite (cU (ofNat 0) s) Tr.bad (Tr.ok (Ex.exit 0,[(1,AV.int .i64 one,none),(2,AV.int .i64 two,none),(3,AV.int .i64 co,none),(4,AV.int .i64 pl,none),(5,AV.ptr 0 0 0 0,none),(11,iI U,none),(12,AV.slc 0 1 0 0 1 M (some M),none),(13,AV.int .i64 s,none),(33,AV.bool false,some 1)],(gK O U Z V J M z)::H)):=by kernel_rfl
theorem SJ (n:Nat) (O:Int) (U:Nat) (Z:Nat→Int) (V:Nat) (J:Nat→Int) (H:ab) (one two co pl:Int) (M:Nat) (z z2:Nat→Int) (s k c:Int) (q g:Bool):aH (bO n 72 115) (il (tX aJ 78 [bk O U Z V J,.int .i64 c,.int .i64 k] (.bool q)) n 0) (cw aS 4 (xY one two co pl U M s k c true (ofNat 0)) (gK O U Z V J M z::H) (.ok (.normal,hints (xY one two co pl U M s k c g (ofNat U)++[(71,.bool false)]),(gK O U Z V J M z::H)))) aR (part Tryd.f72 [1,1,1,1,0,1,0,0,1,0,0,1,1,0,0]) (hints (uz one two co pl U M s k c)) (gK O U Z V J M z::H) =
 (fun (Z0:aD)=>((fun (Z1:aA)=>((fun (Z2:bJ)=>Tr.ite (bw c (ofNat U)) (Tr.req (cU (ofNat 0) c) (Tr.ite (cK (lB IntKind.i64 (zq IntKind.i64 s c) (ofNat 1)) (ofNat 1)) (Tr.ok (Ex.normal,Z0,(gK O U Z V J M z)::H)) (Tr.reqP ([bk O U Z V J,AV.int .i64 c,AV.int .i64 k]=[bk O U Z V J,AV.int .i64 c,AV.int .i64 k]) (Tr.ite (bU q) (Tr.ok (Ex.normal,Z0,(gK O U Z V J M z)::H)) (Tr.ite (cK c co) (Tr.ite (cU (ofNat 0) pl) (Tr.ite (bU (cK k pl)) (Tr.ok (Ex.normal,Z0,(gK O U Z V J M z)::H)) (Tr.reqP (Z1=Z1∧(gK O U Z V J M z)::H=(gK O U Z V J M z)::H) (Tr.ite g (Tr.req (b8 s M) (Tr.req (cu 0 0) (Tr.req (bR (aq 0 s 1) M) (Tr.req (cU (ofNat 0) c) (Tr.req (b8 (aQ .i64 s (dc IntKind.i64 (ofNat 1) c)) M) (Tr.req (cu 0 0) (Tr.req (bR (aq 0 (aQ .i64 s (dc IntKind.i64 (ofNat 1) c)) 1) M) (Tr.req (b8 s M) (Tr.req (cu 0 0) (Tr.req (bR (aq 0 s 1) M) (Tr.req (bL (dO 0 0) (dO 0 1)) (Tr.ok (Ex.normal,Z0,Z2::H))))))))))))) (Tr.ok (Ex.normal,Z0,(gK O U Z V J M z)::H))))) (Tr.reqP (Z1=Z1∧(gK O U Z V J M z)::H=(gK O U Z V J M z)::H) (Tr.ite g (Tr.req (b8 s M) (Tr.req (cu 0 0) (Tr.req (bR (aq 0 s 1) M) (Tr.req (cU (ofNat 0) c) (Tr.req (b8 (aQ .i64 s (dc IntKind.i64 (ofNat 1) c)) M) (Tr.req (cu 0 0) (Tr.req (bR (aq 0 (aQ .i64 s (dc IntKind.i64 (ofNat 1) c)) 1) M) (Tr.req (b8 s M) (Tr.req (cu 0 0) (Tr.req (bR (aq 0 s 1) M) (Tr.req (bL (dO 0 0) (dO 0 1)) (Tr.ok (Ex.normal,Z0,Z2::H))))))))))))) (Tr.ok (Ex.normal,Z0,(gK O U Z V J M z)::H))))) (Tr.reqP (Z1=Z1∧(gK O U Z V J M z)::H=(gK O U Z V J M z)::H) (Tr.ite g (Tr.req (b8 s M) (Tr.req (cu 0 0) (Tr.req (bR (aq 0 s 1) M) (Tr.req (cU (ofNat 0) c) (Tr.req (b8 (aQ .i64 s (dc IntKind.i64 (ofNat 1) c)) M) (Tr.req (cu 0 0) (Tr.req (bR (aq 0 (aQ .i64 s (dc IntKind.i64 (ofNat 1) c)) 1) M) (Tr.req (b8 s M) (Tr.req (cu 0 0) (Tr.req (bR (aq 0 s 1) M) (Tr.req (bL (dO 0 0) (dO 0 1)) (Tr.ok (Ex.normal,Z0,Z2::H))))))))))))) (Tr.ok (Ex.normal,Z0,(gK O U Z V J M z)::H))))))))) (Tr.ok (Ex.exit 2,[(1,AV.int .i64 one,none),(2,AV.int .i64 two,none),(3,AV.int .i64 co,none),(4,AV.int .i64 pl,none),(5,AV.ptr 0 0 0 0,none),(11,iI U,none),(12,AV.slc 0 1 0 0 1 M (some M),none),(13,AV.int .i64 s,none),(14,AV.int .i64 k,none),(15,AV.int .i64 c,none),(40,AV.bool false,some 1)],(gK O U Z V J M z)::H))) (bK [(0,cW O U Z V J),(0,an.row (rM (ft z (aq 0 s 1) (aQ .i64 (z (aq 0 s 1)) (z (aq 0 (aQ .i64 s (dc IntKind.i64 (ofNat 1) c)) 1)))) M))]))) [(1,AV.int .i64 one),(2,AV.int .i64 two),(3,AV.int .i64 co),(4,AV.int .i64 pl),(5,AV.ptr 0 0 0 0),(11,iI U),(12,AV.slc 0 1 0 0 1 M (some M)),(13,AV.int .i64 s),(14,AV.int .i64 k),(15,AV.int .i64 c),(16,AV.bool true),(17,iI 0)])) [(1,AV.int .i64 one,none),(2,AV.int .i64 two,none),(3,AV.int .i64 co,none),(4,AV.int .i64 pl,none),(5,AV.ptr 0 0 0 0,none),(11,iI U,none),(12,AV.slc 0 1 0 0 1 M (some M),none),(13,AV.int .i64 s,none),(14,AV.int .i64 k,none),(15,AV.int .i64 (aQ .i64 c (ofNat 1)),none)]:=by kernel_rfl
theorem Pp (n:Nat) (O:Int) (U:Nat) (Z:Nat→Int) (V:Nat) (J:Nat→Int) (H:ab) (one two co pl:Int) (M:Nat) (z z2:Nat→Int) (s k c:Int):aH (bO n 72 115) (il aJ n 0) (dC aS 4) aR (part Tryd.f72 [1,1,1,1,0,1,0,0,1,0,0,1,1,0,0]) (hints (uz one two co pl U M s k c)) (gK O U Z V J M z::H) =
 Tr.ite (bw c (ofNat U)) (Tr.req (cU (ofNat 0) c) (Tr.ite (cK (lB IntKind.i64 (zq IntKind.i64 s c) (ofNat 1)) (ofNat 1)) (Tr.ok (Ex.normal,[(1,AV.int .i64 one,none),(2,AV.int .i64 two,none),(3,AV.int .i64 co,none),(4,AV.int .i64 pl,none),(5,AV.ptr 0 0 0 0,none),(11,iI U,none),(12,AV.slc 0 1 0 0 1 M (some M),none),(13,AV.int .i64 s,none),(14,AV.int .i64 k,none),(15,AV.int .i64 (aQ .i64 c (ofNat 1)),none)],(gK O U Z V J M z)::H)) Tr.bad)) (Tr.ok (Ex.exit 2,[(1,AV.int .i64 one,none),(2,AV.int .i64 two,none),(3,AV.int .i64 co,none),(4,AV.int .i64 pl,none),(5,AV.ptr 0 0 0 0,none),(11,iI U,none),(12,AV.slc 0 1 0 0 1 M (some M),none),(13,AV.int .i64 s,none),(14,AV.int .i64 k,none),(15,AV.int .i64 c,none),(40,AV.bool false,some 1)],(gK O U Z V J M z)::H)):=by kernel_rfl
theorem Po (n:Nat) (O:Int) (U:Nat) (Z:Nat→Int) (V:Nat) (J:Nat→Int) (H:ab) (one two co pl:Int) (M:Nat) (z z2:Nat→Int) (s k c b:Int) (g q:Bool):aH (bO n 72 115) (il (tX aJ 79 [bk O U Z V J,.int .i64 b,.int .i64 c] (.bool q)) n 0) aS aR (part Tryd.f72 [1,1,1,1,0,1,0,0,1,0,0,1,1,0,0,1,0,0,1,1,0,1,0,0]) (hints (xY one two co pl U M s k c g b)) (gK O U Z V J M z::H) =
 (fun (Z0:aD)=>((fun (Z1:aD)=>Tr.ite (bw b (ofNat U)) (Tr.req (cU (ofNat 0) b) (Tr.ite (cK (lB IntKind.i64 (zq IntKind.i64 s b) (ofNat 1)) (ofNat 0)) (Tr.ite (bU (cK b c)) (Tr.reqP ([bk O U Z V J,AV.int .i64 b,AV.int .i64 c]=[bk O U Z V J,AV.int .i64 b,AV.int .i64 c]) (Tr.ite q (Tr.ok (Ex.normal,Z1,(gK O U Z V J M z)::H)) (Tr.ite (cK b one) (Tr.ite (cK c two) (Tr.ok (Ex.normal,Z1,(gK O U Z V J M z)::H)) (Tr.ok (Ex.normal,Z0,(gK O U Z V J M z)::H))) (Tr.ok (Ex.normal,Z0,(gK O U Z V J M z)::H))))) (Tr.ok (Ex.normal,Z0,(gK O U Z V J M z)::H))) (Tr.ok (Ex.normal,Z0,(gK O U Z V J M z)::H)))) (Tr.ok (Ex.exit 4,[(1,AV.int .i64 one,none),(2,AV.int .i64 two,none),(3,AV.int .i64 co,none),(4,AV.int .i64 pl,none),(5,AV.ptr 0 0 0 0,none),(11,iI U,none),(12,AV.slc 0 1 0 0 1 M (some M),none),(13,AV.int .i64 s,none),(14,AV.int .i64 k,none),(15,AV.int .i64 c,none),(16,AV.bool g,none),(17,AV.int .i64 b,none),(71,AV.bool false,some 1)],(gK O U Z V J M z)::H))) [(1,AV.int .i64 one,none),(2,AV.int .i64 two,none),(3,AV.int .i64 co,none),(4,AV.int .i64 pl,none),(5,AV.ptr 0 0 0 0,none),(11,iI U,none),(12,AV.slc 0 1 0 0 1 M (some M),none),(13,AV.int .i64 s,none),(14,AV.int .i64 k,none),(15,AV.int .i64 c,none),(16,AV.bool false,some 1),(17,AV.int .i64 (aQ .i64 b (ofNat 1)),none)])) [(1,AV.int .i64 one,none),(2,AV.int .i64 two,none),(3,AV.int .i64 co,none),(4,AV.int .i64 pl,none),(5,AV.ptr 0 0 0 0,none),(11,iI U,none),(12,AV.slc 0 1 0 0 1 M (some M),none),(13,AV.int .i64 s,none),(14,AV.int .i64 k,none),(15,AV.int .i64 c,none),(16,AV.bool g,none),(17,AV.int .i64 (aQ .i64 b (ofNat 1)),none)]:=by kernel_rfl
end Go.Eng
end
section
namespace Go.Eng
open Go.Proofs Go.Eng.Gall Go.Eng.Q
section
variable (n:Nat) (ok:Nat→Nat→Nat→Bool)
def B5:Nat→Nat→Nat→Nat
 | 0,k,X=>1
 | d+1,k,X=>((nx ok n k X).map fun c=>B5 d (k+1) (X+2 ^ c)).sum
theorem B6:∀ d k,k+d=n→((ro n ok k).map fun L=>B5 n ok d k (mask L)).sum=(ro n ok n).length
 | 0,k,h=>by
   obtain rfl:k=n:=by omega
   show ((ro k ok k).map fun _=>1).sum=_;generalize ro k ok k=l;induction l with
   | nil=>rfl
   | cons x l ih=>simp only[List.map_cons,List.sum_cons,ih,List.length_cons];omega
 | d + 1,k,h=>by
   rw[← B6 d (k+1) wO];show _=(((ro n ok k).flatMap fun L=>(nx ok n k (mask L)).map fun c=>L++[c]).map fun L=>B5 n ok d (k+1) (mask L)).sum;generalize ro n ok k=l;induction l with
   | nil=>rfl
   | cons x l ih =>
     rw[List.map_cons,List.sum_cons,ih,List.flatMap_cons,List.map_append,List.sum_append];congr 1;show ((nx ok n k (mask x)).map fun c=>B5 n ok d (k+1) (mask x+2 ^ c)).sum=_;rw[List.map_map];congr 1;refine List.map_congr_left fun c _=>?_;show _=B5 n ok d (k+1) (mask (x++[c]));rw[o9]
theorem HH:B5 n ok n 0 0=(ro n ok n).length:=by
 rw[← B6 n ok n 0 wO];show _=([[]].map fun L=>B5 n ok n 0 (mask L)).sum;show _=B5 n ok n 0 (mask [])+0;rfl
end
end Go.Eng
end
section
namespace Go.Eng
open Go.Proofs Go.Eng.Gall Go.Eng.Q
def eO (X:Nat):Nat→Nat
 | 0=>0
 | j+1=>eO X j+(X / 2 ^ j) % 2
theorem oE (X j:Nat):(X / 2 ^ j) % 2=if X.testBit j=true then 1 else 0:=by
 rw[Nat.testBit_eq_decide_div_mod_eq];by_cases h:X / 2 ^ j % 2=1
 · rw[h];simp
 · rw[if_neg (by simpa using h)];omega
theorem C8 (X:Nat):∀ j,eO X j≤j
 | 0=>Nat.le_refl _
 | j+1=>by have:=C8 X j;show eO X j+(X / 2 ^ j) % 2≤_;omega
theorem w6 {X N:Nat} (h:X<2 ^ N):∀ d,eO X (N+d)=eO X N
 | 0=>rfl
 | d+1=>by
   show eO X (N+d)+(X / 2 ^ (N+d)) % 2=_;rw[w6 h d,Nat.div_eq_of_lt (Nat.lt_of_lt_of_le h (Nat.pow_le_pow_right (by decide) wO)),Nat.zero_mod,Nat.add_zero]
theorem Gx {X c:Nat} (h:X.testBit c=false):∀ j,eO (X+2 ^ c) j=eO X j+if c<j then 1 else 0
 | 0=>rfl
 | j + 1=>by
   show eO (X+2 ^ c) j+((X+2 ^ c) / 2 ^ j) % 2=eO X j+(X / 2 ^ j) % 2+_;rw[Gx h j,oE,oE,xt h];by_cases e:j=c
   · subst e;rw[h,if_neg wO,if_pos (by simp),if_neg (by simp),if_pos wO]
   · rw[decide_eq_false e,Bool.false_or];by_cases q:c<j
     · rw[if_pos q,if_pos (show c<j+1 by omega)];omega
     · rw[if_neg q,if_neg (show ¬ c<j+1 by omega)];omega
theorem C7 {n:Nat}:∀ j,j≤n→eO (2 ^ n-1) j=j
 | 0,_=>rfl
 | j+1,h=>by
   show eO (2 ^ n-1) j+((2 ^ n-1) / 2 ^ j) % 2=_;rw[C7 j wO,oE,Nat.testBit_two_pow_sub_one,if_pos (by simp;omega)]
theorem Gy {X:Nat}:∀ j,eO X j=j→∀ i,i<j→X.testBit i=true
 | 0,_,i,hi=>absurd hi wO
 | j + 1,h,i,hi=>by
   have h:eO X j+(X / 2 ^ j) % 2=j+1:=h;have:=C8 X j;have hm:(X / 2 ^ j) % 2=1:=by omega
   by_cases e:i=j
   · subst e;rw[oE] at hm;by_cases q:X.testBit i=true
     · exact q
     · rw[if_neg q] at hm;omega
   · exact Gy j wO i wO
theorem JY {X n:Nat} (h:X<2 ^ n-1):eO X n<n:=by
 have h1:=C8 X n;by_cases e:eO X n=n
 · exfalso;have hb:=Gy n e;have:X=2 ^ n-1:=by
    apply Nat.eq_of_testBit_eq;intro i;rw[Nat.testBit_two_pow_sub_one];by_cases q:i<n
    · rw[hb i q,decide_eq_true q]
    · rw[decide_eq_false q,Nat.testBit_lt_two_pow (Nat.lt_of_lt_of_le (show X<2 ^ n by omega) (Nat.pow_le_pow_right (by decide) wO))]
   omega
 · omega
section
variable (n:Nat) (ok:Nat→Nat→Nat→Bool)
def AB (X:Nat):Nat:=B5 n ok (n-eO X n) (eO X n) X
theorem Ju:AB n ok (2 ^ n-1)=1:=by
 unfold AB;rw[C7 n (Nat.le_refl n),Nat.sub_self];rfl
theorem Jw:AB n ok 0=(ro n ok n).length:=by
 have h:eO 0 n=0:=by
  have:=w6 (X:=0) (N:=0) (by decide) n;rw[Nat.zero_add] at this;exact this
 unfold AB;rw[h,Nat.sub_zero,HH]
def qe (X j:Nat):Nat:=((nx ok j (eO X n) X).map fun c=>AB n ok (X+2 ^ c)).sum
theorem Mn (X j:Nat):qe n ok X (j+1)=qe n ok X j+if (!X.testBit j && ok (eO X n) X j)=true then AB n ok (X+2 ^ j) else 0:=by
 unfold qe;rw[Gn,List.map_append,List.sum_append];split<;>simp
theorem Jv {X:Nat} (h:X<2 ^ n-1):qe n ok X n=AB n ok X:=by
 have hp:=JY h;obtain ⟨d,hd⟩:∃ d,n-eO X n=d+1:=⟨n-eO X n-1,by omega⟩
 unfold qe;show _=B5 n ok (n-eO X n) (eO X n) X;rw[hd];show _=((nx ok n (eO X n) X).map fun c=>B5 n ok d (eO X n+1) (X+2 ^ c)).sum;congr 1;refine List.map_congr_left fun c hc=>?_;obtain ⟨h1,h2,_⟩:=ma.1 hc;unfold AB;rw[Gx h2,if_pos h1,show n-(eO X n+1)=d by omega]
theorem Dl {l:List Nat} {f:Nat→Nat} {B:Nat} (h:∀ x ∈ l,f x≤B):(l.map f).sum≤l.length*B:=by
 induction l with
 | nil=>simp
 | cons x l ih =>
   have h1:=h x (by simp);have h2:=ih fun y hy=>h y (by simp[hy]);rw[List.map_cons,List.sum_cons,List.length_cons,Nat.succ_mul];omega
theorem EZ:∀ d k X,B5 n ok d k X≤n ^ d
 | 0,k,X=>by show 1≤n ^ 0;simp
 | d+1,k,X=>by
   show ((nx ok n k X).map fun c=>B5 n ok d (k+1) (X+2 ^ c)).sum≤_;have h1:=Dl (l:=nx ok n k X) (f:=fun c=>B5 n ok d (k+1) (X+2 ^ c)) (B:=n ^ d) fun c _=>EZ d (k+1) (X+2 ^ c);have h2:(nx ok n k X).length≤n:=by
    unfold nx;exact Nat.le_trans (List.length_filter_le _ _) (by simp)
   have h3:(nx ok n k X).length*n ^ d≤n*n ^ d:=Nat.mul_le_mul_right _ h2;rw[Nat.pow_succ,Nat.mul_comm (n ^ d) n];omega
theorem KW (hn:n≤10) (X:Nat):AB n ok X≤10000000000:=by
 have h1:=EZ n ok (n-eO X n) (eO X n) X;unfold AB;have h2:n ^ (n-eO X n)≤10 ^ (n-eO X n):=Nat.pow_le_pow_left hn _;have h3:(10:Nat) ^ (n-eO X n)≤10 ^ 10:=Nat.pow_le_pow_right (by decide) wO;have h4:(10:Nat) ^ 10=10000000000:=by decide
 omega
theorem OT (hn:n≤10) (X j:Nat) (hj:j≤n):qe n ok X j≤100000000000:=by
 unfold qe;have h1:=Dl (l:=nx ok j (eO X n) X) (f:=fun c=>AB n ok (X+2 ^ c)) (B:=10000000000) fun c _=>KW n ok hn _;have h2:(nx ok j (eO X n) X).length≤j:=by
  unfold nx;exact Nat.le_trans (List.length_filter_le _ _) (by simp)
 omega
def zW (m i:Nat):Int:=if m≤i∧i<2 ^ n then (AB n ok i:Int) else 0
def zI (m:Nat) (v:Nat) (i:Nat):Int:=if i+1=m then (v:Int) else zW n ok m i
theorem Tc (m:Nat):zI n ok m 0=zW n ok m:=by
 funext i;unfold zI;by_cases h:i+1=m
 · rw[if_pos h];unfold zW;rw[if_neg wO];rfl
 · rw[if_neg h]
theorem MY {m:Nat} (h:m+1<2 ^ n):zI n ok (m+1) (AB n ok m)=zW n ok m:=by
 funext i;unfold zI;by_cases e:i+1=m+1
 · obtain rfl:i=m:=by omega
   rw[if_pos rfl];unfold zW;rw[if_pos wO]
 · rw[if_neg e];unfold zW;by_cases q:m+1≤i∧i<2 ^ n
   · rw[if_pos q,if_pos wO]
   · rw[if_neg q,if_neg wO]
theorem Hj (hn:0<n):(fun i=>if i=2 ^ n-1 then (1:Int) else 0)=zW n ok (2 ^ n-1):=by
 have hp:0<2 ^ n:=Nat.two_pow_pos n;funext i;unfold zW;by_cases e:i=2 ^ n-1
 · subst e;rw[if_pos rfl,if_pos wO,Ju];rfl
 · rw[if_neg e,if_neg wO]
theorem K1 {X c:Nat} (hX:X<2 ^ n) (hc:c<n) (h:X.testBit c=false):X+2 ^ c<2 ^ n:=by
 rw[← Gw h];exact Nat.or_lt_two_pow hX (Nat.pow_lt_pow_right (by decide) hc)
end
def Ay (p:Nat→Bool):Nat→Bool
 | 0=>true
 | j+1=>Ay p j && !p j
theorem FT (p:Nat→Bool):∀ j,Ay p j=true↔∀ b,b<j→p b=false
 | 0=>⟨fun _ b hb=>absurd hb wO,fun _=>rfl⟩
 | j + 1=>by
   show (Ay p j && !p j)=true↔_;rw[Bool.and_eq_true,FT p j,Bool.not_eq_true'];constructor
   · rintro ⟨h1,h2⟩ b hb;by_cases e:b=j
     · subst e;exact h2
     · exact h1 b wO
   · intro h;exact ⟨fun b hb=>h b wO,h j wO⟩
theorem GZ {X c:Nat} (hX:X<2 ^ 62) (hc:c<62):lB .i64 (zq .i64 (X:Int) (c:Int)) (Int.ofNat 1)=if X.testBit c=true then 1 else 0:=by
 have e1:zq .i64 (X:Int) (c:Int)=((X / 2 ^ c:Nat):Int):=by
  rw[Dh,Int.toNat_natCast,Nat.min_eq_left (show c≤IntKind.i64.bits by show c≤64;omega),Int.fdiv_eq_ediv_of_nonneg _ (Int.pow_nonneg (by decide))];rw[Int.natCast_ediv,Int.natCast_pow];rfl
 have h2:X / 2 ^ c≤X:=Nat.div_le_self _ _;rw[e1,ov];show IntKind.i64.wrap ((BitVec.ofInt 64 ((X / 2 ^ c:Nat):Int) &&& BitVec.ofInt 64 ((1:Nat):Int)).toNat:Nat)=_;rw[HN,HN,BitVec.toNat_and,BitVec.toNat_ofNat,BitVec.toNat_ofNat,Nat.mod_eq_of_lt wO,Nat.mod_eq_of_lt wO,Nat.and_one_is_mod,oE];split<;>decide
theorem J6 {i:Nat} (hi:i<62):dc .i64 (Int.ofNat 1) (i:Int)=((2 ^ i:Nat):Int):=by
 rw[rJ];have:(2:Nat) ^ i≤2 ^ 61:=Nat.pow_le_pow_right (by decide) wO;have e:(1:Int)*2 ^ i=((2 ^ i:Nat):Int):=by rw[Int.one_mul,Int.natCast_pow];rfl
 show IntKind.i64.wrap (1*2 ^ min (Int.toNat (i:Int)) 64)=_;rw[Int.toNat_natCast,Nat.min_eq_left wO,e];generalize (2:Nat) ^ i=P at *;exact fW wO wO
end Go.Eng
end
section
namespace Go.Eng
open Int (ofNat)
open Go.Proofs Go.Eng.Gall
theorem Ss {x:Nat} (h:x<2 ^ 62):ra .i64 (x:Int) (ofNat 2)=((x / 2:Nat):Int):=by
 rw[rG,Int.tdiv_eq_ediv_of_nonneg wO];show IntKind.i64.wrap ((x:Int) / 2)=_;rw[fW wO wO];omega
theorem Sx {x:Nat}:rb .i64 (x:Int) (ofNat 2)=((x % 2:Nat):Int):=by
 rw[rH,Int.tmod_eq_emod_of_nonneg wO];show (x:Int) % 2=_;omega
theorem UA:∀ b,(0,b) ∈ aE (bx Tryd.f91)→b=.loop (part Tryd.f91 [1,1,0,0,0]):=dK (by kernel_rfl)
theorem Ld {X n0:Nat} (hX:X<2 ^ n0):∃ N,X<2 ^ N∧(∀ j,j<N→0<X / 2 ^ j)∧N≤n0:=by
 by_cases h:X=0
 · subst h;exact ⟨0,by decide,fun j hj=>absurd hj wO,by omega⟩
 · have h1:=Nat.log2_self_le h;refine ⟨X.log2+1,Nat.lt_log2_self,fun j hj=>Nat.div_pos (Nat.le_trans (Nat.pow_le_pow_right (by decide) wO) h1) (Nat.two_pow_pos j),?_⟩;have:2 ^ X.log2<2 ^ n0:=by omega
   have:=(Nat.pow_lt_pow_iff_right (a:=2) (by decide)).1 this;omega
section
variable (n:Nat) (H:ab)
theorem WA {X n0:Nat} (hX:X<2 ^ n0) (hn:n0≤60):exec (bO n 91 13) (.block 0 (.loop (part Tryd.f91 [1,1,0,0,0]))) (x8 (X:Int) (ofNat 0)) (aV::H)=some (.normal,x8 (ofNat 0) (eO X n0:Int)++[(5,.bool false)],aV::H):=by
 obtain ⟨N,h1,h2,h3⟩:=Ld hX;have hs:X<2 ^ 62:=Nat.lt_of_lt_of_le hX (Nat.pow_le_pow_right (by decide) wO);have he:eO X n0=eO X N:=by
  have:=w6 h1 (n0-N);rw[show N+(n0-N)=n0 by omega] at this;exact this
 rw[he];have:=fZ (n:=n) (f:=91) (nt:=13) (c:=part Tryd.f91 [1,1,0,0,0]) 0 (fun j=>x8 ((X / 2 ^ j:Nat):Int) (eO X j:Int)) (fun _=>aV::H) N (x8 (ofNat 0) (eO X N:Int)++[(5,.bool false)],aV::H) wO (fun j hj=>?_) ?_
 · rw[Nat.pow_zero,Nat.div_one] at this;exact this
 · have hp:=h2 j hj;have hb:X / 2 ^ j<2 ^ 62:=Nat.lt_of_le_of_lt (Nat.div_le_self _ _) hs;have hc:=C8 X j;have T:=t91 n H ((X / 2 ^ j:Nat):Int) (eO X j:Int);have e1:X / 2 ^ j / 2=X / 2 ^ (j+1):=by rw[Nat.div_div_eq_div_mul,Nat.pow_succ]
   have e2:aQ .i64 (eO X j:Int) ((X / 2 ^ j % 2:Nat):Int)=(eO X (j+1):Int):=by
    rw[xF wO wO];show _=((eO X j+(X / 2 ^ j) % 2:Nat):Int);omega
   rw[Ss hb,Sx,e1,e2] at T;refine av T (aw n) (aj _ _) (ai _ _) ?_;refine Tr.ae (fun _=>?_) (fun h0=>by rw[bn,decide_eq_false_iff_not] at h0;exact absurd (Int.ofNat_lt.2 hp) h0);exact Tr.aa (by rw[aO,bf];decide) (Tr.aa (by rw[aO,bf];decide) (Tr.ag ⟨rfl,rfl⟩))
 · have T:=t91 n H ((X / 2 ^ N:Nat):Int) (eO X N:Int);rw[Nat.div_eq_of_lt h1] at T;obtain ⟨x,h1,rfl⟩:=av (Q:=fun x=>x=(.exit 0,x8 (ofNat 0) (eO X N:Int)++[(5,.bool false)],aV::H)) T (aw n) (aj _ _) (ai _ _) (by
    refine Tr.ae (fun h0=>by rw[bn] at h0;simp at h0) (fun h0=>Tr.ag rfl))
   rw[Nat.div_eq_of_lt (by assumption)];exact h1
theorem U0 {X n0:Nat} (hX:X<2 ^ n0) (hn:n0≤60):cd (n+1) (.fn 91) [.int .i64 (X:Int)] H=some (.int .i64 (eO X n0:Int),H) :=
 bB (n:=n) Tryd.func91 rfl rfl rfl (XB n H (X:Int) (eO X n0:Int)) (aw n) (aM (aj _ _) UA (fun x hx=>c6 hx (by simp only[dY.st,aG];exact WA n H hX hn))) (ai _ _) (Tr.ak ⟨rfl,rfl⟩ (Tr.ag ⟨rfl,rfl⟩))
end
theorem Uu:∀ b,(0,b) ∈ aE (bx Tryd.f72)→b=.loop (part Tryd.f72 [1,1,1,1,0,1,0,0]):=dK (by kernel_rfl)
theorem P6:∀ b,(2,b) ∈ aE (part Tryd.f72 [1,1,1,1,0,1,0,0])→b=.loop (part Tryd.f72 [1,1,1,1,0,1,0,0,1,0,0,1,1,0,0]):=dK (by kernel_rfl)
theorem Nw:∀ b,(4,b) ∈ aE (part Tryd.f72 [1,1,1,1,0,1,0,0,1,0,0,1,1,0,0])→b=.loop (part Tryd.f72 [1,1,1,1,0,1,0,0,1,0,0,1,1,0,0,1,0,0,1,1,0,1,0,0]):=dK (by kernel_rfl)
def Aw (V:Nat) (J:Nat→Int) (one two:Int) (X c b:Nat):Bool:=!X.testBit b && !decide (b=c) && (rF V J (b:Int) (c:Int) || (decide ((b:Int)=one) && decide ((c:Int)=two)))
def rE (O:Int) (U:Nat) (Z:Nat→Int) (V:Nat) (J:Nat→Int) (one two co pl:Int) (k X c:Nat):Bool:=Jj (cj O U Z) (c:Int) (k:Int) && !(decide ((c:Int)=co) && (decide (0≤pl) && !decide ((k:Int)=pl))) && Ay (Aw V J one two X c) U
section
variable (n:Nat) (O:Int) (U:Nat) (Z:Nat→Int) (V:Nat) (J:Nat→Int) (H:ab) (one two co pl:Int) (M:Nat)
theorem Rl (hl:U≤10) (hb:V≤1000) {X c k:Nat} (hX:X<2 ^ 62) (z:Nat→Int):exec (bO (n+2) 72 115) (.block 4 (.loop (part Tryd.f72 [1,1,1,1,0,1,0,0,1,0,0,1,1,0,0,1,0,0,1,1,0,1,0,0]))) (xY one two co pl U M (X:Int) (k:Int) (c:Int) true (ofNat 0)) (gK O U Z V J M z::H)=some (.normal,xY one two co pl U M (X:Int) (k:Int) (c:Int) (Ay (Aw V J one two X c) U) (ofNat U)++[(71,.bool false)],gK O U Z V J M z::H):=by
 refine fZ (n:=n+2) (f:=72) (nt:=115) (c:=part Tryd.f72 [1,1,1,1,0,1,0,0,1,0,0,1,1,0,0,1,0,0,1,1,0,1,0,0]) 4 (fun j=>xY one two co pl U M (X:Int) (k:Int) (c:Int) (Ay (Aw V J one two X c) j) (j:Int)) (fun _=>gK O U Z V J M z::H) U (xY one two co pl U M (X:Int) (k:Int) (c:Int) (Ay (Aw V J one two X c) U) (ofNat U)++[(71,.bool false)],gK O U Z V J M z::H) wO (fun j hj=>?_) ?_
 · have T := Po (n+2) O U Z V J H one two co pl M z z (X:Int) (k:Int) (c:Int) (j:Int) (Ay (Aw V J one two X c) j) (rF V J (j:Int) (c:Int));have hs:Ay (Aw V J one two X c) (j+1)=(Ay (Aw V J one two X c) j && !(!X.testBit j && !decide (j=c) && (rF V J (j:Int) (c:Int) || (decide ((j:Int)=one) && decide ((c:Int)=two))))):=rfl;have tb:(tX aJ 79 [bk O U Z V J,.int .i64 (j:Int),.int .i64 (c:Int)] (.bool (rF V J (j:Int) (c:Int)))).Ok (cd (n+2)):=b7 (bh _) (fun H=>Ql (n+1) O U Z V J H (j:Int) (c:Int) hb);rw[GZ hX wO,eg wO] at T;rw[hs];generalize Ay (Aw V J one two X c) j=g at *;generalize rF V J (j:Int) (c:Int)=q at *;refine av T (bC _ _ tb) (aj _ _) (ai _ _) ?_;clear T tb hs;cases hx:X.testBit j
   · rw [if_neg (by simp)];by_cases hc:j=c
     · subst hc;rw[decide_eq_true rfl];simp only[Bool.not_true,Bool.and_false,Bool.false_and,Bool.not_false,Bool.and_true];repeat' first
        | (refine Tr.ae (fun hc=>?_) (fun hc=>?_)<;>(try simp (disch:=omega) only[nV,nW] at hc)<;>(try (exfalso;omega)))
        | (refine Tr.aa ?_ ?_;· ((try simp (disch:=omega) only[nV,nW]);try omega))
        | (refine Tr.ak ?_ ?_;· first | exact trivial | rfl | exact ⟨rfl,rfl⟩ | fail)
        | fail
       all_goals first
        | exact Tr.ag ⟨rfl,rfl⟩
        | fail
     · rw [decide_eq_false hc];cases q with
       | true =>
         simp only[Bool.not_false,Bool.true_and,Bool.true_or,Bool.not_true,Bool.and_false];repeat' first
          | (refine Tr.ae (fun hc=>?_) (fun hc=>?_)<;>(try simp (disch:=omega) only[nV,nW] at hc)<;>(try (exfalso;omega)))
          | (refine Tr.aa ?_ ?_;· ((try simp (disch:=omega) only[nV,nW]);try omega))
          | (refine Tr.ak ?_ ?_;· first | exact trivial | rfl | exact ⟨rfl,rfl⟩ | fail)
          | fail
         all_goals first
          | exact Tr.ag ⟨rfl,rfl⟩
          | fail
       | false =>
         by_cases ho:(j:Int)=one∧(c:Int)=two
         · rw[decide_eq_true ho.1,decide_eq_true ho.2];obtain ⟨ho1,ho2⟩:=ho;simp only[Bool.not_false,Bool.true_and,Bool.or_true,Bool.not_true,Bool.and_false];repeat' first
            | (refine Tr.ae (fun hc=>?_) (fun hc=>?_)<;>(try simp (disch:=omega) only[nV,nW] at hc)<;>(try (exfalso;omega)))
            | (refine Tr.aa ?_ ?_;· ((try simp (disch:=omega) only[nV,nW]);try omega))
            | (refine Tr.ak ?_ ?_;· first | exact trivial | rfl | exact ⟨rfl,rfl⟩ | fail)
            | fail
           all_goals first
            | exact Tr.ag ⟨rfl,rfl⟩
            | fail
         · have:(decide ((j:Int)=one) && decide ((c:Int)=two))=false:=by
            by_cases h1:(j:Int)=one
            · rw[decide_eq_false (fun h2=>ho ⟨h1,h2⟩),Bool.and_false]
            · rw[decide_eq_false h1,Bool.false_and]
           rw[this];simp only[Bool.not_false,Bool.true_and,Bool.or_false,Bool.and_true];repeat' first
            | (refine Tr.ae (fun hc=>?_) (fun hc=>?_)<;>(try simp (disch:=omega) only[nV,nW] at hc)<;>(try (exfalso;omega)))
            | (refine Tr.aa ?_ ?_;· ((try simp (disch:=omega) only[nV,nW]);try omega))
            | (refine Tr.ak ?_ ?_;· first | exact trivial | rfl | exact ⟨rfl,rfl⟩ | fail)
            | fail
           all_goals first
            | exact Tr.ag ⟨rfl,rfl⟩
            | fail
   · rw[if_pos rfl];simp only[Bool.not_true,Bool.false_and,Bool.not_false,Bool.and_true];repeat' first
      | (refine Tr.ae (fun hc=>?_) (fun hc=>?_)<;>(try simp (disch:=omega) only[nV,nW] at hc)<;>(try (exfalso;omega)))
      | (refine Tr.aa ?_ ?_;· ((try simp (disch:=omega) only[nV,nW]);try omega))
      | (refine Tr.ak ?_ ?_;· first | exact trivial | rfl | exact ⟨rfl,rfl⟩ | fail)
      | fail
     all_goals first
      | exact Tr.ag ⟨rfl,rfl⟩
      | fail
 · obtain ⟨x,h1,rfl⟩:=av (Q:=fun x=>x=(.exit 4,xY one two co pl U M (X:Int) (k:Int) (c:Int) (Ay (Aw V J one two X c) U) (ofNat U)++[(71,.bool false)],gK O U Z V J M z::H)) (Po (n+2) O U Z V J H one two co pl M z z (X:Int) (k:Int) (c:Int) (ofNat U) (Ay (Aw V J one two X c) U) (rF V J (ofNat U) (c:Int))) (bC _ _ (b7 (bh _) (fun H=>Ql (n+1) O U Z V J H _ (c:Int) hb))) (aj _ _) (ai _ _) (by
    refine Tr.ae wJ (fun h0=>Tr.ag rfl))
   exact h1
end
end Go.Eng
end
section
namespace Go.Eng
open Int (ofNat)
open Go.Proofs Go.Eng.Gall
theorem PL {n:Nat} {ok:Nat→Nat→Nat→Bool} {X v:Nat}:zI n ok (X+1) v X=(v:Int):=by
 unfold zI;rw[if_pos rfl]
theorem PM {n:Nat} {ok:Nat→Nat→Nat→Bool} {X v c:Nat} (h:X+2 ^ c<2 ^ n):zI n ok (X+1) v (X+2 ^ c)=(AB n ok (X+2 ^ c):Int):=by
 have:=Nat.two_pow_pos c;unfold zI;rw[if_neg wO];unfold zW;rw[if_pos wO]
theorem MX {n:Nat} {ok:Nat→Nat→Nat→Bool} {X v c:Nat} (h:X+2 ^ c<2 ^ n) (hn:n≤10) (hv:v≤100000000000):ft (zI n ok (X+1) v) X (aQ .i64 (zI n ok (X+1) v X) (zI n ok (X+1) v (X+2 ^ c)))=zI n ok (X+1) (v+AB n ok (X+2 ^ c)):=by
 have:=KW n ok hn (X+2 ^ c);rw[PL,PM h,xF wO wO,jB];funext i;unfold zI;by_cases e:i=X
 · rw[if_pos e,if_pos wO];omega
 · rw[if_neg e,if_neg wO,if_neg wO]
section
variable (n:Nat) (O:Int) (U:Nat) (Z:Nat→Int) (V:Nat) (J:Nat→Int) (H:ab) (one two co pl:Int) (M:Nat)
theorem Rm (h1:1≤U∧U≤10) (h2:V≤1000) (h3:1≤O∧O≤100) (h4:mY U Z) (hM:M=2 ^ U) {X:Nat} (hX:X<2 ^ U-1):exec (bO (n+2) 72 115) (.block 2 (.loop (part Tryd.f72 [1,1,1,1,0,1,0,0,1,0,0,1,1,0,0]))) (uz one two co pl U M (X:Int) (eO X U:Int) (ofNat 0)) (gK O U Z V J M (zW U (rE O U Z V J one two co pl) (X+1))::H)=some (.normal,uz one two co pl U M (X:Int) (eO X U:Int) (ofNat U)++[(40,.bool false)],gK O U Z V J M (zW U (rE O U Z V J one two co pl) X)::H):=by
 have hp:2 ^ U≤2 ^ 10:=Nat.pow_le_pow_right (by decide) h1.2;have h1062:(2:Nat) ^ 10<2 ^ 62:=by decide
 have hX2:X<2 ^ 62:=by omega
 have hpc:=JY hX;obtain ⟨ok,hok⟩:∃ ok,rE O U Z V J one two co pl=ok:=⟨_,rfl⟩
 have e0:zI U ok (X+1) (qe U ok X 0)=zW U ok (X+1):=Tc U ok (X+1);have e1:zI U ok (X+1) (qe U ok X U)=zW U ok X:=by rw[Jv U ok hX];exact MY U ok wO
 rw[hok,← e0,← e1];refine fZ (n:=n+2) (f:=72) (nt:=115) (c:=part Tryd.f72 [1,1,1,1,0,1,0,0,1,0,0,1,1,0,0]) 2 (fun j=>uz one two co pl U M (X:Int) (eO X U:Int) (j:Int)) (fun j=>gK O U Z V J M (zI U ok (X+1) (qe U ok X j))::H) U (uz one two co pl U M (X:Int) (eO X U:Int) (ofNat U)++[(40,.bool false)],gK O U Z V J M (zI U ok (X+1) (qe U ok X U))::H) wO (fun j hj=>?_) ?_
 · have T := SJ (n+2) O U Z V J H one two co pl M (zI U ok (X+1) (qe U ok X j)) (zI U ok (X+1) (qe U ok X j)) (X:Int) (eO X U:Int) (j:Int) (Jj (cj O U Z) (j:Int) (eO X U:Int)) (Ay (Aw V J one two X j) U);have lp:=Rl n O U Z V J H one two co pl M h1.2 h2 (X:=X) (c:=j) (k:=eO X U) hX2 (zI U ok (X+1) (qe U ok X j));have tb:(tX aJ 78 [bk O U Z V J,.int .i64 (j:Int),.int .i64 (eO X U:Int)] (.bool (Jj (cj O U Z) (j:Int) (eO X U:Int)))).Ok (cd (n+2)):=b7 (bh _) (fun H=>US n O U Z V J H h3 h1.2 h4 j (eO X U) hj hpc);have hs:=Mn U ok X j;have hj2:2 ^ j<2 ^ 10:=Nat.pow_lt_pow_right (by decide) wO;have ha:aQ .i64 (X:Int) ((2 ^ j:Nat):Int)=((X+2 ^ j:Nat):Int):=by
    generalize (2:Nat) ^ j=P at hj2 ⊢;rw[xF wO wO];omega
   have hv:=OT U ok h1.2 X j wO;have hko:ok (eO X U) X j=(Jj (cj O U Z) (j:Int) (eO X U:Int) && !(decide ((j:Int)=co) && (decide (0≤pl) && !decide ((eO X U:Int)=pl))) && Ay (Aw V J one two X j) U):=by rw[← hok];rfl
   rw[GZ hX2 wO,J6 wO,ha,vu,vu,eg wO] at T;rw[hko] at hs;generalize Ay (Aw V J one two X j) U=g at *;generalize Jj (cj O U Z) (j:Int) (eO X U:Int)=q at *;obtain ⟨K,hK⟩:∃ K,eO X U=K:=⟨_,rfl⟩
   cases hx:X.testBit j
   · have hlt:=K1 U (show X<2 ^ U by omega) hj hx;rw[MX hlt h1.2 hv,if_neg (by rw[hx];decide)] at T;refine av T (bC _ _ tb) (aM (aj _ _) Nw (fun x hx=>c6 hx (by simp only[dY.st,aG];exact lp))) (ai _ _) ?_;clear T tb lp;rw[hx] at hs;have hjM:X+2 ^ j<M:=by omega
     generalize X+2 ^ j=XX at *;by_cases hcp:(j:Int)=co∧0≤pl∧¬ (eO X U:Int)=pl
     · have hz:qe U ok X (j+1)=qe U ok X j:=by
        rw[hs,decide_eq_true hcp.1,decide_eq_true hcp.2.1,decide_eq_false hcp.2.2];simp
       rw[hz];clear hs hz;obtain ⟨c1,c2,c3⟩:=hcp;cases q<;>cases g;all_goals
        repeat' first
         | (refine Tr.ae (fun hc=>?_) (fun hc=>?_)<;>(try simp (disch:=omega) only[nV,nW] at hc)<;>(try (exfalso;omega)))
         | (refine Tr.aa ?_ ?_;· ((try simp (disch:=omega) only[nV,nW]);try omega))
         | (refine Tr.ak ?_ ?_;· first | exact trivial | rfl | exact ⟨rfl,rfl⟩ | fail)
         | fail
        all_goals first
         | exact Tr.ag ⟨rfl,rfl⟩
         | fail
     · have hd:(decide ((j:Int)=co) && (decide (0≤pl) && !decide ((eO X U:Int)=pl)))=false:=by
        rw[Bool.eq_false_iff];intro h;rw[Bool.and_eq_true,Bool.and_eq_true,decide_eq_true_iff,decide_eq_true_iff,Bool.not_eq_true',decide_eq_false_iff_not] at h;exact hcp h
       rw[hd] at hs;cases q with
       | false =>
         have hz:qe U ok X (j+1)=qe U ok X j:=by rw[hs];simp
         rw[hz];clear hs hz hd;cases g;all_goals
          repeat' first
           | (refine Tr.ae (fun hc=>?_) (fun hc=>?_)<;>(try simp (disch:=omega) only[nV,nW] at hc)<;>(try (exfalso;omega)))
           | (refine Tr.aa ?_ ?_;· ((try simp (disch:=omega) only[nV,nW]);try omega))
           | (refine Tr.ak ?_ ?_;· first | exact trivial | rfl | exact ⟨rfl,rfl⟩ | fail)
           | fail
          all_goals first
           | exact Tr.ag ⟨rfl,rfl⟩
           | fail
       | true=>cases g with
         | false =>
           have hz:qe U ok X (j+1)=qe U ok X j:=by rw[hs];simp
           rw[hz]
           clear hs hz hd
           repeat' first
            | (refine Tr.ae (fun hc=>?_) (fun hc=>?_)<;>(try simp (disch:=omega) only[nV,nW] at hc)<;>(try (exfalso;omega)))
            | (refine Tr.aa ?_ ?_;· ((try simp (disch:=omega) only[nV,nW]);try omega))
            | (refine Tr.ak ?_ ?_;· first | exact trivial | rfl | exact ⟨rfl,rfl⟩ | fail)
            | fail
           all_goals first
            | exact Tr.ag ⟨rfl,rfl⟩
            | fail
         | true =>
           have hz:qe U ok X (j+1)=qe U ok X j+AB U ok XX:=by rw[hs];simp
           rw[hz]
           clear hs hz hd
           repeat' first
            | (refine Tr.ae (fun hc=>?_) (fun hc=>?_)<;>(try simp (disch:=omega) only[nV,nW] at hc)<;>(try (exfalso;omega)))
            | (refine Tr.aa ?_ ?_;· ((try simp (disch:=omega) only[nV,nW]);try omega))
            | (refine Tr.ak ?_ ?_;· first | exact trivial | rfl | exact ⟨rfl,rfl⟩ | fail)
            | fail
           all_goals first
            | exact Tr.ag ⟨rfl,rfl⟩
            | fail
   · have hz:qe U ok X (j+1)=qe U ok X j:=by rw[hs,hx];simp
     rw[hz];rw[if_pos hx] at T;refine av T (bC _ _ tb) (aM (aj _ _) Nw (fun x hx=>c6 hx (by simp only[dY.st,aG];exact lp))) (ai _ _) ?_;exact Tr.ae (fun _=>Tr.aa wG (Tr.ae (fun _=>Tr.ag ⟨rfl,rfl⟩) (fun h=>by rw[bf] at h;simp at h))) wJ
 · obtain ⟨x,h1,rfl⟩:=av (Q:=fun x=>x=(.exit 2,uz one two co pl U M (X:Int) (eO X U:Int) (ofNat U)++[(40,.bool false)],gK O U Z V J M (zI U ok (X+1) (qe U ok X U))::H)) (Pp (n+2) O U Z V J H one two co pl M (zI U ok (X+1) (qe U ok X U)) (zI U ok (X+1) (qe U ok X U)) (X:Int) (eO X U:Int) (ofNat U)) (aw (n+2)) (bN (aj _ _) 4) (ai _ _) (by
    refine Tr.ae wJ (fun h0=>Tr.ag rfl))
   exact h1
theorem Wz (h1:1≤U∧U≤10) (h2:V≤1000) (h3:1≤O∧O≤100) (h4:mY U Z) (hM:M=2 ^ U):exec (bO (n+2) 72 115) (.block 0 (.loop (part Tryd.f72 [1,1,1,1,0,1,0,0]))) (uD one two co pl U M ((2 ^ U:Nat)-2:Int)) (gK O U Z V J M (zW U (rE O U Z V J one two co pl) (2 ^ U-1))::H)=some (.normal,uD one two co pl U M (Int.negSucc 0)++[(33,.bool false)],gK O U Z V J M (zW U (rE O U Z V J one two co pl) 0)::H):=by
 have hp:2 ^ U≤2 ^ 10:=Nat.pow_le_pow_right (by decide) h1.2;have hp2:2 ^ 1≤2 ^ U:=Nat.pow_le_pow_right (by decide) h1.1;obtain ⟨P,hP⟩:∃ P,2 ^ U=P:=⟨_,rfl⟩
 rw[hP];have e1:((P:Int)-2)=(P:Int)-2-((0:Nat):Int):=by omega
 have e2:Int.negSucc 0=(P:Int)-2-((P-1:Nat):Int):=by omega
 have e3:zW U (rE O U Z V J one two co pl) 0=zW U (rE O U Z V J one two co pl) (P-1-(P-1)):=by rw[Nat.sub_self]
 rw[e1,e2,e3];refine fZ (n:=n+2) (f:=72) (nt:=115) (c:=part Tryd.f72 [1,1,1,1,0,1,0,0]) 0 (fun j=>uD one two co pl U M ((P:Int)-2-(j:Int))) (fun j=>gK O U Z V J M (zW U (rE O U Z V J one two co pl) (P-1-j))::H) (P-1) (uD one two co pl U M ((P:Int)-2-((P-1:Nat):Int))++[(33,.bool false)],gK O U Z V J M (zW U (rE O U Z V J one two co pl) (P-1-(P-1)))::H) wO (fun j hj=>?_) ?_
 · obtain ⟨X,hX⟩:∃ X:Nat,X=P-2-j:=⟨_,rfl⟩
   have hlt:X<2 ^ U-1:=by omega
   have g1:(P:Int)-2-(j:Int)=(X:Int):=by omega
   have g2:P-1-j=X+1:=by omega
   have g3:P-1-(j+1)=X:=by omega
   have g4:(P:Int)-2-((j+1:Nat):Int)=(X:Int)-1:=by omega
   have lp:=Rm n O U Z V J H one two co pl M h1 h2 h3 h4 hM hlt;have T:=SK (n+2) O U Z V J H one two co pl M (zW U (rE O U Z V J one two co pl) (X+1)) (zW U (rE O U Z V J one two co pl) X) (X:Int) (eO X U:Int);have s1:bH .i64 (X:Int) (ofNat 1)=(X:Int)-1:=by rw[show ofNat 1=(1:Int) from rfl,od wO wO]
   rw[s1] at T;rw[g1,g2,g3,g4];refine av T (bC _ _ (b7 (bh _) (fun H=>U0 (n+1) H (show X<2 ^ U by omega) wO))) (aM (aj _ _) P6 (fun x hx=>c6 hx (by simp only[dY.st,aG];exact lp))) (ai _ _) ?_;clear T lp;exact Tr.ae (fun _=>Tr.ak rfl (Tr.ak ⟨rfl,rfl⟩ (Tr.ag ⟨rfl,rfl⟩))) wJ
 · have e4:(P:Int)-2-((P-1:Nat):Int)=Int.negSucc 0:=by omega
   rw[e4];obtain ⟨x,h1,rfl⟩:=av (Q:=fun x=>x=(.exit 0,uD one two co pl U M (Int.negSucc 0)++[(33,.bool false)],gK O U Z V J M (zW U (rE O U Z V J one two co pl) (P-1-(P-1)))::H)) (Pq (n+2) O U Z V J H one two co pl M (zW U (rE O U Z V J one two co pl) (P-1-(P-1))) (zW U (rE O U Z V J one two co pl) 0) (Int.negSucc 0)) (aw (n+2)) (bN (aj _ _) 2) (ai _ _) (by
    refine Tr.ae (fun h0=>by rw[a7] at h0;simp at h0) (fun h0=>Tr.ag rfl))
   exact h1
theorem UR (h1:1≤U∧U≤10) (h2:V≤1000) (h3:1≤O∧O≤100) (h4:mY U Z):cd (n+3) (.fn 72) [bk O U Z V J,.int .i64 one,.int .i64 two,.int .i64 co,.int .i64 pl] H=some (bG (2 ^ U) (zW U (rE O U Z V J one two co pl) 0) true,H):=by
 have hp:2 ^ U≤2 ^ 10:=Nat.pow_le_pow_right (by decide) h1.2;have hp2:2 ^ 1≤2 ^ U:=Nat.pow_le_pow_right (by decide) h1.1;have lp:=Wz n O U Z V J H one two co pl (2 ^ U) h1 h2 h3 h4 rfl;have T:=Xr (n+2) O U Z V J H one two co pl (2 ^ U) (zW U (rE O U Z V J one two co pl) (2 ^ U-1)) (zW U (rE O U Z V J one two co pl) 0) ((2 ^ U:Nat)-2:Int);have s0:dc .i64 (ofNat 1) (ofNat U)=((2 ^ U:Nat):Int):=J6 (i:=U) wO;have hz:=Hj U (rE O U Z V J one two co pl) wO;have s1:bH .i64 ((2 ^ U:Nat):Int) (ofNat 1)=((2 ^ U-1:Nat):Int):=by
  generalize (2:Nat) ^ U=P at hp hp2 ⊢;rw[show ofNat 1=(1:Int) from rfl,od wO wO];omega
 have s2:bH .i64 ((2 ^ U:Nat):Int) (ofNat 2)=((2 ^ U:Nat):Int)-2:=by
  generalize (2:Nat) ^ U=P at hp hp2 ⊢;rw[show ofNat 2=(2:Int) from rfl,od wO wO]
 have s3:cg ((2 ^ U:Nat):Int)=2 ^ U:=by rw[jK,Int.toNat_natCast]
 have s4:ft (fun x=>ofNat 0) (2 ^ U-1) (ofNat 1)=zW U (rE O U Z V J one two co pl) (2 ^ U-1):=by rw[jB,← hz];rfl
 have s5:cu (2 ^ U) (2 ^ U)=true:=by rw[eQ];simp
 rw[s0,s1,s2,s3,vu,s4,s5,fc] at T;refine bB (n:=n+2) Tryd.func72 rfl rfl rfl T (aw (n+2)) (aM (aj _ _) Uu (fun x hx=>c6 hx (by simp only[dY.st,aG];exact lp))) (ai _ _) ?_;clear T lp s0 s1 s2 s3 s4 s5 hz;have hr:(2:Nat) ^ 20≤room:=by decide +kernel
 have e20:(2:Nat) ^ 20=1048576:=by decide
 generalize (2:Nat) ^ U=P at *;refine Tr.aa ?_ (Tr.aa ?_ (Tr.aa ?_ (Tr.aa ?_ (Tr.aa ?_ (Tr.aa ?_ (Tr.aa ?_ (Tr.ak ⟨rfl,rfl⟩ (Tr.aa ?_ (Tr.aa ?_ (Tr.ag ⟨rfl,rfl⟩))))))))));all_goals first
  | (rw[wL,decide_eq_true_iff]
     refine ⟨by omega,by omega,?_,?_⟩<;>(rw[Int.toNat_natCast];omega))
  | ((try simp (disch:=omega) only[nV,nW]);try omega)
end
end Go.Eng
end
section
namespace Go.Eng
open Go.Proofs Go.Eng.Gall
theorem Xp (n:Nat) (O:Int) (U:Nat) (Z:Nat→Int) (V:Nat) (J:Nat→Int) (H:ab) (M:Nat) (y:Nat→Int) (C:List AV→Prop):bu Tryd.prog (cd n) 100000 66 Tryd.f66 (KtG.kt 66) (il (ng aJ 72 (fun x=>some (C x,bG M y true))) n 0) aS aR [(bk O U Z V J,none)] H =
 Tr.reqP (C [bk O U Z V J,AV.int .i64 (Int.negSucc 0),AV.int .i64 (Int.negSucc 0),AV.int .i64 (Int.negSucc 0),AV.int .i64 (Int.negSucc 0)]) (Tr.req (b8 (Int.ofNat 0) M) (Tr.req (bR 0 M) (Tr.ok ((AV.int .i64 (y 0),none),H)))):=by kernel_rfl
end Go.Eng
end
section
namespace Go.Eng
open Go.Proofs Go.Eng.Gall
end Go.Eng
end
section
namespace Go.Eng
open Go.Proofs Go.Eng.Gall Go.Eng.Q
section
variable {n:Nat} {W XI:Nat→Int} {b d:Nat→Nat}
end
section
variable {O:Int} {U:Nat} {Z X:Nat→Int} {V:Nat} {J Y:Nat→Int}
end
end Go.Eng
end
