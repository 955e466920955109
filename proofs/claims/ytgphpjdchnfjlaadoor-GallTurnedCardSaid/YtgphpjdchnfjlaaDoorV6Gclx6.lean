/- Gall: the places of a colour: trees. -/
import Derived.Test.YtgphpjdchnfjlaaDoorV6Gbtx18
import Derived.Test.YtgphpjdchnfjlaaDoorV6Gbex15
set_option linter.unusedVariables false
set_option linter.unusedSimpArgs false
set_option maxRecDepth 100000
section
namespace Go.Eng
open Int (ofNat)
open Go.Proofs Go.Eng.Gall
noncomputable def B4 (O:Int) (U:Nat) (Z:Nat→Int) (V:Nat) (J:Nat→Int) (c:Int):bB:=gH (0,.row (.G [.int .i64 O,slA 4 U Z,slA 2 V J])) (0,.row (.I .i64 [c])) (0,.row (.G [.nils])) (0,.row (.I .i64 [ofNat 0])) c
noncomputable def sZ (R:Row):aD:=[(3,.ptr 0 1 0 0),(4,.ptr 0 2 0 0),(5,.ptr 0 3 0 0),(6,.ptr 0 5 0 0),(8,.ptr 0 6 0 0),(25,MA 0 R)]
noncomputable def wZ (r0 R:Row) (c:Int) (D A:AV):List (Nat×ak):=[(0,.row r0),(0,.row (.I .i64 [c])),(0,.row (.G [D])),(0,.row (.I .i64 [ofNat 0])),(0,.row (.I .i64 [c])),(0,.row (.G [.ptrT none R 0])),(0,.row (.G [A]))]
noncomputable def BZ (r0 R:Row) (c:Int) (k:Nat×ak):bB:=⟨false,wZ r0 R c .nils .nils++[k]⟩
noncomputable def FJ (r0 R:Row) (c:Int) (k:Nat×ak) (v m:Nat) (y:Nat→Int):bB:=⟨false,wZ r0 R c .nils (.slc 0 8 v 0 1 m none)++[k,(v,.row (.M [.arr .i64 y m]))]⟩
noncomputable def Qd (r0 R:Row) (c:Int) (k:Nat×ak) (x:Int):bB:=⟨false,wZ r0 R c (.slc 0 8 0 0 1 1 (some 1)) .nils++[k,(0,.row (.I .i64 [x]))]⟩
noncomputable def GD (k:Int):aD:=[(3,.ptr 2 1 0 0),(4,.ptr 2 2 0 0),(5,.ptr 2 3 0 0),(6,.ptr 2 5 0 0),(8,.ptr 2 6 0 0),(9,.int .i64 k)]
noncomputable def l6 (U:Nat) (j:Int):aD:=[(0,.yld 1 7),(9,.int .i64 (ofNat U)),(10,.int .i64 j)]
theorem Ow (n:Nat) (U:Nat) (j:Int) (G G':aa) (q:Bool):aJ (bN n 90 18) (QF (il aK n 0) 1 7 [.int .i64 j] (ay::G) (.ok (.bool q,ay::G'))) aS aR (part Tryd.f90 [1,0,0]) (hints (l6 U j)) (ay::G) =
 Tr.ite (bE j (ofNat U)) (Tr.reqP ([AV.int .i64 j]=[AV.int .i64 j]∧ay::G=ay::G) (Tr.ite (aQ q) (Tr.ok (Ex.ret,[(0,AV.yld 1 7,none),(9,iI U,none),(10,AV.int .i64 j,none),(16,AV.bool true,some 1)],ay::G')) (Tr.ok (Ex.normal,[(0,AV.yld 1 7,none),(9,iI U,none),(10,AV.int .i64 (bm .i64 j (ofNat 1)),none)],ay::G')))) (Tr.ok (Ex.exit 0,[(0,AV.yld 1 7,none),(9,iI U,none),(10,AV.int .i64 j,none),(11,AV.bool false,some 1)],ay::G)):=by kernel_rfl
theorem Um (n:Nat) (U:Nat) (j:Int) (G:aa):aJ (bN n 90 18) (il aK n 0) aS aR (part Tryd.f90 [1,0,0]) (hints (l6 U j)) (ay::G) =
 Tr.ite (bE j (ofNat U)) Tr.bad (Tr.ok (Ex.exit 0,[(0,AV.yld 1 7,none),(9,iI U,none),(10,AV.int .i64 j,none),(11,AV.bool false,some 1)],ay::G)):=by kernel_rfl
theorem UL (n:Nat) (O:Int) (U:Nat) (Z:Nat→Int) (V:Nat) (J:Nat→Int) (W B:Nat→Int) (G G':aa):bo Tryd.prog (cd n) 100000 90 Tryd.f90 (KtG.kt 90) (il aK n 0) (bP aS 0 (l6 U (ofNat 0)) (ay::G) (.ok (.normal,hints (l6 U (ofNat U)++[(11,.bool false)]),ay::G'))) aR [(.yld 0 7,none),(.ptrT (some 0) (.G [shV O U Z V J W B]) 0,none)] G =
 Tr.reqP ([(0,AV.yld 1 7),(9,iI U),(10,iI 0)]=[(0,AV.yld 1 7),(9,iI U),(10,iI 0)]∧ay::G=ay::G) (Tr.ok ((AV.tup [],none),G')):=by kernel_rfl
theorem UM (n:Nat) (O:Int) (U:Nat) (Z:Nat→Int) (V:Nat) (J:Nat→Int) (W B:Nat→Int) (G G':aa) (k:Int):bo Tryd.prog (cd n) 100000 90 Tryd.f90 (KtG.kt 90) (il aK n 0) (bP aS 0 (l6 U (ofNat 0)) (ay::G) (.ok (.ret,hints (l6 U k++[(16,.bool true)]),ay::G'))) aR [(.yld 0 7,none),(.ptrT (some 0) (.G [shV O U Z V J W B]) 0,none)] G =
 Tr.reqP ([(0,AV.yld 1 7),(9,iI U),(10,iI 0)]=[(0,AV.yld 1 7),(9,iI U),(10,iI 0)]∧ay::G=ay::G) (Tr.ok ((AV.tup [],none),G')):=by kernel_rfl
theorem Oq (n:Nat) (R:Row) (L:bB) (H:aa) (k:Int):aJ (iR n 30 60 2 7) (il aK n 0) aS aR (part Tryd.f30 [1,1,1,1,0,1,0,0]) (hints [(3,.ptr 2 1 0 0),(4,.ptr 2 2 0 0),(5,.ptr 2 3 0 0),(6,.ptr 2 5 0 0),(8,.ptr 2 6 0 0),(25,MA 2 R),(26,.int .i64 k)]) (ay::ay::L::H) =
 Tr.ok (Ex.normal,[(3,AV.ptr 2 1 0 0,none),(4,AV.ptr 2 2 0 0,none),(5,AV.ptr 2 3 0 0,none),(6,AV.ptr 2 5 0 0,none),(8,AV.ptr 2 6 0 0,none),(9,AV.int .i64 k,none)],ay::ay::L::H):=by kernel_rfl
theorem QU (n:Nat) (O:Int) (U:Nat) (Z:Nat→Int) (V:Nat) (J:Nat→Int) (W B:Nat→Int) (H:aa) (r0:Row) (k c:Int) (K:Nat×ak) (s q:Bool) (f t:Int):aJ (iR n 30 60 2 7) (il (rS (rS aK 71 [.ptr 0 0 0 0,.int .i64 c,.int .i64 k] (⟨false,[(0,.row (shR O U Z V J W B))]⟩::ay::BZ r0 (shR O U Z V J W B) c K::H) (.ok (.bool s,⟨false,[(0,.row (shR O U Z V J W B))]⟩::ay::BZ r0 (shR O U Z V J W B) c K::H))) 65 [.ptr 0 0 0 0] (⟨false,[(0,.row (shR O U Z V J (eB (eB W (c9 (au 3 c 2) 3) k) (c9 (ar (au 3 c 2) 1) 3) k) B)),(0,.row (.I .i64 [k,k]))]⟩::ay::BZ r0 (shR O U Z V J W B) c K::H) (.ok (.tup [.agg (.G [.int .i64 f,.int .i64 t,.undef]),.bool q],⟨false,[(0,.row (shR O U Z V J (eB (eB W (c9 (au 3 c 2) 3) k) (c9 (ar (au 3 c 2) 1) 3) k) B)),(0,.row (.I .i64 [k,k]))]⟩::ay::BZ r0 (shR O U Z V J W B) c K::H))) n 0) aS aR (part Tryd.f30 [1,1,1,1,0,1,0,1]) (hints (GD k)) (ay::ay::BZ r0 (shR O U Z V J W B) c K::H) =
 (fun (Z0:bB)=>((fun (Z1:Nat×ak)=>((fun (Z2:Nat×ak)=>((fun (Z3:Nat×ak)=>Tr.reqP ([AV.ptr 0 0 0 0,AV.int .i64 c,AV.int .i64 k]=[AV.ptr 0 0 0 0,AV.int .i64 c,AV.int .i64 k]∧(bh [Z3])::ay::Z0::H=(bh [Z3])::ay::Z0::H) (Tr.ite (aQ s) (Tr.ok (Ex.normal,[(3,AV.ptr 2 1 0 0,none),(4,AV.ptr 2 2 0 0,none),(5,AV.ptr 2 3 0 0,none),(8,AV.ptr 2 6 0 0,none),(9,AV.int .i64 k,none),(10,AV.ptr 0 0 0 0,none),(33,AV.bool true,some 1)],(bh [Z3])::ay::Z0::H)) (Tr.req (cQ c 10) (Tr.req (cg 0 0) (Tr.req (dN (au 3 c 2) 1 3 20) (Tr.req (dN (ar (au 3 c 2) 1) 1 3 20) (Tr.ite (cr (bV (W (c9 (au 3 c 2) 3)) k) (bV (W (c9 (ar (au 3 c 2) 1) 3)) k)) (Tr.ok (Ex.ret,[],(bh [Z3,Z2,(0,ak.dead)])::ay::(bh [(0,ak.row r0),(0,ak.row (Row.I .i64 [c])),(0,ak.row (Row.G [AV.slc 0 8 0 0 1 1 (some 1)])),(0,ak.row (Row.I .i64 [ofNat 0])),(0,ak.row (Row.I .i64 [c])),(0,ak.row (Row.G [shV O U Z V J W B])),(0,ak.row (Row.G [AV.nils])),K,(0,ak.row (Row.I .i64 [k]))])::H)) (Tr.req (cQ c 10) (Tr.req (cg 0 0) (Tr.req (dN (au 3 c 2) 1 3 20) (Tr.req (dN (ar (au 3 c 2) 1) 1 3 20) (Tr.reqP ([AV.ptr 0 0 0 0]=[AV.ptr 0 0 0 0]∧(bh [Z1,Z2])::ay::Z0::H=(bh [Z1,Z2])::ay::Z0::H) (Tr.ite (aQ q) (Tr.req (eT 0 1 8) (Tr.req (cg 0 0) (Tr.req (eU 1 1) (Tr.ok (Ex.normal,[],(bh [Z1,Z2,(0,ak.row (Row.G [AV.int .i64 f,AV.int .i64 t,AV.undef])),(0,ak.row (Row.I .i64 [k])),(0,ak.dead)])::ay::(bh [(0,ak.row r0),(0,ak.row (Row.I .i64 [c])),(0,ak.row (Row.G [AV.nils])),(0,ak.row (Row.I .i64 [ofNat 0])),(0,ak.row (Row.I .i64 [c])),(0,ak.row (Row.G [shV O U Z V J W B])),(0,ak.row (Row.G [AV.slc 0 8 0 0 1 1 none])),K,(0,ak.row (rM (aC [k]) 1))])::H))))) (Tr.ok (Ex.normal,[(8,AV.ptr 2 6 0 0,none),(9,AV.int .i64 k,none),(54,AV.bool false,some 1)],(bh [Z1,Z2,(0,ak.row (Row.G [AV.int .i64 f,AV.int .i64 t,AV.undef]))])::ay::Z0::H))))))))))))))) (0,ak.row (shR O U Z V J W B)))) (0,ak.row (Row.I .i64 [k,k])))) (0,ak.row (shR O U Z V J (eB (eB W (c9 (au 3 c 2) 3) k) (c9 (ar (au 3 c 2) 1) 3) k) B)))) (bh [(0,ak.row r0),(0,ak.row (Row.I .i64 [c])),(0,ak.row (Row.G [AV.nils])),(0,ak.row (Row.I .i64 [ofNat 0])),(0,ak.row (Row.I .i64 [c])),(0,ak.row (Row.G [shV O U Z V J W B])),(0,ak.row (Row.G [AV.nils])),K]):=by kernel_rfl
theorem Ui (n:Nat) (O:Int) (U:Nat) (Z:Nat→Int) (V:Nat) (J:Nat→Int) (W B:Nat→Int) (H:aa) (r0:Row) (k c:Int) (K:Nat×ak) (s q:Bool) (f t:Int) (v m:Nat) (y:Nat→Int):aJ (iR n 30 60 2 7) (il (rS (rS aK 71 [.ptr 0 0 0 0,.int .i64 c,.int .i64 k] (⟨false,[(0,.row (shR O U Z V J W B))]⟩::ay::FJ r0 (shR O U Z V J W B) c K v m y::H) (.ok (.bool s,⟨false,[(0,.row (shR O U Z V J W B))]⟩::ay::FJ r0 (shR O U Z V J W B) c K v m y::H))) 65 [.ptr 0 0 0 0] (⟨false,[(0,.row (shR O U Z V J (eB (eB W (c9 (au 3 c 2) 3) k) (c9 (ar (au 3 c 2) 1) 3) k) B)),(0,.row (.I .i64 [k,k]))]⟩::ay::FJ r0 (shR O U Z V J W B) c K v m y::H) (.ok (.tup [.agg (.G [.int .i64 f,.int .i64 t,.undef]),.bool q],⟨false,[(0,.row (shR O U Z V J (eB (eB W (c9 (au 3 c 2) 3) k) (c9 (ar (au 3 c 2) 1) 3) k) B)),(0,.row (.I .i64 [k,k]))]⟩::ay::FJ r0 (shR O U Z V J W B) c K v m y::H))) n 0) aS aR (part Tryd.f30 [1,1,1,1,0,1,0,1]) (hints (GD k)) (ay::ay::FJ r0 (shR O U Z V J W B) c K v m y::H) =
 (fun (Z0:bB)=>((fun (Z1:Nat×ak)=>((fun (Z2:Nat×ak)=>((fun (Z3:Nat×ak)=>Tr.reqP ([AV.ptr 0 0 0 0,AV.int .i64 c,AV.int .i64 k]=[AV.ptr 0 0 0 0,AV.int .i64 c,AV.int .i64 k]∧(bh [Z3])::ay::Z0::H=(bh [Z3])::ay::Z0::H) (Tr.ite (aQ s) (Tr.ok (Ex.normal,[(3,AV.ptr 2 1 0 0,none),(4,AV.ptr 2 2 0 0,none),(5,AV.ptr 2 3 0 0,none),(8,AV.ptr 2 6 0 0,none),(9,AV.int .i64 k,none),(10,AV.ptr 0 0 0 0,none),(33,AV.bool true,some 1)],(bh [Z3])::ay::Z0::H)) (Tr.req (cQ c 10) (Tr.req (cg 0 0) (Tr.req (dN (au 3 c 2) 1 3 20) (Tr.req (dN (ar (au 3 c 2) 1) 1 3 20) (Tr.ite (cr (bV (W (c9 (au 3 c 2) 3)) k) (bV (W (c9 (ar (au 3 c 2) 1) 3)) k)) (Tr.ok (Ex.ret,[],(bh [Z3,Z2,(0,ak.dead)])::ay::(bh [(0,ak.row r0),(0,ak.row (Row.I .i64 [c])),(0,ak.row (Row.G [AV.slc 0 9 0 0 1 1 (some 1)])),(0,ak.row (Row.I .i64 [ofNat 0])),(0,ak.row (Row.I .i64 [c])),(0,ak.row (Row.G [shV O U Z V J W B])),(0,ak.row (Row.G [AV.slc 0 8 v 0 1 m none])),K,(v,ak.row (rM y m)),(0,ak.row (Row.I .i64 [k]))])::H)) (Tr.req (cQ c 10) (Tr.req (cg 0 0) (Tr.req (dN (au 3 c 2) 1 3 20) (Tr.req (dN (ar (au 3 c 2) 1) 1 3 20) (Tr.reqP ([AV.ptr 0 0 0 0]=[AV.ptr 0 0 0 0]∧(bh [Z1,Z2])::ay::Z0::H=(bh [Z1,Z2])::ay::Z0::H) (Tr.ite (aQ q) (Tr.req (eT m 1 8) (Tr.req (cg 0 0) (Tr.req (eU 1 1) (Tr.req (cg v v) (Tr.req (cg (ar 0 m) m) (Tr.ok (Ex.normal,[],(bh [Z1,Z2,(0,ak.row (Row.G [AV.int .i64 f,AV.int .i64 t,AV.undef])),(0,ak.row (Row.I .i64 [k]))])::ay::(bh [(0,ak.row r0),(0,ak.row (Row.I .i64 [c])),(0,ak.row (Row.G [AV.nils])),(0,ak.row (Row.I .i64 [ofNat 0])),(0,ak.row (Row.I .i64 [c])),(0,ak.row (Row.G [shV O U Z V J W B])),(0,ak.row (Row.G [AV.slc 0 8 (Nat.succ v) 0 1 (ar m 1) none])),K,(Nat.succ v,ak.row (rM (mb (jI y 0) m (aC [k])) (ar m 1)))])::H))))))) (Tr.ok (Ex.normal,[(8,AV.ptr 2 6 0 0,none),(9,AV.int .i64 k,none),(54,AV.bool false,some 1)],(bh [Z1,Z2,(0,ak.row (Row.G [AV.int .i64 f,AV.int .i64 t,AV.undef]))])::ay::Z0::H))))))))))))))) (0,ak.row (shR O U Z V J W B)))) (0,ak.row (Row.I .i64 [k,k])))) (0,ak.row (shR O U Z V J (eB (eB W (c9 (au 3 c 2) 3) k) (c9 (ar (au 3 c 2) 1) 3) k) B)))) (bh [(0,ak.row r0),(0,ak.row (Row.I .i64 [c])),(0,ak.row (Row.G [AV.nils])),(0,ak.row (Row.I .i64 [ofNat 0])),(0,ak.row (Row.I .i64 [c])),(0,ak.row (Row.G [shV O U Z V J W B])),(0,ak.row (Row.G [AV.slc 0 8 v 0 1 m none])),K,(v,ak.row (rM y m))]):=by kernel_rfl
theorem UI (n:Nat) (O:Int) (U:Nat) (Z:Nat→Int) (V:Nat) (J:Nat→Int) (W B:Nat→Int) (c k:Int) (G:aa) (bs:List (Nat×ak)):bo Tryd.prog (cd n) 100000 71 Tryd.f71 (KtG.kt 71) (il aK n 0) aS aR [(.ptr 0 0 0 0,none),(.int .i64 c,none),(.int .i64 k,none)] (⟨false,(0,.row (shR O U Z V J W B))::bs⟩::G) =
 Tr.req (cQ c 10) (Tr.req (cg 0 0) (Tr.req (dN (au 3 c 2) 1 3 20) (Tr.req (dN (ar (au 3 c 2) 1) 1 3 20) (Tr.ite (dQ (W (c9 (au 3 c 2) 3)) k) (Tr.ok ((AV.bool (dQ k (W (c9 (ar (au 3 c 2) 1) 3))),none),(bh ((0,ak.row (shR O U Z V J W B))::bs))::G)) (Tr.ok ((AV.bool false,some 1),(bh ((0,ak.row (shR O U Z V J W B))::bs))::G)))))):=by kernel_rfl
theorem Ut (n:Nat) (O:Int) (U:Nat) (Z:Nat→Int) (V:Nat) (J:Nat→Int) (W B:Nat→Int) (H:aa) (c:Int) (v m:Nat) (y:Nat→Int):bo Tryd.prog (cd n) 100000 30 Tryd.f30 (KtG.kt 30) (il (rS (tX aK 70 [shV O U Z V J W B] (MA 0 (shR O U Z V J W B))) 69 [bj O U Z V J,sJ 0] (B4 O U Z V J c::H) (.ok (.tup [shV O U Z V J W B,.int .i64 (ofNat 0)],B4 O U Z V J c::H))) n 0) aS (HO aR (fun _=>true) (sZ (shR O U Z V J W B)) (⟨false,wZ (.G [.int .i64 O,slA 4 U Z,slA 2 V J]) (shR O U Z V J W B) c .nils .nils⟩::H) (.ok (.normal,hints (sZ (shR O U Z V J W B)),FJ (.G [.int .i64 O,slA 4 U Z,slA 2 V J]) (shR O U Z V J W B) c (0,.dead) v m y::H))) [(bj O U Z V J,none),(.int .i64 c,none)] H =
 (fun (Z0:bB)=>((fun (Z1:aD)=>((fun (Z2:bB)=>Tr.reqP ([bj O U Z V J,AV.slc 0 4 0 0 1 1 (some 1)]=[bj O U Z V J,AV.slc 0 4 0 0 1 1 (some 1)]∧Z2::H=Z2::H) (Tr.ite (aQ (bV (ofNat 0) (ofNat 0))) (Tr.ok ((AV.tup [AV.nils,iI 0],none),H)) (Tr.reqP ([shV O U Z V J W B]=[shV O U Z V J W B]) (Tr.reqP (Z1=Z1∧Z0::H=Z0::H) (Tr.req (cg v v) (Tr.req (dN 0 m 0 m) (Tr.ok ((AV.tup [aF m (jI y 0) false,iI 0],none),H)))))))) (bh [(0,b8 O U Z V J),(0,ak.row (Row.I .i64 [c])),(0,ak.row (Row.G [AV.nils])),(0,ak.row (Row.I .i64 [ofNat 0])),(0,ak.row (Row.I .i64 [c]))]))) [(3,AV.ptr 0 1 0 0),(4,AV.ptr 0 2 0 0),(5,AV.ptr 0 3 0 0),(6,AV.ptr 0 5 0 0),(8,AV.ptr 0 6 0 0),(25,AV.fn (Fn.func 90) [] [AV.ptrT (some 0) (Row.G [shV O U Z V J W B]) 0])])) (bh [(0,b8 O U Z V J),(0,ak.row (Row.I .i64 [c])),(0,ak.row (Row.G [AV.nils])),(0,ak.row (Row.I .i64 [ofNat 0])),(0,ak.row (Row.I .i64 [c])),(0,ak.row (Row.G [shV O U Z V J W B])),(0,ak.row (Row.G [AV.nils]))]):=by kernel_rfl
theorem Uu (n:Nat) (O:Int) (U:Nat) (Z:Nat→Int) (V:Nat) (J:Nat→Int) (W B:Nat→Int) (H:aa) (c:Int) (x:Int):bo Tryd.prog (cd n) 100000 30 Tryd.f30 (KtG.kt 30) (il (rS (tX aK 70 [shV O U Z V J W B] (MA 0 (shR O U Z V J W B))) 69 [bj O U Z V J,sJ 0] (B4 O U Z V J c::H) (.ok (.tup [shV O U Z V J W B,.int .i64 (ofNat 0)],B4 O U Z V J c::H))) n 0) aS (HO aR (fun _=>true) (sZ (shR O U Z V J W B)) (⟨false,wZ (.G [.int .i64 O,slA 4 U Z,slA 2 V J]) (shR O U Z V J W B) c .nils .nils⟩::H) (.ok (.ret,hints (sZ (shR O U Z V J W B)),Qd (.G [.int .i64 O,slA 4 U Z,slA 2 V J]) (shR O U Z V J W B) c (0,.dead) x::H))) [(bj O U Z V J,none),(.int .i64 c,none)] H =
 (fun (Z0:bB)=>((fun (Z1:aD)=>((fun (Z2:bB)=>Tr.reqP ([bj O U Z V J,AV.slc 0 4 0 0 1 1 (some 1)]=[bj O U Z V J,AV.slc 0 4 0 0 1 1 (some 1)]∧Z2::H=Z2::H) (Tr.ite (aQ (bV (ofNat 0) (ofNat 0))) (Tr.ok ((AV.tup [AV.nils,iI 0],none),H)) (Tr.reqP ([shV O U Z V J W B]=[shV O U Z V J W B]) (Tr.reqP (Z1=Z1∧Z0::H=Z0::H) (Tr.req (cg 0 0) (Tr.ok ((AV.tup [AV.slcT none (Row.I .i64 [x]) 1 1 (cg 1 1),iI 0],none),H))))))) (bh [(0,b8 O U Z V J),(0,ak.row (Row.I .i64 [c])),(0,ak.row (Row.G [AV.nils])),(0,ak.row (Row.I .i64 [ofNat 0])),(0,ak.row (Row.I .i64 [c]))]))) [(3,AV.ptr 0 1 0 0),(4,AV.ptr 0 2 0 0),(5,AV.ptr 0 3 0 0),(6,AV.ptr 0 5 0 0),(8,AV.ptr 0 6 0 0),(25,AV.fn (Fn.func 90) [] [AV.ptrT (some 0) (Row.G [shV O U Z V J W B]) 0])])) (bh [(0,b8 O U Z V J),(0,ak.row (Row.I .i64 [c])),(0,ak.row (Row.G [AV.nils])),(0,ak.row (Row.I .i64 [ofNat 0])),(0,ak.row (Row.I .i64 [c])),(0,ak.row (Row.G [shV O U Z V J W B])),(0,ak.row (Row.G [AV.nils]))]):=by kernel_rfl
theorem Rs (n:Nat) (O:Int) (U:Nat) (Z:Nat→Int) (V:Nat) (J:Nat→Int) (H:aa) (c e:Int):bo Tryd.prog (cd n) 100000 30 Tryd.f30 (KtG.kt 30) (il (rS (tN aK 70) 69 [bj O U Z V J,sJ 0] (B4 O U Z V J c::H) (.ok (.tup [.nilp,.int .i64 e],B4 O U Z V J c::H))) n 0) aS aR [(bj O U Z V J,none),(.int .i64 c,none)] H =
 (fun (Z0:bB)=>Tr.reqP ([bj O U Z V J,AV.slc 0 4 0 0 1 1 (some 1)]=[bj O U Z V J,AV.slc 0 4 0 0 1 1 (some 1)]∧Z0::H=Z0::H) (Tr.ite (aQ (bV e (ofNat 0))) (Tr.ok ((AV.tup [AV.nils,AV.int .i64 e],none),H)) Tr.bad)) (bh [(0,b8 O U Z V J),(0,ak.row (Row.I .i64 [c])),(0,ak.row (Row.G [AV.nils])),(0,ak.row (Row.I .i64 [ofNat 0])),(0,ak.row (Row.I .i64 [c]))]):=by kernel_rfl
end Go.Eng
end
section
namespace Go.Eng
open Go.Proofs Go.Eng.Gall
theorem Pd:∀ b,(0,b) ∈ aP (aZ Tryd.f90)→b=.loop (part Tryd.f90 [1,0,0]):=eA (by kernel_rfl)
noncomputable def rn:Code:=part Tryd.f30 [1,1,1,1,0,1,0,0]
noncomputable def za:Code:=part Tryd.f30 [1,1,1,1,0,1,0,1]
theorem Yp:dO (aZ Tryd.f30)=[(.tmp 25,#[26],rn,za)]:=by kernel_rfl
noncomputable def c7 (R:Row):iO:={ state:=.ready,pending:=none,fn:=30,nt:=60,fr:=sZ R,params:=[26],assign:=rn,body:=za }
noncomputable def Lj (r0 R:Row) (c:Int) (K:Nat×ak):List Nat→bB
 | []=>BZ r0 R c K
 | p::r=>FJ r0 R c K r.length (r.length+1) (aC (uZ (p::r)))
section
variable (n:Nat) (O:Int) (U:Nat) (Z:Nat→Int) (V:Nat) (J:Nat→Int) (W:Nat→Int) (g:Nat→Nat) (H:aa) (r0:Row)
theorem Pg (B:Nat→Int) (c k:Nat) (G:aa) (bs:List (Nat×ak)) (hc:c<10):cd (n+1) (.fn 71) [.ptr 0 0 0 0,.int .i64 (c:Int),.int .i64 (k:Int)] (⟨false,(0,.row (shR O U Z V J W B))::bs⟩::G)=some (.bool (vI W (c:Int) (k:Int)),⟨false,(0,.row (shR O U Z V J W B))::bs⟩::G):=by
 have T:=UI n O U Z V J W B (c:Int) (k:Int) G bs;have e2:c9 (au 3 (c:Int) 2) 3=2*c:=by rw[bt,dj];omega
 have e3:c9 (ar (au 3 (c:Int) 2) 1) 3=2*c+1:=by rw[bt,aI,dj];omega
 have ej:au 3 (c:Int) 2=3+c*2:=by rw[bt];omega
 rw[e2,e3,ej] at T;refine bF (n:=n) Tryd.func71 rfl rfl rfl T (aA _) (ai _ _) (aj _ _) ?_;rw[QK];refine Tr.ab wG (Tr.ab wG (Tr.ab wG (Tr.ab wG (Tr.af (fun q=>Tr.ag ⟨?_,rfl⟩) (fun q=>Tr.ag ⟨?_,rfl⟩)))))
 · rw[q];rfl
 · rw[q];rfl
noncomputable def DR (c k:Nat):List Nat:=(List.range k).filter fun j=>DQ U g W c j
theorem DT (c k:Nat):DR U W g c (k+1)=if DQ U g W c k=true then DR U W g c k++[k] else DR U W g c k:=by
 unfold DR;rw[List.range_succ,List.filter_append];by_cases h:DQ U g W c k=true
 · rw[if_pos h,List.filter_cons_of_pos (by simpa using h)];rfl
 · rw[if_neg h,List.filter_cons_of_neg (by simpa using h)];simp
theorem DS (c k:Nat):(DR U W g c k).length≤k:=by
 unfold DR;have:=List.length_filter_le (fun j=>DQ U g W c j) (List.range k);rwa [List.length_range] at this
theorem QC (hS:gy U W g) (c k:Nat) (hc:c<U) (hk:k<U) (hw:¬ (W (2*c)=(k:Int)∧W (2*c+1)=(k:Int))) :
 cd (n+5) (.round 1 7) [.int .i64 (k:Int)] (ay::Lj r0 (shR O U Z V J W (bI g)) c (0,.loop (c7 (shR O U Z V J W (bI g)))) (DR U W g c k)::H)=some (.bool true,ay::Lj r0 (shR O U Z V J W (bI g)) c (0,.loop (c7 (shR O U Z V J W (bI g)))) (DR U W g c (k+1))::H):=by
 have hlc:=hS.len
 have h71:=fun (L:bB)=>Pg (n+3) O U Z V J W (bI g) c k (ay::L::H) [] wO
 have h65:=fun (L:bB)=>Lu n O U Z V J (vj W c k) g (⟨false,[(0,.row (shR O U Z V J (vj W c k) (bI g))),(0,.row (.I .i64 [(k:Int),(k:Int)]))]⟩::ay::L::H) 0 rfl (GA hS hc hk)
 have e2:c9 (au 3 (c:Int) 2) 3=2*c:=by rw[bt,dj];omega
 have e3:c9 (ar (au 3 (c:Int) 2) 1) 3=2*c+1:=by rw[bt,aI,dj];omega
 have ej:au 3 (c:Int) 2=3+c*2:=by rw[bt];omega
 have ew:cr (bV (W (2*c)) (k:Int)) (bV (W (2*c+1)) (k:Int))=false:=by
  rw[ct,bg,bg,Bool.and_eq_false_iff];by_cases q:W (2*c)=(k:Int)
  · right;exact beq_false_of_ne fun h=>hw ⟨q,h⟩
  · left;exact beq_false_of_ne q
 have hpb:DQ U g W c k=(vI W (c:Int) (k:Int) && JZ U g (vj W c k)):=rfl
 rw[DT,hpb]
 have hlen:=DS U W g c k
 generalize DR U W g c k=P at *
 generalize vI W (c:Int) (k:Int)=s at *
 generalize JZ U g (vj W c k)=q at *
 have e1:=nm (uZ P) (k:Int)
 cases P with
 | nil =>
   obtain ⟨f,t,h65⟩:=h65 (BZ r0 (shR O U Z V J W (bI g)) c (0,.loop { c7 (shR O U Z V J W (bI g)) with state:=.busy }))
   have h1:exec (iR (n+4) 30 60 2 7) rn [(3,.ptr 2 1 0 0),(4,.ptr 2 2 0 0),(5,.ptr 2 3 0 0),(6,.ptr 2 5 0 0),(8,.ptr 2 6 0 0),(25,MA 2 (shR O U Z V J W (bI g))),(26,.int .i64 (k:Int))] (ay::ay::BZ r0 (shR O U Z V J W (bI g)) c (0,.loop (c7 (shR O U Z V J W (bI g))))::H)=some (.normal,GD k,ay::ay::BZ r0 (shR O U Z V J W (bI g)) c (0,.loop (c7 (shR O U Z V J W (bI g))))::H) :=
    iE (Oq (n+4) _ _ H (k:Int)) (aA _) (ai _ _) (aj _ _) (Tr.ag rfl)
   have T:=QU (n+4) O U Z V J W (bI g) H r0 (k:Int) (c:Int) (0,.loop { c7 (shR O U Z V J W (bI g)) with state:=.busy }) s (!q) f t
   rw[e2,e3,BA,ew,ej] at T
   obtain ⟨y,h2,h3⟩:=mB (Q:=fun y=>y.1=.normal∧∃ lv,y.2.2=lv::ay::Lj r0 (shR O U Z V J W (bI g)) c (0,.loop { c7 (shR O U Z V J W (bI g)) with state:=.busy }) (if (s && q)=true then []++[k] else [])::H) T (bQ _ _ (dh (dh (bp _) (fun x hy=>by rw[← Tr.ae hy];exact h71 _)) (fun x hy=>by rw[← Tr.ae hy];exact h65))) (ai _ _) (aj _ _) (by
    clear T h1 h71 h65;generalize c7 (shR O U Z V J W (bI g))=L at *;refine Tr.al ⟨rfl,rfl⟩ ?_;cases s with
    | false=>exact Tr.af (fun _=>Tr.ag ⟨rfl,_,rfl⟩) (fun h=>by simp[aH] at h)
    | true =>
      refine Tr.af (fun h=>by simp[aH] at h) (fun _=>?_);refine Tr.ab wG (Tr.ab wG (Tr.ab wG (Tr.ab wG (Tr.af (fun h=>by cases h) (fun _=>Tr.ab wG (Tr.ab wG (Tr.ab wG (Tr.ab wG (Tr.al ⟨rfl,rfl⟩ ?_)))))))));cases q with
      | true =>
        refine Tr.af (fun _=>?_) (fun h=>by simp[aH] at h);exact Tr.ab wG (Tr.ab wG (Tr.ab wG (Tr.ag ⟨rfl,_,rfl⟩)))
      | false=>exact Tr.af (fun h=>by simp[aH] at h) (fun _=>Tr.ag ⟨rfl,_,rfl⟩))
   obtain ⟨ey,fy,hy⟩:=y
   obtain ⟨h3,lv,h4⟩:=h3
   dsimp only at h3 h4
   subst h3 h4
   refine pP (l:=c7 (shR O U Z V J W (bI g))) (l2:={ c7 (shR O U Z V J W (bI g)) with state:=.busy }) rfl rfl rfl rfl h1 h2 ?_ ?_
   · split<;>rfl
   · split<;>rfl
 | cons x r =>
   have e5:ar (r.length+1) 1=r.length+1+1:=by rw[aI]
   have e4:(r++[k]).length=r.length+1:=by simp
   have e1':mb (jI (aC (uZ (x::r))) 0) (r.length+1) (aC [(k:Int)])=aC (uZ (x::r++[k])):=by
    have:(uZ (x::r)).length=r.length+1:=by simp[uZ]
    rw[this] at e1;rw[e1];simp[uZ]
   have eL:∀ K,Lj r0 (shR O U Z V J W (bI g)) c K (x::r++[k])=FJ r0 (shR O U Z V J W (bI g)) c K (r.length+1) (r.length+1+1) (aC (uZ (x::r++[k]))):=fun K=>by
    show FJ _ _ _ _ (r++[k]).length ((r++[k]).length+1) (aC (uZ (x::(r++[k]))))=_;rw[e4];rfl
   simp only[List.length_cons] at hlen
   obtain ⟨f,t,h65⟩:=h65 (FJ r0 (shR O U Z V J W (bI g)) c (0,.loop { c7 (shR O U Z V J W (bI g)) with state:=.busy }) r.length (r.length+1) (aC (uZ (x::r))))
   have h1:exec (iR (n+4) 30 60 2 7) rn [(3,.ptr 2 1 0 0),(4,.ptr 2 2 0 0),(5,.ptr 2 3 0 0),(6,.ptr 2 5 0 0),(8,.ptr 2 6 0 0),(25,MA 2 (shR O U Z V J W (bI g))),(26,.int .i64 (k:Int))] (ay::ay::FJ r0 (shR O U Z V J W (bI g)) c (0,.loop (c7 (shR O U Z V J W (bI g)))) r.length (r.length+1) (aC (uZ (x::r)))::H)=some (.normal,GD k,ay::ay::FJ r0 (shR O U Z V J W (bI g)) c (0,.loop (c7 (shR O U Z V J W (bI g)))) r.length (r.length+1) (aC (uZ (x::r)))::H) :=
    iE (Oq (n+4) _ _ H (k:Int)) (aA _) (ai _ _) (aj _ _) (Tr.ag rfl)
   have T:=Ui (n+4) O U Z V J W (bI g) H r0 (k:Int) (c:Int) (0,.loop { c7 (shR O U Z V J W (bI g)) with state:=.busy }) s (!q) f t r.length (r.length+1) (aC (uZ (x::r)))
   rw[e2,e3,BA,ew,ej,e1',e5] at T
   obtain ⟨y,h2,h3⟩:=mB (Q:=fun y=>y.1=.normal∧∃ lv,y.2.2=lv::ay::Lj r0 (shR O U Z V J W (bI g)) c (0,.loop { c7 (shR O U Z V J W (bI g)) with state:=.busy }) (if (s && q)=true then x::r++[k] else x::r)::H) T (bQ _ _ (dh (dh (bp _) (fun x hy=>by rw[← Tr.ae hy];exact h71 _)) (fun x hy=>by rw[← Tr.ae hy];exact h65))) (ai _ _) (aj _ _) (by
    clear T h1 h71 h65;generalize c7 (shR O U Z V J W (bI g))=L at *;refine Tr.al ⟨rfl,rfl⟩ ?_;cases s with
    | false=>exact Tr.af (fun _=>Tr.ag ⟨rfl,_,rfl⟩) (fun h=>by simp[aH] at h)
    | true =>
      refine Tr.af (fun h=>by simp[aH] at h) (fun _=>?_);refine Tr.ab wG (Tr.ab wG (Tr.ab wG (Tr.ab wG (Tr.af (fun h=>by cases h) (fun _=>Tr.ab wG (Tr.ab wG (Tr.ab wG (Tr.ab wG (Tr.al ⟨rfl,rfl⟩ ?_)))))))));cases q with
      | true =>
        refine Tr.af (fun _=>?_) (fun h=>by simp[aH] at h);refine Tr.ab wG (Tr.ab wG (Tr.ab wG ?_));refine Tr.ab wG (Tr.ab (by simp (disch:=omega) only[nV,nW]<;>omega) (Tr.ag ⟨rfl,?_⟩));show ∃ lv,_=lv::ay::Lj r0 (shR O U Z V J W (bI g)) c _ (x::r++[k])::H;rw[eL];exact ⟨_,rfl⟩
      | false=>exact Tr.af (fun h=>by simp[aH] at h) (fun _=>Tr.ag ⟨rfl,_,rfl⟩))
   obtain ⟨ey,fy,hy⟩:=y
   obtain ⟨h3,lv,h4⟩:=h3
   dsimp only at h3 h4
   subst h3 h4
   refine pP (l:=c7 (shR O U Z V J W (bI g))) (l2:={ c7 (shR O U Z V J W (bI g)) with state:=.busy }) rfl rfl rfl rfl h1 h2 ?_ ?_
   · split<;>rfl
   · split<;>rfl
end
end Go.Eng
end
section
namespace Go.Eng
open Go.Proofs Go.Eng.Gall
section
variable (n:Nat) (O:Int) (U:Nat) (Z:Nat→Int) (V:Nat) (J:Nat→Int) (W:Nat→Int) (g:Nat→Nat) (H:aa) (r0:Row)
theorem R4 (B:Nat→Int) (St:Nat→aa) (hk:U≤1000) (hr:∀ j,j<U→cd n (.round 1 7) [.int .i64 (j:Int)] (ay::St j)=some (.bool true,ay::St (j+1))) :
 cd (n+1) (.fn 90) [.yld 0 7,.ptrT (some 0) (.G [shV O U Z V J W B]) 0] (St 0)=some (.tup [],St U):=by
 have hx:=fQ (n:=n) (f:=90) (nt:=18) (c:=part Tryd.f90 [1,0,0]) 0 (fun j=>l6 U (j:Int)) (fun j=>ay::St j) U (l6 U (Int.ofNat U)++[(11,.bool false)],ay::St U) wO (fun j hj=>?_) ?_
 · refine bF (n:=n) Tryd.func90 rfl rfl rfl (UL n O U Z V J W B (St 0) (St U)) (aA _) (az (ai _ _) Pd (fun x h=>by rw[← Tr.ae h];simp only[db.st,aq];exact hx)) (aj _ _) ?_
   exact Tr.al ⟨rfl,rfl⟩ (Tr.ag ⟨rfl,rfl⟩)
 · refine aw (Ow n U (j:Int) (St j) (St (j+1)) true) (uw (aA n) (fun x hy=>by rw[← Tr.ae hy];exact hr j hj)) (ai _ _) (aj _ _) ?_
   rw[eg wO]
   generalize St (j+1)=G' at *
   generalize St j=G at *
   exact wF
 · obtain ⟨x,h1,rfl⟩:=aw (Q:=fun x=>x=(.exit 0,l6 U (Int.ofNat U)++[(11,.bool false)],ay::St U)) (Um n U (Int.ofNat U) (St U)) (aA n) (ai _ _) (aj _ _) (by
    refine Tr.af (fun hc=>?_) (fun hc=>Tr.ag rfl);simp (disch:=omega) only[nV,nW] at hc;omega)
   exact h1
theorem R5 (B:Nat→Int) (S S':aa) (K:Nat) (hK:K<U) (hk:U≤1000) (hr:∀ j,j<K→cd n (.round 1 7) [.int .i64 (j:Int)] (ay::S)=some (.bool true,ay::S)) (hx:cd n (.round 1 7) [.int .i64 (K:Int)] (ay::S)=some (.bool false,ay::S')) :
 cd (n+1) (.fn 90) [.yld 0 7,.ptrT (some 0) (.G [shV O U Z V J W B]) 0] S=some (.tup [],S'):=by
 obtain ⟨y,h1,rfl⟩:=Qc (n:=n) (f:=90) (nt:=18) (c:=part Tryd.f90 [1,0,0]) 0 (fun j fr H=>j≤K∧fr=l6 U (j:Int)∧H=ay::S) (fun y=>y=(l6 U (K:Int)++[(16,.bool true)],ay::S')) U wO (fr0:=l6 U (Int.ofNat 0)) (H0:=ay::S) ⟨Nat.zero_le _,rfl,rfl⟩ (fun j fr H hI=>by
  obtain ⟨hj,rfl,rfl⟩:=hI;by_cases e:j=K
  · subst e;refine aw (Ow n U (j:Int) S S' false) (uw (aA n) (fun x hy=>by rw[← Tr.ae hy];exact hx)) (ai _ _) (aj _ _) ?_;refine Tr.af (fun _=>Tr.al ⟨rfl,rfl⟩ (Tr.af (fun _=>Tr.ag (.inr ⟨rfl,rfl⟩)) (fun q=>by simp[aH] at q))) wJ
  · refine aw (Ow n U (j:Int) S S true) (uw (aA n) (fun x hy=>by rw[← Tr.ae hy];exact hr j wO)) (ai _ _) (aj _ _) ?_;rw[eg wO];refine Tr.af (fun _=>Tr.al ⟨rfl,rfl⟩ (Tr.af (fun q=>by simp[aH] at q) (fun _=>Tr.ag (.inl ⟨rfl,by omega,by omega,rfl,rfl⟩)))) wJ)
 refine bF (n:=n) Tryd.func90 rfl rfl rfl (UM n O U Z V J W B S S' (K:Int)) (aA _) (az (ai _ _) Pd (fun x h=>by rw[← Tr.ae h];simp only[db.st,aq];exact h1)) (aj _ _) ?_
 exact Tr.al ⟨rfl,rfl⟩ (Tr.ag ⟨rfl,rfl⟩)
theorem HR {n d i:Nat} {args:List AV} {H H2 R:aa} {l l2:iO} {fr fr1 fr2:aD} {lv:bB}
 (hg:aB H d i=(0,.loop l)) (hl:aM H d=false) (hs:l.state=.ready) (hp:jZ l.nt (kX (d+1) l.fr) l.params (args.map (m6 1))=some fr)
 (h1:exec (iR n l.fn l.nt (d+1) i) l.assign fr (ay::H)=some (.normal,fr1,ay::H))
 (h2:exec (iR n l.fn l.nt (d+1) i) l.body fr1 (dD (ay::H) (d+1) i (0,.loop { l with state:=.busy }))=some (.ret,fr2,lv::H2)) (hg2:aB H2 d i=(0,.loop l2)) (hR:R=dD H2 d i (0,.loop { l2 with state:=.done,pending:=cJ .ret })) :
 cd (n+1) (.round d i) args H=some (.bool false,R):=by
 rw[hR]
 exact zZ (P:=Tryd.prog) (ora:=iy) (KT:=KtG.kt) (fu:=100000) (e:=.ret) hg hl hs hp h1 (by rw[show aB (ay::H) (d+1) i=aB H d i from rfl];exact hg) hs h2 hg2
theorem Ue (hS:gy U W g) (c k:Nat) (hc:c<U) (hk:k<U) (hw:W (2*c)=(k:Int)∧W (2*c+1)=(k:Int)) :
 cd (n+5) (.round 1 7) [.int .i64 (k:Int)] (ay::BZ r0 (shR O U Z V J W (bI g)) c (0,.loop (c7 (shR O U Z V J W (bI g))))::H)=some (.bool false,ay::Qd r0 (shR O U Z V J W (bI g)) c (0,.loop { c7 (shR O U Z V J W (bI g)) with state:=.done,pending:=cJ .ret }) (k:Int)::H):=by
 have hlc:=hS.len
 have h71:=fun (L:bB)=>Pg (n+3) O U Z V J W (bI g) c k (ay::L::H) [] wO
 have h65:=fun (L:bB)=>Lu n O U Z V J (vj W c k) g (⟨false,[(0,.row (shR O U Z V J (vj W c k) (bI g))),(0,.row (.I .i64 [(k:Int),(k:Int)]))]⟩::ay::L::H) 0 rfl (GA hS hc hk)
 have e2:c9 (au 3 (c:Int) 2) 3=2*c:=by rw[bt,dj];omega
 have e3:c9 (ar (au 3 (c:Int) 2) 1) 3=2*c+1:=by rw[bt,aI,dj];omega
 have ej:au 3 (c:Int) 2=3+c*2:=by rw[bt];omega
 have ew:cr (bV (W (2*c)) (k:Int)) (bV (W (2*c+1)) (k:Int))=true:=by
  rw[ct,bg,bg,hw.1,hw.2];simp
 have hs:vI W (c:Int) (k:Int)=true:=(Ai W c k).2 ⟨by omega,by omega⟩
 obtain ⟨f,t,h65⟩:=h65 (BZ r0 (shR O U Z V J W (bI g)) c (0,.loop { c7 (shR O U Z V J W (bI g)) with state:=.busy }))
 have h1:exec (iR (n+4) 30 60 2 7) rn [(3,.ptr 2 1 0 0),(4,.ptr 2 2 0 0),(5,.ptr 2 3 0 0),(6,.ptr 2 5 0 0),(8,.ptr 2 6 0 0),(25,MA 2 (shR O U Z V J W (bI g))),(26,.int .i64 (k:Int))] (ay::ay::BZ r0 (shR O U Z V J W (bI g)) c (0,.loop (c7 (shR O U Z V J W (bI g))))::H)=some (.normal,GD k,ay::ay::BZ r0 (shR O U Z V J W (bI g)) c (0,.loop (c7 (shR O U Z V J W (bI g))))::H) :=
  iE (Oq (n+4) _ _ H (k:Int)) (aA _) (ai _ _) (aj _ _) (Tr.ag rfl)
 rw[hs] at h71
 have T:=QU (n+4) O U Z V J W (bI g) H r0 (k:Int) (c:Int) (0,.loop { c7 (shR O U Z V J W (bI g)) with state:=.busy }) true (!JZ U g (vj W c k)) f t
 rw[e2,e3,BA,ew,ej] at T
 obtain ⟨y,h2,h3⟩:=mB (Q:=fun y=>y.1=.ret∧∃ lv,y.2.2=lv::ay::Qd r0 (shR O U Z V J W (bI g)) c (0,.loop { c7 (shR O U Z V J W (bI g)) with state:=.busy }) (k:Int)::H) T (bQ _ _ (dh (dh (bp _) (fun x hy=>by rw[← Tr.ae hy];exact h71 _)) (fun x hy=>by rw[← Tr.ae hy];exact h65))) (ai _ _) (aj _ _) (by
  clear T h1 h71 h65;generalize c7 (shR O U Z V J W (bI g))=L at *;refine Tr.al ⟨rfl,rfl⟩ (Tr.af (fun h=>by simp[aH] at h) (fun _=>?_));exact Tr.ab wG (Tr.ab wG (Tr.ab wG (Tr.ab wG (Tr.af (fun _=>Tr.ag ⟨rfl,_,rfl⟩) (fun h=>by cases h))))))
 obtain ⟨ey,fy,hy⟩:=y
 obtain ⟨h3,lv,h4⟩:=h3
 dsimp only at h3 h4
 subst h3 h4
 exact HR (l:=c7 (shR O U Z V J W (bI g))) (l2:={ c7 (shR O U Z V J W (bI g)) with state:=.busy }) rfl rfl rfl rfl h1 h2 rfl rfl
end
end Go.Eng
end
section
namespace Go.Eng
open Go.Proofs Go.Eng.Gall
section
variable (n:Nat) (O:Int) (U:Nat) (Z:Nat→Int) (V:Nat) (J:Nat→Int) (H:aa)
theorem J3 {c:Nat} {fr:aD} {G:aa} {Y:db} (hx:exec (bN c 30 60) (.rangeFunc (.tmp 25) #[26] rn za) fr G=some Y.st):(HO aR (fun _=>true) fr G (.ok Y)).Ok (bN c 30 60) (aZ Tryd.f30) :=
 Ci (aj _ _) (fun f ps a b _ hm x hx2=>by
  rw[Yp] at hm;simp only[List.mem_cons,Prod.mk.injEq,List.not_mem_nil,or_false] at hm;obtain ⟨rfl,rfl,rfl,rfl⟩:=hm;rw[← Tr.ae hx2];exact hx)
theorem YV (W:Nat→Int) (g:Nat→Nat) (r0:Row) (hS:gy U W g) (c:Nat) (hc:c<U) (hw:∀ k,k<U→¬ (W (2*c)=(k:Int)∧W (2*c+1)=(k:Int))):exec (bN (n+6) 30 60) (.rangeFunc (.tmp 25) #[26] rn za) (sZ (shR O U Z V J W (bI g))) (⟨false,wZ r0 (shR O U Z V J W (bI g)) c .nils .nils⟩::H)=some (.normal,sZ (shR O U Z V J W (bI g)),dS (Lj r0 (shR O U Z V J W (bI g)) c (0,.loop (c7 (shR O U Z V J W (bI g)))) (DR U W g c U)::H) 0 7):=by
 have h:=R4 (n+5) O U Z V J W (bI g) (fun k=>Lj r0 (shR O U Z V J W (bI g)) c (0,.loop (c7 (shR O U Z V J W (bI g)))) (DR U W g c k)::H) (by have:=hS.len;omega) (fun j hj=>QC n O U Z V J W g H r0 hS c j hc hj (hw j hj));have h':cd (n+6) (.fn 90) [.yld 0 7,.ptrT (some 0) (.G [shV O U Z V J W (bI g)]) 0] (BZ r0 (shR O U Z V J W (bI g)) c (0,.loop (c7 (shR O U Z V J W (bI g))))::H)=_:=h;refine pL (cx:=bN (n+6) 30 60) (l:=c7 (shR O U Z V J W (bI g))) (f:=.tmp 25) (ps:=#[26]) (fr:=sZ (shR O U Z V J W (bI g))) (H:=⟨false,wZ r0 (shR O U Z V J W (bI g)) c .nils .nils⟩::H) (g:=90) (a:=[]) (b:=[.ptrT (some 0) (.G [shV O U Z V J W (bI g)]) 0]) rfl rfl rfl h' ?_ rfl rfl;cases DR U W g c U with
 | nil=>rfl
 | cons x r=>rfl
theorem UT (W:Nat→Int) (g:Nat→Nat) (r0:Row) (hS:gy U W g) (c k:Nat) (hc:c<U) (hk:k<U) (hw:W (2*c)=(k:Int)∧W (2*c+1)=(k:Int)):exec (bN (n+6) 30 60) (.rangeFunc (.tmp 25) #[26] rn za) (sZ (shR O U Z V J W (bI g))) (⟨false,wZ r0 (shR O U Z V J W (bI g)) c .nils .nils⟩::H)=some (.ret,sZ (shR O U Z V J W (bI g)),Qd r0 (shR O U Z V J W (bI g)) c (0,.dead) (k:Int)::H):=by
 have hn:∀ j,j<U→j≠k→DQ U g W c j=false:=fun j hj hne=>by
  unfold DQ;cases hs:vI W (c:Int) (j:Int) with
  | false=>rfl
  | true=>have:=(Ai W c j).1 hs;omega
 have hp:∀ j,j≤k→DR U W g c j=[]:=by
  intro j;induction j with
  | zero=>intro _;rfl
  | succ j ih=>intro hj;rw[DT,hn j wO wO,ih wO];rfl
 have h:=R5 (n+5) O U Z V J W (bI g) (BZ r0 (shR O U Z V J W (bI g)) c (0,.loop (c7 (shR O U Z V J W (bI g))))::H) (Qd r0 (shR O U Z V J W (bI g)) c (0,.loop { c7 (shR O U Z V J W (bI g)) with state:=.done,pending:=cJ .ret }) (k:Int)::H) k hk (by have:=hS.len;omega) (fun j hj=>by
  have:=QC n O U Z V J W g H r0 hS c j hc wO wO;rw[hp j wO,hp (j+1) wO] at this;exact this) (Ue n O U Z V J W g H r0 hS c k hc hk hw)
 exact pL (cx:=bN (n+6) 30 60) (l:={ c7 (shR O U Z V J W (bI g)) with state:=.done,pending:=cJ .ret }) (f:=.tmp 25) (ps:=#[26]) (fr:=sZ (shR O U Z V J W (bI g))) (H:=⟨false,wZ r0 (shR O U Z V J W (bI g)) c .nils .nils⟩::H) (g:=90) (a:=[]) (b:=[.ptrT (some 0) (.G [shV O U Z V J W (bI g)]) 0]) rfl rfl rfl h rfl rfl rfl
noncomputable def hJ (c:Nat):List Nat:=IF U (fun c=>fA J c V) (dg O U Z) c
noncomputable def IE (c:Int):AV:=if vW O U Z V J c=0 then (if wA O U Z V J=none then .tup [aF (hJ O U Z V J c.toNat).length (aC (uZ (hJ O U Z V J c.toNat))) false,.int .i64 0] else .tup [.nils,.int .i64 13]) else .tup [.nils,.int .i64 (vW O U Z V J c)]
theorem VG (c:Int) (hl:U≤1000) (hb:V≤1000):cd (n+14) (.fn 30) [bj O U Z V J,.int .i64 c] H=some (IE O U Z V J c,H):=by
 have h69:cd (n+13) (.fn 69) [bj O U Z V J,sJ 0] (B4 O U Z V J c::H)=_:=R2 n O U Z V J H (0,.row (.G [.int .i64 O,slA 4 U Z,slA 2 V J])) (0,.row (.I .i64 [c])) (0,.row (.G [.nils])) (0,.row (.I .i64 [Int.ofNat 0])) c hl hb;unfold T6 at h69;unfold IE;by_cases he:vW O U Z V J c=0
 · rw [if_pos he] at h69 ⊢;obtain ⟨h0,hc0,hc1⟩:=PE he;obtain ⟨h1,h2,h3,h4,h5,h6⟩:=ke h0;have hS:=H9 O U Z V J h1.2 h3 h4 h5 h6;obtain ⟨c,rfl⟩:∃ c':Nat,c=(c':Int):=⟨c.toNat,by omega⟩
   have hc:c<U:=by omega
   rw[Int.toNat_natCast];unfold T7 at h69;by_cases ho:wA O U Z V J=none
   · rw [if_pos ho] at h69 ⊢;have hnb:JZ U (fun c=>fA J c V) (dg O U Z)=true:=by show (wA O U Z V J).isNone=true;rw[ho];rfl
     have h70:∀ H,cd (n+13) (.fn 70) [shV O U Z V J (dg O U Z) (fI V J)] H=some (MA 0 (shR O U Z V J (dg O U Z) (fI V J)),H):=fun H=>by
      refine bF (n:=n+12) Tryd.func70 rfl rfl rfl (VX (n+12) O U Z V J (dg O U Z) (fI V J) H) (aA _) (ai _ _) (aj _ _) ?_;exact Tr.ag ⟨rfl,rfl⟩
     by_cases hw:∃ k,k<U∧dg O U Z (2*c)=(k:Int)∧dg O U Z (2*c+1)=(k:Int)
     · obtain ⟨k,hk,w1,w2⟩:=hw;have hx:=UT (n+7) O U Z V J H (dg O U Z) (fun c=>fA J c V) (.G [.int .i64 O,slA 4 U Z,slA 2 V J]) hS c k hc hk ⟨w1,w2⟩;have hpl:hJ O U Z V J c=[k]:=N1 hnb hk w1 w2;rw[hpl];refine xk (n:=n+13) (.inl rfl) Tryd.func30 rfl rfl (Uu (n+13) O U Z V J (dg O U Z) (fI V J) H (c:Int) (k:Int)) (bQ _ _ (dh (eJ (bp _) h70) (fun x hy=>by rw[← Tr.ae hy];exact h69))) (ai _ _) (J3 (by simp only[db.st,aq];exact hx)) ?_;refine Tr.al ⟨rfl,rfl⟩ (Tr.af (fun q=>by simp[aH,bg] at q) (fun _=>Tr.al rfl (Tr.al ⟨rfl,rfl⟩ (Tr.ab wG (Tr.ag ⟨?_,rfl⟩)))));show AV.tup [.slcT none (.M [.arr .i64 (fun j=>[(k:Int)].getD j 0) 1]) 1 1 false,.int .i64 (Int.ofNat 0)]=.tup [aF 1 (aC [(k:Int)]) false,.int .i64 0];rw[fz];rfl
     · have hx:=YV (n+7) O U Z V J H (dg O U Z) (fun c=>fA J c V) (.G [.int .i64 O,slA 4 U Z,slA 2 V J]) hS c hc (fun k hk h=>hw ⟨k,hk,h⟩);have hne:∃ k,k ∈ hJ O U Z V J c:=by
        obtain ⟨R,hR⟩:=(Bm hS Ba).1 ho;exact ⟨R.idxOf c,(N0 hS Ba hc).2 ⟨R,hR,rfl⟩⟩
       have hpk:DR U (dg O U Z) (fun c=>fA J c V) c U=hJ O U Z V J c:=rfl;have hle:(hJ O U Z V J c).length≤U:=by rw[← hpk];exact DS _ _ _ _ _
       rw[hpk] at hx;cases hP:hJ O U Z V J c with
       | nil=>rw[hP] at hne;obtain ⟨k,hk⟩:=hne;cases hk
       | cons x r =>
         rw[hP] at hx hle;simp only[List.length_cons] at hle;have T:=Ut (n+13) O U Z V J (dg O U Z) (fI V J) H (c:Int) r.length (r.length+1) (aC (uZ (x::r)));rw[bU] at T;refine xk (n:=n+13) (.inl rfl) Tryd.func30 rfl rfl T (bQ _ _ (dh (eJ (bp _) h70) (fun x hy=>by rw[← Tr.ae hy];exact h69))) (ai _ _) (J3 (by simp only[db.st,aq];exact hx)) ?_;clear T hx h69 h70;refine Tr.al ⟨rfl,rfl⟩ (Tr.af (fun q=>by simp[aH,bg] at q) (fun _=>Tr.al rfl (Tr.al ⟨rfl,rfl⟩ (Tr.ab wG (Tr.ab wG (Tr.ag ⟨rfl,rfl⟩))))))
   · rw[if_neg ho] at h69 ⊢;refine xk (n:=n+13) (.inl rfl) Tryd.func30 rfl rfl (Rs (n+13) O U Z V J H (c:Int) (Int.ofNat 13)) (bQ _ _ (dh (Al (bp _)) (fun x hy=>by rw[← Tr.ae hy];exact h69))) (ai _ _) (aj _ _) ?_;exact Tr.al ⟨rfl,rfl⟩ (Tr.af (fun _=>Tr.ag ⟨rfl,rfl⟩) (fun q=>by simp[aH,bg] at q))
 · rw[if_neg he] at h69 ⊢;refine xk (n:=n+13) (.inl rfl) Tryd.func30 rfl rfl (Rs (n+13) O U Z V J H c (vW O U Z V J c)) (bQ _ _ (dh (Al (bp _)) (fun x hy=>by rw[← Tr.ae hy];exact h69))) (ai _ _) (aj _ _) ?_;refine Tr.al ⟨rfl,rfl⟩ (Tr.af (fun _=>Tr.ag ⟨rfl,rfl⟩) (fun q=>?_));rw[aH,bg] at q;exact absurd (by simpa using q) he
end
end Go.Eng
end
section
namespace Go.Eng
open Go.Proofs Go.Eng.Gall Go.Eng.Q
section
variable {O:Int} {U:Nat} {Z:Nat→Int} {V:Nat} {J:Nat→Int} {m:Nat} {z:Nat→Int} {k:Nat}
end
end Go.Eng
end
section
namespace Go.Eng
open Go.Proofs Go.Eng.Gall Go.Eng.Q
def Iz (n:Nat) (W Y0:Nat→Int):Prop:=∀ c,c<n→Y0 (2*c)=n-1-W (2*c+1)∧Y0 (2*c+1)=n-1-W (2*c)
theorem Iz.sym {n:Nat} {W Y0:Nat→Int} (h:Iz n W Y0):Iz n Y0 W:=fun c hc=>by have:=h c hc;omega
def KV (n:Nat) (b d:Nat→Nat):Prop:=∀ a c,a<n→c<n→(d c).testBit a=(b a).testBit c
theorem KV.sym {n:Nat} {b d:Nat→Nat} (h:KV n b d):KV n d b:=fun a c ha hc=>(h c a hc ha).symm
section
variable {n:Nat} {b d:Nat→Nat} {W Y0:Nat→Int}
theorem wu {L:List Nat} (h:L.Nodup):L.reverse.Nodup:=List.pairwise_reverse.2 (h.imp Ne.symm)
theorem Ch {L:List Nat} (h:L.length=n) {i:Nat} (hi:i<L.reverse.length):∃ hp:n-1-i<L.length,L.reverse[i]=L[n-1-i]:=by
 rw[List.length_reverse] at hi;refine ⟨by omega,?_⟩;rw[List.getElem_reverse];congr 1;omega
theorem pW (hn:n≤10) (hb:∀ c,c<n→b c<2 ^ n) (hd:∀ c,c<n→d c<2 ^ n) (hB:KV n b d) (hW:Iz n W Y0) {L:List Nat} (hL:L ∈ ro n (okW Y0 (bI d)) n):L.reverse ∈ ro n (okW W (bI b)) n:=by
 obtain ⟨h1,h2,h3,h4⟩:=(jE hn hd).1 hL;refine (jE hn hb).2 ⟨by rw[List.length_reverse,h1],wu h2,fun x hx=>h3 x (List.mem_reverse.1 hx),fun i hi=>?_⟩;obtain ⟨hp,e⟩:=Ch h1 hi;rw[List.length_reverse] at hi;have hw:=(h4 _ hp).2;have hc:=h3 _ (List.getElem_mem hp);have hw2:=hW _ hc;rw[e];refine ⟨fun a ha=>?_,by omega,by omega⟩;have han:a<n:=by
  refine Nat.lt_of_not_le fun hge=>?_;rw[Nat.testBit_lt_two_pow (Nat.lt_of_lt_of_le (hb _ hc) (Nat.pow_le_pow_right wO hge))] at ha;cases ha
 rw[← hB _ _ hc han] at ha;obtain ⟨hq,eq⟩:=iD (fv h2 h1 h3 han);have hm:=(h4 _ hq).1 _ (by rw[eq];exact ha);have hlt:=x7 hm;rw[BR h2 hp] at hlt;refine List.mem_iff_getElem.2 ⟨n-1-L.idxOf a,by rw[List.length_take,List.length_reverse];omega,?_⟩;rw[List.getElem_take];obtain ⟨hp2,e2⟩:=Ch h1 (i:=n-1-L.idxOf a) (by rw[List.length_reverse];omega);rw[e2];have:n-1-(n-1-L.idxOf a)=L.idxOf a:=by omega
 simp only[this];exact eq
theorem Oz (hn:n≤10) (hb:∀ c,c<n→b c<2 ^ n) (hd:∀ c,c<n→d c<2 ^ n) (hB:KV n b d) (hW:Iz n W Y0):cntF n Y0 (bI d)=cntF n W (bI b):=by
 have h:=NC (l:=(ro n (okW Y0 (bI d)) n).map List.reverse) (m:=ro n (okW W (bI b)) n) (by
  rw[List.Nodup,List.pairwise_map];exact (uA n _ n).imp fun h e=>h (List.reverse_inj.1 e)) (uA n _ n) (fun x=>by
  rw[List.mem_map];constructor
  · rintro ⟨L,hL,rfl⟩;exact pW hn hb hd hB hW hL
  · intro hx;exact ⟨x.reverse,pW hn hd hb hB.sym hW.sym hx,List.reverse_reverse x⟩)
 rw[List.length_map] at h;unfold cntF;rw[h]
theorem D2 {L:List Nat} {c:Nat} (h1:L.length=n) (h2:L.Nodup) (hm:c ∈ L):L.reverse.idxOf c=n-1-L.idxOf c:=by
 obtain ⟨hq,e⟩:=iD hm;obtain ⟨hp,e2⟩:=Ch h1 (i:=n-1-L.idxOf c) (by rw[List.length_reverse];omega);have:n-1-(n-1-L.idxOf c)=L.idxOf c:=by omega
 simp only[this] at e2;rw[e] at e2;have h:=BR (wu h2) (i:=n-1-L.idxOf c) (by rw[List.length_reverse];omega);rw[e2] at h;exact h
theorem OB (hS:gy n W b) (hS2:gy n Y0 d) (hw:∀ c,c<n→0≤W (2*c)∧W (2*c+1)<n) (hv:∀ c,c<n→0≤Y0 (2*c)∧Y0 (2*c+1)<n) (hB:KV n b d) (hW:Iz n W Y0) {c k:Nat} (hc:c<n) (hk:k<n):DQ n d Y0 c k=DQ n b W c (n-1-k):=by
 rw[Bool.eq_iff_iff,xJ hS2 hv hc hk,xJ hS hw hc wO];constructor
 · rintro ⟨R,hR,he⟩;obtain ⟨h1,h2,h3⟩:=mW hR;exact ⟨R.reverse,pW hS.len hS.bef hS2.bef hB hW hR,by rw[D2 h1 h2 (fv h2 h1 h3 hc),he]⟩
 · rintro ⟨R,hR,he⟩;obtain ⟨h1,h2,h3⟩:=mW hR;refine ⟨R.reverse,pW hS.len hS2.bef hS.bef hB.sym hW.sym hR,?_⟩;rw[D2 h1 h2 (fv h2 h1 h3 hc),he];omega
theorem Rn (hS:gy n W b) (hS2:gy n Y0 d) (hw:∀ c,c<n→0≤W (2*c)∧W (2*c+1)<n) (hv:∀ c,c<n→0≤Y0 (2*c)∧Y0 (2*c+1)<n) (hB:KV n b d) (hW:Iz n W Y0) {c:Nat} (hc:c<n):(IF n b W c).reverse=(IF n d Y0 c).map (fun k=>n-1-k):=by
 unfold IF;rw[← List.filter_reverse];have e:(List.range n).reverse=(List.range n).map (fun k=>n-1-k):=by
  refine List.ext_getElem (by simp) (fun i h1 h2=>?_);rw[List.getElem_reverse,List.getElem_range,List.getElem_map,List.getElem_range,List.length_range]
 rw[e,List.filter_map];congr 1;refine List.filter_congr fun k hk=>?_;rw[List.mem_range] at hk;exact (OB hS hS2 hw hv hB hW hc hk).symm
end
end Go.Eng
end
