/- Gall: the first right order: the walk, whole. -/
import Derived.Test.YtgphpjdchnfjlaaDoorV6Gbex15
import Derived.Test.YtgphpjdchnfjlaaDoorV6Gp6x13
set_option linter.unusedVariables false
set_option linter.unusedSimpArgs false
set_option maxRecDepth 100000
section
namespace Go.Eng
open Go.Proofs Go.Eng.Gall
def uZ (L:List Nat):List Int:=L.map fun x:Nat=>(x:Int)
section
variable (n:Nat) (O:Int) (U:Nat) (Z:Nat→Int) (V:Nat) (J:Nat→Int) (W:Nat→Int) (g:Nat→Nat) (H:aa)
end
end Go.Eng
end
section
namespace Go.Eng
open Go.Proofs Go.Eng.Gall
theorem xk {f:FuncId} {fn:Func} {n:Nat} (h30:f=30∨f=38) (hf:Tryd.prog.funcs[f]?=some fn) (hb:fn.body.isSome=true) {args:List HV} (hle:Nat.ble args.length fn.ntmps=true) {H:aa} {callR:bw} {bl:eV} {rg:nZ} {T:Tr (HV×aa)}
 (e:bo Tryd.prog (cd n) 100000 f fn (KtG.kt f) callR bl rg args H=T) (hC:callR.Ok (cd n)) (hB:bl.Ok (bN n f fn.ntmps) (aZ fn)) (hR:rg.Ok (bN n f fn.ntmps) (aZ fn)) {v:AV} {H':aa} (h:T.all fun y=>Fb y.1.1=v∧y.2=H'):cd (n+1) (.fn f) (kd args) H=some (v,H'):=by
 obtain ⟨y,h1,h2,h3⟩:=h
 have:=xT (P:=Tryd.prog) (KT:=KtG.kt) (fu:=100000) (f:=f) (call:=cd n) (fn:=fn) hf hb hle hC hB hR (by rw[e];exact h1)
 refine oZ ?_
 have e2:iy (cd n) f (kd args) H=NQ (oM Tryd.prog KtG.kt 100000 f (cd n) (kd args) H):=by rcases h30 with rfl | rfl<;>rfl
 rw[e2,this]
 show some (Fb y.1.1,y.2)=_
 rw[h2,h3]
section
variable (n:Nat) (O:Int) (U:Nat) (Z:Nat→Int) (V:Nat) (J:Nat→Int) (H:aa)
end
end Go.Eng
end
section
namespace Go.Eng
open Go.Proofs Go.Eng.Gall
end Go.Eng
end
section
namespace Go.Eng
open Go.Proofs Go.Eng.Gall
section
variable (n:Nat) (O:Int) (U:Nat) (Z:Nat→Int) (V:Nat) (J:Nat→Int) (H:aa)
variable (f t:Int) (m:Nat) (z:Nat→Int)
end
end Go.Eng
end
section
namespace Go.Eng
open Go.Proofs Go.Eng.Gall
section
variable (n:Nat) (O:Int) (U:Nat) (Z:Nat→Int) (V:Nat) (J:Nat→Int) (H:aa) (f t:Int) (m:Nat) (z:Nat→Int)
end
end Go.Eng
end
section
namespace Go.Eng
open Go.Proofs Go.Eng.Gall
section
variable (n:Nat) (O:Int) (U:Nat) (Z:Nat→Int) (V:Nat) (J:Nat→Int) (H:aa) (f t:Int) (m:Nat) (z:Nat→Int)
end
end Go.Eng
end
section
namespace Go.Eng
open Go.Proofs Go.Eng.Gall Go.Eng.Q
section
variable {O:Int} {U:Nat} {Z:Nat→Int} {V:Nat} {J:Nat→Int}
end
end Go.Eng
end
section
namespace Go.Eng
open Go.Proofs Go.Eng.Gall
end Go.Eng
end
section
namespace Go.Eng
open Go.Proofs Go.Eng.Gall
theorem b6:∀ b,(0,b) ∈ aP (aZ Tryd.f6)→b=.loop (part Tryd.f6 [1,1,1,1,1,1,1,0,1,0,1,1,1,0,1,0,0]):=eA (by kernel_rfl)
section
variable (O:Int) (U:Nat) (Z:Nat→Int) (V:Nat) (J:Nat→Int)
variable (n:Nat) (H:aa) (mo:Nat) (zo:Nat→Int) (f t:Int) (m:Nat) (z y:Nat→Int)
end
end Go.Eng
end
section
namespace Go.Eng
open Go.Proofs Go.Eng.Gall
section
variable (O:Int) (U:Nat) (Z:Nat→Int) (V:Nat) (J:Nat→Int) (n:Nat) (H:aa) (mo:Nat) (zo:Nat→Int) (f t:Int) (m:Nat) (z:Nat→Int)
end
end Go.Eng
end
section
namespace Go.Eng
open Go.Proofs Go.Eng.Gall
section
variable (O:Int) (U:Nat) (Z:Nat→Int) (V:Nat) (J:Nat→Int) (n:Nat) (H:aa) (mo:Nat) (zo:Nat→Int) (f t:Int) (m:Nat) (z:Nat→Int)
end
end Go.Eng
end
section
namespace Go.Eng
open Int (ofNat)
open Go.Proofs Go.Eng.Gall
noncomputable def iT (mo:Nat) (zo:Nat→Int) (U:Nat) (k up j:Int):aD:=[(1,aF mo zo false),(3,.ptr 0 0 0 0),(7,.int .i64 (ofNat U)),(8,.int .i64 k),(9,.ptr 0 1 0 0),(10,.int .i64 up),(11,.int .i64 j)]
noncomputable def iU (mo:Nat) (zo:Nat→Int) (U:Nat) (k j:Int):aD:=[(1,aF mo zo false),(3,.ptr 0 0 0 0),(7,.int .i64 (ofNat U)),(8,.int .i64 k),(9,.ptr 0 1 0 0),(13,.int .i64 j)]
noncomputable def iH (mo:Nat) (zo:Nat→Int) (U:Nat) (k:Int) (B:AV) (j:Int):aD:=[(1,aF mo zo false),(3,.ptr 0 0 0 0),(7,.int .i64 (ofNat U)),(8,.int .i64 k),(9,.ptr 0 1 0 0),(14,B),(15,.int .i64 j)]
noncomputable def iq (U a b:Nat) (p q:Nat→Int) (j:Int):aD:=[(7,.int .i64 (ofNat U)),(20,aF a p false),(22,aF b q false),(24,.int .i64 j)]
noncomputable def oc (O:Int) (U:Nat) (Z:Nat→Int) (V:Nat) (J:Nat→Int) (a b:AV):List (Nat×ak):=[(0,.row (.G [.int .i64 O,slA 4 U Z,slA 2 V J])),(0,.row (.G [.int .i64 O,a,b]))]
noncomputable def tF (O:Int) (U:Nat) (Z:Nat→Int) (V:Nat) (J:Nat→Int) (v m N:Nat) (x:Nat→Int):bB:=⟨false,oc O U Z V J (.slc 0 2 v 0 4 m none) .nils++[(v,.row (.M [.arr .i64 x N]))]⟩
noncomputable def vv (O:Int) (U:Nat) (Z:Nat→Int) (V:Nat) (J:Nat→Int) (v:Nat) (X:Nat→Int):bB:=⟨false,oc O U Z V J (slA 4 U X) .nils++[(v,.dead)]⟩
noncomputable def NK (O:Int) (U:Nat) (Z:Nat→Int) (V:Nat) (J:Nat→Int) (v:Nat) (X:Nat→Int) (u m N:Nat) (y:Nat→Int):bB:=⟨false,oc O U Z V J (slA 4 U X) (.slc 0 3 u 0 2 m none)++[(v,.dead),(u,.row (.M [.arr .i64 y N]))]⟩
noncomputable def cU (O:Int) (U:Nat) (Z:Nat→Int) (V:Nat) (J:Nat→Int) (X Y:Nat→Int) (r:List (Nat×ak)):bB:=⟨false,oc O U Z V J (slA 4 U X) (slA 2 V Y)++r⟩
theorem QN (n:Nat) (O:Int) (U:Nat) (Z:Nat→Int) (V:Nat) (J:Nat→Int) (H:aa) (mo:Nat) (zo:Nat→Int) (k:Int) (up:Int):aJ (bN (n+2) 11 204) (il aK n 2) aS aR (part Tryd.f11 [1,1,1,1,1,0,1,0,0]) (hints (iT mo zo U k up (ofNat 0))) (⟨false,oc O U Z V J .nils .nils⟩::H) =
 Tr.ite (bE (ofNat 0) (ofNat U)) (Tr.req (cQ (ofNat 0) U) (Tr.req (cK (au 0 (ofNat 0) 4) (bR U 4)) (Tr.req (cK (ar (au 0 (ofNat 0) 4) 1) (bR U 4)) (Tr.req (cK (ar (au 0 (ofNat 0) 4) 2) (bR U 4)) (Tr.req (cK (ar (au 0 (ofNat 0) 4) 3) (bR U 4)) (Tr.req (eT 0 1 32) (Tr.req (cg 0 0) (Tr.req (eU 1 1) (Tr.req (cr (eU 0 0) (eU 0 1)) (Tr.ok (Ex.normal,[(1,aF mo zo false,none),(3,AV.ptr 0 0 0 0,none),(7,iI U,none),(8,AV.int .i64 k,none),(9,AV.ptr 0 1 0 0,none),(10,AV.int .i64 up,none),(11,AV.int .i64 (bm .i64 (ofNat 0) (ofNat 1)),none)],(bh [(0,b8 O U Z V J),(0,ak.row (Row.G [AV.int .i64 O,AV.slc 0 4 0 0 4 1 none,AV.nils])),(0,ak.row (Row.I .i64 [Z (au 0 (ofNat 0) 4),Z (ar (au 0 (ofNat 0) 4) 1),Z (ar (au 0 (ofNat 0) 4) 2),Z (ar (au 0 (ofNat 0) 4) 3)])),(0,ak.row (Row.I .i64 [aV .i64 up (Z (ar (au 0 (ofNat 0) 4) 1)),aV .i64 up (Z (au 0 (ofNat 0) 4)),aV .i64 (ofNat 1000) (Z (ar (au 0 (ofNat 0) 4) 3)),aV .i64 (ofNat 1000) (Z (ar (au 0 (ofNat 0) 4) 2))])),(0,ak.row (rM (aC [aV .i64 up (Z (ar (au 0 (ofNat 0) 4) 1)),aV .i64 up (Z (au 0 (ofNat 0) 4)),aV .i64 (ofNat 1000) (Z (ar (au 0 (ofNat 0) 4) 3)),aV .i64 (ofNat 1000) (Z (ar (au 0 (ofNat 0) 4) 2))]) 4))])::H))))))))))) (Tr.ok (Ex.exit 0,[(1,aF mo zo false,none),(3,AV.ptr 0 0 0 0,none),(7,iI U,none),(8,AV.int .i64 k,none),(9,AV.ptr 0 1 0 0,none),(10,AV.int .i64 up,none),(11,iI 0,none),(54,AV.bool false,some 1)],(bh [(0,b8 O U Z V J),(0,ak.row (Row.G [AV.int .i64 O,AV.nils,AV.nils]))])::H)):=by kernel_rfl
theorem QO (n:Nat) (O:Int) (U:Nat) (Z:Nat→Int) (V:Nat) (J:Nat→Int) (H:aa) (mo:Nat) (zo:Nat→Int) (k:Int) (up j:Int) (v m N:Nat) (x:Nat→Int):aJ (bN (n+2) 11 204) (il aK n 2) aS aR (part Tryd.f11 [1,1,1,1,1,0,1,0,0]) (hints (iT mo zo U k up j)) (tF O U Z V J v m N x::H) =
 Tr.ite (bE j (ofNat U)) (Tr.req (cQ j U) (Tr.req (cK (au 0 j 4) (bR U 4)) (Tr.req (cK (ar (au 0 j 4) 1) (bR U 4)) (Tr.req (cK (ar (au 0 j 4) 2) (bR U 4)) (Tr.req (cK (ar (au 0 j 4) 3) (bR U 4)) (Tr.req (eT m 1 32) (Tr.req (cg 0 0) (Tr.req (eU 1 1) (Tr.req (cg v v) (Tr.req (cg (ar 0 (bR m 4)) N) (Tr.req (cr (eU v (Nat.succ v)) (eU (Nat.succ v) (Nat.succ v))) (Tr.req (cr (eU 0 0) (eU 0 1)) (Tr.ok (Ex.normal,[(1,aF mo zo false,none),(3,AV.ptr 0 0 0 0,none),(7,iI U,none),(8,AV.int .i64 k,none),(9,AV.ptr 0 1 0 0,none),(10,AV.int .i64 up,none),(11,AV.int .i64 (bm .i64 j (ofNat 1)),none)],(bh [(0,b8 O U Z V J),(0,ak.row (Row.G [AV.int .i64 O,AV.slc 0 2 (Nat.succ v) 0 4 (ar m 1) none,AV.nils])),(Nat.succ v,ak.row (rM (mb (jI x 0) (bR m 4) (aC [aV .i64 up (Z (ar (au 0 j 4) 1)),aV .i64 up (Z (au 0 j 4)),aV .i64 (ofNat 1000) (Z (ar (au 0 j 4) 3)),aV .i64 (ofNat 1000) (Z (ar (au 0 j 4) 2))])) (ar (bR m 4) 4))),(0,ak.row (Row.I .i64 [Z (au 0 j 4),Z (ar (au 0 j 4) 1),Z (ar (au 0 j 4) 2),Z (ar (au 0 j 4) 3)])),(0,ak.row (Row.I .i64 [aV .i64 up (Z (ar (au 0 j 4) 1)),aV .i64 up (Z (au 0 j 4)),aV .i64 (ofNat 1000) (Z (ar (au 0 j 4) 3)),aV .i64 (ofNat 1000) (Z (ar (au 0 j 4) 2))])),(0,ak.dead)])::H)))))))))))))) (Tr.ok (Ex.exit 0,[(1,aF mo zo false,none),(3,AV.ptr 0 0 0 0,none),(7,iI U,none),(8,AV.int .i64 k,none),(9,AV.ptr 0 1 0 0,none),(10,AV.int .i64 up,none),(11,AV.int .i64 j,none),(54,AV.bool false,some 1)],(bh [(0,b8 O U Z V J),(0,ak.row (Row.G [AV.int .i64 O,AV.slc 0 2 v 0 4 m none,AV.nils])),(v,ak.row (rM x N))])::H)):=by kernel_rfl
theorem QP (n:Nat) (O:Int) (U:Nat) (Z:Nat→Int) (V:Nat) (J:Nat→Int) (H:aa) (mo:Nat) (zo:Nat→Int) (k:Int) (v:Nat) (X:Nat→Int):aJ (bN (n+2) 11 204) (il aK n 2) aS aR (part Tryd.f11 [1,1,1,1,1,1,0,1,0,0]) (hints (iU mo zo U k (ofNat 0))) (vv O U Z V J v X::H) =
 Tr.ite (bE (ofNat 0) (ofNat V)) (Tr.req (cQ (ofNat 0) V) (Tr.req (cQ (ofNat 1) 2) (Tr.req (cK (Nat.succ (au 0 (ofNat 0) 2)) (bR V 2)) (Tr.req (cQ (ofNat 0) V) (Tr.req (cQ (ofNat 0) 2) (Tr.req (cK (au 0 (ofNat 0) 2) (bR V 2)) (Tr.req (eT 0 1 16) (Tr.req (cg 0 0) (Tr.req (eU 1 1) (Tr.req (cr (eU 0 0) (eU 0 1)) (Tr.ok (Ex.normal,[(1,aF mo zo false,none),(3,AV.ptr 0 0 0 0,none),(7,iI U,none),(8,AV.int .i64 k,none),(9,AV.ptr 0 1 0 0,none),(13,AV.int .i64 (bm .i64 (ofNat 0) (ofNat 1)),none)],(bh [(0,b8 O U Z V J),(0,ak.row (Row.G [AV.int .i64 O,slA 4 U X,AV.slc 0 4 0 0 2 1 none])),(v,ak.dead),(0,ak.row (Row.I .i64 [J (Nat.succ (au 0 (ofNat 0) 2)),J (au 0 (ofNat 0) 2)])),(0,ak.row (rM (aC [J (Nat.succ (au 0 (ofNat 0) 2)),J (au 0 (ofNat 0) 2)]) 2))])::H)))))))))))) (Tr.ok (Ex.exit 2,[(1,aF mo zo false,none),(3,AV.ptr 0 0 0 0,none),(7,iI U,none),(8,AV.int .i64 k,none),(9,AV.ptr 0 1 0 0,none),(13,iI 0,none),(88,AV.bool false,some 1)],(bh [(0,b8 O U Z V J),(0,ak.row (Row.G [AV.int .i64 O,slA 4 U X,AV.slcT none (rM (fun x=>ofNat 0) 0) 2 0 false])),(v,ak.dead)])::H)):=by kernel_rfl
theorem QQ (n:Nat) (O:Int) (U:Nat) (Z:Nat→Int) (V:Nat) (J:Nat→Int) (H:aa) (mo:Nat) (zo:Nat→Int) (k:Int) (j:Int) (v:Nat) (X:Nat→Int) (u m N:Nat) (y:Nat→Int):aJ (bN (n+2) 11 204) (il aK n 2) aS aR (part Tryd.f11 [1,1,1,1,1,1,0,1,0,0]) (hints (iU mo zo U k j)) (NK O U Z V J v X u m N y::H) =
 Tr.ite (bE j (ofNat V)) (Tr.req (cQ j V) (Tr.req (cQ (ofNat 1) 2) (Tr.req (cK (Nat.succ (au 0 j 2)) (bR V 2)) (Tr.req (cQ j V) (Tr.req (cQ (ofNat 0) 2) (Tr.req (cK (au 0 j 2) (bR V 2)) (Tr.req (eT m 1 16) (Tr.req (cg 0 0) (Tr.req (eU 1 1) (Tr.req (cg u u) (Tr.req (cg (ar 0 (bR m 2)) N) (Tr.req (cr (eU u (Nat.succ u)) (eU (Nat.succ u) (Nat.succ u))) (Tr.req (cr (eU 0 0) (eU 0 1)) (Tr.ok (Ex.normal,[(1,aF mo zo false,none),(3,AV.ptr 0 0 0 0,none),(7,iI U,none),(8,AV.int .i64 k,none),(9,AV.ptr 0 1 0 0,none),(13,AV.int .i64 (bm .i64 j (ofNat 1)),none)],(bh [(0,b8 O U Z V J),(0,ak.row (Row.G [AV.int .i64 O,slA 4 U X,AV.slc 0 3 (Nat.succ u) 0 2 (ar m 1) none])),(v,ak.dead),(Nat.succ u,ak.row (rM (mb (jI y 0) (bR m 2) (aC [J (Nat.succ (au 0 j 2)),J (au 0 j 2)])) (ar (bR m 2) 2))),(0,ak.row (Row.I .i64 [J (Nat.succ (au 0 j 2)),J (au 0 j 2)])),(0,ak.dead)])::H))))))))))))))) (Tr.req (cg u u) (Tr.req (dN 0 (bR m 2) 0 N) (Tr.ok (Ex.exit 2,[(1,aF mo zo false,none),(3,AV.ptr 0 0 0 0,none),(7,iI U,none),(8,AV.int .i64 k,none),(9,AV.ptr 0 1 0 0,none),(13,AV.int .i64 j,none),(88,AV.bool false,some 1)],(bh [(0,b8 O U Z V J),(0,b8 O U X m (jI y 0)),(v,ak.dead),(u,ak.dead)])::H)))):=by kernel_rfl
theorem Ly (n:Nat) (O:Int) (U:Nat) (Z:Nat→Int) (V:Nat) (J:Nat→Int) (H:aa) (mo:Nat) (zo:Nat→Int) (k:Int) (j:Int) (X Y:Nat→Int) (v u:Nat):aJ (bN (n+2) 11 204) (il aK n 2) aS aR (part Tryd.f11 [1,1,1,1,1,1,1,1,1,0,1,0,0]) (hints (iH mo zo U k .nils j)) (cU O U Z V J X Y [(v,.dead)]::H) =
 Tr.ite (dQ (ofNat 0) j) (Tr.req (cQ j mo) (Tr.req (cK (au 0 j 1) mo) (Tr.req (eT 0 1 8) (Tr.req (cg 0 0) (Tr.req (eU 1 1) (Tr.ok (Ex.normal,[(1,aF mo zo false,none),(3,AV.ptr 0 0 0 0,none),(7,iI U,none),(8,AV.int .i64 k,none),(9,AV.ptr 0 1 0 0,none),(14,AV.slc 0 4 0 0 1 1 none,none),(15,AV.int .i64 (aV .i64 j (ofNat 1)),none)],(bh [(0,b8 O U Z V J),(0,b8 O U X V Y),(v,ak.dead),(0,ak.row (Row.I .i64 [zo (au 0 j 1)])),(0,ak.row (rM (aC [zo (au 0 j 1)]) 1))])::H))))))) (Tr.ok (Ex.exit 4,[(1,aF mo zo false,none),(3,AV.ptr 0 0 0 0,none),(7,iI U,none),(8,AV.int .i64 k,none),(9,AV.ptr 0 1 0 0,none),(14,AV.nils,none),(15,AV.int .i64 j,none),(117,AV.bool false,some 1)],(bh [(0,b8 O U Z V J),(0,b8 O U X V Y),(v,ak.dead)])::H)):=by kernel_rfl
theorem LA (n:Nat) (O:Int) (U:Nat) (Z:Nat→Int) (V:Nat) (J:Nat→Int) (H:aa) (mo:Nat) (zo:Nat→Int) (k:Int) (j:Int) (X Y:Nat→Int) (v u:Nat) (w m N:Nat) (y:Nat→Int):aJ (bN (n+2) 11 204) (il aK n 2) aS aR (part Tryd.f11 [1,1,1,1,1,1,1,1,1,0,1,0,0]) (hints (iH mo zo U k (.slc 0 3 w 0 1 m none) j)) (cU O U Z V J X Y ([(v,.dead)]++[(w,.row (.M [.arr .i64 y N]))])::H) =
 Tr.ite (dQ (ofNat 0) j) (Tr.req (cQ j mo) (Tr.req (cK (au 0 j 1) mo) (Tr.req (eT m 1 8) (Tr.req (cg 0 0) (Tr.req (eU 1 1) (Tr.req (cg w w) (Tr.req (cg (ar 0 m) N) (Tr.ok (Ex.normal,[(1,aF mo zo false,none),(3,AV.ptr 0 0 0 0,none),(7,iI U,none),(8,AV.int .i64 k,none),(9,AV.ptr 0 1 0 0,none),(14,AV.slc 0 3 (Nat.succ w) 0 1 (ar m 1) none,none),(15,AV.int .i64 (aV .i64 j (ofNat 1)),none)],(bh [(0,b8 O U Z V J),(0,b8 O U X V Y),(v,ak.dead),(Nat.succ w,ak.row (rM (mb (jI y 0) m (aC [zo (au 0 j 1)])) (ar m 1))),(0,ak.row (Row.I .i64 [zo (au 0 j 1)]))])::H))))))))) (Tr.ok (Ex.exit 4,[(1,aF mo zo false,none),(3,AV.ptr 0 0 0 0,none),(7,iI U,none),(8,AV.int .i64 k,none),(9,AV.ptr 0 1 0 0,none),(14,AV.slc 0 3 w 0 1 m none,none),(15,AV.int .i64 j,none),(117,AV.bool false,some 1)],(bh [(0,b8 O U Z V J),(0,b8 O U X V Y),(v,ak.dead),(w,ak.row (rM y N))])::H)):=by kernel_rfl
theorem Lz (n:Nat) (O:Int) (U:Nat) (Z:Nat→Int) (V:Nat) (J:Nat→Int) (H:aa) (mo:Nat) (zo:Nat→Int) (k:Int) (j:Int) (X Y:Nat→Int) (v u:Nat):aJ (bN (n+2) 11 204) (il aK n 2) aS aR (part Tryd.f11 [1,1,1,1,1,1,1,1,1,0,1,0,0]) (hints (iH mo zo U k .nils j)) (cU O U Z V J X Y [(v,.dead),(u,.dead)]::H) =
 Tr.ite (dQ (ofNat 0) j) (Tr.req (cQ j mo) (Tr.req (cK (au 0 j 1) mo) (Tr.req (eT 0 1 8) (Tr.req (cg 0 0) (Tr.req (eU 1 1) (Tr.ok (Ex.normal,[(1,aF mo zo false,none),(3,AV.ptr 0 0 0 0,none),(7,iI U,none),(8,AV.int .i64 k,none),(9,AV.ptr 0 1 0 0,none),(14,AV.slc 0 5 0 0 1 1 none,none),(15,AV.int .i64 (aV .i64 j (ofNat 1)),none)],(bh [(0,b8 O U Z V J),(0,b8 O U X V Y),(v,ak.dead),(u,ak.dead),(0,ak.row (Row.I .i64 [zo (au 0 j 1)])),(0,ak.row (rM (aC [zo (au 0 j 1)]) 1))])::H))))))) (Tr.ok (Ex.exit 4,[(1,aF mo zo false,none),(3,AV.ptr 0 0 0 0,none),(7,iI U,none),(8,AV.int .i64 k,none),(9,AV.ptr 0 1 0 0,none),(14,AV.nils,none),(15,AV.int .i64 j,none),(117,AV.bool false,some 1)],(bh [(0,b8 O U Z V J),(0,b8 O U X V Y),(v,ak.dead),(u,ak.dead)])::H)):=by kernel_rfl
theorem LB (n:Nat) (O:Int) (U:Nat) (Z:Nat→Int) (V:Nat) (J:Nat→Int) (H:aa) (mo:Nat) (zo:Nat→Int) (k:Int) (j:Int) (X Y:Nat→Int) (v u:Nat) (w m N:Nat) (y:Nat→Int):aJ (bN (n+2) 11 204) (il aK n 2) aS aR (part Tryd.f11 [1,1,1,1,1,1,1,1,1,0,1,0,0]) (hints (iH mo zo U k (.slc 0 4 w 0 1 m none) j)) (cU O U Z V J X Y ([(v,.dead),(u,.dead)]++[(w,.row (.M [.arr .i64 y N]))])::H) =
 Tr.ite (dQ (ofNat 0) j) (Tr.req (cQ j mo) (Tr.req (cK (au 0 j 1) mo) (Tr.req (eT m 1 8) (Tr.req (cg 0 0) (Tr.req (eU 1 1) (Tr.req (cg w w) (Tr.req (cg (ar 0 m) N) (Tr.ok (Ex.normal,[(1,aF mo zo false,none),(3,AV.ptr 0 0 0 0,none),(7,iI U,none),(8,AV.int .i64 k,none),(9,AV.ptr 0 1 0 0,none),(14,AV.slc 0 4 (Nat.succ w) 0 1 (ar m 1) none,none),(15,AV.int .i64 (aV .i64 j (ofNat 1)),none)],(bh [(0,b8 O U Z V J),(0,b8 O U X V Y),(v,ak.dead),(u,ak.dead),(Nat.succ w,ak.row (rM (mb (jI y 0) m (aC [zo (au 0 j 1)])) (ar m 1))),(0,ak.row (Row.I .i64 [zo (au 0 j 1)]))])::H))))))))) (Tr.ok (Ex.exit 4,[(1,aF mo zo false,none),(3,AV.ptr 0 0 0 0,none),(7,iI U,none),(8,AV.int .i64 k,none),(9,AV.ptr 0 1 0 0,none),(14,AV.slc 0 4 w 0 1 m none,none),(15,AV.int .i64 j,none),(117,AV.bool false,some 1)],(bh [(0,b8 O U Z V J),(0,b8 O U X V Y),(v,ak.dead),(u,ak.dead),(w,ak.row (rM y N))])::H)):=by kernel_rfl
theorem LC (n U a b:Nat) (p q:Nat→Int) (j:Int) (a0 a1 a2:Nat×ak) (H:aa):aJ (bN (n+2) 11 204) (il aK n 2) aS aR (part Tryd.f11 [1,1,1,1,1,1,1,1,1,1,1,1,1,1,1,0,1,0,0]) (hints (iq U a b p q j)) (⟨false,[a0,a1,a2]⟩::H) =
 Tr.ite (bE j (ofNat a)) (Tr.req (cQ (aV .i64 (aV .i64 (ofNat b) (ofNat 1)) j) b) (Tr.req (cK (au 0 (aV .i64 (aV .i64 (ofNat b) (ofNat 1)) j) 1) b) (Tr.req (cQ j a) (Tr.req (cK (au 0 j 1) a) (Tr.ite (aQ (bV (q (au 0 (aV .i64 (aV .i64 (ofNat b) (ofNat 1)) j) 1)) (aV .i64 (aV .i64 (ofNat U) (ofNat 1)) (p (au 0 j 1))))) (Tr.ok (Ex.ret,[(6,AV.bool false,some 1)],(bh [a0,a1,a2])::H)) (Tr.ok (Ex.normal,[(7,iI U,none),(20,aF a p false,none),(22,aF b q false,none),(24,AV.int .i64 (bm .i64 j (ofNat 1)),none)],(bh [a0,a1,a2])::H))))))) (Tr.ok (Ex.exit 6,[(7,iI U,none),(20,aF a p false,none),(22,aF b q false,none),(24,AV.int .i64 j,none),(184,AV.bool false,some 1)],(bh [a0,a1,a2])::H)):=by kernel_rfl
theorem LD (n U a b:Nat) (p q:Nat→Int) (j:Int) (a0 a1 a2 a3:Nat×ak) (H:aa):aJ (bN (n+2) 11 204) (il aK n 2) aS aR (part Tryd.f11 [1,1,1,1,1,1,1,1,1,1,1,1,1,1,1,0,1,0,0]) (hints (iq U a b p q j)) (⟨false,[a0,a1,a2,a3]⟩::H) =
 Tr.ite (bE j (ofNat a)) (Tr.req (cQ (aV .i64 (aV .i64 (ofNat b) (ofNat 1)) j) b) (Tr.req (cK (au 0 (aV .i64 (aV .i64 (ofNat b) (ofNat 1)) j) 1) b) (Tr.req (cQ j a) (Tr.req (cK (au 0 j 1) a) (Tr.ite (aQ (bV (q (au 0 (aV .i64 (aV .i64 (ofNat b) (ofNat 1)) j) 1)) (aV .i64 (aV .i64 (ofNat U) (ofNat 1)) (p (au 0 j 1))))) (Tr.ok (Ex.ret,[(6,AV.bool false,some 1)],(bh [a0,a1,a2,a3])::H)) (Tr.ok (Ex.normal,[(7,iI U,none),(20,aF a p false,none),(22,aF b q false,none),(24,AV.int .i64 (bm .i64 j (ofNat 1)),none)],(bh [a0,a1,a2,a3])::H))))))) (Tr.ok (Ex.exit 6,[(7,iI U,none),(20,aF a p false,none),(22,aF b q false,none),(24,AV.int .i64 j,none),(184,AV.bool false,some 1)],(bh [a0,a1,a2,a3])::H)):=by kernel_rfl
theorem LF (n U a b:Nat) (p q:Nat→Int) (j:Int) (a0 a1 a2 a3 a4:Nat×ak) (H:aa):aJ (bN (n+2) 11 204) (il aK n 2) aS aR (part Tryd.f11 [1,1,1,1,1,1,1,1,1,1,1,1,1,1,1,0,1,0,0]) (hints (iq U a b p q j)) (⟨false,[a0,a1,a2,a3,a4]⟩::H) =
 Tr.ite (bE j (ofNat a)) (Tr.req (cQ (aV .i64 (aV .i64 (ofNat b) (ofNat 1)) j) b) (Tr.req (cK (au 0 (aV .i64 (aV .i64 (ofNat b) (ofNat 1)) j) 1) b) (Tr.req (cQ j a) (Tr.req (cK (au 0 j 1) a) (Tr.ite (aQ (bV (q (au 0 (aV .i64 (aV .i64 (ofNat b) (ofNat 1)) j) 1)) (aV .i64 (aV .i64 (ofNat U) (ofNat 1)) (p (au 0 j 1))))) (Tr.ok (Ex.ret,[(6,AV.bool false,some 1)],(bh [a0,a1,a2,a3,a4])::H)) (Tr.ok (Ex.normal,[(7,iI U,none),(20,aF a p false,none),(22,aF b q false,none),(24,AV.int .i64 (bm .i64 j (ofNat 1)),none)],(bh [a0,a1,a2,a3,a4])::H))))))) (Tr.ok (Ex.exit 6,[(7,iI U,none),(20,aF a p false,none),(22,aF b q false,none),(24,AV.int .i64 j,none),(184,AV.bool false,some 1)],(bh [a0,a1,a2,a3,a4])::H)):=by kernel_rfl
end Go.Eng
end
section
namespace Go.Eng
open Go.Proofs Go.Eng.Gall
end Go.Eng
end
section
namespace Go.Eng
open Go.Proofs Go.Eng.Gall
def Gt (F:Nat→Int) (m:Nat) (i:Nat):Int:=if i<m*4 then F i else 0
theorem Gu (F:Nat→Int) (m:Nat):mb (jI (Gt F m) 0) (m*4) (aC [F (m*4),F (m*4+1),F (m*4+2),F (m*4+3)])=Gt F (m+1):=by
 rw[bU,gS];funext i;dsimp only;unfold Gt;by_cases h:i<m*4
 · rw[if_pos h,if_pos h,if_pos wO]
 · rw[if_neg h,kj];by_cases h2:i<(m+1)*4
   · rw[if_pos h2];rcases (show i=m*4∨i=m*4+1∨i=m*4+2∨i=m*4+3 by omega) with e | e | e | e
     · rw[e,Nat.sub_self];rfl
     · rw[e,show m*4+1-m*4=1 by omega];rfl
     · rw[e,show m*4+2-m*4=2 by omega];rfl
     · rw[e,show m*4+3-m*4=3 by omega];rfl
   · rw[if_neg h2,List.getD_eq_getElem?_getD,List.getElem?_eq_none (by simp;omega)];rfl
theorem MW (F:Nat→Int):aC [F 0,F 1,F 2,F 3]=Gt F 1:=by
 have:=Gu F 0;rw[bU,gS] at this;rw[← this];funext i;simp
section
variable (n:Nat) (O:Int) (U:Nat) (Z:Nat→Int) (V:Nat) (J:Nat→Int) (H:aa) (u t k dt:Int) (mo:Nat) (zo:Nat→Int)
end
end Go.Eng
end
section
namespace Go.Eng
open Go.Proofs Go.Eng.Gall Go.Eng.Q
section
variable {O:Int} {U:Nat} {Z zx:Nat→Int}
end
end Go.Eng
end
section
namespace Go.Eng
open Go.Proofs Go.Eng.Gall Go.Eng.Q
def vj (W:Nat→Int) (c k:Nat) (i:Nat):Int:=if i / 2=c then (k:Int) else W i
theorem BA (W:Nat→Int) (c k:Nat):eB (eB W (2*c) (k:Int)) (2*c+1) (k:Int)=vj W c k:=by
 rw[j8,j8];funext i;dsimp only;unfold vj;by_cases e1:i=2*c+1
 · rw[if_pos e1,if_pos wO]
 · rw[if_neg e1];by_cases e2:i=2*c
   · rw[if_pos e2,if_pos wO]
   · rw[if_neg e2,if_neg wO]
section
variable {n:Nat} {g:Nat→Nat} {W:Nat→Int} {c k:Nat}
theorem GA (hS:gy n W g) (hc:c<n) (hk:k<n):gy n (vj W c k) g:=by
 have hl:=hS.len;refine ⟨hS.len,fun j=>?_,fun j hj=>?_,hS.bef,hS.off,hS.nob⟩
 · unfold vj;split
   · omega
   · exact hS.win j
 · unfold vj;rw[if_neg wO];exact hS.zer j hj
theorem PH (hW:∀ c,c<n→0≤W (2*c)∧W (2*c+1)<n) (hk:k<n) (d:Nat) (hd:d<n):0≤vj W c k (2*d)∧vj W c k (2*d+1)<n:=by
 unfold vj;rw[show 2*d / 2=d by omega,show (2*d+1) / 2=d by omega];split
 · omega
 · exact hW d hd
theorem K8 (hn:n≤10) (hg:∀ c,c<n→g c<2 ^ n) (hc:c<n) (hs:W (2*c)≤(k:Int)∧(k:Int)≤W (2*c+1)) (R:List Nat):R ∈ ro n (okW (vj W c k) (bI g)) n↔R ∈ ro n (okW W (bI g)) n∧R.idxOf c=k:=by
 rw[jE hn hg,jE hn hg];have hw:∀ d b,b<2→vj W c k (2*d+b)=if d=c then (k:Int) else W (2*d+b):=fun d b hb=>by
  unfold vj;rw[show (2*d+b) / 2=d by omega]
 constructor
 · rintro ⟨h1,h2,h3,h4⟩;have hk:R.idxOf c=k:=by
    obtain ⟨hi,he⟩:=iD (fv h2 h1 h3 hc);have h5:=(h4 _ hi).2;rw[he] at h5;have e0:=hw c 0 wO;rw[Nat.add_zero] at e0;rw[e0,hw c 1 wO,if_pos rfl,if_pos rfl] at h5;omega
   refine ⟨⟨h1,h2,h3,fun i hi=>⟨(h4 i hi).1,?_⟩⟩,hk⟩;have h5:=(h4 i hi).2;have e0:=hw R[i] 0 wO;rw[Nat.add_zero] at e0;rw[e0,hw R[i] 1 wO] at h5;by_cases hm:R[i]=c
   · rw[if_pos hm,if_pos hm] at h5;rw[hm];have:i=k:=by omega
     rw[this];exact hs
   · rw[if_neg hm,if_neg hm] at h5;exact h5
 · rintro ⟨⟨h1,h2,h3,h4⟩,h5⟩;refine ⟨h1,h2,h3,fun i hi=>⟨(h4 i hi).1,?_⟩⟩;have e0:=hw R[i] 0 wO;rw[Nat.add_zero] at e0;rw[e0,hw R[i] 1 wO];by_cases hm:R[i]=c
   · rw[if_pos hm,if_pos hm];have:=BR h2 hi;rw[hm,h5] at this;omega
   · rw[if_neg hm,if_neg hm];exact (h4 i hi).2
variable (n g W) in
noncomputable def DQ (c k:Nat):Bool:=vI W (c:Int) (k:Int) && JZ n g (vj W c k)
variable (n g W) in
noncomputable def IF (c:Nat):List Nat:=(List.range n).filter fun k=>DQ n g W c k
theorem Ai (W:Nat→Int) (c k:Nat):vI W (c:Int) (k:Int)=true↔W (2*c)≤(k:Int)∧(k:Int)≤W (2*c+1):=by
 unfold vI;rw[Bool.and_eq_true,decide_eq_true_iff,decide_eq_true_iff];exact Iff.rfl
theorem xJ (hS:gy n W g) (hW:∀ c,c<n→0≤W (2*c)∧W (2*c+1)<n) (hc:c<n) (hk:k<n):DQ n g W c k=true↔∃ R ∈ ro n (okW W (bI g)) n,R.idxOf c=k:=by
 unfold DQ;rw[Bool.and_eq_true,Ai];unfold JZ;rw[Option.isNone_iff_eq_none,Bm (GA hS hc hk) (PH hW hk)];constructor
 · rintro ⟨hs,R,hR⟩;exact ⟨R,(K8 hS.len hS.bef hc hs R).1 hR⟩
 · rintro ⟨R,hR,he⟩;have hs:W (2*c)≤(k:Int)∧(k:Int)≤W (2*c+1):=by
    obtain ⟨h1,h2,h3,h4⟩:=(jE hS.len hS.bef).1 hR;obtain ⟨hi,hx⟩:=iD (fv h2 h1 h3 hc);have:=(h4 _ hi).2;rw[hx,he] at this;exact this
   exact ⟨hs,R,(K8 hS.len hS.bef hc hs R).2 ⟨hR,he⟩⟩
theorem N0 (hS:gy n W g) (hW:∀ c,c<n→0≤W (2*c)∧W (2*c+1)<n) (hc:c<n):k ∈ IF n g W c↔∃ R ∈ ro n (okW W (bI g)) n,R.idxOf c=k:=by
 unfold IF;rw[List.mem_filter,List.mem_range];constructor
 · rintro ⟨h1,h2⟩;exact (xJ hS hW hc h1).1 h2
 · rintro ⟨R,hR,he⟩;obtain ⟨h1,h2,h3⟩:=mW hR;have hk:k<n:=by
    have:=List.idxOf_lt_length_iff.2 (fv h2 h1 h3 hc);omega
   exact ⟨hk,(xJ hS hW hc hk).2 ⟨R,hR,he⟩⟩
theorem N1 (h:JZ n g W=true) (hk:k<n) (h1:W (2*c)=(k:Int)) (h2:W (2*c+1)=(k:Int)):IF n g W c=[k]:=by
 have e:vj W c k=W:=by
  funext i;unfold vj;by_cases q:i / 2=c
  · rw[if_pos q];rcases Nat.mod_two_eq_zero_or_one i with r | r
    · rw[show i=2*c by omega,h1]
    · rw[show i=2*c+1 by omega,h2]
  · rw[if_neg q]
 have hp:∀ j,DQ n g W c j=decide (j=k):=fun j=>by
  unfold DQ;by_cases q:j=k
  · subst q;rw[e,h,Bool.and_true,decide_eq_true rfl];exact (Ai W c j).2 ⟨by omega,by omega⟩
  · rw[decide_eq_false q];cases hs:vI W (c:Int) (j:Int) with
    | false=>rfl
    | true=>have:=(Ai W c j).1 hs;omega
 unfold IF;rw[List.filter_congr (fun j _=>hp j)];refine (List.perm_singleton).1 ?_;refine (List.perm_ext_iff_of_nodup (List.Pairwise.filter _ List.nodup_range) (by simp)).2 fun a=>?_;rw[List.mem_filter,List.mem_range,decide_eq_true_iff,List.mem_singleton];exact ⟨fun h=>h.2,fun h=>⟨by omega,h⟩⟩
end
end Go.Eng
end
section
namespace Go.Eng
open Int (ofNat)
open Go.Proofs Go.Eng.Gall
noncomputable def sJ (d:Nat):AV:=.slc d 4 0 0 1 1 (some 1)
noncomputable def gH (b0 b1 b2 b3:Nat×ak) (c:Int):bB:=⟨false,[b0,b1,b2,b3,(0,.row (.I .i64 [c]))]⟩
noncomputable def rb (j:Int):aD:=[(0,sJ 4),(1,xc 2),(7,.int .i64 (ofNat 1)),(8,.int .i64 j)]
theorem Q7 (n:Nat) (O:Int) (U:Nat) (Z:Nat→Int) (V:Nat) (J:Nat→Int) (H:aa) (r2:Row) (b0 b1 b2 b3:Nat×ak) (c:Int) (j:Int):aJ (bN (n+1) 89 19) (il aK n 1) aS aR (part Tryd.f89 [1,0,1,0,0]) (hints (rb j)) (ay::ay::fS O U Z V J::⟨false,[(0,.row r2)]⟩::gH b0 b1 b2 b3 c::H) =
 (fun (Z0:bB)=>((fun (Z1:bB)=>Tr.ite (bE j (ofNat 1)) (Tr.req (cQ j 1) (Tr.req (cg 0 0) (Tr.req (cK (au 0 j 1) (JG [c])) (Tr.ite (bE (aC [c] (au 0 j 1)) (ofNat 0)) (Tr.ok (Ex.ret,[(4,AV.int .i64 j,none)],ay::ay::Z1::(bh [(0,ak.row r2)])::Z0::H)) (Tr.ite (dQ (ofNat U) (aC [c] (au 0 j 1))) (Tr.ok (Ex.ret,[(4,AV.int .i64 j,none)],ay::ay::Z1::(bh [(0,ak.row r2)])::Z0::H)) (Tr.ok (Ex.normal,[(0,AV.slc 4 4 0 0 1 1 (some 1),none),(1,AV.fn (Fn.func 80) [] [AV.ptr 2 0 0 0],none),(7,iI 1,none),(8,AV.int .i64 (bm .i64 j (ofNat 1)),none)],ay::ay::Z1::(bh [(0,ak.row r2)])::Z0::H))))))) (Tr.ok (Ex.exit 0,[(0,AV.slc 4 4 0 0 1 1 (some 1),none),(1,AV.fn (Fn.func 80) [] [AV.ptr 2 0 0 0],none),(7,iI 1,none),(8,AV.int .i64 j,none),(9,AV.bool false,some 1)],ay::ay::Z1::(bh [(0,ak.row r2)])::Z0::H))) (bh [(0,b8 O U Z V J)]))) (bh [b0,b1,b2,b3,(0,ak.row (Row.I .i64 [c]))]):=by kernel_rfl
theorem UK (n:Nat) (e:Bool) (G:aa):bo Tryd.prog (cd n) 100000 89 Tryd.f89 (KtG.kt 89) (il aK n 0) (bP aS 0 (rb (ofNat 0)) (ay::G) (.ite e (.ok (.ret,[(4,.int .i64 (ofNat 0),none)],ay::G)) (.ok (.normal,hints (rb (ofNat 1)++[(9,.bool false)]),ay::G)))) aR [(sJ 3,none),(xc 1,none)] G =
 (fun (Z0:aD)=>Tr.reqP (Z0=Z0∧ay::G=ay::G) (Tr.ite e (Tr.ok ((iI 0,none),G)) (Tr.ok ((AV.int .i64 (Int.negSucc 0),some 1),G)))) [(0,AV.slc 4 4 0 0 1 1 (some 1)),(1,AV.fn (Fn.func 80) [] [AV.ptr 2 0 0 0]),(7,iI 1),(8,iI 0)]:=by kernel_rfl
theorem UE (n:Nat) (i:Int) (G:aa):bo Tryd.prog (cd n) 100000 67 Tryd.f67 (KtG.kt 67) (il (rS aK 89 [sJ 3,xc 1] (ay::G) (.ok (.int .i64 i,ay::G))) n 0) aS aR [(sJ 2,none),(xc 0,none)] G =
 Tr.reqP ([AV.slc 3 4 0 0 1 1 (some 1),AV.fn (Fn.func 80) [] [AV.ptr 1 0 0 0]]=[AV.slc 3 4 0 0 1 1 (some 1),AV.fn (Fn.func 80) [] [AV.ptr 1 0 0 0]]∧ay::G=ay::G) (Tr.ok ((AV.bool (dQ (ofNat 0) i),none),G)):=by kernel_rfl
theorem Uz (n:Nat) (O:Int) (U:Nat) (Z:Nat→Int) (V:Nat) (J:Nat→Int) (W B:Nat→Int) (G:aa) (e:Int) (q:Bool) (C:List AV→Prop):bo Tryd.prog (cd n) 100000 49 Tryd.f49 (KtG.kt 49) (il (rS (gT (tX aK 22 [bj O U Z V J] (.int .i64 e)) 62 (fun x=>some (C x,shV O U Z V J W B))) 67 [sJ 2,xc 0] (fS O U Z V J::G) (.ok (.bool q,fS O U Z V J::G))) n 0) aS aR [(bj O U Z V J,none),(sJ 1,none)] G =
 Tr.reqP ([bj O U Z V J]=[bj O U Z V J]) (Tr.ite (aQ (bV e (ofNat 0))) (Tr.ok ((AV.tup [AV.nilp,AV.int .i64 e],none),G)) (Tr.reqP ([AV.slc 2 4 0 0 1 1 (some 1),AV.fn (Fn.func 80) [] [AV.ptr 0 0 0 0]]=[AV.slc 2 4 0 0 1 1 (some 1),AV.fn (Fn.func 80) [] [AV.ptr 0 0 0 0]]∧(bh [(0,b8 O U Z V J)])::G=(bh [(0,b8 O U Z V J)])::G) (Tr.ite q (Tr.ok ((AV.tup [AV.nilp,iI 2],none),G)) (Tr.reqP (C [bj O U Z V J]) (Tr.ok ((AV.tup [shV O U Z V J W B,iI 0],none),G)))))):=by kernel_rfl
theorem UF (n:Nat) (O:Int) (U:Nat) (Z:Nat→Int) (V:Nat) (J:Nat→Int) (W B:Nat→Int) (G:aa) (f t:Int):bo Tryd.prog (cd n) 100000 69 Tryd.f69 (KtG.kt 69) (il (rS (tX aK 65 [shV O U Z V J W B] (.tup [.agg (.G [.int .i64 f,.int .i64 t,.nils]),.bool false])) 49 [bj O U Z V J,sJ 1] (fS O U Z V J::G) (.ok (.tup [shV O U Z V J W B,.int .i64 (ofNat 0)],fS O U Z V J::G))) n 0) aS aR [(bj O U Z V J,none),(sJ 0,none)] G =
 Tr.reqP ([bj O U Z V J,AV.slc 1 4 0 0 1 1 (some 1)]=[bj O U Z V J,AV.slc 1 4 0 0 1 1 (some 1)]∧(bh [(0,b8 O U Z V J)])::G=(bh [(0,b8 O U Z V J)])::G) (Tr.ite (aQ (bV (ofNat 0) (ofNat 0))) (Tr.ok ((AV.tup [AV.nilp,iI 0],none),G)) (Tr.reqP ([shV O U Z V J W B]=[shV O U Z V J W B]) (Tr.ite false (Tr.ok ((AV.tup [AV.nilp,iI 13],none),G)) (Tr.ok ((AV.tup [shV O U Z V J W B,iI 0],none),G))))):=by kernel_rfl
theorem UG (n:Nat) (O:Int) (U:Nat) (Z:Nat→Int) (V:Nat) (J:Nat→Int) (W B:Nat→Int) (G:aa) (f t:Int) (m:Nat) (y:Nat→Int):bo Tryd.prog (cd n) 100000 69 Tryd.f69 (KtG.kt 69) (il (rS (tX aK 65 [shV O U Z V J W B] (.tup [.agg (.G [.int .i64 f,.int .i64 t,aF m y false]),.bool true])) 49 [bj O U Z V J,sJ 1] (fS O U Z V J::G) (.ok (.tup [shV O U Z V J W B,.int .i64 (ofNat 0)],fS O U Z V J::G))) n 0) aS aR [(bj O U Z V J,none),(sJ 0,none)] G =
 Tr.reqP ([bj O U Z V J,AV.slc 1 4 0 0 1 1 (some 1)]=[bj O U Z V J,AV.slc 1 4 0 0 1 1 (some 1)]∧(bh [(0,b8 O U Z V J)])::G=(bh [(0,b8 O U Z V J)])::G) (Tr.ite (aQ (bV (ofNat 0) (ofNat 0))) (Tr.ok ((AV.tup [AV.nilp,iI 0],none),G)) (Tr.reqP ([shV O U Z V J W B]=[shV O U Z V J W B]) (Tr.ite true (Tr.ok ((AV.tup [AV.nilp,iI 13],none),G)) (Tr.ok ((AV.tup [shV O U Z V J W B,iI 0],none),G))))):=by kernel_rfl
theorem UH (n:Nat) (O:Int) (U:Nat) (Z:Nat→Int) (V:Nat) (J:Nat→Int) (G:aa) (e:Int):bo Tryd.prog (cd n) 100000 69 Tryd.f69 (KtG.kt 69) (il (tN (rS aK 49 [bj O U Z V J,sJ 1] (fS O U Z V J::G) (.ok (.tup [.nilp,.int .i64 e],fS O U Z V J::G))) 65) n 0) aS aR [(bj O U Z V J,none),(sJ 0,none)] G =
 Tr.reqP ([bj O U Z V J,AV.slc 1 4 0 0 1 1 (some 1)]=[bj O U Z V J,AV.slc 1 4 0 0 1 1 (some 1)]∧(bh [(0,b8 O U Z V J)])::G=(bh [(0,b8 O U Z V J)])::G) (Tr.ite (aQ (bV e (ofNat 0))) (Tr.ok ((AV.tup [AV.nilp,AV.int .i64 e],none),G)) Tr.bad):=by kernel_rfl
end Go.Eng
end
section
namespace Go.Eng
open Int (ofNat)
open Go.Proofs Go.Eng.Gall
section
variable (n:Nat) (O:Int) (U:Nat) (Z:Nat→Int) (V:Nat) (J:Nat→Int) (H:aa)
theorem R0 (r2:Row) (b0 b1 b2 b3:Nat×ak) (c:Int) (hl:U≤1000):cd (n+3) (.fn 67) [sJ 2,xc 0] (fS O U Z V J::⟨false,[(0,.row r2)]⟩::gH b0 b1 b2 b3 c::H)=some (.bool (decide (c<0) || decide ((U:Int)≤c)),fS O U Z V J::⟨false,[(0,.row r2)]⟩::gH b0 b1 b2 b3 c::H):=by
 have i0:au 0 (ofNat 0) 1=0:=by rw[bt];rfl
 have l0:aC [c] 0=c:=by rw[fz];rfl
 have s1:bm .i64 (ofNat 0) (ofNat 1)=ofNat 1:=eg (j:=0) wO;have hp:∀ e,(decide (c<0) || decide ((U:Int)≤c))=e→exec (bN (n+1) 89 19) (.block 0 (.loop (part Tryd.f89 [1,0,1,0,0]))) (rb (ofNat 0)) (ay::ay::fS O U Z V J::⟨false,[(0,.row r2)]⟩::gH b0 b1 b2 b3 c::H)=some (cond e (.ret,[(4,.int .i64 (ofNat 0))],ay::ay::fS O U Z V J::⟨false,[(0,.row r2)]⟩::gH b0 b1 b2 b3 c::H) (.normal,rb (ofNat 1)++[(9,.bool false)],ay::ay::fS O U Z V J::⟨false,[(0,.row r2)]⟩::gH b0 b1 b2 b3 c::H)):=by
  intro e he;have hx:=jS (n:=n+1) (f:=89) (nt:=19) (c:=part Tryd.f89 [1,0,1,0,0]) 0 (fun j=>rb (j:Int)) (fun _=>ay::ay::fS O U Z V J::⟨false,[(0,.row r2)]⟩::gH b0 b1 b2 b3 c::H) 1 (fun _=>e) (fun _=>([(4,.int .i64 (ofNat 0))],ay::ay::fS O U Z V J::⟨false,[(0,.row r2)]⟩::gH b0 b1 b2 b3 c::H)) (rb (ofNat 1)++[(9,.bool false)],ay::ay::fS O U Z V J::⟨false,[(0,.row r2)]⟩::gH b0 b1 b2 b3 c::H) wO (fun j hj=>?_) ?_
  · have ee:dH (fun _=>e) 1=e:=by
     cases e with
     | true=>exact (cj _ _).2 ⟨0,by omega,rfl⟩
     | false=>exact Bz (fun _ _=>rfl)
    rw[ee] at hx;cases e with
    | true=>exact hx
    | false=>exact hx
  · have:j=0:=by omega
    subst this;have T:=Q7 n O U Z V J H r2 b0 b1 b2 b3 c (ofNat 0);rw[i0,l0,s1] at T;refine aw T (cD n 1) (ai _ _) (aj _ _) ?_;refine Tr.af (fun h0=>?_) wJ;refine Tr.ab wG (Tr.ab wG (Tr.ab (by simp (disch:=omega) only[nV,nW];rw[Du];exact Nat.zero_lt_one) (Tr.af (fun q=>Tr.ag ?_) (fun q=>Tr.af (fun r=>Tr.ag ?_) (fun r=>Tr.ag ?_)))))
    · rw[bS] at q;have q:decide (c<0)=true:=q;rw[if_pos (by rw[← he,q];rfl)];rfl
    · rw[bu] at r;have r:decide ((U:Int)≤c)=true:=r;rw[if_pos (by rw[← he,r];simp)];rfl
    · rw[bS] at q;rw[bu] at r;have q:decide (c<0)=false:=q;have r:decide ((U:Int)≤c)=false:=r;rw[if_neg (by rw[← he,q,r];decide)];exact ⟨rfl,rfl⟩
  · obtain ⟨x,h1,rfl⟩:=aw (Q:=fun x=>x=(.exit 0,rb (ofNat 1)++[(9,.bool false)],ay::ay::fS O U Z V J::⟨false,[(0,.row r2)]⟩::gH b0 b1 b2 b3 c::H)) (Q7 n O U Z V J H r2 b0 b1 b2 b3 c (ofNat 1)) (cD n 1) (ai _ _) (aj _ _) (by
     refine Tr.af wJ (fun h0=>Tr.ag rfl))
    exact h1
 have h89:cd (n+2) (.fn 89) [sJ 3,xc 1] (ay::fS O U Z V J::⟨false,[(0,.row r2)]⟩::gH b0 b1 b2 b3 c::H)=some (.int .i64 (cond (decide (c<0) || decide ((U:Int)≤c)) 0 (-1)),ay::fS O U Z V J::⟨false,[(0,.row r2)]⟩::gH b0 b1 b2 b3 c::H):=by
  refine bF (n:=n+1) Tryd.func89 rfl rfl rfl (UK (n+1) (decide (c<0) || decide ((U:Int)≤c)) (ay::fS O U Z V J::⟨false,[(0,.row r2)]⟩::gH b0 b1 b2 b3 c::H)) (aA _) (az (ai _ _) V6 (fun x h=>dV h (hp _ rfl))) (aj _ _) ?_;refine Tr.al ⟨rfl,rfl⟩ (Tr.af (fun q=>Tr.ag ⟨?_,rfl⟩) (fun q=>Tr.ag ⟨?_,rfl⟩))
  · rw[q];rfl
  · rw[q];rfl
 refine bF (n:=n+2) Tryd.func67 rfl rfl rfl (UE (n+2) (cond (decide (c<0) || decide ((U:Int)≤c)) 0 (-1)) (fS O U Z V J::⟨false,[(0,.row r2)]⟩::gH b0 b1 b2 b3 c::H)) (bQ _ _ (dh (bp _) (fun x hy=>by rw[← Tr.ae hy];exact h89))) (ai _ _) (aj _ _) ?_;refine Tr.al ⟨rfl,rfl⟩ (Tr.ag ⟨?_,rfl⟩);rw[bu];cases (decide (c<0) || decide ((U:Int)≤c))<;>rfl
theorem RX (r2:Row) (b0 b1 b2 b3:Nat×ak) (c:Int) (hl:U≤1000) (hb:V≤1000):cd (n+12) (.fn 49) [bj O U Z V J,sJ 1] (⟨false,[(0,.row r2)]⟩::gH b0 b1 b2 b3 c::H)=some (Qy O U Z V J c,⟨false,[(0,.row r2)]⟩::gH b0 b1 b2 b3 c::H):=by
 have h22:=fun H=>RW n O U Z V J H hl hb;have h67:cd (n+11) (.fn 67) [sJ 2,xc 0] (fS O U Z V J::⟨false,[(0,.row r2)]⟩::gH b0 b1 b2 b3 c::H)=_:=R0 (n+8) O U Z V J H r2 b0 b1 b2 b3 c hl;have ht:(rS (gT (tX aK 22 [bj O U Z V J] (.int .i64 (bL O U Z V J))) 62 (fun x=>some (x=[bj O U Z V J]∧bL O U Z V J=0,shV O U Z V J (dg O U Z) (fI V J)))) 67 [sJ 2,xc 0] (fS O U Z V J::⟨false,[(0,.row r2)]⟩::gH b0 b1 b2 b3 c::H) (.ok (.bool (decide (c<0) || decide ((U:Int)≤c)),fS O U Z V J::⟨false,[(0,.row r2)]⟩::gH b0 b1 b2 b3 c::H))).Ok (cd (n+11)) :=
  dh (yI (eJ (bp _) h22) (fun A H hA=>by
   obtain ⟨rfl,h0⟩:=hA;obtain ⟨h1,h2,h3,h4,h5,_⟩:=ke h0;exact RZ (n+4) O U Z V J H h1.2 hb h3 h4 h5)) (fun x hy=>by rw[← Tr.ae hy];exact h67)
 refine bF (n:=n+11) Tryd.func49 rfl rfl rfl (Uz (n+11) O U Z V J (dg O U Z) (fI V J) (⟨false,[(0,.row r2)]⟩::gH b0 b1 b2 b3 c::H) (bL O U Z V J) (decide (c<0) || decide ((U:Int)≤c)) (fun x=>x=[bj O U Z V J]∧bL O U Z V J=0)) (bQ _ _ ht) (ai _ _) (aj _ _) ?_;refine Tr.al rfl (Tr.af (fun q=>Tr.ag ⟨?_,rfl⟩) (fun q=>Tr.al ⟨rfl,rfl⟩ (Tr.af (fun r=>Tr.ag ⟨?_,rfl⟩) (fun r=>Tr.al ⟨rfl,?_⟩ (Tr.ag ⟨?_,rfl⟩)))))
 · rw[aH,bg] at q;have h:¬ bL O U Z V J=0:=by simpa using q
   have e:vW O U Z V J c=bL O U Z V J:=by unfold vW;rw[if_neg h]
   unfold Qy;rw[e,if_neg h]
 all_goals rw[aH,bg] at q
 all_goals have h:bL O U Z V J=0:=by simpa using q
 · rw[Bool.or_eq_true,decide_eq_true_iff,decide_eq_true_iff] at r;have e:vW O U Z V J c=2:=by unfold vW;rw[if_pos h,if_pos r]
   unfold Qy;rw[e];rfl
 · exact h
 · rw[Bool.or_eq_false_iff,decide_eq_false_iff_not,decide_eq_false_iff_not] at r;have e:vW O U Z V J c=0:=by unfold vW;rw[if_pos h,if_neg wO]
   unfold Qy;rw[e,if_pos rfl];rfl
noncomputable def T6 (c:Int):AV:=if vW O U Z V J c=0 then T7 O U Z V J else .tup [.nilp,.int .i64 (vW O U Z V J c)]
theorem R2 (b0 b1 b2 b3:Nat×ak) (c:Int) (hl:U≤1000) (hb:V≤1000):cd (n+13) (.fn 69) [bj O U Z V J,sJ 0] (gH b0 b1 b2 b3 c::H)=some (T6 O U Z V J c,gH b0 b1 b2 b3 c::H):=by
 have h49:cd (n+12) (.fn 49) [bj O U Z V J,sJ 1] (fS O U Z V J::gH b0 b1 b2 b3 c::H)=_:=RX n O U Z V J H (.G [.int .i64 O,slA 4 U Z,slA 2 V J]) b0 b1 b2 b3 c hl hb;unfold T6;unfold Qy at h49;by_cases he:vW O U Z V J c=0
 · rw[if_pos he] at h49 ⊢;obtain ⟨h0,_⟩:=PE he;obtain ⟨h1,h2,h3,h4,h5,h6⟩:=ke h0;have hS:=H9 O U Z V J h1.2 h3 h4 h5 h6;have h65:=fun H=>VJ (n+9) O U Z V J (dg O U Z) H (fun c=>fA J c V) hS;unfold T7 wA;generalize qB (jL U (fun c=>fA J c V) (dg O U Z))=q at *;generalize lg q U U=d at *;cases d with
   | none =>
     rw[if_pos rfl];refine bF (n:=n+12) Tryd.func69 rfl rfl rfl (UF (n+12) O U Z V J (dg O U Z) (fI V J) (gH b0 b1 b2 b3 c::H) (ofNat 0) (ofNat 0)) (bQ _ _ (dh (eJ (bp _) h65) (fun x hy=>by rw[← Tr.ae hy];exact h49))) (ai _ _) (aj _ _) ?_;exact Tr.al ⟨rfl,rfl⟩ (Tr.af (fun q=>by simp[aH,bg] at q) (fun _=>Tr.al rfl (Tr.af (fun q=>by cases q) (fun _=>Tr.ag ⟨rfl,rfl⟩))))
   | some v =>
     obtain ⟨f,t⟩:=v;rw[if_neg (by intro h;cases h)];refine bF (n:=n+12) Tryd.func69 rfl rfl rfl (UG (n+12) O U Z V J (dg O U Z) (fI V J) (gH b0 b1 b2 b3 c::H) f t (dR q f t U).length (aC (dR q f t U))) (bQ _ _ (dh (eJ (bp _) h65) (fun x hy=>by rw[← Tr.ae hy];exact h49))) (ai _ _) (aj _ _) ?_;exact Tr.al ⟨rfl,rfl⟩ (Tr.af (fun q=>by simp[aH,bg] at q) (fun _=>Tr.al rfl (Tr.af (fun _=>Tr.ag ⟨rfl,rfl⟩) (fun q=>by cases q))))
 · rw[if_neg he] at h49 ⊢;refine bF (n:=n+12) Tryd.func69 rfl rfl rfl (UH (n+12) O U Z V J (gH b0 b1 b2 b3 c::H) (vW O U Z V J c)) (bQ _ _ (Al (dh (bp _) (fun x hy=>by rw[← Tr.ae hy];exact h49)))) (ai _ _) (aj _ _) ?_;refine Tr.al ⟨rfl,rfl⟩ (Tr.af (fun _=>Tr.ag ⟨rfl,rfl⟩) (fun q=>?_));rw[aH,bg] at q;exact absurd (by simpa using q) he
end
end Go.Eng
end
