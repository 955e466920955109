/- Lay: law LayLines. -/
import Derived.Test.YtoomemfhcbajoaaV3Lb41x9
import Derived.Test.YtoomemfhcbajoaaV3EngRnLx7
import Derived.Test.YtoomemfhcbajoaaV3EngKtL
import Derived.Test.YtoomemfhcbajoaaProg
import Derived.KernelRfl
import Derived.Test.YtoomemfhcbajoaaChecked
set_option linter.unusedVariables false
set_option linter.unusedSimpArgs false
set_option maxRecDepth 100000
section
namespace Go.Eng
open Go.Proofs
noncomputable def MD (A:AV) (F:Int→Bool):List AV→Option (Prop×AV)
 | [a,.int .i64 x]=>some (a=A,.bool (F x))
 | _=>none
noncomputable def CX (q:Nat) (z:Nat→Int) (u:Bool) (x j:Int):ao:=[(0,bP q z u),(1,.int .i64 x),(5,.int .i64 j)]
noncomputable def lB (l:Nat) (m:Nat) (f:Nat→Nat→Int) (g:Nat→Nat) (hv a1 a2:Int) (la:Nat→Int) (b:Bool) (j:Int):ao:=[(2,fF m f g),(3,.ptr 0 0 0 0),(7,.int .i64 hv),(8,.int .i64 a1),(9,.int .i64 a2),(10,bP l la false),(12,.bool b),(13,.int .i64 j)]
noncomputable def jl (A B:AV) (j:Int):ao:=[(3,.ptr 0 0 0 0),(16,A),(18,B),(19,.int .i64 0),(20,.int .i64 j)]
theorem t49 (n q:Nat) (z:Nat→Int) (u:Bool) (x j:Int) (H:aa):aQ (bt n 49 18) (il aH n 0) aN aO (part Try.f49 [1,0,1,0,0]) (hints (CX q z u x j)) (aB::H) =
 Tr.ite (bV j (Int.ofNat q)) (Tr.req (cS j q) (Tr.req (cJ (ar 0 j 1) q) (Tr.ite (bJ (z (ar 0 j 1)) x) (Tr.ok (Ex.ret,[(4,AV.bool true,some 1)],aB::H)) (Tr.ok (Ex.normal,[(0,AV.slcT none (Row.M [ah.arr .i64 z q]) 1 q u,none),(1,AV.int .i64 x,none),(5,AV.int .i64 (bE .i64 j (Int.ofNat 1)),none)],aB::H))))) (Tr.ok (Ex.exit 0,[(0,AV.slcT none (Row.M [ah.arr .i64 z q]) 1 q u,none),(1,AV.int .i64 x,none),(5,AV.int .i64 j,none),(9,AV.bool false,some 1)],aB::H)):=by kernel_rfl
theorem SS (n q:Nat) (z:Nat→Int) (u:Bool) (x:Int) (b:Bool) (H:aa):aZ Try.prog (cd n) 100000 49 Try.f49 (KtL.kt 49) (il aH n 0) (bZ aN 0 (CX q z u x 0) (aB::H) (.ite b (.ok (.ret,hints [(4,.bool true)],aB::H)) (.ok (.normal,hints (CX q z u x (Int.ofNat q)++[(9,.bool false)]),aB::H)))) aO [(bP q z u,none),(.int .i64 x,none)] H =
 (fun (Z0:ao)=>Tr.reqP (Z0=Z0∧aB::H=aB::H) (Tr.ite b (Tr.ok ((AV.bool true,none),H)) (Tr.ok ((AV.bool false,some 1),H)))) [(0,AV.slcT none (Row.M [ah.arr .i64 z q]) 1 q u),(1,AV.int .i64 x),(5,AV.int .i64 (Int.ofNat 0))]:=by kernel_rfl
theorem Pd (n:Nat) (x:Int) (H:aa):aZ Try.prog (cd n) 100000 49 Try.f49 (KtL.kt 49) (il aH n 0) aN aO [(.nils,none),(.int .i64 x,none)] H =
 Tr.ok ((AV.bool false,some 1),H):=by kernel_rfl
theorem Mq (n l k:Nat) (t d:Nat→Int) (h:Int) (m:Nat) (f:Nat→Nat→Int) (g:Nat→Nat) (b1 b2:Bool) (H:aa):aZ Try.prog (cd n) 100000 13 Try.f13 (KtL.kt 13) (il (Ah (tX (tX aH 43 [cg l t k d] (.bool b1)) 24 [fF m f g] (.bool b2)) 16 Kj) n 0) (bZ aN 0 [] [] .bad) aO [(cg l t k d,none),(.int .u8 h,none),(fF m f g,none)] H =
 (fun (Z0:List AV)=>((fun (Z1:List AV)=>Tr.reqP (Z0=Z0) (Tr.ite (ay b1) (Tr.reqP True (Tr.ok ((AV.bool true,none),H))) (Tr.reqP (Z1=Z1) (Tr.ite b2 (Tr.reqP True (Tr.ok ((AV.bool true,none),H))) (Tr.req (ay (bJ (Int.ofNat 10) (Int.ofNat 0))) Tr.bad))))) [AV.slcT none (Row.F (fun j=>AV.slcT none (Row.M [ah.arr .i64 (f j) (g j)]) 1 (g j) false) m) 1 m false])) [AV.agg (Row.G [AV.slcT none (Row.M [ah.arr .i64 t l]) 1 l false,AV.slcT none (Row.M [ah.arr .i64 d k]) 1 k false])]:=by kernel_rfl
theorem LO (n l k:Nat) (t d la:Nat→Int) (m:Nat) (f:Nat→Nat→Int) (g:Nat→Nat) (hv a1 a2:Int) (b:Bool) (j:Int) (H:aa):aQ (bt n 13 160) (il aH n 0) aN aO (part Try.f13 [1,1,1,1,1,1,1,0,1,0,0]) (hints (lB l m f g hv a1 a2 la b j)) (g6 l t k d::H) =
 (fun (Z0:aW)=>((fun (Z1:Nat×AV×Option Nat)=>((fun (Z2:Nat×AV×Option Nat)=>Tr.ite (bV j (Int.ofNat l)) (Tr.ite b (Tr.req (cS j l) (Tr.req (cJ (ar 0 j 1) l) (Tr.ok (Ex.normal,[Z1,(3,AV.ptr 0 0 0 0,none),(7,AV.int .i64 hv,none),(8,AV.int .i64 a1,none),(9,AV.int .i64 a2,none),Z2,(12,AV.bool (jF (Int.ofNat 1) (la (ar 0 j 1))),none),(13,AV.int .i64 (bE .i64 j (Int.ofNat 1)),none)],Z0::H)))) (Tr.ok (Ex.normal,[Z1,(3,AV.ptr 0 0 0 0,none),(7,AV.int .i64 hv,none),(8,AV.int .i64 a1,none),(9,AV.int .i64 a2,none),Z2,(12,AV.bool false,some 1),(13,AV.int .i64 (bE .i64 j (Int.ofNat 1)),none)],Z0::H))) (Tr.ok (Ex.exit 0,[Z1,(3,AV.ptr 0 0 0 0,none),(7,AV.int .i64 hv,none),(8,AV.int .i64 a1,none),(9,AV.int .i64 a2,none),Z2,(12,AV.bool b,none),(13,AV.int .i64 j,none),(56,AV.bool false,some 1)],Z0::H))) (10,AV.slcT none (Row.M [ah.arr .i64 la l]) 1 l false,none))) (2,AV.slcT none (Row.F (fun j=>AV.slcT none (Row.M [ah.arr .i64 (f j) (g j)]) 1 (g j) false) m) 1 m false,none))) { lock:=false,bs:=[(0,ak.row (Row.G [AV.slcT none (Row.M [ah.arr .i64 t l]) 1 l false,AV.slcT none (Row.M [ah.arr .i64 d k]) 1 k false]))] }:=by kernel_rfl
theorem LQ (n l k:Nat) (t d z:Nat→Int) (F:Int→Bool) (j:Int) (H:aa):aQ (bt n 13 160) (il (Ah aH 49 (MD .nils F)) n 0) aN aO (part Try.f13 [1,1,1,1,1,1,1,1,1,1,1,1,1,0,1,0,0]) (hints (jl .nils (bP l z true) j)) (g6 l t k d::H) =
 (fun (Z0:aW)=>((fun (Z1:aI)=>((fun (Z2:aI)=>Tr.ite (bV j (Int.ofNat l)) (Tr.ite (bJ (Int.ofNat 0) (Int.ofNat 0)) (Tr.reqP (AV.nils=AV.nils) (Tr.req (cS j l) (Tr.req (cJ (ar 0 j 1) l) (Tr.ite (jF (Int.ofNat 0) (t (ar 0 j 1))) (Tr.req (cS j l) (Tr.req (cJ (ar 0 j 1) l) (Tr.req (cS (t (ar 0 j 1)) l) (Tr.req (cJ (ar 0 (t (ar 0 j 1)) 1) l) (Tr.req (cS j l) (Tr.req (cJ (ar 0 j 1) l) (Tr.ite (ay (jV (F j) (ay (bJ (bB .i64 (z (ar 0 (t (ar 0 j 1)) 1)) (z (ar 0 j 1))) (Int.ofNat 1))))) (Tr.ok (Ex.ret,[(6,AV.bool false,some 1)],Z0::H)) (Tr.ok (Ex.normal,Z2,Z0::H))))))))) (Tr.ite (ay (jV (F j) false)) (Tr.ok (Ex.ret,[(6,AV.bool false,some 1)],Z0::H)) (Tr.ok (Ex.normal,Z2,Z0::H))))))) (Tr.ok (Ex.exit 2,Z1,Z0::H))) (Tr.ok (Ex.exit 2,Z1,Z0::H))) [(3,AV.ptr 0 0 0 0,none),(16,AV.nils,none),(18,AV.slcT none (Row.M [ah.arr .i64 z l]) 1 l true,none),(19,AV.int .i64 (Int.ofNat 0),none),(20,AV.int .i64 (bE .i64 j (Int.ofNat 1)),none)])) [(3,AV.ptr 0 0 0 0,none),(16,AV.nils,none),(18,AV.slcT none (Row.M [ah.arr .i64 z l]) 1 l true,none),(19,AV.int .i64 (Int.ofNat 0),none),(20,AV.int .i64 j,none),(130,AV.bool false,some 1)])) { lock:=false,bs:=[(0,ak.row (Row.G [AV.slcT none (Row.M [ah.arr .i64 t l]) 1 l false,AV.slcT none (Row.M [ah.arr .i64 d k]) 1 k false]))] }:=by kernel_rfl
theorem O1 (n l k:Nat) (t d la z:Nat→Int) (h hv:Int) (m:Nat) (f:Nat→Nat→Int) (g:Nat→Nat) (a1 a2 c:Int) (pl:AV) (b:Bool) (H:aa):aZ Try.prog (cd n) 100000 13 Try.f13 (KtL.kt 13) (il (Ah (tX (tX (tX (tX (tX (tX (tX aH 43 [cg l t k d] (.bool true)) 24 [fF m f g] (.bool false)) 34 [cg l t k d] (.tup [.int .i64 a1,.int .i64 a2])) 19 [cg l t k d] (.tup [bP l la false,.int .i64 0])) 27 [cg l t k d,.int .i64 hv] (.tup [pl,.int .i64 c])) 25 [cg l t k d,fF m f g] (.tup [.nils,.int .i64 0])) 47 [cg l t k d,fF m f g] (.tup [bP l z true,.int .i64 0])) 16 Kj) n 0) (bZ (bZ aN 2 (jl .nils (bP l z true) 0) (g6 l t k d::H) (.ok (.normal,hints (jl .nils (bP l z true) (Int.ofNat l)++[(130,.bool false)]),g6 l t k d::H))) 0 (lB l m f g (bE .i64 (Int.ofNat 1) (ur .i64 (DK .i64 h) (Int.ofNat 10))) a1 a2 la true 0) (g6 l t k d::H) (.ok (.normal,hints (lB l m f g hv a1 a2 la b (Int.ofNat l)++[(56,.bool false)]),g6 l t k d::H))) aO [(cg l t k d,none),(.int .u8 h,none),(fF m f g,none)] H =
 (fun (Z0:List AV)=>((fun (Z1:Row)=>((fun (Z2:ao)=>((fun (Z3:aW)=>((fun (Z4:ao)=>((fun (Z5:List AV)=>Tr.reqP ([AV.agg Z1]=[AV.agg Z1]) (Tr.ite (ay true) (Tr.reqP True (Tr.ok ((AV.bool true,none),H))) (Tr.reqP (Z5=Z5) (Tr.ite false (Tr.reqP True (Tr.ok ((AV.bool true,none),H))) (Tr.req (ay (bJ (Int.ofNat 10) (Int.ofNat 0))) (Tr.reqP ([AV.agg Z1]=[AV.agg Z1]) (Tr.reqP ([AV.agg Z1]=[AV.agg Z1]) (Tr.ite (ay (bJ (Int.ofNat 0) (Int.ofNat 0))) (Tr.ok ((AV.bool false,some 1),H)) (Tr.ite (ay (bJ (Int.ofNat l) (Int.ofNat l))) (Tr.ok ((AV.bool false,some 1),H)) (Tr.reqP (Z4=Z4∧Z3::H=Z3::H) (Tr.ite (ay (jV b (bJ a2 (Int.ofNat 0)))) (Tr.ok ((AV.bool false,some 1),H)) (Tr.ite (ay (bJ a2 (Int.ofNat 0))) (Tr.ite (ay (bJ a2 (Int.ofNat 13))) (Tr.ok ((AV.bool false,some 1),H)) (Tr.ite b (Tr.ite (bV a1 (Int.ofNat 1)) (Tr.ok ((AV.bool false,some 1),H)) (Tr.ite (bV (Int.ofNat l) a1) (Tr.ok ((AV.bool false,some 1),H)) (Tr.reqP ([AV.agg Z1,AV.int .i64 hv]=[AV.agg Z1,AV.int .i64 hv]) (Tr.ite b (Tr.ite (ay (jV (bJ c (Int.ofNat 0)) (jF a1 hv))) (Tr.ok ((AV.bool false,some 1),H)) (Tr.reqP (Z0=Z0) (Tr.reqP (Z0=Z0) (Tr.ite (ay (bJ (Int.ofNat 0) (Int.ofNat 0))) (Tr.ok ((AV.bool false,some 1),H)) (Tr.reqP (Z2=Z2∧Z3::H=Z3::H) (Tr.reqP True (Tr.ok ((AV.bool true,none),H)))))))) (Tr.ite (ay (jV (bJ c (Int.ofNat 0)) false)) (Tr.ok ((AV.bool false,some 1),H)) (Tr.reqP (Z0=Z0) (Tr.reqP (Z0=Z0) (Tr.ite (ay (bJ (Int.ofNat 0) (Int.ofNat 0))) (Tr.ok ((AV.bool false,some 1),H)) (Tr.reqP (Z2=Z2∧Z3::H=Z3::H) (Tr.reqP True (Tr.ok ((AV.bool true,none),H)))))))))))) (Tr.reqP ([AV.agg Z1,AV.int .i64 hv]=[AV.agg Z1,AV.int .i64 hv]) (Tr.ite b (Tr.ite (ay (jV (bJ c (Int.ofNat 0)) (jF a1 hv))) (Tr.ok ((AV.bool false,some 1),H)) (Tr.reqP (Z0=Z0) (Tr.reqP (Z0=Z0) (Tr.ite (ay (bJ (Int.ofNat 0) (Int.ofNat 0))) (Tr.ok ((AV.bool false,some 1),H)) (Tr.reqP (Z2=Z2∧Z3::H=Z3::H) (Tr.reqP True (Tr.ok ((AV.bool true,none),H)))))))) (Tr.ite (ay (jV (bJ c (Int.ofNat 0)) false)) (Tr.ok ((AV.bool false,some 1),H)) (Tr.reqP (Z0=Z0) (Tr.reqP (Z0=Z0) (Tr.ite (ay (bJ (Int.ofNat 0) (Int.ofNat 0))) (Tr.ok ((AV.bool false,some 1),H)) (Tr.reqP (Z2=Z2∧Z3::H=Z3::H) (Tr.reqP True (Tr.ok ((AV.bool true,none),H)))))))))))) (Tr.ite b (Tr.ite (bV a1 (Int.ofNat 1)) (Tr.ok ((AV.bool false,some 1),H)) (Tr.ite (bV (Int.ofNat l) a1) (Tr.ok ((AV.bool false,some 1),H)) (Tr.reqP ([AV.agg Z1,AV.int .i64 hv]=[AV.agg Z1,AV.int .i64 hv]) (Tr.ite b (Tr.ite (ay (jV (bJ c (Int.ofNat 0)) (jF a1 hv))) (Tr.ok ((AV.bool false,some 1),H)) (Tr.reqP (Z0=Z0) (Tr.reqP (Z0=Z0) (Tr.ite (ay (bJ (Int.ofNat 0) (Int.ofNat 0))) (Tr.ok ((AV.bool false,some 1),H)) (Tr.reqP (Z2=Z2∧Z3::H=Z3::H) (Tr.reqP True (Tr.ok ((AV.bool true,none),H)))))))) (Tr.ite (ay (jV (bJ c (Int.ofNat 0)) false)) (Tr.ok ((AV.bool false,some 1),H)) (Tr.reqP (Z0=Z0) (Tr.reqP (Z0=Z0) (Tr.ite (ay (bJ (Int.ofNat 0) (Int.ofNat 0))) (Tr.ok ((AV.bool false,some 1),H)) (Tr.reqP (Z2=Z2∧Z3::H=Z3::H) (Tr.reqP True (Tr.ok ((AV.bool true,none),H)))))))))))) (Tr.reqP ([AV.agg Z1,AV.int .i64 hv]=[AV.agg Z1,AV.int .i64 hv]) (Tr.ite b (Tr.ite (ay (jV (bJ c (Int.ofNat 0)) (jF a1 hv))) (Tr.ok ((AV.bool false,some 1),H)) (Tr.reqP (Z0=Z0) (Tr.reqP (Z0=Z0) (Tr.ite (ay (bJ (Int.ofNat 0) (Int.ofNat 0))) (Tr.ok ((AV.bool false,some 1),H)) (Tr.reqP (Z2=Z2∧Z3::H=Z3::H) (Tr.reqP True (Tr.ok ((AV.bool true,none),H)))))))) (Tr.ite (ay (jV (bJ c (Int.ofNat 0)) false)) (Tr.ok ((AV.bool false,some 1),H)) (Tr.reqP (Z0=Z0) (Tr.reqP (Z0=Z0) (Tr.ite (ay (bJ (Int.ofNat 0) (Int.ofNat 0))) (Tr.ok ((AV.bool false,some 1),H)) (Tr.reqP (Z2=Z2∧Z3::H=Z3::H) (Tr.reqP True (Tr.ok ((AV.bool true,none),H))))))))))))))))))))))) [AV.slcT none (Row.F (fun j=>AV.slcT none (Row.M [ah.arr .i64 (f j) (g j)]) 1 (g j) false) m) 1 m false])) [(2,AV.slcT none (Row.F (fun j=>AV.slcT none (Row.M [ah.arr .i64 (f j) (g j)]) 1 (g j) false) m) 1 m false),(3,AV.ptr 0 0 0 0),(7,AV.int .i64 (bE .i64 (Int.ofNat 1) (ur IntKind.i64 (DK IntKind.i64 h) (Int.ofNat 10)))),(8,AV.int .i64 a1),(9,AV.int .i64 a2),(10,AV.slcT none (Row.M [ah.arr .i64 la l]) 1 l false),(12,AV.bool true),(13,AV.int .i64 (Int.ofNat 0))])) { lock:=false,bs:=[(0,ak.row Z1)] })) [(3,AV.ptr 0 0 0 0),(16,AV.nils),(18,AV.slcT none (Row.M [ah.arr .i64 z l]) 1 l true),(19,AV.int .i64 (Int.ofNat 0)),(20,AV.int .i64 (Int.ofNat 0))])) (Row.G [AV.slcT none (Row.M [ah.arr .i64 t l]) 1 l false,AV.slcT none (Row.M [ah.arr .i64 d k]) 1 k false]))) [AV.agg (Row.G [AV.slcT none (Row.M [ah.arr .i64 t l]) 1 l false,AV.slcT none (Row.M [ah.arr .i64 d k]) 1 k false]),AV.slcT none (Row.F (fun j=>AV.slcT none (Row.M [ah.arr .i64 (f j) (g j)]) 1 (g j) false) m) 1 m false]:=by kernel_rfl
theorem LP (n l k:Nat) (t d z:Nat→Int) (q:Nat) (y:Nat→Int) (F:Int→Bool) (j:Int) (H:aa):aQ (bt n 13 160) (il (Ah aH 49 (MD (bP q y false) F)) n 0) aN aO (part Try.f13 [1,1,1,1,1,1,1,1,1,1,1,1,1,0,1,0,0]) (hints (jl (bP q y false) (bP l z true) j)) (g6 l t k d::H) =
 (fun (Z0:aW)=>((fun (Z1:aI)=>((fun (Z2:aI)=>Tr.ite (bV j (Int.ofNat l)) (Tr.ite (bJ (Int.ofNat 0) (Int.ofNat 0)) (Tr.reqP (AV.slcT none (Row.M [ah.arr .i64 y q]) 1 q false=AV.slcT none (Row.M [ah.arr .i64 y q]) 1 q false) (Tr.req (cS j l) (Tr.req (cJ (ar 0 j 1) l) (Tr.ite (jF (Int.ofNat 0) (t (ar 0 j 1))) (Tr.req (cS j l) (Tr.req (cJ (ar 0 j 1) l) (Tr.req (cS (t (ar 0 j 1)) l) (Tr.req (cJ (ar 0 (t (ar 0 j 1)) 1) l) (Tr.req (cS j l) (Tr.req (cJ (ar 0 j 1) l) (Tr.ite (ay (jV (F j) (ay (bJ (bB .i64 (z (ar 0 (t (ar 0 j 1)) 1)) (z (ar 0 j 1))) (Int.ofNat 1))))) (Tr.ok (Ex.ret,[(6,AV.bool false,some 1)],Z0::H)) (Tr.ok (Ex.normal,Z2,Z0::H))))))))) (Tr.ite (ay (jV (F j) false)) (Tr.ok (Ex.ret,[(6,AV.bool false,some 1)],Z0::H)) (Tr.ok (Ex.normal,Z2,Z0::H))))))) (Tr.ok (Ex.exit 2,Z1,Z0::H))) (Tr.ok (Ex.exit 2,Z1,Z0::H))) [(3,AV.ptr 0 0 0 0,none),(16,AV.slcT none (Row.M [ah.arr .i64 y q]) 1 q false,none),(18,AV.slcT none (Row.M [ah.arr .i64 z l]) 1 l true,none),(19,AV.int .i64 (Int.ofNat 0),none),(20,AV.int .i64 (bE .i64 j (Int.ofNat 1)),none)])) [(3,AV.ptr 0 0 0 0,none),(16,AV.slcT none (Row.M [ah.arr .i64 y q]) 1 q false,none),(18,AV.slcT none (Row.M [ah.arr .i64 z l]) 1 l true,none),(19,AV.int .i64 (Int.ofNat 0),none),(20,AV.int .i64 j,none),(130,AV.bool false,some 1)])) { lock:=false,bs:=[(0,ak.row (Row.G [AV.slcT none (Row.M [ah.arr .i64 t l]) 1 l false,AV.slcT none (Row.M [ah.arr .i64 d k]) 1 k false]))] }:=by kernel_rfl
theorem OZ (n l k:Nat) (t d la z:Nat→Int) (h hv:Int) (m:Nat) (f:Nat→Nat→Int) (g:Nat→Nat) (a1 a2 c:Int) (pl:AV) (b:Bool) (q:Nat) (y:Nat→Int) (H:aa):aZ Try.prog (cd n) 100000 13 Try.f13 (KtL.kt 13) (il (Ah (tX (tX (tX (tX (tX (tX (tX aH 43 [cg l t k d] (.bool true)) 24 [fF m f g] (.bool false)) 34 [cg l t k d] (.tup [.int .i64 a1,.int .i64 a2])) 19 [cg l t k d] (.tup [bP l la false,.int .i64 0])) 27 [cg l t k d,.int .i64 hv] (.tup [pl,.int .i64 c])) 25 [cg l t k d,fF m f g] (.tup [(bP q y false),.int .i64 0])) 47 [cg l t k d,fF m f g] (.tup [bP l z true,.int .i64 0])) 16 Kj) n 0) (bZ (bZ aN 2 (jl (bP q y false) (bP l z true) 0) (g6 l t k d::H) (.ok (.normal,hints (jl (bP q y false) (bP l z true) (Int.ofNat l)++[(130,.bool false)]),g6 l t k d::H))) 0 (lB l m f g (bE .i64 (Int.ofNat 1) (ur .i64 (DK .i64 h) (Int.ofNat 10))) a1 a2 la true 0) (g6 l t k d::H) (.ok (.normal,hints (lB l m f g hv a1 a2 la b (Int.ofNat l)++[(56,.bool false)]),g6 l t k d::H))) aO [(cg l t k d,none),(.int .u8 h,none),(fF m f g,none)] H =
 (fun (Z0:List AV)=>((fun (Z1:Row)=>((fun (Z2:ao)=>((fun (Z3:aW)=>((fun (Z4:ao)=>((fun (Z5:List AV)=>Tr.reqP ([AV.agg Z1]=[AV.agg Z1]) (Tr.ite (ay true) (Tr.reqP True (Tr.ok ((AV.bool true,none),H))) (Tr.reqP (Z5=Z5) (Tr.ite false (Tr.reqP True (Tr.ok ((AV.bool true,none),H))) (Tr.req (ay (bJ (Int.ofNat 10) (Int.ofNat 0))) (Tr.reqP ([AV.agg Z1]=[AV.agg Z1]) (Tr.reqP ([AV.agg Z1]=[AV.agg Z1]) (Tr.ite (ay (bJ (Int.ofNat 0) (Int.ofNat 0))) (Tr.ok ((AV.bool false,some 1),H)) (Tr.ite (ay (bJ (Int.ofNat l) (Int.ofNat l))) (Tr.ok ((AV.bool false,some 1),H)) (Tr.reqP (Z4=Z4∧Z3::H=Z3::H) (Tr.ite (ay (jV b (bJ a2 (Int.ofNat 0)))) (Tr.ok ((AV.bool false,some 1),H)) (Tr.ite (ay (bJ a2 (Int.ofNat 0))) (Tr.ite (ay (bJ a2 (Int.ofNat 13))) (Tr.ok ((AV.bool false,some 1),H)) (Tr.ite b (Tr.ite (bV a1 (Int.ofNat 1)) (Tr.ok ((AV.bool false,some 1),H)) (Tr.ite (bV (Int.ofNat l) a1) (Tr.ok ((AV.bool false,some 1),H)) (Tr.reqP ([AV.agg Z1,AV.int .i64 hv]=[AV.agg Z1,AV.int .i64 hv]) (Tr.ite b (Tr.ite (ay (jV (bJ c (Int.ofNat 0)) (jF a1 hv))) (Tr.ok ((AV.bool false,some 1),H)) (Tr.reqP (Z0=Z0) (Tr.reqP (Z0=Z0) (Tr.ite (ay (bJ (Int.ofNat 0) (Int.ofNat 0))) (Tr.ok ((AV.bool false,some 1),H)) (Tr.reqP (Z2=Z2∧Z3::H=Z3::H) (Tr.reqP True (Tr.ok ((AV.bool true,none),H)))))))) (Tr.ite (ay (jV (bJ c (Int.ofNat 0)) false)) (Tr.ok ((AV.bool false,some 1),H)) (Tr.reqP (Z0=Z0) (Tr.reqP (Z0=Z0) (Tr.ite (ay (bJ (Int.ofNat 0) (Int.ofNat 0))) (Tr.ok ((AV.bool false,some 1),H)) (Tr.reqP (Z2=Z2∧Z3::H=Z3::H) (Tr.reqP True (Tr.ok ((AV.bool true,none),H)))))))))))) (Tr.reqP ([AV.agg Z1,AV.int .i64 hv]=[AV.agg Z1,AV.int .i64 hv]) (Tr.ite b (Tr.ite (ay (jV (bJ c (Int.ofNat 0)) (jF a1 hv))) (Tr.ok ((AV.bool false,some 1),H)) (Tr.reqP (Z0=Z0) (Tr.reqP (Z0=Z0) (Tr.ite (ay (bJ (Int.ofNat 0) (Int.ofNat 0))) (Tr.ok ((AV.bool false,some 1),H)) (Tr.reqP (Z2=Z2∧Z3::H=Z3::H) (Tr.reqP True (Tr.ok ((AV.bool true,none),H)))))))) (Tr.ite (ay (jV (bJ c (Int.ofNat 0)) false)) (Tr.ok ((AV.bool false,some 1),H)) (Tr.reqP (Z0=Z0) (Tr.reqP (Z0=Z0) (Tr.ite (ay (bJ (Int.ofNat 0) (Int.ofNat 0))) (Tr.ok ((AV.bool false,some 1),H)) (Tr.reqP (Z2=Z2∧Z3::H=Z3::H) (Tr.reqP True (Tr.ok ((AV.bool true,none),H)))))))))))) (Tr.ite b (Tr.ite (bV a1 (Int.ofNat 1)) (Tr.ok ((AV.bool false,some 1),H)) (Tr.ite (bV (Int.ofNat l) a1) (Tr.ok ((AV.bool false,some 1),H)) (Tr.reqP ([AV.agg Z1,AV.int .i64 hv]=[AV.agg Z1,AV.int .i64 hv]) (Tr.ite b (Tr.ite (ay (jV (bJ c (Int.ofNat 0)) (jF a1 hv))) (Tr.ok ((AV.bool false,some 1),H)) (Tr.reqP (Z0=Z0) (Tr.reqP (Z0=Z0) (Tr.ite (ay (bJ (Int.ofNat 0) (Int.ofNat 0))) (Tr.ok ((AV.bool false,some 1),H)) (Tr.reqP (Z2=Z2∧Z3::H=Z3::H) (Tr.reqP True (Tr.ok ((AV.bool true,none),H)))))))) (Tr.ite (ay (jV (bJ c (Int.ofNat 0)) false)) (Tr.ok ((AV.bool false,some 1),H)) (Tr.reqP (Z0=Z0) (Tr.reqP (Z0=Z0) (Tr.ite (ay (bJ (Int.ofNat 0) (Int.ofNat 0))) (Tr.ok ((AV.bool false,some 1),H)) (Tr.reqP (Z2=Z2∧Z3::H=Z3::H) (Tr.reqP True (Tr.ok ((AV.bool true,none),H)))))))))))) (Tr.reqP ([AV.agg Z1,AV.int .i64 hv]=[AV.agg Z1,AV.int .i64 hv]) (Tr.ite b (Tr.ite (ay (jV (bJ c (Int.ofNat 0)) (jF a1 hv))) (Tr.ok ((AV.bool false,some 1),H)) (Tr.reqP (Z0=Z0) (Tr.reqP (Z0=Z0) (Tr.ite (ay (bJ (Int.ofNat 0) (Int.ofNat 0))) (Tr.ok ((AV.bool false,some 1),H)) (Tr.reqP (Z2=Z2∧Z3::H=Z3::H) (Tr.reqP True (Tr.ok ((AV.bool true,none),H)))))))) (Tr.ite (ay (jV (bJ c (Int.ofNat 0)) false)) (Tr.ok ((AV.bool false,some 1),H)) (Tr.reqP (Z0=Z0) (Tr.reqP (Z0=Z0) (Tr.ite (ay (bJ (Int.ofNat 0) (Int.ofNat 0))) (Tr.ok ((AV.bool false,some 1),H)) (Tr.reqP (Z2=Z2∧Z3::H=Z3::H) (Tr.reqP True (Tr.ok ((AV.bool true,none),H))))))))))))))))))))))) [AV.slcT none (Row.F (fun j=>AV.slcT none (Row.M [ah.arr .i64 (f j) (g j)]) 1 (g j) false) m) 1 m false])) [(2,AV.slcT none (Row.F (fun j=>AV.slcT none (Row.M [ah.arr .i64 (f j) (g j)]) 1 (g j) false) m) 1 m false),(3,AV.ptr 0 0 0 0),(7,AV.int .i64 (bE .i64 (Int.ofNat 1) (ur IntKind.i64 (DK IntKind.i64 h) (Int.ofNat 10)))),(8,AV.int .i64 a1),(9,AV.int .i64 a2),(10,AV.slcT none (Row.M [ah.arr .i64 la l]) 1 l false),(12,AV.bool true),(13,AV.int .i64 (Int.ofNat 0))])) { lock:=false,bs:=[(0,ak.row Z1)] })) [(3,AV.ptr 0 0 0 0),(16,AV.slcT none (Row.M [ah.arr .i64 y q]) 1 q false),(18,AV.slcT none (Row.M [ah.arr .i64 z l]) 1 l true),(19,AV.int .i64 (Int.ofNat 0)),(20,AV.int .i64 (Int.ofNat 0))])) (Row.G [AV.slcT none (Row.M [ah.arr .i64 t l]) 1 l false,AV.slcT none (Row.M [ah.arr .i64 d k]) 1 k false]))) [AV.agg (Row.G [AV.slcT none (Row.M [ah.arr .i64 t l]) 1 l false,AV.slcT none (Row.M [ah.arr .i64 d k]) 1 k false]),AV.slcT none (Row.F (fun j=>AV.slcT none (Row.M [ah.arr .i64 (f j) (g j)]) 1 (g j) false) m) 1 m false]:=by kernel_rfl
theorem O0 (n l k:Nat) (t d la:Nat→Int) (h hv:Int) (m:Nat) (f:Nat→Nat→Int) (g:Nat→Nat) (a1 a2 c:Int) (pl:AV) (b:Bool) (e:Int) (H:aa):aZ Try.prog (cd n) 100000 13 Try.f13 (KtL.kt 13) (il (Ah (tX (tX (tX (tX (tX (tX (tX aH 43 [cg l t k d] (.bool true)) 24 [fF m f g] (.bool false)) 34 [cg l t k d] (.tup [.int .i64 a1,.int .i64 a2])) 19 [cg l t k d] (.tup [bP l la false,.int .i64 0])) 27 [cg l t k d,.int .i64 hv] (.tup [pl,.int .i64 c])) 25 [cg l t k d,fF m f g] (.tup [.nils,.int .i64 e])) 47 [cg l t k d,fF m f g] (.tup [.nils,.int .i64 e])) 16 Kj) n 0) (bZ aN 0 (lB l m f g (bE .i64 (Int.ofNat 1) (ur .i64 (DK .i64 h) (Int.ofNat 10))) a1 a2 la true 0) (g6 l t k d::H) (.ok (.normal,hints (lB l m f g hv a1 a2 la b (Int.ofNat l)++[(56,.bool false)]),g6 l t k d::H))) aO [(cg l t k d,none),(.int .u8 h,none),(fF m f g,none)] H =
 (fun (Z0:List AV)=>((fun (Z1:Row)=>((fun (Z2:ao)=>((fun (Z3:List AV)=>Tr.reqP ([AV.agg Z1]=[AV.agg Z1]) (Tr.ite (ay true) (Tr.reqP True (Tr.ok ((AV.bool true,none),H))) (Tr.reqP (Z3=Z3) (Tr.ite false (Tr.reqP True (Tr.ok ((AV.bool true,none),H))) (Tr.req (ay (bJ (Int.ofNat 10) (Int.ofNat 0))) (Tr.reqP ([AV.agg Z1]=[AV.agg Z1]) (Tr.reqP ([AV.agg Z1]=[AV.agg Z1]) (Tr.ite (ay (bJ (Int.ofNat 0) (Int.ofNat 0))) (Tr.ok ((AV.bool false,some 1),H)) (Tr.ite (ay (bJ (Int.ofNat l) (Int.ofNat l))) (Tr.ok ((AV.bool false,some 1),H)) (Tr.reqP (Z2=Z2∧{ lock:=false,bs:=[(0,ak.row Z1)] } :: H={ lock:=false,bs:=[(0,ak.row Z1)] } :: H) (Tr.ite (ay (jV b (bJ a2 (Int.ofNat 0)))) (Tr.ok ((AV.bool false,some 1),H)) (Tr.ite (ay (bJ a2 (Int.ofNat 0))) (Tr.ite (ay (bJ a2 (Int.ofNat 13))) (Tr.ok ((AV.bool false,some 1),H)) (Tr.ite b (Tr.ite (bV a1 (Int.ofNat 1)) (Tr.ok ((AV.bool false,some 1),H)) (Tr.ite (bV (Int.ofNat l) a1) (Tr.ok ((AV.bool false,some 1),H)) (Tr.reqP ([AV.agg Z1,AV.int .i64 hv]=[AV.agg Z1,AV.int .i64 hv]) (Tr.ite b (Tr.ite (ay (jV (bJ c (Int.ofNat 0)) (jF a1 hv))) (Tr.ok ((AV.bool false,some 1),H)) (Tr.reqP (Z0=Z0) (Tr.reqP (Z0=Z0) (Tr.ite (ay (bJ e e)) (Tr.ok ((AV.bool false,some 1),H)) (Tr.reqP True (Tr.ok ((AV.bool true,none),H))))))) (Tr.ite (ay (jV (bJ c (Int.ofNat 0)) false)) (Tr.ok ((AV.bool false,some 1),H)) (Tr.reqP (Z0=Z0) (Tr.reqP (Z0=Z0) (Tr.ite (ay (bJ e e)) (Tr.ok ((AV.bool false,some 1),H)) (Tr.reqP True (Tr.ok ((AV.bool true,none),H))))))))))) (Tr.reqP ([AV.agg Z1,AV.int .i64 hv]=[AV.agg Z1,AV.int .i64 hv]) (Tr.ite b (Tr.ite (ay (jV (bJ c (Int.ofNat 0)) (jF a1 hv))) (Tr.ok ((AV.bool false,some 1),H)) (Tr.reqP (Z0=Z0) (Tr.reqP (Z0=Z0) (Tr.ite (ay (bJ e e)) (Tr.ok ((AV.bool false,some 1),H)) (Tr.reqP True (Tr.ok ((AV.bool true,none),H))))))) (Tr.ite (ay (jV (bJ c (Int.ofNat 0)) false)) (Tr.ok ((AV.bool false,some 1),H)) (Tr.reqP (Z0=Z0) (Tr.reqP (Z0=Z0) (Tr.ite (ay (bJ e e)) (Tr.ok ((AV.bool false,some 1),H)) (Tr.reqP True (Tr.ok ((AV.bool true,none),H))))))))))) (Tr.ite b (Tr.ite (bV a1 (Int.ofNat 1)) (Tr.ok ((AV.bool false,some 1),H)) (Tr.ite (bV (Int.ofNat l) a1) (Tr.ok ((AV.bool false,some 1),H)) (Tr.reqP ([AV.agg Z1,AV.int .i64 hv]=[AV.agg Z1,AV.int .i64 hv]) (Tr.ite b (Tr.ite (ay (jV (bJ c (Int.ofNat 0)) (jF a1 hv))) (Tr.ok ((AV.bool false,some 1),H)) (Tr.reqP (Z0=Z0) (Tr.reqP (Z0=Z0) (Tr.ite (ay (bJ e e)) (Tr.ok ((AV.bool false,some 1),H)) (Tr.reqP True (Tr.ok ((AV.bool true,none),H))))))) (Tr.ite (ay (jV (bJ c (Int.ofNat 0)) false)) (Tr.ok ((AV.bool false,some 1),H)) (Tr.reqP (Z0=Z0) (Tr.reqP (Z0=Z0) (Tr.ite (ay (bJ e e)) (Tr.ok ((AV.bool false,some 1),H)) (Tr.reqP True (Tr.ok ((AV.bool true,none),H))))))))))) (Tr.reqP ([AV.agg Z1,AV.int .i64 hv]=[AV.agg Z1,AV.int .i64 hv]) (Tr.ite b (Tr.ite (ay (jV (bJ c (Int.ofNat 0)) (jF a1 hv))) (Tr.ok ((AV.bool false,some 1),H)) (Tr.reqP (Z0=Z0) (Tr.reqP (Z0=Z0) (Tr.ite (ay (bJ e e)) (Tr.ok ((AV.bool false,some 1),H)) (Tr.reqP True (Tr.ok ((AV.bool true,none),H))))))) (Tr.ite (ay (jV (bJ c (Int.ofNat 0)) false)) (Tr.ok ((AV.bool false,some 1),H)) (Tr.reqP (Z0=Z0) (Tr.reqP (Z0=Z0) (Tr.ite (ay (bJ e e)) (Tr.ok ((AV.bool false,some 1),H)) (Tr.reqP True (Tr.ok ((AV.bool true,none),H)))))))))))))))))))))) [AV.slcT none (Row.F (fun j=>AV.slcT none (Row.M [ah.arr .i64 (f j) (g j)]) 1 (g j) false) m) 1 m false])) [(2,AV.slcT none (Row.F (fun j=>AV.slcT none (Row.M [ah.arr .i64 (f j) (g j)]) 1 (g j) false) m) 1 m false),(3,AV.ptr 0 0 0 0),(7,AV.int .i64 (bE .i64 (Int.ofNat 1) (ur IntKind.i64 (DK IntKind.i64 h) (Int.ofNat 10)))),(8,AV.int .i64 a1),(9,AV.int .i64 a2),(10,AV.slcT none (Row.M [ah.arr .i64 la l]) 1 l false),(12,AV.bool true),(13,AV.int .i64 (Int.ofNat 0))])) (Row.G [AV.slcT none (Row.M [ah.arr .i64 t l]) 1 l false,AV.slcT none (Row.M [ah.arr .i64 d k]) 1 k false]))) [AV.agg (Row.G [AV.slcT none (Row.M [ah.arr .i64 t l]) 1 l false,AV.slcT none (Row.M [ah.arr .i64 d k]) 1 k false]),AV.slcT none (Row.F (fun j=>AV.slcT none (Row.M [ah.arr .i64 (f j) (g j)]) 1 (g j) false) m) 1 m false]:=by kernel_rfl
theorem D3:∀ b,(0,b) ∈ aJ (bm Try.f13)→b=.loop (part Try.f13 [1,1,1,1,1,1,1,0,1,0,0]):=fa (by kernel_rfl)
theorem Ks:∀ b,(2,b) ∈ aJ (bm Try.f13)→b=.loop (part Try.f13 [1,1,1,1,1,1,1,1,1,1,1,1,1,0,1,0,0]):=fa (by kernel_rfl)
theorem P5:∀ b,(0,b) ∈ aJ (bm Try.f49)→b=.loop (part Try.f49 [1,0,1,0,0]):=fa (by kernel_rfl)
theorem wb {c:Nat} {A:AV} {F:Int→Bool} {T:py} (hT:T.Ok (cd c)) (h2:∀ x H,cd c (.fn 49) [A,.int .i64 x] H=some (.bool (F x),H)):(Ah T 49 (MD A F)).Ok (cd c):=by
 refine pL hT (fun args p v hg hp H=>?_)
 unfold MD at hg
 split at hg
 · simp only[nP] at hg
   obtain ⟨rfl,rfl⟩:=hg
   subst hp
   exact h2 _ H
 · cases hg
theorem GZ (L:List Int) (x:Int):cU (fun i=>decide (aA L i=x)) L.length=decide (x ∈ L):=by
 rw[Bool.eq_iff_iff,dI,decide_eq_true_eq]
 constructor
 · rintro ⟨i,h1,h2⟩
   rw[decide_eq_true_eq,gO] at h2
   have h2:L.getD i 0=x:=h2
   rw[← h2,show L.getD i 0=L[i] from by rw[List.getD_eq_getElem?_getD,List.getElem?_eq_getElem h1];rfl]
   exact List.getElem_mem _
 · intro h
   obtain ⟨i,h1,h2⟩:=List.mem_iff_getElem.1 h
   refine ⟨i,h1,?_⟩
   rw[decide_eq_true_eq,gO,← h2]
   show L.getD i 0=L[i]
   rw[List.getD_eq_getElem?_getD,List.getElem?_eq_getElem h1];rfl
section
variable (n l k:Nat) (t d z:Nat→Int) (H:aa)
theorem MW (x:Int):cd (n+1) (.fn 49) [.nils,.int .i64 x] H=some (.bool false,H):=by
 refine aL (n:=n) Try.func49 rfl rfl rfl (Pd n x H) (av _) (af _ _) (ag _ _) ?_
 exact wF
theorem Qp (q:Nat) (y:Nat→Int) (u:Bool) (x:Int) (hq:q≤1000):cd (n+1) (.fn 49) [bP q y u,.int .i64 x] H=some (.bool (cU (fun i=>decide (y i=x)) q),H):=by
 have hx:=lA (n:=n) (f:=49) (nt:=18) (c:=part Try.f49 [1,0,1,0,0]) 0 (fun j=>CX q y u x (j:Nat)) (fun j=>aB::H) q (fun i=>decide (y i=x)) (fun j=>([(4,.bool true)],aB::H)) (CX q y u x (Int.ofNat q)++[(9,.bool false)],aB::H) (by omega) (fun j hj=>?_) ?_
 · refine aL (n:=n) Try.func49 rfl rfl rfl (SS n q y u x (cU (fun i=>decide (y i=x)) q) H) (av _) (aD (af _ _) P5 (fun x hy=>fp hy hx)) (ag _ _) ?_
   generalize cU (fun i=>decide (y i=x)) q=B at *
   cases B
   all_goals
    exact wF
 · refine aK (t49 n q y u x (j:Nat) H) (av n) (af _ _) (ag _ _) ?_
   show Tr.all _ (fun r=>if decide (y j=x)=true then _ else _∧tidy _ _ _=(CX q y u x ((j+1:Nat):Int),aB::H))
   rw[dx (j:=j) (by omega)]
   simp only[jo]
   by_cases c:y j=x
   · rw[decide_eq_true c]
     simp only[if_true]
     exact wF
   · rw[decide_eq_false c]
     simp only[Bool.false_eq_true,if_false]
     exact wF
 · exact cW (t49 n q y u x (Int.ofNat q) H) (av n) (af _ _) (ag _ _) (by first | (simp (disch:=omega) only[nV,nW];done) | (simp (disch:=omega) only[nV,nW];omega))
theorem NS (la:Nat→Int) (m:Nat) (f:Nat→Nat→Int) (g:Nat→Nat) (hv a1 a2:Int) (hl:l≤30):exec (bt n 13 160) (.block 0 (.loop (part Try.f13 [1,1,1,1,1,1,1,0,1,0,0]))) (lB l m f g hv a1 a2 la true ((0:Nat):Int)) (g6 l t k d::H)=some (.normal,lB l m f g hv a1 a2 la (!cU (fun i=>decide (la i<1)) l) (Int.ofNat l)++[(56,.bool false)],g6 l t k d::H):=by
 have hx:=jD (n:=n) (f:=13) (nt:=160) (c:=part Try.f13 [1,1,1,1,1,1,1,0,1,0,0]) 0 (fun j=>lB l m f g hv a1 a2 la (!cU (fun i=>decide (la i<1)) j) (j:Nat)) (fun j=>g6 l t k d::H) l (lB l m f g hv a1 a2 la (!cU (fun i=>decide (la i<1)) l) (Int.ofNat l)++[(56,.bool false)],g6 l t k d::H) (by omega) (fun j hj=>?_) ?_
 · rw[Ev] at hx;exact hx
 · refine aK (LO n l k t d la m f g hv a1 a2 (!cU (fun i=>decide (la i<1)) j) (j:Nat) H) (av n) (af _ _) (ag _ _) ?_
   show Tr.all _ (fun r=>_∧tidy _ _ _=(lB l m f g hv a1 a2 la (!cU (fun i=>decide (la i<1)) (j+1)) ((j+1:Nat):Int),g6 l t k d::H))
   rw[dx (j:=j) (by omega),Gy]
   simp only[jo]
   have e:jF (Int.ofNat 1) (la j)=!decide (la j<1):=by
    rw[iR,Bool.eq_iff_iff]
    simp only[decide_eq_true_eq,Bool.not_eq_true',decide_eq_false_iff_not]
    show (1:Int)≤la j↔_
    omega
   rw[e]
   generalize decide (la j<1)=X at *
   generalize cU (fun i=>decide (la i<1)) j=B at *
   cases B<;>cases X
   all_goals
    exact wF
 · exact cW (LO n l k t d la m f g hv a1 a2 (!cU (fun i=>decide (la i<1)) l) (Int.ofNat l) H) (av n) (af _ _) (ag _ _) (by first | (simp (disch:=omega) only[nV,nW];done) | (simp (disch:=omega) only[nV,nW];omega))
theorem NU (F:Int→Bool) (hl:l≤30) (ht:∀ j,j<l→t j<l) (hz:∀ j,0≤z j∧z j≤1000) (hF:∀ j:Nat,j<l→F j=nZ t z j) (h49:∀ x H,cd n (.fn 49) [.nils,.int .i64 x] H=some (.bool (F x),H)):exec (bt n 13 160) (.block 2 (.loop (part Try.f13 [1,1,1,1,1,1,1,1,1,1,1,1,1,0,1,0,0]))) (jl .nils (bP l z true) ((0:Nat):Int)) (g6 l t k d::H)=some (.normal,jl .nils (bP l z true) (Int.ofNat l)++[(130,.bool false)],g6 l t k d::H):=by
 refine jD (n:=n) (f:=13) (nt:=160) (c:=part Try.f13 [1,1,1,1,1,1,1,1,1,1,1,1,1,0,1,0,0]) 2 (fun j=>jl .nils (bP l z true) (j:Nat)) (fun j=>g6 l t k d::H) l _ (by omega) (fun j hj=>?_) ?_
 · have htj:=ht j hj
   have hFj:=hF j hj
   have hzj:=hz j
   refine aK (LQ n l k t d z F (j:Nat) H) (aS _ n (wb (aG _) h49)) (af _ _) (ag _ _) ?_
   show Tr.all _ (fun r=>_∧tidy _ _ _=(jl .nils (bP l z true) ((j+1:Nat):Int),g6 l t k d::H))
   rw[dx (j:=j) (by omega)]
   simp only[jo]
   by_cases c0:0≤t j
   · obtain ⟨p,hp⟩:∃ p:Nat,t j=p:=⟨(t j).toNat,by omega⟩
     have hzp:=hz p
     have e1:bB .i64 (z p) (z j)=z p-z j:=qt (by omega) (by omega)
     have hq:jV (F ((j:Nat):Int)) (ay (bJ (bB .i64 (z p) (z j)) (Int.ofNat 1)))=true:=by
      rw[hFj,e1,jC,fx,dH]
      unfold nZ
      rw[decide_eq_true c0,hp,Int.toNat_natCast,Bool.true_and,beq_iff_eq]
      congr 1
      rw[Bool.eq_iff_iff,decide_eq_true_eq,beq_iff_eq]
      show _↔z p-z j=1
      omega
     rw[hp] at htj c0 ⊢
     simp only[jo]
     rw[hq]
     exact wF
   · have hq:jV (F ((j:Nat):Int)) false=true:=by
      rw[hFj,jC]
      unfold nZ
      rw[decide_eq_false c0];rfl
     rw[hq]
     exact wF
 · exact cW (LQ n l k t d z F (Int.ofNat l) H) (aS _ n (wb (aG _) h49)) (af _ _) (ag _ _) (by first | (simp (disch:=omega) only[nV,nW];done) | (simp (disch:=omega) only[nV,nW];omega))
theorem NT (q:Nat) (y:Nat→Int) (F:Int→Bool) (hl:l≤30) (ht:∀ j,j<l→t j<l) (hz:∀ j,0≤z j∧z j≤1000) (hF:∀ j:Nat,j<l→F j=nZ t z j) (h49:∀ x H,cd n (.fn 49) [(bP q y false),.int .i64 x] H=some (.bool (F x),H)):exec (bt n 13 160) (.block 2 (.loop (part Try.f13 [1,1,1,1,1,1,1,1,1,1,1,1,1,0,1,0,0]))) (jl (bP q y false) (bP l z true) ((0:Nat):Int)) (g6 l t k d::H)=some (.normal,jl (bP q y false) (bP l z true) (Int.ofNat l)++[(130,.bool false)],g6 l t k d::H):=by
 refine jD (n:=n) (f:=13) (nt:=160) (c:=part Try.f13 [1,1,1,1,1,1,1,1,1,1,1,1,1,0,1,0,0]) 2 (fun j=>jl (bP q y false) (bP l z true) (j:Nat)) (fun j=>g6 l t k d::H) l _ (by omega) (fun j hj=>?_) ?_
 · have htj:=ht j hj
   have hFj:=hF j hj
   have hzj:=hz j
   refine aK (LP n l k t d z q y F (j:Nat) H) (aS _ n (wb (aG _) h49)) (af _ _) (ag _ _) ?_
   show Tr.all _ (fun r=>_∧tidy _ _ _=(jl (bP q y false) (bP l z true) ((j+1:Nat):Int),g6 l t k d::H))
   rw[dx (j:=j) (by omega)]
   simp only[jo]
   by_cases c0:0≤t j
   · obtain ⟨p,hp⟩:∃ p:Nat,t j=p:=⟨(t j).toNat,by omega⟩
     have hzp:=hz p
     have e1:bB .i64 (z p) (z j)=z p-z j:=qt (by omega) (by omega)
     have hq:jV (F ((j:Nat):Int)) (ay (bJ (bB .i64 (z p) (z j)) (Int.ofNat 1)))=true:=by
      rw[hFj,e1,jC,fx,dH]
      unfold nZ
      rw[decide_eq_true c0,hp,Int.toNat_natCast,Bool.true_and,beq_iff_eq]
      congr 1
      rw[Bool.eq_iff_iff,decide_eq_true_eq,beq_iff_eq]
      show _↔z p-z j=1
      omega
     rw[hp] at htj c0 ⊢
     simp only[jo]
     rw[hq]
     exact wF
   · have hq:jV (F ((j:Nat):Int)) false=true:=by
      rw[hFj,jC]
      unfold nZ
      rw[decide_eq_false c0];rfl
     rw[hq]
     exact wF
 · exact cW (LP n l k t d z q y F (Int.ofNat l) H) (aS _ n (wb (aG _) h49)) (af _ _) (ag _ _) (by first | (simp (disch:=omega) only[nV,nW];done) | (simp (disch:=omega) only[nV,nW];omega))
theorem Qe (h:Int) (m:Nat) (f:Nat→Nat→Int) (g:Nat→Nat) (hh:0≤h∧h≤255):cd (n+14) (.fn 13) [cg l t k d,.int .u8 h,fF m f g] H=some (.bool true,H):=by
 have h43:∀ H,cd (n+13) (.fn 43) [cg l t k d] H=some (.bool (decide (jK l t k d=0)),H):=fun H=>Qn (n+10) l k t d H
 have h24:∀ H,cd (n+13) (.fn 24) [fF m f g] H=some (.bool (decide (50<m) || cU (fun j=>decide (40<g j)) m),H):=fun H=>Qj (n+12) m f g H
 by_cases hb1:jK l t k d=0
 · rw [decide_eq_true hb1] at h43
   cases hb2:(decide (50<m) || cU (fun j=>decide (40<g j)) m) with
   | true =>
     refine aL (n:=n+13) Try.func13 rfl rfl rfl (Mq (n+13) l k t d h m f g _ _ H) (aS _ (n+13) (KP (by omega) (bf (bf (aG _) h43) h24))) (aD (af _ _) D3 (fun x hx=>(Tr.ae hx).elim)) (ag _ _) ?_
     rw[hb2]
     exact wF
   | false =>
     rw[hb2] at h24
     simp only[Bool.or_eq_false_iff,decide_eq_false_iff_not] at hb2
     have hm:m≤50:=by omega
     have hg:∀ i,i<m→g i≤40:=fun i hi=>by
      have:=gd hb2.2 i hi
      rw[decide_eq_false_iff_not] at this
      omega
     clear hb2
     have hs:=tu hb1
     have m1:h.tmod 10=h % 10:=Int.tmod_eq_emod_of_nonneg hh.1
     have hh1:1≤1+h % 10:=by omega
     have hh2:1+h % 10≤10:=by omega
     generalize hhv:1+h % 10=hv at *
     have e1:bE .i64 (Int.ofNat 1) (ur .i64 (DK .i64 h) (Int.ofNat 10))=hv:=by
      rw[Ke (by omega) (by omega),Cb,show Int.ofNat 10=10 from rfl,m1,show Int.ofNat 1=1 from rfl,Cz (by omega) (by omega),hhv]
     have ha:=IV hs hh1 hh2
     have h34:∀ H,cd (n+13) (.fn 34) [cg l t k d] H=some (.tup [.int .i64 (yb l t k d).1,.int .i64 (yb l t k d).2],H):=fun H=>Qm (n+4) l k t d H
     have h19:∀ H,cd (n+13) (.fn 19) [cg l t k d] H=some (.tup [bP l (br (br (lJ l t d l))) false,.int .i64 0],H):=fun H=>by
      rw[show n+13=(n+4)+9 by omega,Qh];unfold Od;rw[if_pos hb1]
     have h27:∀ H,cd (n+13) (.fn 27) [cg l t k d,.int .i64 hv] H=some (LC l k t d hv,H):=fun H=>Ql (n+1) l k t d hv H
     have h25:∀ H,cd (n+13) (.fn 25) [cg l t k d,fF m f g] H=some (DM l k t d m f g,H):=fun H=>Qk (n+4) l k t d m f g H hm hg
     have h47:∀ H,cd (n+13) (.fn 47) [cg l t k d,fF m f g] H=some (Mo l m f g,H):=fun H=>Qo (n+11) l k t d m f g H (by have:=hs.l30;omega) (fun i hi=>by have:=hg i hi;omega)
     have hla:∀ i,i<l→br (br (lJ l t d l)) i=oO l t d i:=fun i hi=>by
      rw[rr (l:=l) (by have:=hs.l30;omega),wq hi]
     have hxa:=NS (n+13) l k t d H (br (br (lJ l t d l))) m f g hv (yb l t k d).1 (yb l t k d).2 hs.l30
     obtain ⟨pl,hpl⟩:∃ pl,LC l k t d hv=.tup [pl,.int .i64 (fi l k t d hv)]:=by
      unfold LC
      by_cases e:fi l k t d hv=0
      · rw[if_pos e,e];exact ⟨_,rfl⟩
      · rw[if_neg e];exact ⟨_,rfl⟩
     rw[hpl] at h27
     have hgood:(!cU (fun i=>decide (br (br (lJ l t d l)) i<1)) l)=decide (ia l t d 0=0):=by
      rw[Bool.eq_iff_iff,Bool.not_eq_true',decide_eq_true_eq]
      constructor
      · intro e
        exact mB (fun j hj=>by
         have:=gd e j hj
         rw[hla j hj,decide_eq_false_iff_not] at this
         exact decide_eq_false (by omega))
      · intro e
        exact kI (fun j hj=>by
         have:=kE e j hj
         rw[decide_eq_false_iff_not] at this
         rw[hla j hj]
         exact decide_eq_false (by omega))
     rw[hgood] at hxa
     have hhd:yb l t k d=if ia l t d 0=0 then (zV l t d 40,0) else (0,13):=by unfold yb;rw[if_pos hb1]
     have hc:fi l k t d hv=if cV l t d hv=true then 0 else 13:=by unfold fi;rw[if_pos ha]
     clear hgood hpl hla
     have hq1:jV (decide (ia l t d 0=0)) (bJ (yb l t k d).2 (Int.ofNat 0))=true:=by
      rw[hhd]
      by_cases e:ia l t d 0=0
      · rw[if_pos e,decide_eq_true e,jC,dH];rfl
      · rw[if_neg e,decide_eq_false e,jC,dH];rfl
     have hq2:(yb l t k d).2=0∨(yb l t k d).2=13:=by
      rw[hhd]
      by_cases e:ia l t d 0=0
      · rw[if_pos e];exact .inl rfl
      · rw[if_neg e];exact .inr rfl
     have hq3:ia l t d 0=0→1≤(yb l t k d).1∧(yb l t k d).1≤l:=fun e=>by
      rw[hhd,if_pos e];exact K7 l t d hs.l1 40
     have hq4:ia l t d 0=0→jV (bJ (fi l k t d hv) (Int.ofNat 0)) (jF (yb l t k d).1 hv)=true:=fun e=>by
      have:=I3 l t d hv hh1 e
      rw[hhd,if_pos e,hc]
      by_cases c:cV l t d hv=true
      · rw[if_pos c,jC,dH,iR,decide_eq_true (this.1 c)];rfl
      · rw[if_neg c,jC,dH,iR,decide_eq_false (fun x=>c (this.2 x))];rfl
     have hq5:ia l t d 0≠0→jV (bJ (fi l k t d hv) (Int.ofNat 0)) false=true:=fun e=>by
      have:=I4 l t d hv (by omega)
      rw[hc,if_neg (by rw[this];decide),jC,dH];rfl
     clear hhd hc
     generalize (yb l t k d).1=a1 at *
     generalize (yb l t k d).2=a2 at *
     generalize fi l k t d hv=c at *
     generalize br (br (lJ l t d l))=la at *
     have l30:=hs.l30
     by_cases et:rM l m f g=0
     · rw [FW,if_pos et] at h47
       rw[show DM l k t d m f g=.tup [dA (qF (nZ t (fo f g m)) l),.int .i64 0] from by unfold DM;rw[if_neg (by rw[hb1];decide),if_neg (by rw[et];decide)]] at h25
       have hz:∀ c,0≤fo f g m c∧fo f g m c≤1000:=fun c=>⟨xr f g m c,by have:=F1 f g m c;omega⟩
       have hmem:∀ j:Nat,j<l→decide ((j:Int) ∈ qF (nZ t (fo f g m)) l)=nZ t (fo f g m) j:=fun j hj=>by
        rw[Bool.eq_iff_iff,decide_eq_true_eq,Ey]
        constructor
        · rintro ⟨i,h1,h2,h3⟩
          have:i=j:=by omega
          rw[← this];exact h2
        · intro h1;exact ⟨j,hj,h1,rfl⟩
       have hlen:=Am (nZ t (fo f g m)) l
       generalize fo f g m=Z at *
       generalize qF (nZ t Z) l=L at *
       cases L with
       | nil =>
         have hxb:=NU (n+13) l k t d Z H (fun _=>false) l30 hs.tl hz (fun j hj=>by rw[← hmem j hj];simp) (fun x H=>MW (n+12) H x)
         refine aL (n:=n+13) Try.func13 rfl rfl rfl (O1 (n+13) l k t d la Z h hv m f g a1 a2 c pl (decide (ia l t d 0=0)) H) (aS _ (n+13) (KP (by omega) (bf (bf (bf (bf (bf (bf (bf (aG _) h43) h24) h34) h19) h27) h25) h47))) (aD (aD (af _ _) Ks (fun x hy=>bL hy hxb)) D3 (fun x hy=>bL hy (by rw[e1];exact hxa))) (ag _ _) ?_
         clear hxa hxb
         by_cases e0:ia l t d 0=0
         · have hq3:=hq3 e0
           have hq4:=hq4 e0
           simp only[e1,decide_eq_true e0] at hq1 ⊢
           simp only[hq1,hq4]
           exact wF
         · have hq5:=hq5 e0
           simp only[e1,decide_eq_false e0] at hq1 ⊢
           simp only[hq1,hq5]
           exact wF
       | cons a r =>
         rw[show dA (a::r)=bP (r.length+1) (aA (a::r)) false from rfl] at h25
         have hF:∀ j:Nat,j<l→(fun x:Int=>cU (fun i=>decide (aA (a::r) i=x)) (r.length+1)) j=nZ t Z j:=fun j hj=>by
          rw[← hmem j hj,← GZ];rfl
         have hxb:=NT (n+13) l k t d Z H (r.length+1) (aA (a::r)) (fun x:Int=>cU (fun i=>decide (aA (a::r) i=x)) (r.length+1)) l30 hs.tl hz hF (fun x H=>Qp (n+12) H _ _ _ _ (by simp only[List.length_cons] at hlen;omega))
         generalize aA (a::r)=Y at *
         generalize r.length+1=q at *
         refine aL (n:=n+13) Try.func13 rfl rfl rfl (OZ (n+13) l k t d la Z h hv m f g a1 a2 c pl (decide (ia l t d 0=0)) q Y H) (aS _ (n+13) (KP (by omega) (bf (bf (bf (bf (bf (bf (bf (aG _) h43) h24) h34) h19) h27) h25) h47))) (aD (aD (af _ _) Ks (fun x hy=>bL hy hxb)) D3 (fun x hy=>bL hy (by rw[e1];exact hxa))) (ag _ _) ?_
         clear hxa hxb
         by_cases e0:ia l t d 0=0
         · have hq3:=hq3 e0
           have hq4:=hq4 e0
           simp only[e1,decide_eq_true e0] at hq1 ⊢
           simp only[hq1,hq4]
           exact wF
         · have hq5:=hq5 e0
           simp only[e1,decide_eq_false e0] at hq1 ⊢
           simp only[hq1,hq5]
           exact wF
     · rw[FW,if_neg et] at h47
       rw[show DM l k t d m f g=.tup [.nils,.int .i64 (rM l m f g)] from by unfold DM;rw[if_neg (by rw[hb1];decide),if_pos et]] at h25
       refine aL (n:=n+13) Try.func13 rfl rfl rfl (O0 (n+13) l k t d la h hv m f g a1 a2 c pl (decide (ia l t d 0=0)) (rM l m f g) H) (aS _ (n+13) (KP (by omega) (bf (bf (bf (bf (bf (bf (bf (aG _) h43) h24) h34) h19) h27) h25) h47))) (aD (af _ _) D3 (fun x hy=>bL hy (by rw[e1];exact hxa))) (ag _ _) ?_
       clear hxa
       generalize rM l m f g=E at *
       by_cases e0:ia l t d 0=0
       · have hq3:=hq3 e0
         have hq4:=hq4 e0
         simp only[e1,decide_eq_true e0] at hq1 ⊢
         simp only[hq1,hq4]
         exact wF
       · have hq5:=hq5 e0
         simp only[e1,decide_eq_false e0] at hq1 ⊢
         simp only[hq1,hq5]
         exact wF
 · rw[decide_eq_false hb1] at h43
   refine aL (n:=n+13) Try.func13 rfl rfl rfl (Mq (n+13) l k t d h m f g _ _ H) (aS _ (n+13) (KP (by omega) (bf (bf (aG _) h43) h24))) (aD (af _ _) D3 (fun x hx=>(Tr.ae hx).elim)) (ag _ _) ?_
   exact wF
end
end Go.Eng
end
section
namespace Go.Proofs.Ytoomemfhcbajoaa.Known
open Go.Eng Go.Proofs
theorem named:c7 Try.prog:=by
 have h:(Try.prog.funcs.toList.all fun fn=>fn.body.isNone || !(fn.name == "runtime.NumGoroutine"))=true:=by kernel_rfl
 intro f fn hf hb
 have:=List.all_eq_true.1 h fn (by simpa using Array.mem_of_getElem? hf)
 rw[hb] at this
 simpa using this
theorem mixed:Try.prog.follows .mixedOrders=true:=by kernel_rfl
theorem He:∀ e ∈ ([]:List fV),bw Try.prog e:=fun e h=>by cases h
theorem cq {e:fV} {t:List fV} (h:bw Try.prog e) (k:∀ x ∈ t,bw Try.prog x):∀ x ∈ e::t,bw Try.prog x:=fun x hx=>by
 rcases List.mem_cons.1 hx with rfl | hx
 · exact h
 · exact k x hx
def Md:List fV:=[]
theorem Cg:∀ e ∈ Md,bw Try.prog e:=He
def cK:List Nat→Code→Code
 | [],c=>c
 | x :: p,c=>match c with
   | .seq a b=>match x with
     | 0=>cK p a
     | _=>cK p b
   | .cond _ a b=>match x with
     | 0=>cK p a
     | _=>cK p b
   | .block _ b=>cK p b
   | .loop b=>cK p b
   | .scope b=>cK p b
   | .rangeFunc _ _ a b=>match x with
     | 0=>cK p a
     | _=>cK p b
   | c=>c
def kZ:Code→Array Oper
 | .region _ ops _=>ops
 | _=>#[]
noncomputable def eD:Code:=Try.f90.body.getD .skip
def Ji (l:List Oper):Oper:=l.headD { dst:=none,op:=.move (.tmp 0),type:=0,pos := "",after:=#[],guard:=none }
noncomputable def cY:cH:={ id0:=3,ops0:=kZ (cK [1,1,1,0,0] eD),pre:=(kZ (cK [1,1,1,0,0] eD)).toList.take 1,ro:=Ji ((kZ (cK [1,1,1,0,0] eD)).toList.drop 1),m:=9,ty:=95 }
noncomputable def bA:bp:={ out:=0,jo:=4,id2:=5,nxt:=1,ops1:=kZ (cK [1,1,1,0,1,0,0,0] eD),ops2:=kZ (cK [1,1,1,0,1,0,0,1,1,0,0] eD),no:=Ji (kZ (cK [1,1,1,0,1,0,0,0] eD)).toList,eo:=Ji (kZ (cK [1,1,1,0,1,0,0,1,1,0,0] eD)).toList,t1:=(kZ (cK [1,1,1,0,1,0,0,0] eD)).toList.tail,t2:=(kZ (cK [1,1,1,0,1,0,0,1,1,0,0] eD)).toList.tail,it:=10,nx:=11,mo:=12,en:=13,rest:=cK [1,1,1,0,1,0,0,1,1,0,1] eD,km:=16775424 }
noncomputable def pick:n5:={ f:=90,pre:=[cK [0] eD,cK [1,0] eD,cK [1,1,0] eD],S:=cY,L:=bA,suf:=cK [1,1,1,1] eD }
theorem AK:Try.f90.body=some (assemble pick.pre (cY.code bA) pick.suf):=by kernel_rfl
theorem wN:cY.ops0.toList=cY.pre++[cY.ro]:=by kernel_rfl
theorem wQ:cY.ro.op=.range cY.ty (.tmp cY.m):=by kernel_rfl
theorem wH:cY.ro.dst=some bA.it:=by kernel_rfl
theorem wK:cY.ro.guard=none:=by kernel_rfl
theorem wO:bA.ops1.toList=bA.no::bA.t1:=by kernel_rfl
theorem wR:bA.no.op=.next (.tmp bA.it) false:=by kernel_rfl
theorem wI:bA.no.dst=some bA.nx:=by kernel_rfl
theorem wL:bA.no.guard=none:=by kernel_rfl
theorem wP:bA.ops2.toList=bA.eo::bA.t2:=by kernel_rfl
theorem wS:bA.eo.op=.entry (.tmp bA.it):=by kernel_rfl
theorem wJ:bA.eo.dst=some bA.en:=by kernel_rfl
theorem wM:bA.eo.guard=none:=by kernel_rfl
theorem wT:pick.Ok Try.prog:=⟨⟨Try.f90,Try.func90,AK⟩,⟨wN,wQ,wH,wK,⟨_,_,Try.underlying95⟩⟩,⟨wO,wR,wI,wL,wP,wS,wJ,wM⟩⟩
noncomputable def rs:List n5:=[pick]
theorem eN:∀ r ∈ rs,r.Ok Try.prog:=fun r h=>by
 rcases List.mem_cons.1 h with rfl | h
 · exact wT
 · cases h
end Go.Proofs.Ytoomemfhcbajoaa.Known
end
section
namespace Go.Proofs.Ytoomemfhcbajoaa.Known
open Go.Eng Go.Proofs
noncomputable def E1:fV:=⟨50,[.int .i64 5],.agg (.G [.slcT none (.I .i64 [2,2,6,5,5,6,-1]) 1 7 true,.slcT none (.I .i64 [5,5,5,5,5,5,5]) 1 7 true])⟩
theorem Sy:bw Try.prog E1:=b8 named mixed Cg eN [54,95] KtL.kt 100000 40 (H':=[⟨true,[]⟩]) (by kernel_rfl) (by kernel_rfl)
noncomputable def Me:List fV:=E1::Md
theorem Ch:∀ e ∈ Me,bw Try.prog e:=cq Sy Cg
noncomputable def E2:fV:=⟨50,[.int .i64 4],.agg (.G [.slcT none (.I .i64 [2,2,6,5,5,6,-1]) 1 7 true,.slcT none (.I .i64 [4,4,4,4,4,4,4]) 1 7 true])⟩
theorem Sz:bw Try.prog E2:=b8 named mixed Ch eN [54,95] KtL.kt 100000 40 (H':=[⟨true,[]⟩]) (by kernel_rfl) (by kernel_rfl)
noncomputable def Mf:List fV:=E2::Me
theorem Ci:∀ e ∈ Mf,bw Try.prog e:=cq Sz Ch
end Go.Proofs.Ytoomemfhcbajoaa.Known
end
