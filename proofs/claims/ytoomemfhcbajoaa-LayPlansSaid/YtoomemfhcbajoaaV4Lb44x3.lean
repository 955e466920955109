/- Lay: Lines. -/
import Derived.Test.YtoomemfhcbajoaaV4Lb42x2
import Derived.Test.YtoomemfhcbajoaaV4Lb34x5
set_option linter.unusedVariables false
set_option linter.unusedSimpArgs false
set_option maxRecDepth 100000
section
namespace Go.Eng
open Go.Proofs
noncomputable def DU (l:Nat) (t:Nat→Int) (k:Nat) (d y:Nat→Int):aX:=⟨false,[Dq l t k d,Bv y]⟩
noncomputable def s6 (l:Nat) (t:Nat→Int) (k:Nat) (d y:Nat→Int) (v q:Nat) (w:Nat→Int):aX:=⟨false,[Dq l t k d,Bv y,(v,.row (.M [.arr .i64 w q]))]⟩
noncomputable def p7 (l:Nat) (t:Nat→Int) (o:AV) (j:Int):ar:=[(8,.ptr 0 1 0 0),(10,o),(31,bU l t false),(32,.int .i64 (Int.ofNat l)),(33,.int .i64 j)]
noncomputable def s7 (l:Nat) (t:Nat→Int) (k:Nat) (d:Nat→Int) (v q:Nat) (w:Nat→Int):aX:=⟨false,[Dq l t k d,(v,.row (.M [.arr .i64 w q]))]⟩
noncomputable def p8 (l:Nat) (z:Nat→Int) (o:AV) (j:Int):ar:=[(2,.ptr 0 0 0 0),(6,bU l z true),(8,o),(9,.int .i64 j)]
theorem MY (n l k:Nat) (t d y:Nat→Int) (j:Int) (H:aa):aJ (bo n 25 56) (il aB n 0) aG aH (part Try.f25 [1,1,1,1,1,0,1,0,0]) (hints (p7 l t .nils j)) (DU l t k d y::H) =
 (fun (Z0:aX)=>((fun (Z1:aO)=>Tr.ite (bT j (Int.ofNat l)) (Tr.req (b8 j l) (Tr.req (bV (an 0 j 1) l) (Tr.ite (lU (Int.ofNat 0) (t (an 0 j 1))) (Tr.req (b8 (t (an 0 j 1)) 30) (Tr.req (b6 0 0) (Tr.req (bV (an 0 (t (an 0 j 1)) 1) 30) (Tr.req (b8 j 30) (Tr.req (b6 0 0) (Tr.req (bV (an 0 j 1) 30) (Tr.ite (aQ (cw (y (an 0 (t (an 0 j 1)) 1)) (bu .i64 (y (an 0 j 1)) (Int.ofNat 1)))) (Tr.req (eD 0 1 8) (Tr.req (b6 0 0) (Tr.req (gH 1 1) (Tr.ok (Ex.normal,[(8,AV.ptr 0 1 0 0,none),(10,AV.slc 0 3 0 0 1 1 none,none),(31,AV.slcT none (Row.M [ah.arr .i64 t l]) 1 l false,none),(32,AV.int .i64 (Int.ofNat l),none),(33,AV.int .i64 (bu .i64 j (Int.ofNat 1)),none)],{ lock:=false,bs:=[(0,ai.row (Row.G [AV.slcT none (Row.M [ah.arr .i64 t l]) 1 l false,AV.slcT none (Row.M [ah.arr .i64 d k]) 1 k false])),(0,ai.row (Row.M [ah.arr .i64 y 30])),(0,ai.row (Row.I .i64 [j])),(0,ai.row (Row.M [ah.arr .i64 (au [j]) 1]))] } :: H))))) (Tr.ok (Ex.normal,Z1,Z0::H))))))))) (Tr.ok (Ex.normal,Z1,Z0::H))))) (Tr.ok (Ex.exit 0,[(8,AV.ptr 0 1 0 0,none),(10,AV.nils,none),(31,AV.slcT none (Row.M [ah.arr .i64 t l]) 1 l false,none),(32,AV.int .i64 (Int.ofNat l),none),(33,AV.int .i64 j,none),(34,AV.bool false,some 1)],Z0::H))) [(8,AV.ptr 0 1 0 0,none),(10,AV.nils,none),(31,AV.slcT none (Row.M [ah.arr .i64 t l]) 1 l false,none),(32,AV.int .i64 (Int.ofNat l),none),(33,AV.int .i64 (bu .i64 j (Int.ofNat 1)),none)])) { lock:=false,bs:=[(0,ai.row (Row.G [AV.slcT none (Row.M [ah.arr .i64 t l]) 1 l false,AV.slcT none (Row.M [ah.arr .i64 d k]) 1 k false])),(0,ai.row (Row.M [ah.arr .i64 y 30]))] }:=by kernel_rfl
theorem MX (n l k:Nat) (t d y:Nat→Int) (v q:Nat) (w:Nat→Int) (j:Int) (H:aa):aJ (bo n 25 56) (il aB n 0) aG aH (part Try.f25 [1,1,1,1,1,0,1,0,0]) (hints (p7 l t (.slc 0 2 v 0 1 q none) j)) (s6 l t k d y v q w::H) =
 (fun (Z0:aX)=>((fun (Z1:aO)=>Tr.ite (bT j (Int.ofNat l)) (Tr.req (b8 j l) (Tr.req (bV (an 0 j 1) l) (Tr.ite (lU (Int.ofNat 0) (t (an 0 j 1))) (Tr.req (b8 (t (an 0 j 1)) 30) (Tr.req (b6 0 0) (Tr.req (bV (an 0 (t (an 0 j 1)) 1) 30) (Tr.req (b8 j 30) (Tr.req (b6 0 0) (Tr.req (bV (an 0 j 1) 30) (Tr.ite (aQ (cw (y (an 0 (t (an 0 j 1)) 1)) (bu .i64 (y (an 0 j 1)) (Int.ofNat 1)))) (Tr.req (eD q 1 8) (Tr.req (b6 0 0) (Tr.req (gH 1 1) (Tr.req (b6 v v) (Tr.req (b6 (bN 0 q) q) (Tr.ok (Ex.normal,[(8,AV.ptr 0 1 0 0,none),(10,AV.slc 0 2 (Nat.succ v) 0 1 (bN q 1) none,none),(31,AV.slcT none (Row.M [ah.arr .i64 t l]) 1 l false,none),(32,AV.int .i64 (Int.ofNat l),none),(33,AV.int .i64 (bu .i64 j (Int.ofNat 1)),none)],{ lock:=false,bs:=[(0,ai.row (Row.G [AV.slcT none (Row.M [ah.arr .i64 t l]) 1 l false,AV.slcT none (Row.M [ah.arr .i64 d k]) 1 k false])),(0,ai.row (Row.M [ah.arr .i64 y 30])),(Nat.succ v,ai.row (Row.M [ah.arr .i64 (kI (dC w 0) q (au [j])) (bN q 1)])),(0,ai.row (Row.I .i64 [j]))] } :: H))))))) (Tr.ok (Ex.normal,Z1,Z0::H))))))))) (Tr.ok (Ex.normal,Z1,Z0::H))))) (Tr.ok (Ex.exit 0,[(8,AV.ptr 0 1 0 0,none),(10,AV.slc 0 2 v 0 1 q none,none),(31,AV.slcT none (Row.M [ah.arr .i64 t l]) 1 l false,none),(32,AV.int .i64 (Int.ofNat l),none),(33,AV.int .i64 j,none),(34,AV.bool false,some 1)],Z0::H))) [(8,AV.ptr 0 1 0 0,none),(10,AV.slc 0 2 v 0 1 q none,none),(31,AV.slcT none (Row.M [ah.arr .i64 t l]) 1 l false,none),(32,AV.int .i64 (Int.ofNat l),none),(33,AV.int .i64 (bu .i64 j (Int.ofNat 1)),none)])) { lock:=false,bs:=[(0,ai.row (Row.G [AV.slcT none (Row.M [ah.arr .i64 t l]) 1 l false,AV.slcT none (Row.M [ah.arr .i64 d k]) 1 k false])),(0,ai.row (Row.M [ah.arr .i64 y 30])),(v,ai.row (Row.M [ah.arr .i64 w q]))] }:=by kernel_rfl
theorem M7 (n l k:Nat) (t d z:Nat→Int) (j:Int) (H:aa):aJ (bo n 26 57) (il aB n 0) aG aH (part Try.f26 [1,1,1,1,1,0,1,0,0]) (hints (p8 l z .nils j)) (cM l t k d::H) =
 (fun (Z0:Nat×ai)=>((fun (Z1:aO)=>Tr.ite (bT j (Int.ofNat l)) (Tr.req (b8 j l) (Tr.req (bV (an 0 j 1) l) (Tr.ite (lU (Int.ofNat 0) (t (an 0 j 1))) (Tr.req (b8 j l) (Tr.req (bV (an 0 j 1) l) (Tr.req (b8 (t (an 0 j 1)) l) (Tr.req (bV (an 0 (t (an 0 j 1)) 1) l) (Tr.req (b8 j l) (Tr.req (bV (an 0 j 1) l) (Tr.ite (aQ (cw (z (an 0 (t (an 0 j 1)) 1)) (bu .i64 (z (an 0 j 1)) (Int.ofNat 1)))) (Tr.req (eD 0 1 8) (Tr.req (b6 0 0) (Tr.req (gH 1 1) (Tr.ok (Ex.normal,[(2,AV.ptr 0 0 0 0,none),(6,AV.slcT none (Row.M [ah.arr .i64 z l]) 1 l true,none),(8,AV.slc 0 2 0 0 1 1 none,none),(9,AV.int .i64 (bu .i64 j (Int.ofNat 1)),none)],{ lock:=false,bs:=[Z0,(0,ai.row (Row.I .i64 [j])),(0,ai.row (Row.M [ah.arr .i64 (au [j]) 1]))] } :: H))))) (Tr.ok (Ex.normal,Z1,{ lock:=false,bs:=[Z0] } :: H))))))))) (Tr.ok (Ex.normal,Z1,{ lock:=false,bs:=[Z0] } :: H))))) (Tr.ok (Ex.exit 0,[(2,AV.ptr 0 0 0 0,none),(6,AV.slcT none (Row.M [ah.arr .i64 z l]) 1 l true,none),(8,AV.nils,none),(9,AV.int .i64 j,none),(27,AV.bool false,some 1)],{ lock:=false,bs:=[Z0] } :: H))) [(2,AV.ptr 0 0 0 0,none),(6,AV.slcT none (Row.M [ah.arr .i64 z l]) 1 l true,none),(8,AV.nils,none),(9,AV.int .i64 (bu .i64 j (Int.ofNat 1)),none)])) (0,ai.row (Row.G [AV.slcT none (Row.M [ah.arr .i64 t l]) 1 l false,AV.slcT none (Row.M [ah.arr .i64 d k]) 1 k false])):=by kernel_rfl
theorem MZ (n l k:Nat) (t d z:Nat→Int) (v q:Nat) (w:Nat→Int) (j:Int) (H:aa):aJ (bo n 26 57) (il aB n 0) aG aH (part Try.f26 [1,1,1,1,1,0,1,0,0]) (hints (p8 l z (.slc 0 1 v 0 1 q none) j)) (s7 l t k d v q w::H) =
 (fun (Z0:aX)=>((fun (Z1:aO)=>Tr.ite (bT j (Int.ofNat l)) (Tr.req (b8 j l) (Tr.req (bV (an 0 j 1) l) (Tr.ite (lU (Int.ofNat 0) (t (an 0 j 1))) (Tr.req (b8 j l) (Tr.req (bV (an 0 j 1) l) (Tr.req (b8 (t (an 0 j 1)) l) (Tr.req (bV (an 0 (t (an 0 j 1)) 1) l) (Tr.req (b8 j l) (Tr.req (bV (an 0 j 1) l) (Tr.ite (aQ (cw (z (an 0 (t (an 0 j 1)) 1)) (bu .i64 (z (an 0 j 1)) (Int.ofNat 1)))) (Tr.req (eD q 1 8) (Tr.req (b6 0 0) (Tr.req (gH 1 1) (Tr.req (b6 v v) (Tr.req (b6 (bN 0 q) q) (Tr.ok (Ex.normal,[(2,AV.ptr 0 0 0 0,none),(6,AV.slcT none (Row.M [ah.arr .i64 z l]) 1 l true,none),(8,AV.slc 0 1 (Nat.succ v) 0 1 (bN q 1) none,none),(9,AV.int .i64 (bu .i64 j (Int.ofNat 1)),none)],{ lock:=false,bs:=[(0,ai.row (Row.G [AV.slcT none (Row.M [ah.arr .i64 t l]) 1 l false,AV.slcT none (Row.M [ah.arr .i64 d k]) 1 k false])),(Nat.succ v,ai.row (Row.M [ah.arr .i64 (kI (dC w 0) q (au [j])) (bN q 1)])),(0,ai.row (Row.I .i64 [j]))] } :: H))))))) (Tr.ok (Ex.normal,Z1,Z0::H))))))))) (Tr.ok (Ex.normal,Z1,Z0::H))))) (Tr.ok (Ex.exit 0,[(2,AV.ptr 0 0 0 0,none),(6,AV.slcT none (Row.M [ah.arr .i64 z l]) 1 l true,none),(8,AV.slc 0 1 v 0 1 q none,none),(9,AV.int .i64 j,none),(27,AV.bool false,some 1)],Z0::H))) [(2,AV.ptr 0 0 0 0,none),(6,AV.slcT none (Row.M [ah.arr .i64 z l]) 1 l true,none),(8,AV.slc 0 1 v 0 1 q none,none),(9,AV.int .i64 (bu .i64 j (Int.ofNat 1)),none)])) { lock:=false,bs:=[(0,ai.row (Row.G [AV.slcT none (Row.M [ah.arr .i64 t l]) 1 l false,AV.slcT none (Row.M [ah.arr .i64 d k]) 1 k false])),(v,ai.row (Row.M [ah.arr .i64 w q]))] }:=by kernel_rfl
theorem Ql (n l k:Nat) (t d z y e:Nat→Int) (m:Nat) (f:Nat→Nat→Int) (g:Nat→Nat) (H:aa):aT Try.prog (cd n) 100000 25 Try.f25 (KtL.kt 25) (il (tX (tX aB 51 [bw l t k d] (.tup [eN 0 l t k d e,.int .i64 0])) 60 [bw l t k d,cA m f g] (.tup [.agg (.M [.arr .i64 z 30]),.int .i64 0])) n 0) (bG aG 0 (p7 l t .nils 0) (DU l t k d y::H) (.ok (.normal,hints (p7 l t .nils (Int.ofNat l)++[(34,.bool false)]),DU l t k d y::H))) aH [(bw l t k d,none),(cA m f g,none)] H =
 (fun (Z0:Row)=>((fun (Z1:ar)=>((fun (Z2:List AV)=>((fun (Z3:AV×Option Nat)=>Tr.reqP ([AV.agg Z0]=[AV.agg Z0]) (Tr.ite (aQ (cw (Int.ofNat 0) (Int.ofNat 0))) (Tr.ok (Z3,H)) (Tr.reqP (Z2=Z2) (Tr.req (ga 0 30 0 30) (Tr.ite (aQ (cw (Int.ofNat 0) (Int.ofNat 0))) (Tr.ok (Z3,H)) (Tr.reqP (Z1=Z1∧{ lock:=false,bs:=[(0,ai.row Z0),(0,ai.row (Row.M [ah.arr .i64 (dT (fun x=>Int.ofNat 0) 0 z 30) 30]))] } :: H={ lock:=false,bs:=[(0,ai.row Z0),(0,ai.row (Row.M [ah.arr .i64 y 30]))] } :: H) (Tr.ok (Z3,H)))))))) (AV.tup [AV.nils,AV.int .i64 (Int.ofNat 0)],none))) [AV.agg Z0,AV.slcT none (Row.F (fun j=>AV.slcT none (Row.M [ah.arr .i64 (f j) (g j)]) 1 (g j) false) m) 1 m false])) [(8,AV.ptr 0 1 0 0),(10,AV.nils),(31,AV.slcT none (Row.M [ah.arr .i64 t l]) 1 l false),(32,AV.int .i64 (Int.ofNat l)),(33,AV.int .i64 (Int.ofNat 0))])) (Row.G [AV.slcT none (Row.M [ah.arr .i64 t l]) 1 l false,AV.slcT none (Row.M [ah.arr .i64 d k]) 1 k false]):=by kernel_rfl
theorem Qk (n l k:Nat) (t d z y e:Nat→Int) (m:Nat) (f:Nat→Nat→Int) (g:Nat→Nat) (v q:Nat) (w:Nat→Int) (H:aa):aT Try.prog (cd n) 100000 25 Try.f25 (KtL.kt 25) (il (tX (tX aB 51 [bw l t k d] (.tup [eN 0 l t k d e,.int .i64 0])) 60 [bw l t k d,cA m f g] (.tup [.agg (.M [.arr .i64 z 30]),.int .i64 0])) n 0) (bG aG 0 (p7 l t .nils 0) (DU l t k d y::H) (.ok (.normal,hints (p7 l t (.slc 0 2 v 0 1 q none) (Int.ofNat l)++[(34,.bool false)]),s6 l t k d y v q w::H))) aH [(bw l t k d,none),(cA m f g,none)] H =
 (fun (Z0:Row)=>((fun (Z1:ar)=>((fun (Z2:List AV)=>Tr.reqP ([AV.agg Z0]=[AV.agg Z0]) (Tr.ite (aQ (cw (Int.ofNat 0) (Int.ofNat 0))) (Tr.ok ((AV.tup [AV.nils,AV.int .i64 (Int.ofNat 0)],none),H)) (Tr.reqP (Z2=Z2) (Tr.req (ga 0 30 0 30) (Tr.ite (aQ (cw (Int.ofNat 0) (Int.ofNat 0))) (Tr.ok ((AV.tup [AV.nils,AV.int .i64 (Int.ofNat 0)],none),H)) (Tr.reqP (Z1=Z1∧{ lock:=false,bs:=[(0,ai.row Z0),(0,ai.row (Row.M [ah.arr .i64 (dT (fun x=>Int.ofNat 0) 0 z 30) 30]))] } :: H={ lock:=false,bs:=[(0,ai.row Z0),(0,ai.row (Row.M [ah.arr .i64 y 30]))] } :: H) (Tr.req (b6 v v) (Tr.req (ga 0 q 0 q) (Tr.ok ((AV.tup [AV.slcT none (Row.M [ah.arr .i64 (dC w 0) q]) 1 q false,AV.int .i64 (Int.ofNat 0)],none),H)))))))))) [AV.agg Z0,AV.slcT none (Row.F (fun j=>AV.slcT none (Row.M [ah.arr .i64 (f j) (g j)]) 1 (g j) false) m) 1 m false])) [(8,AV.ptr 0 1 0 0),(10,AV.nils),(31,AV.slcT none (Row.M [ah.arr .i64 t l]) 1 l false),(32,AV.int .i64 (Int.ofNat l)),(33,AV.int .i64 (Int.ofNat 0))])) (Row.G [AV.slcT none (Row.M [ah.arr .i64 t l]) 1 l false,AV.slcT none (Row.M [ah.arr .i64 d k]) 1 k false]):=by kernel_rfl
theorem Qn (n l k:Nat) (t d z e:Nat→Int) (m:Nat) (f:Nat→Nat→Int) (g:Nat→Nat) (c:Int) (H:aa):aT Try.prog (cd n) 100000 25 Try.f25 (KtL.kt 25) (il (tX (tX aB 51 [bw l t k d] (.tup [eN 0 l t k d e,.int .i64 0])) 60 [bw l t k d,cA m f g] (.tup [.agg (.M [.arr .i64 z 30]),.int .i64 c])) n 0) (bG aG 0 [] [] .bad) aH [(bw l t k d,none),(cA m f g,none)] H =
 (fun (Z0:Row)=>((fun (Z1:List AV)=>Tr.reqP ([AV.agg Z0]=[AV.agg Z0]) (Tr.ite (aQ (cw (Int.ofNat 0) (Int.ofNat 0))) (Tr.ok ((AV.tup [AV.nils,AV.int .i64 (Int.ofNat 0)],none),H)) (Tr.reqP (Z1=Z1) (Tr.req (ga 0 30 0 30) (Tr.ite (aQ (cw c (Int.ofNat 0))) (Tr.ok ((AV.tup [AV.nils,AV.int .i64 c],none),H)) (Tr.reqP ([(8,AV.ptr 0 1 0 0),(10,AV.nils),(31,AV.slcT none (Row.M [ah.arr .i64 t l]) 1 l false),(32,AV.int .i64 (Int.ofNat l)),(33,AV.int .i64 (Int.ofNat 0))]=[]∧{ lock:=false,bs:=[(0,ai.row Z0),(0,ai.row (Row.M [ah.arr .i64 (dT (fun x=>Int.ofNat 0) 0 z 30) 30]))] } :: H=[]) Tr.bad)))))) [AV.agg Z0,AV.slcT none (Row.F (fun j=>AV.slcT none (Row.M [ah.arr .i64 (f j) (g j)]) 1 (g j) false) m) 1 m false])) (Row.G [AV.slcT none (Row.M [ah.arr .i64 t l]) 1 l false,AV.slcT none (Row.M [ah.arr .i64 d k]) 1 k false]):=by kernel_rfl
theorem Qm (n l k:Nat) (t d:Nat→Int) (m:Nat) (f:Nat→Nat→Int) (g:Nat→Nat) (c:Int) (H:aa):aT Try.prog (cd n) 100000 25 Try.f25 (KtL.kt 25) (il (tX aB 51 [bw l t k d] (.tup [.nilp,.int .i64 c])) n 0) (bG aG 0 [] [] .bad) aH [(bw l t k d,none),(cA m f g,none)] H =
 (fun (Z0:List AV)=>Tr.reqP (Z0=Z0) (Tr.ite (aQ (cw c (Int.ofNat 0))) (Tr.ok ((AV.tup [AV.nils,AV.int .i64 c],none),H)) Tr.bad)) [AV.agg (Row.G [AV.slcT none (Row.M [ah.arr .i64 t l]) 1 l false,AV.slcT none (Row.M [ah.arr .i64 d k]) 1 k false])]:=by kernel_rfl
theorem Qp (n l k:Nat) (t d z:Nat→Int) (m:Nat) (f:Nat→Nat→Int) (g:Nat→Nat) (H:aa):aT Try.prog (cd n) 100000 26 Try.f26 (KtL.kt 26) (il (tX (tX aB 22 [bw l t k d] (.int .i64 0)) 47 [bw l t k d,cA m f g] (.tup [bU l z true,.int .i64 0])) n 0) (bG aG 0 (p8 l z .nils 0) (cM l t k d::H) (.ok (.normal,hints (p8 l z .nils (Int.ofNat l)++[(27,.bool false)]),cM l t k d::H))) aH [(bw l t k d,none),(cA m f g,none)] H =
 (fun (Z0:Row)=>((fun (Z1:ar)=>((fun (Z2:List AV)=>((fun (Z3:AV×Option Nat)=>Tr.reqP ([AV.agg Z0]=[AV.agg Z0]) (Tr.ite (aQ (cw (Int.ofNat 0) (Int.ofNat 0))) (Tr.reqP ([AV.agg Z0]=[AV.agg Z0]) (Tr.ok (Z3,H))) (Tr.reqP (Z2=Z2) (Tr.ite (aQ (cw (Int.ofNat 0) (Int.ofNat 0))) (Tr.ok (Z3,H)) (Tr.reqP (Z1=Z1∧{ lock:=false,bs:=[(0,ai.row Z0)] } :: H={ lock:=false,bs:=[(0,ai.row Z0)] } :: H) (Tr.ok (Z3,H))))))) (AV.tup [AV.nils,AV.int .i64 (Int.ofNat 0)],none))) [AV.agg Z0,AV.slcT none (Row.F (fun j=>AV.slcT none (Row.M [ah.arr .i64 (f j) (g j)]) 1 (g j) false) m) 1 m false])) [(2,AV.ptr 0 0 0 0),(6,AV.slcT none (Row.M [ah.arr .i64 z l]) 1 l true),(8,AV.nils),(9,AV.int .i64 (Int.ofNat 0))])) (Row.G [AV.slcT none (Row.M [ah.arr .i64 t l]) 1 l false,AV.slcT none (Row.M [ah.arr .i64 d k]) 1 k false]):=by kernel_rfl
theorem Qo (n l k:Nat) (t d z:Nat→Int) (m:Nat) (f:Nat→Nat→Int) (g:Nat→Nat) (v q:Nat) (w:Nat→Int) (H:aa):aT Try.prog (cd n) 100000 26 Try.f26 (KtL.kt 26) (il (tX (tX aB 22 [bw l t k d] (.int .i64 0)) 47 [bw l t k d,cA m f g] (.tup [bU l z true,.int .i64 0])) n 0) (bG aG 0 (p8 l z .nils 0) (cM l t k d::H) (.ok (.normal,hints (p8 l z (.slc 0 1 v 0 1 q none) (Int.ofNat l)++[(27,.bool false)]),s7 l t k d v q w::H))) aH [(bw l t k d,none),(cA m f g,none)] H =
 (fun (Z0:Row)=>((fun (Z1:ar)=>((fun (Z2:List AV)=>Tr.reqP ([AV.agg Z0]=[AV.agg Z0]) (Tr.ite (aQ (cw (Int.ofNat 0) (Int.ofNat 0))) (Tr.reqP ([AV.agg Z0]=[AV.agg Z0]) (Tr.ok ((AV.tup [AV.nils,AV.int .i64 (Int.ofNat 0)],none),H))) (Tr.reqP (Z2=Z2) (Tr.ite (aQ (cw (Int.ofNat 0) (Int.ofNat 0))) (Tr.ok ((AV.tup [AV.nils,AV.int .i64 (Int.ofNat 0)],none),H)) (Tr.reqP (Z1=Z1∧{ lock:=false,bs:=[(0,ai.row Z0)] } :: H={ lock:=false,bs:=[(0,ai.row Z0)] } :: H) (Tr.req (b6 v v) (Tr.req (ga 0 q 0 q) (Tr.ok ((AV.tup [AV.slcT none (Row.M [ah.arr .i64 (dC w 0) q]) 1 q false,AV.int .i64 (Int.ofNat 0)],none),H))))))))) [AV.agg Z0,AV.slcT none (Row.F (fun j=>AV.slcT none (Row.M [ah.arr .i64 (f j) (g j)]) 1 (g j) false) m) 1 m false])) [(2,AV.ptr 0 0 0 0),(6,AV.slcT none (Row.M [ah.arr .i64 z l]) 1 l true),(8,AV.nils),(9,AV.int .i64 (Int.ofNat 0))])) (Row.G [AV.slcT none (Row.M [ah.arr .i64 t l]) 1 l false,AV.slcT none (Row.M [ah.arr .i64 d k]) 1 k false]):=by kernel_rfl
theorem Qr (n l k:Nat) (t d:Nat→Int) (m:Nat) (f:Nat→Nat→Int) (g:Nat→Nat) (c:Int) (H:aa):aT Try.prog (cd n) 100000 26 Try.f26 (KtL.kt 26) (il (tX (tX aB 22 [bw l t k d] (.int .i64 0)) 47 [bw l t k d,cA m f g] (.tup [.nils,.int .i64 c])) n 0) (bG aG 0 [] [] .bad) aH [(bw l t k d,none),(cA m f g,none)] H =
 (fun (Z0:Row)=>((fun (Z1:List AV)=>Tr.reqP ([AV.agg Z0]=[AV.agg Z0]) (Tr.ite (aQ (cw (Int.ofNat 0) (Int.ofNat 0))) (Tr.reqP ([AV.agg Z0]=[AV.agg Z0]) (Tr.ok ((AV.tup [AV.nils,AV.int .i64 (Int.ofNat 0)],none),H))) (Tr.reqP (Z1=Z1) (Tr.ite (aQ (cw c (Int.ofNat 0))) (Tr.ok ((AV.tup [AV.nils,AV.int .i64 c],none),H)) (Tr.reqP ([(2,AV.ptr 0 0 0 0),(6,AV.nils),(8,AV.nils),(9,AV.int .i64 (Int.ofNat 0))]=[]∧{ lock:=false,bs:=[(0,ai.row Z0)] } :: H=[]) Tr.bad))))) [AV.agg Z0,AV.slcT none (Row.F (fun j=>AV.slcT none (Row.M [ah.arr .i64 (f j) (g j)]) 1 (g j) false) m) 1 m false])) (Row.G [AV.slcT none (Row.M [ah.arr .i64 t l]) 1 l false,AV.slcT none (Row.M [ah.arr .i64 d k]) 1 k false]):=by kernel_rfl
theorem Qq (n l k:Nat) (t d:Nat→Int) (m:Nat) (f:Nat→Nat→Int) (g:Nat→Nat) (c:Int) (H:aa):aT Try.prog (cd n) 100000 26 Try.f26 (KtL.kt 26) (il (tX aB 22 [bw l t k d] (.int .i64 c)) n 0) (bG aG 0 [] [] .bad) aH [(bw l t k d,none),(cA m f g,none)] H =
 (fun (Z0:List AV)=>Tr.reqP (Z0=Z0) (Tr.ite (aQ (cw c (Int.ofNat 0))) (Tr.reqP (Z0=Z0) (Tr.ok ((AV.tup [AV.nils,AV.int .i64 c],none),H))) Tr.bad)) [AV.agg (Row.G [AV.slcT none (Row.M [ah.arr .i64 t l]) 1 l false,AV.slcT none (Row.M [ah.arr .i64 d k]) 1 k false])]:=by kernel_rfl
theorem NT:∀ b,(0,b) ∈ aF (bh Try.f25)→b=.loop (part Try.f25 [1,1,1,1,1,0,1,0,0]):=dw (by kernel_rfl)
theorem NU:∀ b,(0,b) ∈ aF (bh Try.f26)→b=.loop (part Try.f26 [1,1,1,1,1,0,1,0,0]):=dw (by kernel_rfl)
def nv (p:Nat→Bool):Nat→List Int
 | 0=>[]
 | j+1=>if p j=true then nv p j++[(j:Int)] else nv p j
theorem wM (p:Nat→Bool):∀ j,(nv p j).length≤j
 | 0=>Nat.le_refl _
 | j+1=>by
   have:=wM p j
   unfold nv
   split
   · simp;omega
   · omega
theorem yw {p q:Nat→Bool}:∀ j,(∀ i,i<j→p i=q i)→nv p j=nv q j
 | 0,_=>rfl
 | j+1,h=>by
   unfold nv
   rw[h j (by omega),yw j (fun i hi=>h i (by omega))]
def ny (t z:Nat→Int) (j:Nat):Bool:=decide (0≤t j) && !decide (z (t j).toNat=z j+1)
noncomputable def oL (b:Nat):List Int→AV
 | []=>.nils
 | a::r=>.slc 0 b r.length 0 1 (r.length+1) none
noncomputable def I8 (l:Nat) (t:Nat→Int) (k:Nat) (d y:Nat→Int):List Int→aX
 | []=>DU l t k d y
 | a::r=>s6 l t k d y r.length (r.length+1) (au (a::r))
noncomputable def I9 (l:Nat) (t:Nat→Int) (k:Nat) (d:Nat→Int):List Int→aX
 | []=>cM l t k d
 | a::r=>s7 l t k d r.length (r.length+1) (au (a::r))
theorem JB {o:Nat→Int} {T B:Int} {z:Nat→Int} (hT:T≤B) (hz:∀ c,z c≤B):∀ j c,fm o T z j c≤B
 | 0,c=>hz c
 | j+1,c=>by
   show uI (fm o T z j) (o j).toNat T c≤B
   unfold uI
   split
   · exact hT
   · exact JB hT hz j c
theorem GN (f:Nat→Nat→Int) (g:Nat→Nat):∀ i c,cP f g i c≤(i:Int)
 | 0,c=>by show Int.ofNat 0≤((0:Nat):Int);decide
 | i+1,c=>JB (Int.le_refl _) (fun c=>by have:=GN f g i c;omega) _ c
theorem IQ {z:Nat→Int} {B:Int} (h0:0≤B) (hz:∀ c,0≤z c∧z c≤B) (c:Nat):0≤cX z c∧cX z c≤B:=by
 unfold cX
 rw[oH]
 show 0≤(if 0≤c∧c<0+30 then z (c-0) else Int.ofNat 0)∧(if 0≤c∧c<0+30 then z (c-0) else Int.ofNat 0)≤B
 split
 · exact hz _
 · exact ⟨Int.le_refl _,h0⟩
theorem I6 {t z:Nat→Int} {l:Nat} (hl:l≤30) (ht:∀ j,j<l→t j<l):nv (ny t (cX z)) l=nv (ny t z) l:=yw l (fun j hj=>by
 have:=ht j hj
 unfold ny
 rw[yj z (c:=j) (by omega)]
 by_cases c:0≤t j
 · rw[yj z (c:=(t j).toNat) (by omega)]
 · rw[decide_eq_false c];rfl)
noncomputable def AG (l k:Nat) (t d:Nat→Int) (m:Nat) (f:Nat→Nat→Int) (g:Nat→Nat):AV:=if lV l t k d≠0 then .tup [.nils,.int .i64 (lV l t k d)] else if lO l m f g≠0 then .tup [.nils,.int .i64 (lO l m f g)] else .tup [dA (nv (ny t (cP f g m)) l),.int .i64 0]
section
variable (n l k:Nat) (t d:Nat→Int) (m:Nat) (f:Nat→Nat→Int) (g:Nat→Nat) (H:aa)
theorem TU (y:Nat→Int) (hl:l≤30) (ht:∀ j,j<l→t j<l) (hy:∀ c,0≤y c∧y c≤1000):exec (bo n 25 56) (.block 0 (.loop (part Try.f25 [1,1,1,1,1,0,1,0,0]))) (p7 l t .nils ((0:Nat):Int)) (DU l t k d y::H)=some (.normal,p7 l t (oL 2 (nv (ny t y) l)) (Int.ofNat l)++[(34,.bool false)],I8 l t k d y (nv (ny t y) l)::H):=by
 refine iM (n:=n) (f:=25) (nt:=56) (c:=part Try.f25 [1,1,1,1,1,0,1,0,0]) 0 (fun j=>p7 l t (oL 2 (nv (ny t y) j)) (j:Nat)) (fun j=>I8 l t k d y (nv (ny t y) j)::H) l _ (by omega) (fun j hj=>?_) ?_
 · have hr:nv (ny t y) (j+1)=if ny t y j=true then nv (ny t y) j++[(j:Int)] else nv (ny t y) j:=rfl
   have hll:=wM (ny t y) j
   have htj:=ht j hj
   try dsimp only
   rw[hr]
   have hyj:=hy j
   have ea:bu .i64 (y j) (Int.ofNat 1)=y j+1:=by rw[Ev (by show _≤y j+1;omega) (by show y j+1≤_;omega)];rfl
   have eb:ny t y j=(decide (0≤t j) && !decide (y (t j).toNat=y j+1)):=rfl
   rw[eb]
   generalize nv (ny t y) j=L at *
   cases L with
   | nil =>
     refine aC (MY n l k t d y (j:Nat) H) (al n) (af _ _) (ag _ _) ?_
     show Tr.all _ (fun x=>_∧tidy _ _ _=_)
     rw[cK (j:=j) (by omega)]
     simp only[gK,ea]
     by_cases c0:0≤t j
     · obtain ⟨q,hq⟩:∃ q:Nat,t j=q:=⟨(t j).toNat,by omega⟩
       rw[hq] at htj c0 ⊢
       simp only[gK,Int.toNat_natCast,decide_eq_true c0,Bool.true_and]
       by_cases c1:y q=y j+1
       · rw[decide_eq_true c1]
         simp only[Bool.not_true,Bool.false_eq_true,if_false]
         exact wF
       · rw[decide_eq_false c1]
         simp only[Bool.not_false,if_true]
         show Tr.all _ (fun x=>_∧tidy _ _ _=(p7 l t (.slc 0 2 0 0 1 1 none) ((j+1:Nat):Int),s6 l t k d y 0 1 (au [(j:Int)])::H))
         exact wF
     · rw[decide_eq_false c0]
       simp only[Bool.false_and,Bool.false_eq_true,if_false]
       exact wF
   | cons a r =>
     simp only[List.length_cons] at hll
     refine aC (MX n l k t d y r.length (r.length+1) (au (a::r)) (j:Nat) H) (al n) (af _ _) (ag _ _) ?_
     show Tr.all _ (fun x=>_∧tidy _ _ _=_)
     have hap:=yd a r (j:Int)
     have ed:bN (r.length+1) 1=r.length+1+1:=bF _ _
     rw[cK (j:=j) (by omega),hap,ed]
     have el:(r++[(j:Int)]).length=r.length+1:=by simp
     simp only[gK,ea]
     by_cases c0:0≤t j
     · obtain ⟨q,hq⟩:∃ q:Nat,t j=q:=⟨(t j).toNat,by omega⟩
       rw[hq] at htj c0 ⊢
       simp only[gK,Int.toNat_natCast,decide_eq_true c0,Bool.true_and]
       by_cases c1:y q=y j+1
       · rw[decide_eq_true c1]
         simp only[Bool.not_true,Bool.false_eq_true,if_false]
         show Tr.all _ (fun x=>_∧tidy _ _ _=(p7 l t (.slc 0 2 r.length 0 1 (r.length+1) none) ((j+1:Nat):Int),s6 l t k d y r.length (r.length+1) (au (a::r))::H))
         generalize au (a::(r++[(j:Int)]))=Z2 at *
         generalize au (a::r)=Z at *
         generalize r.length=m at *
         exact wF
       · rw[decide_eq_false c1]
         simp only[Bool.not_false,if_true,List.cons_append]
         show Tr.all _ (fun x=>_∧tidy _ _ _=(p7 l t (.slc 0 2 (r++[(j:Int)]).length 0 1 ((r++[(j:Int)]).length+1) none) ((j+1:Nat):Int),s6 l t k d y (r++[(j:Int)]).length ((r++[(j:Int)]).length+1) (au (a::(r++[(j:Int)])))::H))
         rw[el]
         generalize au (a::(r++[(j:Int)]))=Z2 at *
         generalize au (a::r)=Z at *
         generalize r.length=m at *
         exact wF
     · rw[decide_eq_false c0]
       simp only[Bool.false_and,Bool.false_eq_true,if_false]
       show Tr.all _ (fun x=>_∧tidy _ _ _=(p7 l t (.slc 0 2 r.length 0 1 (r.length+1) none) ((j+1:Nat):Int),s6 l t k d y r.length (r.length+1) (au (a::r))::H))
       generalize au (a::(r++[(j:Int)]))=Z2 at *
       generalize au (a::r)=Z at *
       generalize r.length=m at *
       exact wF
 · try dsimp only
   generalize nv (ny t y) l=L at *
   cases L with
   | nil=>exact cr (MY n l k t d y (Int.ofNat l) H) (al n) (af _ _) (ag _ _) (by first | (simp (disch:=omega) only[nV,nW];done) | (simp (disch:=omega) only[nV,nW];omega))
   | cons a r=>exact cr (MX n l k t d y r.length (r.length+1) (au (a::r)) (Int.ofNat l) H) (al n) (af _ _) (ag _ _) (by first | (simp (disch:=omega) only[nV,nW];done) | (simp (disch:=omega) only[nV,nW];omega))
theorem TV (z:Nat→Int) (hl:l≤30) (ht:∀ j,j<l→t j<l) (hy:∀ c,0≤z c∧z c≤1000):exec (bo n 26 57) (.block 0 (.loop (part Try.f26 [1,1,1,1,1,0,1,0,0]))) (p8 l z .nils ((0:Nat):Int)) (cM l t k d::H)=some (.normal,p8 l z (oL 1 (nv (ny t z) l)) (Int.ofNat l)++[(27,.bool false)],I9 l t k d (nv (ny t z) l)::H):=by
 refine iM (n:=n) (f:=26) (nt:=57) (c:=part Try.f26 [1,1,1,1,1,0,1,0,0]) 0 (fun j=>p8 l z (oL 1 (nv (ny t z) j)) (j:Nat)) (fun j=>I9 l t k d (nv (ny t z) j)::H) l _ (by omega) (fun j hj=>?_) ?_
 · have hr:nv (ny t z) (j+1)=if ny t z j=true then nv (ny t z) j++[(j:Int)] else nv (ny t z) j:=rfl
   have hll:=wM (ny t z) j
   have htj:=ht j hj
   try dsimp only
   rw[hr]
   have hyj:=hy j
   have ea:bu .i64 (z j) (Int.ofNat 1)=z j+1:=by rw[Ev (by show _≤z j+1;omega) (by show z j+1≤_;omega)];rfl
   have eb:ny t z j=(decide (0≤t j) && !decide (z (t j).toNat=z j+1)):=rfl
   rw[eb]
   generalize nv (ny t z) j=L at *
   cases L with
   | nil =>
     refine aC (M7 n l k t d z (j:Nat) H) (al n) (af _ _) (ag _ _) ?_
     show Tr.all _ (fun x=>_∧tidy _ _ _=_)
     rw[cK (j:=j) (by omega)]
     simp only[gK,ea]
     by_cases c0:0≤t j
     · obtain ⟨q,hq⟩:∃ q:Nat,t j=q:=⟨(t j).toNat,by omega⟩
       rw[hq] at htj c0 ⊢
       simp only[gK,Int.toNat_natCast,decide_eq_true c0,Bool.true_and]
       by_cases c1:z q=z j+1
       · rw[decide_eq_true c1]
         simp only[Bool.not_true,Bool.false_eq_true,if_false]
         exact wF
       · rw[decide_eq_false c1]
         simp only[Bool.not_false,if_true]
         show Tr.all _ (fun x=>_∧tidy _ _ _=(p8 l z (.slc 0 1 0 0 1 1 none) ((j+1:Nat):Int),s7 l t k d 0 1 (au [(j:Int)])::H))
         exact wF
     · rw[decide_eq_false c0]
       simp only[Bool.false_and,Bool.false_eq_true,if_false]
       exact wF
   | cons a r =>
     simp only[List.length_cons] at hll
     refine aC (MZ n l k t d z r.length (r.length+1) (au (a::r)) (j:Nat) H) (al n) (af _ _) (ag _ _) ?_
     show Tr.all _ (fun x=>_∧tidy _ _ _=_)
     have hap:=yd a r (j:Int)
     have ed:bN (r.length+1) 1=r.length+1+1:=bF _ _
     rw[cK (j:=j) (by omega),hap,ed]
     have el:(r++[(j:Int)]).length=r.length+1:=by simp
     simp only[gK,ea]
     by_cases c0:0≤t j
     · obtain ⟨q,hq⟩:∃ q:Nat,t j=q:=⟨(t j).toNat,by omega⟩
       rw[hq] at htj c0 ⊢
       simp only[gK,Int.toNat_natCast,decide_eq_true c0,Bool.true_and]
       by_cases c1:z q=z j+1
       · rw[decide_eq_true c1]
         simp only[Bool.not_true,Bool.false_eq_true,if_false]
         show Tr.all _ (fun x=>_∧tidy _ _ _=(p8 l z (.slc 0 1 r.length 0 1 (r.length+1) none) ((j+1:Nat):Int),s7 l t k d r.length (r.length+1) (au (a::r))::H))
         generalize au (a::(r++[(j:Int)]))=Z2 at *
         generalize au (a::r)=Z at *
         generalize r.length=m at *
         exact wF
       · rw[decide_eq_false c1]
         simp only[Bool.not_false,if_true,List.cons_append]
         show Tr.all _ (fun x=>_∧tidy _ _ _=(p8 l z (.slc 0 1 (r++[(j:Int)]).length 0 1 ((r++[(j:Int)]).length+1) none) ((j+1:Nat):Int),s7 l t k d (r++[(j:Int)]).length ((r++[(j:Int)]).length+1) (au (a::(r++[(j:Int)])))::H))
         rw[el]
         generalize au (a::(r++[(j:Int)]))=Z2 at *
         generalize au (a::r)=Z at *
         generalize r.length=m at *
         exact wF
     · rw[decide_eq_false c0]
       simp only[Bool.false_and,Bool.false_eq_true,if_false]
       show Tr.all _ (fun x=>_∧tidy _ _ _=(p8 l z (.slc 0 1 r.length 0 1 (r.length+1) none) ((j+1:Nat):Int),s7 l t k d r.length (r.length+1) (au (a::r))::H))
       generalize au (a::(r++[(j:Int)]))=Z2 at *
       generalize au (a::r)=Z at *
       generalize r.length=m at *
       exact wF
 · try dsimp only
   generalize nv (ny t z) l=L at *
   cases L with
   | nil=>exact cr (M7 n l k t d z (Int.ofNat l) H) (al n) (af _ _) (ag _ _) (by first | (simp (disch:=omega) only[nV,nW];done) | (simp (disch:=omega) only[nV,nW];omega))
   | cons a r=>exact cr (MZ n l k t d z r.length (r.length+1) (au (a::r)) (Int.ofNat l) H) (al n) (af _ _) (ag _ _) (by first | (simp (disch:=omega) only[nV,nW];done) | (simp (disch:=omega) only[nV,nW];omega))
theorem RS (hm:m≤50) (hg:∀ i,i<m→g i≤40):cd (n+9) (.fn 25) [bw l t k d,cA m f g] H=some (AG l k t d m f g,H):=by
 by_cases ea:lV l t k d=0
 · have hs:=CS ea
   have h51:∀ H,cd (n+8) (.fn 51) [bw l t k d] H=some (.tup [eN 0 l t k d (cZ t l),.int .i64 0],H):=fun H=>Oh n l k t d H hs
   have h60:∀ H,cd (n+8) (.fn 60) [bw l t k d,cA m f g] H=some (Al l m f g,H):=fun H=>Rj (n+2) l k t d m f g H hs.l1 hs.l30 hm hg
   by_cases et:lO l m f g=0
   · have e60:Al l m f g=.tup [.agg (.M [.arr .i64 (cX (cP f g m)) 30]),.int .i64 0]:=by unfold Al;rw[if_pos et]
     rw[e60] at h60
     have hin:∀ c,0≤cX (cX (cP f g m)) c∧cX (cX (cP f g m)) c≤1000:=IQ (by omega) (IQ (by omega) (fun c=>⟨xZ f g m c,by have:=GN f g m c;omega⟩))
     have hx:=TU (n+8) l k t d H (cX (cX (cP f g m))) hs.l30 hs.tl hin
     rw[I6 hs.l30 hs.tl,I6 hs.l30 hs.tl] at hx
     have ec:AG l k t d m f g=.tup [dA (nv (ny t (cP f g m)) l),.int .i64 0]:=by
      unfold AG
      rw[if_neg (by rw[ea];decide),if_neg (by rw[et];decide)]
     rw[ec]
     clear ec
     generalize nv (ny t (cP f g m)) l=L at *
     cases L with
     | nil =>
       refine aE (n:=n+8) Try.func25 rfl rfl rfl (Ql (n+8) l k t d (cX (cP f g m)) (cX (cX (cP f g m))) (cZ t l) m f g H) (aM _ (n+8) (aP (aP (aD _) h51) h60)) (ay (af _ _) NT (fun x hy=>bI hy hx)) (ag _ _) ?_
       exact wF
     | cons a r =>
       rw[show dA (a::r)=AV.slcT none (.M [.arr .i64 (au (a::r)) (r.length+1)]) 1 (r.length+1) false from rfl]
       refine aE (n:=n+8) Try.func25 rfl rfl rfl (Qk (n+8) l k t d (cX (cP f g m)) (cX (cX (cP f g m))) (cZ t l) m f g r.length (r.length+1) (au (a::r)) H) (aM _ (n+8) (aP (aP (aD _) h51) h60)) (ay (af _ _) NT (fun x hy=>bI hy hx)) (ag _ _) ?_
       rw[c5]
       generalize au (a::r)=Z at *
       generalize r.length=q at *
       exact wF
   · have e60:Al l m f g=.tup [.agg (.M [.arr .i64 (cX (fun _=>Int.ofNat 0)) 30]),.int .i64 (lO l m f g)]:=by unfold Al;rw[if_neg et]
     rw[e60] at h60
     have ec:AG l k t d m f g=.tup [.nils,.int .i64 (lO l m f g)]:=by
      unfold AG
      rw[if_neg (by rw[ea];decide),if_pos et]
     rw[ec]
     refine aE (n:=n+8) Try.func25 rfl rfl rfl (Qn (n+8) l k t d (cX (fun _=>Int.ofNat 0)) (cZ t l) m f g (lO l m f g) H) (aM _ (n+8) (aP (aP (aD _) h51) h60)) (ay (af _ _) NT (fun x hx=>(Tr.ae hx).elim)) (ag _ _) ?_
     generalize lO l m f g=E at *
     exact wF
 · have ec:AG l k t d m f g=.tup [.nils,.int .i64 (lV l t k d)]:=by
    unfold AG
    rw[if_pos ea]
   have h51:∀ H,cd (n+8) (.fn 51) [bw l t k d] H=some (.tup [.nilp,.int .i64 (lV l t k d)],H):=fun H=>LD n l k t d H ea
   rw[ec]
   generalize lV l t k d=E at *
   refine aE (n:=n+8) Try.func25 rfl rfl rfl (Qm (n+8) l k t d m f g E H) (aM _ (n+8) (aP (aD _) h51)) (ay (af _ _) NT (fun x hx=>(Tr.ae hx).elim)) (ag _ _) ?_
   exact wF
theorem RT (hm:m≤50) (hg:∀ i,i<m→g i≤40):cd (n+3) (.fn 26) [bw l t k d,cA m f g] H=some (AG l k t d m f g,H):=by
 have h22:∀ H,cd (n+2) (.fn 22) [bw l t k d] H=some (.int .i64 (lV l t k d),H):=fun H=>Rb n l k t d H
 by_cases ea:lV l t k d=0
 · have hs:=CS ea
   rw[ea] at h22
   have h47:∀ H,cd (n+2) (.fn 47) [bw l t k d,cA m f g] H=some (Lr l m f g,H):=fun H=>Rd n l k t d m f g H (by have:=hs.l30;omega) (fun i hi=>by have:=hg i hi;omega)
   by_cases et:lO l m f g=0
   · rw[xT,if_pos et] at h47
     have hx:=TV (n+2) l k t d H (cP f g m) hs.l30 hs.tl (fun c=>⟨xZ f g m c,by have:=GN f g m c;omega⟩)
     have ec:AG l k t d m f g=.tup [dA (nv (ny t (cP f g m)) l),.int .i64 0]:=by
      unfold AG
      rw[if_neg (by rw[ea];decide),if_neg (by rw[et];decide)]
     rw[ec]
     clear ec
     generalize nv (ny t (cP f g m)) l=L at *
     cases L with
     | nil =>
       refine aE (n:=n+2) Try.func26 rfl rfl rfl (Qp (n+2) l k t d (cP f g m) m f g H) (aM _ (n+2) (aP (aP (aD _) h22) h47)) (ay (af _ _) NU (fun x hy=>bI hy hx)) (ag _ _) ?_
       exact wF
     | cons a r =>
       rw[show dA (a::r)=AV.slcT none (.M [.arr .i64 (au (a::r)) (r.length+1)]) 1 (r.length+1) false from rfl]
       refine aE (n:=n+2) Try.func26 rfl rfl rfl (Qo (n+2) l k t d (cP f g m) m f g r.length (r.length+1) (au (a::r)) H) (aM _ (n+2) (aP (aP (aD _) h22) h47)) (ay (af _ _) NU (fun x hy=>bI hy hx)) (ag _ _) ?_
       rw[c5]
       generalize au (a::r)=Z at *
       generalize r.length=q at *
       exact wF
   · rw[xT,if_neg et] at h47
     have ec:AG l k t d m f g=.tup [.nils,.int .i64 (lO l m f g)]:=by
      unfold AG
      rw[if_neg (by rw[ea];decide),if_pos et]
     rw[ec]
     refine aE (n:=n+2) Try.func26 rfl rfl rfl (Qr (n+2) l k t d m f g (lO l m f g) H) (aM _ (n+2) (aP (aP (aD _) h22) h47)) (ay (af _ _) NU (fun x hx=>(Tr.ae hx).elim)) (ag _ _) ?_
     generalize lO l m f g=E at *
     exact wF
 · have ec:AG l k t d m f g=.tup [.nils,.int .i64 (lV l t k d)]:=by
    unfold AG
    rw[if_pos ea]
   rw[ec]
   generalize lV l t k d=E at *
   refine aE (n:=n+2) Try.func26 rfl rfl rfl (Qq (n+2) l k t d m f g E H) (aM _ (n+2) (aP (aD _) h22)) (ay (af _ _) NU (fun x hx=>(Tr.ae hx).elim)) (ag _ _) ?_
   exact wF
end
end Go.Eng
end
section
namespace Go.Eng
theorem sU:∀ (j:Nat) (z:Nat→Int) (i:Nat),j<i→lR z j i=z i
 | 0,_,_,_=>rfl
 | j + 1,z,i,h=>by
   unfold lR
   split
   · rw[sU j _ i (by omega)]
     unfold CW
     rw[ib]
     simp only[]
     rw[if_neg (by omega),if_neg (by omega)]
   · rfl
theorem Ag:∀ (k:Nat) (z:Nat→Int) (i:Nat),k<i→iF z k i=z i
 | 0,_,_,_=>rfl
 | k+1,z,i,h=>by
   unfold iF
   rw[sU (k+1) _ i h,Ag k z i (by omega)]
theorem Ci:∀ (j:Nat) (z:Nat→Int),(∀ a b,a<b→b<j→z a<z b)→(∀ a,a<j→z a≠z j) →
 (∀ a b,a<b→b≤j→lR z j a<lR z j b)∧(∀ x,(∃ i,i≤j∧lR z j i=x)↔∃ i,i≤j∧z i=x)
 | 0,z,_,_=>⟨fun a b h1 h2=>by omega,fun x=>Iff.rfl⟩
 | j + 1,z,  h1,h2=>by
   unfold lR
   by_cases hc:z (j+1)<z j
   · rw[if_pos hc]
     have s1:CW z (j+1) (j+1)=z j:=by unfold CW;simp[ib]
     have s2:CW z (j+1) j=z (j+1):=by unfold CW;simp[ib]
     have s3:∀ a,a≠j→a≠j+1→CW z (j+1) a=z a:=fun a q1 q2=>by unfold CW;simp[ib,q1,q2]
     generalize CW z (j+1)=z' at *
     obtain ⟨i1,i2⟩:=Ci j z' (fun a b q1 q2=>by rw[s3 a (by omega) (by omega),s3 b (by omega) (by omega)];exact h1 a b q1 (by omega)) (fun a q=>by rw[s3 a (by omega) (by omega),s2];exact h2 a (by omega))
     have o:=sU j z' (j+1) (by omega)
     rw[s1] at o
     refine ⟨fun a b q1 q2=>?_,fun x=>?_⟩
     · by_cases e:b=j+1
       · subst e
         rw[o]
         obtain ⟨i,q3,q4⟩:=(i2 (lR z' j a)).1 ⟨a,by omega,rfl⟩
         rw[← q4]
         by_cases e2:i=j
         · subst e2;rw[s2];exact hc
         · rw[s3 i e2 (by omega)];exact h1 i j (by omega) (by omega)
       · exact i1 a b q1 (by omega)
     · constructor
       · rintro ⟨i,q1,q2⟩
         by_cases e:i=j+1
         · subst e;rw[o] at q2;exact ⟨j,by omega,q2⟩
         · obtain ⟨k,q3,q4⟩:=(i2 x).1 ⟨i,by omega,q2⟩
           by_cases e2:k=j
           · subst e2;rw[s2] at q4;exact ⟨k+1,by omega,q4⟩
           · rw[s3 k e2 (by omega)] at q4;exact ⟨k,by omega,q4⟩
       · rintro ⟨i,q1,q2⟩
         by_cases e:i=j
         · subst e;exact ⟨i+1,by omega,by rw[o];exact q2⟩
         · by_cases e2:i=j+1
           · subst e2
             obtain ⟨k,q3,q4⟩:=(i2 x).2 ⟨j,by omega,by rw[s2];exact q2⟩
             exact ⟨k,by omega,q4⟩
           · obtain ⟨k,q3,q4⟩:=(i2 x).2 ⟨i,by omega,by rw[s3 i e e2];exact q2⟩
             exact ⟨k,by omega,q4⟩
   · rw[if_neg hc]
     refine ⟨fun a b q1 q2=>?_,fun x=>Iff.rfl⟩
     by_cases e:b=j+1
     · subst e
       have:=h2 j (by omega)
       by_cases e2:a=j
       · subst e2;omega
       · have:=h1 a j (by omega) (by omega);omega
     · exact h1 a b q1 (by omega)
theorem CU (z:Nat→Int):∀ k,(∀ a b,a<b→b≤k→z a≠z b) →
 (∀ a b,a<b→b≤k→iF z k a<iF z k b)∧(∀ x,(∃ i,i≤k∧iF z k i=x)↔∃ i,i≤k∧z i=x)
 | 0,_=>⟨fun a b h1 h2=>by omega,fun x=>Iff.rfl⟩
 | k + 1,h=>by
   obtain ⟨i1,i2⟩:=CU z k (fun a b q1 q2=>h a b q1 (by omega))
   have o:=Ag k z (k+1) (by omega)
   show (∀ a b,a<b→b≤k+1→lR (iF z k) (k+1) a<lR (iF z k) (k+1) b)∧(∀ x,(∃ i,i≤k+1∧lR (iF z k) (k+1) i=x)↔∃ i,i≤k+1∧z i=x)
   generalize iF z k=y at *
   obtain ⟨j1,j2⟩:=Ci (k+1) y (fun a b q1 q2=>i1 a b q1 (by omega)) (fun a q=>by
    rw[o]
    obtain ⟨i,q1,q2⟩:=(i2 (y a)).1 ⟨a,by omega,rfl⟩
    rw[← q2];exact h i (k+1) (by omega) (by omega))
   refine ⟨j1,fun x=>(j2 x).trans ?_⟩
   constructor
   · rintro ⟨i,q1,q2⟩
     by_cases e:i=k+1
     · subst e;exact ⟨k+1,by omega,by rw[← o];exact q2⟩
     · obtain ⟨m,q3,q4⟩:=(i2 x).1 ⟨i,by omega,q2⟩
       exact ⟨m,by omega,q4⟩
   · rintro ⟨i,q1,q2⟩
     by_cases e:i=k+1
     · subst e;exact ⟨k+1,by omega,by rw[o];exact q2⟩
     · obtain ⟨m,q3,q4⟩:=(i2 x).2 ⟨i,by omega,q2⟩
       exact ⟨m,by omega,q4⟩
theorem K1 {L:List Int} (hn:L.Nodup) (h1:1≤L.length):(∀ a b,a<b→b<L.length→wb L.length (au L) a<wb L.length (au L) b)∧∀ x,(∃ i,i<L.length∧wb L.length (au L) i=x)↔x ∈ L:=by
 have hv:∀ a,(h:a<L.length)→dT (fun _=>Int.ofNat 0) 0 (au L) L.length a=L[a]:=fun a h=>by
  rw[oH]
  show (if 0≤a∧a<0+L.length then au L (a-0) else _)=_
  rw[if_pos (by omega),Nat.sub_zero,iS]
  show L.getD a 0=_
  rw[List.getD_eq_getElem?_getD,List.getElem?_eq_getElem h];rfl
 obtain ⟨s1,s2⟩:=CU (dT (fun _=>Int.ofNat 0) 0 (au L) L.length) (L.length-1) (fun a b q1 q2=>by
  rw[hv a (by omega),hv b (by omega)]
  exact (List.pairwise_iff_getElem.1 hn) a b (by omega) (by omega) q1)
 unfold wb
 refine ⟨fun a b q1 q2=>s1 a b q1 (by omega),fun x=>?_⟩
 constructor
 · rintro ⟨i,q1,q2⟩
   obtain ⟨m,q3,q4⟩:=(s2 x).1 ⟨i,by omega,q2⟩
   rw[← q4,hv m (by omega)]
   exact List.getElem_mem _
 · intro hx
   obtain ⟨m,q1,q2⟩:=List.mem_iff_getElem.1 hx
   obtain ⟨i,q3,q4⟩:=(s2 x).2 ⟨m,by omega,by rw[hv m q1];exact q2⟩
   exact ⟨i,by omega,q4⟩
section
variable {l k:Nat} {t d:Nat→Int} {h:Int}
noncomputable def rN (l k:Nat) (t d:Nat→Int) (h:Int) (m:Nat):List Nat:=rq l t (zP l t k d (cV l t d h:Nat)) h.toNat (bR (cZ t l)) m
noncomputable def dP (l k:Nat) (t d:Nat→Int) (h:Int) (m:Nat):Nat→Bool:=dS l t (zP l t k d (cV l t d h:Nat)) h.toNat (bR (cZ t l)) m
theorem xI (m:Nat):r6 l k t d h m=(rN l k t d h m).map fun (i:Nat)=>(i:Int):=rfl
theorem Fi (m i:Nat):dP l k t d h (m+1) i=(dP l k t d h m i || decide (i ∈ rN l k t d h m)):=rfl
theorem zV (hs:Sh l t k d) (m:Nat):(rN l k t d h m).Nodup∧∀ i ∈ rN l k t d h m,i<l∧dP l k t d h m i=false:=by
 obtain ⟨r,h1,h2,h3,h4⟩:=mC (l:=l) (z:=zP l t k d (cV l t d h:Nat)) (w:=(eO l t (zP l t k d (cV l t d h:Nat)) h.toNat (bR (cZ t l)) m).2) h.toNat
 obtain ⟨_,a2,a3⟩:=zO (BA (z:=zP l t k d (cV l t d h:Nat)) (H:=h.toNat) hs.l30 hs.tl (oQ hs) m) r h2
 unfold rN rq
 rw[h3]
 exact ⟨a2,a3⟩
theorem Ed (hs:Sh l t k d) (m:Nat):(r6 l k t d h m).Nodup:=by
 rw[xI]
 have:=(zV (h:=h) hs m).1
 unfold List.Nodup at *
 rw[List.pairwise_map]
 exact this.imp (fun hab=>by omega)
theorem Gq (hs:Sh l t k d) (hc:cg l t d h=true) (hh:1≤h∧h≤10) {m T:Nat} (hm:m<cV l t d h) (hT:m≤T):gP l k t d h T m=(rN l k t d h m).length∧(∀ a b,a<b→b<gP l k t d h T m→fP l k t d h T m a<fP l k t d h T m b)∧∀ x,(∃ i,i<gP l k t d h T m∧fP l k t d h T m i=x)↔∃ c:Nat,c ∈ rN l k t d h m∧x=c:=by
 have h1:=(Bw l k t d h hs hc hh m hm).1
 obtain ⟨a,b⟩:=K1 (Ed (h:=h) hs m) h1
 have e:gP l k t d h T m=(r6 l k t d h m).length:=by unfold gP;rw[Nat.min_eq_left hT]
 have ef:fP l k t d h T m=wb (r6 l k t d h m).length (au (r6 l k t d h m)):=by unfold fP;rw[e,Nat.min_eq_left hT]
 rw[e,ef]
 refine ⟨by rw[xI,List.length_map],a,fun x=>(b x).trans ?_⟩
 rw[xI,List.mem_map]
 exact ⟨fun ⟨c,q1,q2⟩=>⟨c,q1,q2.symm⟩,fun ⟨c,q1,q2⟩=>⟨c,q1,q2.symm⟩⟩
end
end Go.Eng
end
section
namespace Go.Eng
section
variable {l k:Nat} {t d:Nat→Int} {h:Int}
theorem IS:∀ {n i:Nat},dP l k t d h n i=true→∃ m,m<n∧i ∈ rN l k t d h m
 | 0,i,hd=>by
   have:(fun _:Nat=>false) i=true:=hd
   cases this
 | n + 1,i,hd=>by
   rw[Fi,Bool.or_eq_true,decide_eq_true_eq] at hd
   rcases hd with hd | hd
   · obtain ⟨m,a,b⟩:=IS hd
     exact ⟨m,by omega,b⟩
   · exact ⟨n,by omega,hd⟩
theorem IY {n m i:Nat} (hm:m<n) (hi:i ∈ rN l k t d h m):dP l k t d h n i=true:=by
 have:dP l k t d h (m+1) i=true:=by rw[Fi,decide_eq_true hi,Bool.or_true]
 exact hJ (show m+1≤n by omega) this
theorem KR (hs:Sh l t k d) {m m' i:Nat} (h1:i ∈ rN l k t d h m) (h2:i ∈ rN l k t d h m'):m=m':=by
 have key:∀ {a b:Nat},a<b→i ∈ rN l k t d h a→i ∈ rN l k t d h b→False:=fun {a b} hab ha hb=>by
  have h1:=IY hab ha
  have h2:=((zV hs b).2 i hb).2
  rw[h1] at h2;cases h2
 rcases Nat.lt_trichotomy m m' with c | c | c
 · exact (key c h1 h2).elim
 · exact c
 · exact (key c h2 h1).elim
theorem KP (hs:Sh l t k d) {y x my mx:Nat} (hy:y ∈ rN l k t d h my) (hx:x ∈ rN l k t d h mx) (hyx:t y=(x:Int)):my<mx:=by
 have hyl:=((zV hs my).2 y hy)
 have hxl:=((zV hs mx).2 x hx)
 have h1:dP l k t d h (mx+1) x=true:=IY (by omega) hx
 have h2:=(Ps hs.l30 hs.tl (oQ hs) hyl.1 hxl.1 hyx (mx+1) h1).2
 have h2:dP l k t d h mx y=true:=h2
 apply Classical.byContradiction
 intro hc
 have h3:dP l k t d h my y=true:=hJ (show mx≤my by omega) h2
 rw[hyl.2] at h3;cases h3
theorem KO (hs:Sh l t k d) (hc:cg l t d h=true) (hh:1≤h∧h≤10) {i:Nat} (hi:i<l):∃ m,m<cV l t d h∧((m:Nat):Int)+1≤d i∧i ∈ rN l k t d h m:=by
 have e:h=(h.toNat:Int):=by omega
 have:=Cg (H:=h.toNat) hs hc e i hi
 obtain ⟨m,a,b⟩:=IS (k:=k) (h:=h) this
 have hz:=IL hs i hi (cV l t d h)
 have:=GL hs hc i hi
 exact ⟨m,by omega,by omega,b⟩
theorem KQ (hs:Sh l t k d) (hc:cg l t d h=true) (hh:1≤h∧h≤10) {m:Nat} (hm:m<cV l t d h):1≤(rN l k t d h m).length∧((rN l k t d h m).length:Int)≤h:=by
 have:=Bw l k t d h hs hc hh m hm
 rw[xI,List.length_map] at this
 omega
end
end Go.Eng
end
