/- Bath: BathMoved: trees . -/
import Derived.Test.YtigmfpmabgekoaaGreatV12Bqlx10
set_option linter.unusedVariables false
set_option linter.unusedSimpArgs false
set_option maxRecDepth 100000
section
namespace Go.Eng
open Go.Proofs
noncomputable def L5:List AV→Option (Prop×AV)
 | [.int .i64 a,.int .i64 b,.int .i64 c,.int .i64 d,.int .i64 e]=>some (True,.agg (.I .i64 [a,b,c,d,e]))
 | _=>none
noncomputable def lC (l:Nat) (z:Nat→Int) (r t k u:Int) (X Y Z:AV) (i:Int):ay:=[(0,aG 5 l z),(3,.int .u8 r),(11,.int .i64 t),(12,.int .i64 k),(13,.int .i64 u),(14,X),(15,Y),(16,Z),(17,.int .i64 i)]
noncomputable def gf (v:Nat) (x:Nat→Int) (m:Nat):Nat×ak:=(v,.row (.M [.arr .i64 x (aq m 5)]))
noncomputable def eW (l:Nat) (z x:Nat→Int) (u:Int) (B B2:AV) (i:Int):ay:=[(0,aG 5 l z),(13,.int .i64 u),(14,aG 5 l x),(19,B),(32,B2),(37,.int .i64 i)]
noncomputable def nQ (l:Nat) (z x:Nat→Int) (u:Int) (i:Int):ay:=[(0,aG 5 l z),(13,.int .i64 u),(14,aG 5 l x),(38,.int .i64 i)]
noncomputable def gW (v:Nat):bm:=⟨false,[(v,.dead),(v,.dead),(v,.dead)]⟩
theorem MG (n l:Nat) (z:Nat→Int) (u t r q:Int) (fin:Bool) (H:aa):aN (bp n 12 276) (il (tX (iz aR 15 Ja) 41 [aG 5 l z] (.bool fin)) n 0) aW aX (chain [part Tryz.f12 [0],part Tryz.f12 [1,0]]) (hints [(0,aG 5 l z),(1,.int .u16 u),(2,.int .u8 t),(3,.int .u8 r),(4,.int .u8 q)]) (aC::H) =
 Tr.reqP ([aG 5 l z]=[aG 5 l z]) (Tr.ite (bG fin) (Tr.reqP True (Tr.ok (Ex.ret,[(10,AV.bool true,none)],aC::H))) (Tr.ok (Ex.normal,[(0,aG 5 l z,none),(1,AV.int IntKind.u16 u,none),(2,AV.int IntKind.u8 t,none),(3,AV.int IntKind.u8 r,none),(4,AV.int IntKind.u8 q,none),(45,AV.bool false,some 1)],aC::H))):=by kernel_rfl
theorem Ql (n l v:Nat) (z x y w:Nat→Int) (u t r q t' k' u':Int) (H:aa):aN (bp n 12 276) (il aR n 0) (eP aW 0 (lC l z r (aK .i64 (Int.ofNat 1) (dq .i64 (iZ .i64 t) (Int.ofNat 5))) (dq .i64 (iZ .i64 q) (Int.ofNat 15)) (iZ .i64 u) .nils .nils .nils (Int.ofNat 0)) (aC::H) (.ok (.normal,hints (lC l z r t' k' u' (.slc 0 2 v 0 5 l none) (.slc 0 1 v 0 5 l none) (.slc 0 0 v 0 5 l none) (Int.ofNat l)++[(59,.bool false)]),⟨false,[gf v w l,gf v y l,gf v x l]⟩::H))) aX (chain [part Tryz.f12 [1,1,0],part Tryz.f12 [1,1,1,0],part Tryz.f12 [1,1,1,1,0]]) (hints [(0,aG 5 l z),(1,.int .u16 u),(2,.int .u8 t),(3,.int .u8 r),(4,.int .u8 q),(45,.bool false)]) (aC::H) =
 (fun (Z0:ay)=>Tr.req (bG (dD (Int.ofNat 5) (Int.ofNat 0))) (Tr.req (bG (dD (Int.ofNat 15) (Int.ofNat 0))) (Tr.reqP (Z0=Z0∧aC::H=aC::H) (Tr.ok (Ex.normal,[(0,aG 5 l z,none),(3,AV.int IntKind.u8 r,none),(11,AV.int .i64 t',none),(12,AV.int .i64 k',none),(13,AV.int .i64 u',none),(14,AV.slc 0 2 v 0 5 l none,none),(15,AV.slc 0 1 v 0 5 l none,none),(16,AV.slc 0 0 v 0 5 l none,none),(17,AV.int .i64 (Int.ofNat l),none),(59,AV.bool false,none)],{ lock:=false,bs:=[(v,ak.row (Row.M [aL.arr .i64 w (aq l 5)])),(v,ak.row (Row.M [aL.arr .i64 y (aq l 5)])),(v,ak.row (Row.M [aL.arr .i64 x (aq l 5)]))] } :: H))))) [(0,aG 5 l z),(3,AV.int IntKind.u8 r),(11,AV.int .i64 (aK .i64 (Int.ofNat 1) (dq IntKind.i64 (iZ IntKind.i64 t) (Int.ofNat 5)))),(12,AV.int .i64 (dq IntKind.i64 (iZ IntKind.i64 q) (Int.ofNat 15))),(13,AV.int .i64 (iZ IntKind.i64 u)),(14,AV.nils),(15,AV.nils),(16,AV.nils),(17,AV.int .i64 (Int.ofNat 0))]:=by kernel_rfl
theorem QL (n l:Nat) (z:Nat→Int) (r t k u i:Int) (H:aa):aN (bp n 12 276) (il (iz aR 49 L5) n 0) aW aX (part Tryz.f12 [1,1,1,1,0,1,0,0]) (hints (lC l z r t k u .nils .nils .nils i)) (aC::H) =
 Tr.ite (df i (Int.ofNat l)) (Tr.req (dR i l) (Tr.req (bx (au 0 i 5) (aq l 5)) (Tr.req (bx (ah (au 0 i 5) 1) (aq l 5)) (Tr.req (bx (ah (au 0 i 5) 2) (aq l 5)) (Tr.req (bx (ah (au 0 i 5) 3) (aq l 5)) (Tr.req (bx (ah (au 0 i 5) 4) (aq l 5)) (Tr.reqP True (Tr.req (dJ 0 1 40) (Tr.req (cM 0 0) (Tr.req (fA 1 1) (Tr.reqP True (Tr.req (dJ 0 1 40) (Tr.req (cM 0 0) (Tr.req (fA 1 1) (Tr.req (bG (dD (Int.ofNat l) (Int.ofNat 0))) (Tr.req (dR (dq IntKind.i64 (aK .i64 i (iZ IntKind.i64 r)) (Int.ofNat l)) l) (Tr.req (bx (au 0 (dq IntKind.i64 (aK .i64 i (iZ IntKind.i64 r)) (Int.ofNat l)) 5) (aq l 5)) (Tr.req (bx (ah (au 0 (dq IntKind.i64 (aK .i64 i (iZ IntKind.i64 r)) (Int.ofNat l)) 5) 1) (aq l 5)) (Tr.req (bx (ah (au 0 (dq IntKind.i64 (aK .i64 i (iZ IntKind.i64 r)) (Int.ofNat l)) 5) 2) (aq l 5)) (Tr.req (bx (ah (au 0 (dq IntKind.i64 (aK .i64 i (iZ IntKind.i64 r)) (Int.ofNat l)) 5) 3) (aq l 5)) (Tr.req (bx (ah (au 0 (dq IntKind.i64 (aK .i64 i (iZ IntKind.i64 r)) (Int.ofNat l)) 5) 4) (aq l 5)) (Tr.req (dJ 0 1 40) (Tr.req (cM 0 0) (Tr.req (fA 1 1) (Tr.ok (Ex.normal,[(0,aG 5 l z,none),(3,AV.int IntKind.u8 r,none),(11,AV.int .i64 t,none),(12,AV.int .i64 k,none),(13,AV.int .i64 u,none),(14,AV.slc 0 2 0 0 5 1 none,none),(15,AV.slc 0 4 0 0 5 1 none,none),(16,AV.slc 0 6 0 0 5 1 none,none),(17,AV.int .i64 (aK .i64 i (Int.ofNat 1)),none)],{ lock:=false,bs:=[(0,ak.row (Row.I .i64 [z (au 0 i 5),z (ah (au 0 i 5) 1),z (ah (au 0 i 5) 2),z (ah (au 0 i 5) 3),z (ah (au 0 i 5) 4)])),(0,ak.row (Row.I .i64 [aK .i64 (z (au 0 i 5)) u,aK .i64 (z (ah (au 0 i 5) 1)) u,z (ah (au 0 i 5) 2),z (ah (au 0 i 5) 3),z (ah (au 0 i 5) 4)])),(0,ak.row (Row.M [aL.arr .i64 (aB [aK .i64 (z (au 0 i 5)) u,aK .i64 (z (ah (au 0 i 5) 1)) u,z (ah (au 0 i 5) 2),z (ah (au 0 i 5) 3),z (ah (au 0 i 5) 4)]) 5])),(0,ak.row (Row.I .i64 [z (au 0 i 5),z (ah (au 0 i 5) 1),z (ah (au 0 i 5) 2),z (ah (au 0 i 5) 3),oG .i64 t (z (ah (au 0 i 5) 4))])),(0,ak.row (Row.M [aL.arr .i64 (aB [z (au 0 i 5),z (ah (au 0 i 5) 1),z (ah (au 0 i 5) 2),z (ah (au 0 i 5) 3),oG .i64 t (z (ah (au 0 i 5) 4))]) 5])),(0,ak.row (Row.I .i64 [z (au 0 (dq IntKind.i64 (aK .i64 i (iZ IntKind.i64 r)) (Int.ofNat l)) 5),z (ah (au 0 (dq IntKind.i64 (aK .i64 i (iZ IntKind.i64 r)) (Int.ofNat l)) 5) 1),z (ah (au 0 (dq IntKind.i64 (aK .i64 i (iZ IntKind.i64 r)) (Int.ofNat l)) 5) 2),z (ah (au 0 (dq IntKind.i64 (aK .i64 i (iZ IntKind.i64 r)) (Int.ofNat l)) 5) 3),z (ah (au 0 (dq IntKind.i64 (aK .i64 i (iZ IntKind.i64 r)) (Int.ofNat l)) 5) 4)])),(0,ak.row (Row.M [aL.arr .i64 (aB [z (au 0 (dq IntKind.i64 (aK .i64 i (iZ IntKind.i64 r)) (Int.ofNat l)) 5),z (ah (au 0 (dq IntKind.i64 (aK .i64 i (iZ IntKind.i64 r)) (Int.ofNat l)) 5) 1),z (ah (au 0 (dq IntKind.i64 (aK .i64 i (iZ IntKind.i64 r)) (Int.ofNat l)) 5) 2),z (ah (au 0 (dq IntKind.i64 (aK .i64 i (iZ IntKind.i64 r)) (Int.ofNat l)) 5) 3),z (ah (au 0 (dq IntKind.i64 (aK .i64 i (iZ IntKind.i64 r)) (Int.ofNat l)) 5) 4)]) 5]))] } :: H)))))))))))))))))))))))))) (Tr.ok (Ex.exit 0,[(0,aG 5 l z,none),(3,AV.int IntKind.u8 r,none),(11,AV.int .i64 t,none),(12,AV.int .i64 k,none),(13,AV.int .i64 u,none),(14,AV.nils,none),(15,AV.nils,none),(16,AV.nils,none),(17,AV.int .i64 i,none),(59,AV.bool false,some 1)],aC::H)):=by kernel_rfl
theorem t12 (n l v m:Nat) (z x y w:Nat→Int) (r t k u i:Int) (H:aa):aN (bp n 12 276) (il (iz aR 49 L5) n 0) aW aX (part Tryz.f12 [1,1,1,1,0,1,0,0]) (hints (lC l z r t k u (.slc 0 2 v 0 5 m none) (.slc 0 1 v 0 5 m none) (.slc 0 0 v 0 5 m none) i)) (⟨false,[gf v w m,gf v y m,gf v x m]⟩::H) =
 Tr.ite (df i (Int.ofNat l)) (Tr.req (dR i l) (Tr.req (bx (au 0 i 5) (aq l 5)) (Tr.req (bx (ah (au 0 i 5) 1) (aq l 5)) (Tr.req (bx (ah (au 0 i 5) 2) (aq l 5)) (Tr.req (bx (ah (au 0 i 5) 3) (aq l 5)) (Tr.req (bx (ah (au 0 i 5) 4) (aq l 5)) (Tr.reqP True (Tr.req (dJ m 1 40) (Tr.req (cM 0 0) (Tr.req (fA 1 1) (Tr.req (cM v v) (Tr.req (cM (ah 0 (aq m 5)) (aq m 5)) (Tr.reqP True (Tr.req (dJ m 1 40) (Tr.req (cM 0 0) (Tr.req (fA 1 1) (Tr.req (cM v v) (Tr.req (cM (ah 0 (aq m 5)) (aq m 5)) (Tr.req (bG (dD (Int.ofNat l) (Int.ofNat 0))) (Tr.req (dR (dq IntKind.i64 (aK .i64 i (iZ IntKind.i64 r)) (Int.ofNat l)) l) (Tr.req (bx (au 0 (dq IntKind.i64 (aK .i64 i (iZ IntKind.i64 r)) (Int.ofNat l)) 5) (aq l 5)) (Tr.req (bx (ah (au 0 (dq IntKind.i64 (aK .i64 i (iZ IntKind.i64 r)) (Int.ofNat l)) 5) 1) (aq l 5)) (Tr.req (bx (ah (au 0 (dq IntKind.i64 (aK .i64 i (iZ IntKind.i64 r)) (Int.ofNat l)) 5) 2) (aq l 5)) (Tr.req (bx (ah (au 0 (dq IntKind.i64 (aK .i64 i (iZ IntKind.i64 r)) (Int.ofNat l)) 5) 3) (aq l 5)) (Tr.req (bx (ah (au 0 (dq IntKind.i64 (aK .i64 i (iZ IntKind.i64 r)) (Int.ofNat l)) 5) 4) (aq l 5)) (Tr.req (dJ m 1 40) (Tr.req (cM 0 0) (Tr.req (fA 1 1) (Tr.req (cM v v) (Tr.req (cM (ah 0 (aq m 5)) (aq m 5)) (Tr.ok (Ex.normal,[(0,aG 5 l z,none),(3,AV.int IntKind.u8 r,none),(11,AV.int .i64 t,none),(12,AV.int .i64 k,none),(13,AV.int .i64 u,none),(14,AV.slc 0 2 (Nat.succ v) 0 5 (ah m 1) none,none),(15,AV.slc 0 1 (Nat.succ v) 0 5 (ah m 1) none,none),(16,AV.slc 0 0 (Nat.succ v) 0 5 (ah m 1) none,none),(17,AV.int .i64 (aK .i64 i (Int.ofNat 1)),none)],{ lock:=false,bs:=[(Nat.succ v,ak.row (Row.M [aL.arr .i64 (iE (fE w 0) (aq m 5) (aB [z (au 0 (dq IntKind.i64 (aK .i64 i (iZ IntKind.i64 r)) (Int.ofNat l)) 5),z (ah (au 0 (dq IntKind.i64 (aK .i64 i (iZ IntKind.i64 r)) (Int.ofNat l)) 5) 1),z (ah (au 0 (dq IntKind.i64 (aK .i64 i (iZ IntKind.i64 r)) (Int.ofNat l)) 5) 2),z (ah (au 0 (dq IntKind.i64 (aK .i64 i (iZ IntKind.i64 r)) (Int.ofNat l)) 5) 3),z (ah (au 0 (dq IntKind.i64 (aK .i64 i (iZ IntKind.i64 r)) (Int.ofNat l)) 5) 4)])) (ah (aq m 5) 5)])),(Nat.succ v,ak.row (Row.M [aL.arr .i64 (iE (fE y 0) (aq m 5) (aB [z (au 0 i 5),z (ah (au 0 i 5) 1),z (ah (au 0 i 5) 2),z (ah (au 0 i 5) 3),oG .i64 t (z (ah (au 0 i 5) 4))])) (ah (aq m 5) 5)])),(Nat.succ v,ak.row (Row.M [aL.arr .i64 (iE (fE x 0) (aq m 5) (aB [aK .i64 (z (au 0 i 5)) u,aK .i64 (z (ah (au 0 i 5) 1)) u,z (ah (au 0 i 5) 2),z (ah (au 0 i 5) 3),z (ah (au 0 i 5) 4)])) (ah (aq m 5) 5)])),(0,ak.row (Row.I .i64 [z (au 0 i 5),z (ah (au 0 i 5) 1),z (ah (au 0 i 5) 2),z (ah (au 0 i 5) 3),z (ah (au 0 i 5) 4)])),(0,ak.row (Row.I .i64 [aK .i64 (z (au 0 i 5)) u,aK .i64 (z (ah (au 0 i 5) 1)) u,z (ah (au 0 i 5) 2),z (ah (au 0 i 5) 3),z (ah (au 0 i 5) 4)])),(0,ak.row (Row.I .i64 [z (au 0 i 5),z (ah (au 0 i 5) 1),z (ah (au 0 i 5) 2),z (ah (au 0 i 5) 3),oG .i64 t (z (ah (au 0 i 5) 4))])),(0,ak.row (Row.I .i64 [z (au 0 (dq IntKind.i64 (aK .i64 i (iZ IntKind.i64 r)) (Int.ofNat l)) 5),z (ah (au 0 (dq IntKind.i64 (aK .i64 i (iZ IntKind.i64 r)) (Int.ofNat l)) 5) 1),z (ah (au 0 (dq IntKind.i64 (aK .i64 i (iZ IntKind.i64 r)) (Int.ofNat l)) 5) 2),z (ah (au 0 (dq IntKind.i64 (aK .i64 i (iZ IntKind.i64 r)) (Int.ofNat l)) 5) 3),z (ah (au 0 (dq IntKind.i64 (aK .i64 i (iZ IntKind.i64 r)) (Int.ofNat l)) 5) 4)]))] } :: H)))))))))))))))))))))))))))))))) (Tr.ok (Ex.exit 0,[(0,aG 5 l z,none),(3,AV.int IntKind.u8 r,none),(11,AV.int .i64 t,none),(12,AV.int .i64 k,none),(13,AV.int .i64 u,none),(14,AV.slc 0 2 v 0 5 m none,none),(15,AV.slc 0 1 v 0 5 m none,none),(16,AV.slc 0 0 v 0 5 m none,none),(17,AV.int .i64 i,none),(59,AV.bool false,some 1)],{ lock:=false,bs:=[(v,ak.row (Row.M [aL.arr .i64 w (aq m 5)])),(v,ak.row (Row.M [aL.arr .i64 y (aq m 5)])),(v,ak.row (Row.M [aL.arr .i64 x (aq m 5)]))] } :: H)):=by kernel_rfl
theorem QM (n l v m:Nat) (z x y w:Nat→Int) (r t k u i:Int) (H:aa):aN (bp n 12 276) (il aR n 0) aW aX (part Tryz.f12 [1,1,1,1,0,1,0,0]) (hints (lC l z r t k u (.slc 0 2 v 0 5 m none) (.slc 0 1 v 0 5 m none) (.slc 0 0 v 0 5 m none) i)) (⟨false,[gf v w m,gf v y m,gf v x m]⟩::H) =
 Tr.ite (df i (Int.ofNat l)) (Tr.req (dR i l) (Tr.req (bx (au 0 i 5) (aq l 5)) (Tr.req (bx (ah (au 0 i 5) 1) (aq l 5)) (Tr.req (bx (ah (au 0 i 5) 2) (aq l 5)) (Tr.req (bx (ah (au 0 i 5) 3) (aq l 5)) (Tr.req (bx (ah (au 0 i 5) 4) (aq l 5)) Tr.bad)))))) (Tr.ok (Ex.exit 0,[(0,aG 5 l z,none),(3,AV.int IntKind.u8 r,none),(11,AV.int .i64 t,none),(12,AV.int .i64 k,none),(13,AV.int .i64 u,none),(14,AV.slc 0 2 v 0 5 m none,none),(15,AV.slc 0 1 v 0 5 m none,none),(16,AV.slc 0 0 v 0 5 m none,none),(17,AV.int .i64 i,none),(59,AV.bool false,some 1)],{ lock:=false,bs:=[(v,ak.row (Row.M [aL.arr .i64 w (aq m 5)])),(v,ak.row (Row.M [aL.arr .i64 y (aq m 5)])),(v,ak.row (Row.M [aL.arr .i64 x (aq m 5)]))] } :: H)):=by kernel_rfl
theorem Qm (n l v:Nat) (z x y w:Nat→Int) (r t k u:Int) (p:Nat→(Nat→Int)→Nat) (A:Nat→(Nat→Int)→Nat→Int) (Q:Nat→(Nat→Int)→Prop) (Q36:Nat→(Nat→Int)→Int→Prop) (M:Nat→(Nat→Int)→Int→Int) (W:Nat→(Nat→Int)→Int→AV):aN (bp n 12 276) (il (fS (tX (iz aR 23 (Lk Q (fun l z=>.tup [bD (p l z) (A l z) true,.int .i64 0]))) 31 [bD (p l z) (A l z) true,bD (p l w) (A l w) true] (.bool true)) 36 (Jb Q36 M W)) n 0) aW aX (chain [part Tryz.f12 [1,1,1,1,1,0],part Tryz.f12 [1,1,1,1,1,1,0],part Tryz.f12 [1,1,1,1,1,1,1,0],part Tryz.f12 [1,1,1,1,1,1,1,1,0],part Tryz.f12 [1,1,1,1,1,1,1,1,1,0]]) (hints (lC l z r t k u (.slc 0 2 v 0 5 l none) (.slc 0 1 v 0 5 l none) (.slc 0 0 v 0 5 l none) (Int.ofNat l)++[(59,.bool false)])) [⟨false,[gf v w l,gf v y l,gf v x l]⟩,⟨true,[]⟩] =
 (fun (Z0:bm)=>Tr.reqP (aq l 5=aq l 5∧Q l z) (Tr.req (cM v v) (Tr.req (la 0 (aq l 5) 0 (aq l 5)) (Tr.req (cM v v) (Tr.req (la 0 (aq l 5) 0 (aq l 5)) (Tr.req (cM v v) (Tr.req (la 0 (aq l 5) 0 (aq l 5)) (Tr.reqP (aq l 5=aq l 5∧Q l (fE w 0)) (Tr.reqP (aq l 5=aq l 5∧Q36 l z k) (Tr.reqP (aq l 5=aq l 5∧Q36 l (fE w 0) k) (Tr.reqP ([AV.slcT none (Row.M [aL.arr .i64 (A l z) (p l z)]) 1 (p l z) true,AV.slcT none (Row.M [aL.arr .i64 (A l (fE w 0)) (p l (fE w 0))]) 1 (p l (fE w 0)) true]=[AV.slcT none (Row.M [aL.arr .i64 (A l z) (p l z)]) 1 (p l z) true,AV.slcT none (Row.M [aL.arr .i64 (A l w) (p l w)]) 1 (p l w) true]) (Tr.ite (bG true) (Tr.ok (Ex.ret,[(10,AV.bool false,some 1)],[Z0,{ lock:=true,bs:=[] }])) (Tr.ite (bG (dD (Int.ofNat 0) (Int.ofNat 0))) (Tr.ok (Ex.ret,[(10,AV.bool false,some 1)],[Z0,{ lock:=true,bs:=[] }])) (Tr.ite (bG (dD (Int.ofNat 0) (Int.ofNat 0))) (Tr.ok (Ex.ret,[(10,AV.bool false,some 1)],[Z0,{ lock:=true,bs:=[] }])) (Tr.ite (bG (dD (Int.ofNat 0) (Int.ofNat 0))) (Tr.ok (Ex.ret,[(10,AV.bool false,some 1)],[Z0,{ lock:=true,bs:=[] }])) (Tr.ite (bG (dD (M l z k) (M l (fE w 0) k))) (Tr.ok (Ex.ret,[(10,AV.bool false,some 1)],[Z0,{ lock:=true,bs:=[] }])) (Tr.ok (Ex.normal,[(0,aG 5 l z,none),(11,AV.int .i64 t,none),(12,AV.int .i64 k,none),(13,AV.int .i64 u,none),(14,AV.slcT none (Row.M [aL.arr .i64 (fE x 0) (aq l 5)]) 5 l false,none),(15,AV.slcT none (Row.M [aL.arr .i64 (fE y 0) (aq l 5)]) 5 l false,none),(19,AV.slcT none (Row.M [aL.arr .i64 (A l z) (p l z)]) 1 (p l z) true,none),(20,AV.int .i64 (Int.ofNat 0),none),(23,AV.int .i64 (M l z k),none),(166,AV.bool false,some 1)],[Z0,{ lock:=true,bs:=[] }])))))))))))))))))) { lock:=false,bs:=[(v,ak.dead),(v,ak.dead),(v,ak.dead)] }:=by kernel_rfl
theorem Qn (n l v:Nat) (z x y w:Nat→Int) (r t k u:Int) (Q:Nat→(Nat→Int)→Prop) (Q36:Nat→(Nat→Int)→Int→Prop) (M:Nat→(Nat→Int)→Int→Int) (W:Nat→(Nat→Int)→Int→AV):aN (bp n 12 276) (il (fS (tX (iz aR 23 (Lk Q (fun l z=>.tup [.nils,.int .i64 22]))) 31 [.nils,.nils] (.bool true)) 36 (Jb Q36 M W)) n 0) aW aX (chain [part Tryz.f12 [1,1,1,1,1,0],part Tryz.f12 [1,1,1,1,1,1,0],part Tryz.f12 [1,1,1,1,1,1,1,0],part Tryz.f12 [1,1,1,1,1,1,1,1,0],part Tryz.f12 [1,1,1,1,1,1,1,1,1,0]]) (hints (lC l z r t k u (.slc 0 2 v 0 5 l none) (.slc 0 1 v 0 5 l none) (.slc 0 0 v 0 5 l none) (Int.ofNat l)++[(59,.bool false)])) [⟨false,[gf v w l,gf v y l,gf v x l]⟩,⟨true,[]⟩] =
 (fun (Z0:bm)=>Tr.reqP (aq l 5=aq l 5∧Q l z) (Tr.req (cM v v) (Tr.req (la 0 (aq l 5) 0 (aq l 5)) (Tr.req (cM v v) (Tr.req (la 0 (aq l 5) 0 (aq l 5)) (Tr.req (cM v v) (Tr.req (la 0 (aq l 5) 0 (aq l 5)) (Tr.reqP (aq l 5=aq l 5∧Q l (fE w 0)) (Tr.reqP (aq l 5=aq l 5∧Q36 l z k) (Tr.reqP (aq l 5=aq l 5∧Q36 l (fE w 0) k) (Tr.reqP ([AV.nils,AV.nils]=[AV.nils,AV.nils]) (Tr.ite (bG true) (Tr.ok (Ex.ret,[(10,AV.bool false,some 1)],[Z0,{ lock:=true,bs:=[] }])) (Tr.ite (bG (dD (Int.ofNat 22) (Int.ofNat 22))) (Tr.ok (Ex.ret,[(10,AV.bool false,some 1)],[Z0,{ lock:=true,bs:=[] }])) (Tr.ite (bG (dD (Int.ofNat 0) (Int.ofNat 0))) (Tr.ok (Ex.ret,[(10,AV.bool false,some 1)],[Z0,{ lock:=true,bs:=[] }])) (Tr.ite (bG (dD (Int.ofNat 0) (Int.ofNat 0))) (Tr.ok (Ex.ret,[(10,AV.bool false,some 1)],[Z0,{ lock:=true,bs:=[] }])) (Tr.ite (bG (dD (M l z k) (M l (fE w 0) k))) (Tr.ok (Ex.ret,[(10,AV.bool false,some 1)],[Z0,{ lock:=true,bs:=[] }])) (Tr.ok (Ex.normal,[(0,aG 5 l z,none),(11,AV.int .i64 t,none),(12,AV.int .i64 k,none),(13,AV.int .i64 u,none),(14,AV.slcT none (Row.M [aL.arr .i64 (fE x 0) (aq l 5)]) 5 l false,none),(15,AV.slcT none (Row.M [aL.arr .i64 (fE y 0) (aq l 5)]) 5 l false,none),(19,AV.nils,none),(20,AV.int .i64 (Int.ofNat 22),none),(23,AV.int .i64 (M l z k),none),(166,AV.bool false,some 1)],[Z0,{ lock:=true,bs:=[] }])))))))))))))))))) { lock:=false,bs:=[(v,ak.dead),(v,ak.dead),(v,ak.dead)] }:=by kernel_rfl
theorem Jm (n l:Nat) (z x y:Nat→Int) (t k u e M0:Int) (p:Nat) (A:Nat→Int) (fin:Nat→(Nat→Int)→Bool) (Q36:Nat→(Nat→Int)→Int→Prop) (M:Nat→(Nat→Int)→Int→Int) (W:Nat→(Nat→Int)→Int→AV) (L:bm):aN (bp n 12 276) (il (fS (iz (iz aR 15 Ja) 41 (Lk (fun _ _=>True) (fun l z=>.bool (fin l z)))) 36 (Jb Q36 M W)) n 0) aW aX (chain [part Tryz.f12 [1,1,1,1,1,1,1,1,1,1,0],part Tryz.f12 [1,1,1,1,1,1,1,1,1,1,1,0]]) (hints ([(0,aG 5 l z),(11,.int .i64 t),(12,.int .i64 k),(13,.int .i64 u),(14,aG 5 l x),(15,aG 5 l y),(19,bD p A true),(20,.int .i64 e),(23,.int .i64 M0),(166,.bool false)])) [L,⟨true,[]⟩] =
 (fun (Z0:aT)=>Tr.reqP (aq l 5=aq l 5∧True) (Tr.ite (fin l y) (Tr.reqP (aq l 5=aq l 5∧Q36 l y k) (Tr.ite (bG (dD (Int.ofNat 0) (Int.ofNat 0))) (Tr.ok (Ex.ret,[(10,AV.bool false,some 1)],[L,{ lock:=true,bs:=[] }])) (Tr.ite (bG (dD (M l y k) (oG .i64 t M0))) (Tr.ok (Ex.ret,[(10,AV.bool false,some 1)],[L,{ lock:=true,bs:=[] }])) (Tr.reqP (aq l 5=aq l 5∧True) (Tr.ite (bG (fin l x)) (Tr.reqP True (Tr.ok (Ex.ret,[(10,AV.bool true,none)],[L,{ lock:=true,bs:=[] }]))) (Tr.ok (Ex.normal,Z0,[L,{ lock:=true,bs:=[] }]))))))) (Tr.reqP (aq l 5=aq l 5∧True) (Tr.ite (bG (fin l x)) (Tr.reqP True (Tr.ok (Ex.ret,[(10,AV.bool true,none)],[L,{ lock:=true,bs:=[] }]))) (Tr.ok (Ex.normal,Z0,[L,{ lock:=true,bs:=[] }])))))) [(0,aG 5 l z,none),(12,AV.int .i64 k,none),(13,AV.int .i64 u,none),(14,AV.slcT none (Row.M [aL.arr .i64 x (aq l 5)]) 5 l false,none),(19,AV.slcT none (Row.M [aL.arr .i64 A p]) 1 p true,none),(20,AV.int .i64 e,none),(23,AV.int .i64 M0,none),(187,AV.bool false,some 1)]:=by kernel_rfl
theorem MH (n l:Nat) (z x:Nat→Int) (k u e e2 M0:Int) (p:Nat) (A:Nat→Int) (p2:Nat) (A2:Nat→Int) (Q36:Nat→(Nat→Int)→Int→Prop) (M:Nat→(Nat→Int)→Int→Int) (W:Nat→(Nat→Int)→Int→AV) (L:bm):aN (bp n 12 276) (il (fS (tX aR 23 [aG 5 l x] (.tup [bD p2 A2 true,.int .i64 e2])) 36 (Jb Q36 M W)) n 0) aW aX (chain [part Tryz.f12 [1,1,1,1,1,1,1,1,1,1,1,1,0],part Tryz.f12 [1,1,1,1,1,1,1,1,1,1,1,1,1,0],part Tryz.f12 [1,1,1,1,1,1,1,1,1,1,1,1,1,1,0]]) (hints ([(0,aG 5 l z),(12,.int .i64 k),(13,.int .i64 u),(14,aG 5 l x),(19,bD p A true),(20,.int .i64 e),(23,.int .i64 M0),(187,.bool false)])) [L,⟨true,[]⟩] =
 Tr.reqP ([AV.slcT none (Row.M [aL.arr .i64 x (aq l 5)]) 5 l false]=[AV.slcT none (Row.M [aL.arr .i64 x (aq l 5)]) 5 l false]) (Tr.reqP (aq l 5=aq l 5∧Q36 l x k) (Tr.ite (bG (dD e2 e)) (Tr.ok (Ex.ret,[(10,AV.bool false,some 1)],[L,{ lock:=true,bs:=[] }])) (Tr.ite (bG (dD (Int.ofNat p2) (Int.ofNat p))) (Tr.ok (Ex.ret,[(10,AV.bool false,some 1)],[L,{ lock:=true,bs:=[] }])) (Tr.ite (bG (dD (Int.ofNat 0) (Int.ofNat 0))) (Tr.ok (Ex.ret,[(10,AV.bool false,some 1)],[L,{ lock:=true,bs:=[] }])) (Tr.ite (bG (dD (M l x k) M0)) (Tr.ok (Ex.ret,[(10,AV.bool false,some 1)],[L,{ lock:=true,bs:=[] }])) (Tr.ok (Ex.normal,[(0,aG 5 l z,none),(13,AV.int .i64 u,none),(14,AV.slcT none (Row.M [aL.arr .i64 x (aq l 5)]) 5 l false,none),(19,AV.slcT none (Row.M [aL.arr .i64 A p]) 1 p true,none),(32,AV.slcT none (Row.M [aL.arr .i64 A2 p2]) 1 p2 true,none),(219,AV.bool false,some 1)],[L,{ lock:=true,bs:=[] }]))))))):=by kernel_rfl
theorem Jn (n l:Nat) (z x y:Nat→Int) (t k u e M0:Int) (fin:Nat→(Nat→Int)→Bool) (Q36:Nat→(Nat→Int)→Int→Prop) (M:Nat→(Nat→Int)→Int→Int) (W:Nat→(Nat→Int)→Int→AV) (L:bm):aN (bp n 12 276) (il (fS (iz (iz aR 15 Ja) 41 (Lk (fun _ _=>True) (fun l z=>.bool (fin l z)))) 36 (Jb Q36 M W)) n 0) aW aX (chain [part Tryz.f12 [1,1,1,1,1,1,1,1,1,1,0],part Tryz.f12 [1,1,1,1,1,1,1,1,1,1,1,0]]) (hints ([(0,aG 5 l z),(11,.int .i64 t),(12,.int .i64 k),(13,.int .i64 u),(14,aG 5 l x),(15,aG 5 l y),(19,.nils),(20,.int .i64 e),(23,.int .i64 M0),(166,.bool false)])) [L,⟨true,[]⟩] =
 (fun (Z0:aT)=>Tr.reqP (aq l 5=aq l 5∧True) (Tr.ite (fin l y) (Tr.reqP (aq l 5=aq l 5∧Q36 l y k) (Tr.ite (bG (dD (Int.ofNat 0) (Int.ofNat 0))) (Tr.ok (Ex.ret,[(10,AV.bool false,some 1)],[L,{ lock:=true,bs:=[] }])) (Tr.ite (bG (dD (M l y k) (oG .i64 t M0))) (Tr.ok (Ex.ret,[(10,AV.bool false,some 1)],[L,{ lock:=true,bs:=[] }])) (Tr.reqP (aq l 5=aq l 5∧True) (Tr.ite (bG (fin l x)) (Tr.reqP True (Tr.ok (Ex.ret,[(10,AV.bool true,none)],[L,{ lock:=true,bs:=[] }]))) (Tr.ok (Ex.normal,Z0,[L,{ lock:=true,bs:=[] }]))))))) (Tr.reqP (aq l 5=aq l 5∧True) (Tr.ite (bG (fin l x)) (Tr.reqP True (Tr.ok (Ex.ret,[(10,AV.bool true,none)],[L,{ lock:=true,bs:=[] }]))) (Tr.ok (Ex.normal,Z0,[L,{ lock:=true,bs:=[] }])))))) [(0,aG 5 l z,none),(12,AV.int .i64 k,none),(13,AV.int .i64 u,none),(14,AV.slcT none (Row.M [aL.arr .i64 x (aq l 5)]) 5 l false,none),(19,AV.nils,none),(20,AV.int .i64 e,none),(23,AV.int .i64 M0,none),(187,AV.bool false,some 1)]:=by kernel_rfl
theorem MI (n l:Nat) (z x:Nat→Int) (k u e e2 M0:Int) (Q36:Nat→(Nat→Int)→Int→Prop) (M:Nat→(Nat→Int)→Int→Int) (W:Nat→(Nat→Int)→Int→AV) (L:bm):aN (bp n 12 276) (il (fS (tX aR 23 [aG 5 l x] (.tup [.nils,.int .i64 e2])) 36 (Jb Q36 M W)) n 0) aW aX (chain [part Tryz.f12 [1,1,1,1,1,1,1,1,1,1,1,1,0],part Tryz.f12 [1,1,1,1,1,1,1,1,1,1,1,1,1,0],part Tryz.f12 [1,1,1,1,1,1,1,1,1,1,1,1,1,1,0]]) (hints ([(0,aG 5 l z),(12,.int .i64 k),(13,.int .i64 u),(14,aG 5 l x),(19,.nils),(20,.int .i64 e),(23,.int .i64 M0),(187,.bool false)])) [L,⟨true,[]⟩] =
 Tr.reqP ([AV.slcT none (Row.M [aL.arr .i64 x (aq l 5)]) 5 l false]=[AV.slcT none (Row.M [aL.arr .i64 x (aq l 5)]) 5 l false]) (Tr.reqP (aq l 5=aq l 5∧Q36 l x k) (Tr.ite (bG (dD e2 e)) (Tr.ok (Ex.ret,[(10,AV.bool false,some 1)],[L,{ lock:=true,bs:=[] }])) (Tr.ite (bG (dD (Int.ofNat 0) (Int.ofNat 0))) (Tr.ok (Ex.ret,[(10,AV.bool false,some 1)],[L,{ lock:=true,bs:=[] }])) (Tr.ite (bG (dD (M l x k) M0)) (Tr.ok (Ex.ret,[(10,AV.bool false,some 1)],[L,{ lock:=true,bs:=[] }])) (Tr.ok (Ex.normal,[(0,aG 5 l z,none),(13,AV.int .i64 u,none),(14,AV.slcT none (Row.M [aL.arr .i64 x (aq l 5)]) 5 l false,none),(19,AV.nils,none),(32,AV.nils,none),(219,AV.bool false,some 1)],[L,{ lock:=true,bs:=[] }])))))):=by kernel_rfl
theorem No (n l p p2:Nat) (z x A A2:Nat→Int) (u i:Int) (v:Nat) (H:aa):aN (bp n 12 276) (il aR n 0) aW aX (part Tryz.f12 [1,1,1,1,1,1,1,1,1,1,1,1,1,1,1,0,1,0,0]) (hints (eW l z x u (bD p A true) (bD p2 A2 true) i)) (gW v::H) =
 (fun (Z0:bm)=>Tr.ite (df i (Int.ofNat p2)) (Tr.req (dR i p2) (Tr.req (bx (au 0 i 1) p2) (Tr.req (dR i p) (Tr.req (bx (au 0 i 1) p) (Tr.ite (bG (dD (A2 (au 0 i 1)) (aK .i64 (A (au 0 i 1)) u))) (Tr.ok (Ex.ret,[(10,AV.bool false,some 1)],Z0::H)) (Tr.ok (Ex.normal,[(0,aG 5 l z,none),(13,AV.int .i64 u,none),(14,AV.slcT none (Row.M [aL.arr .i64 x (aq l 5)]) 5 l false,none),(19,AV.slcT none (Row.M [aL.arr .i64 A p]) 1 p true,none),(32,AV.slcT none (Row.M [aL.arr .i64 A2 p2]) 1 p2 true,none),(37,AV.int .i64 (aK .i64 i (Int.ofNat 1)),none)],Z0::H))))))) (Tr.ok (Ex.exit 2,[(0,aG 5 l z,none),(13,AV.int .i64 u,none),(14,AV.slcT none (Row.M [aL.arr .i64 x (aq l 5)]) 5 l false,none),(19,AV.slcT none (Row.M [aL.arr .i64 A p]) 1 p true,none),(32,AV.slcT none (Row.M [aL.arr .i64 A2 p2]) 1 p2 true,none),(37,AV.int .i64 i,none),(223,AV.bool false,some 1)],Z0::H))) { lock:=false,bs:=[(v,ak.dead),(v,ak.dead),(v,ak.dead)] }:=by kernel_rfl
theorem QK (n l:Nat) (z x:Nat→Int) (u i:Int) (L:bm) (H:aa):aN (bp n 12 276) (il aR n 0) aW aX (part Tryz.f12 [1,1,1,1,1,1,1,1,1,1,1,1,1,1,1,0,1,0,0]) (hints (eW l z x u .nils .nils i)) (L::H) =
 Tr.ite (df i (Int.ofNat 0)) Tr.bad (Tr.ok (Ex.exit 2,[(0,aG 5 l z,none),(13,AV.int .i64 u,none),(14,AV.slcT none (Row.M [aL.arr .i64 x (aq l 5)]) 5 l false,none),(19,AV.nils,none),(32,AV.nils,none),(37,AV.int .i64 i,none),(223,AV.bool false,some 1)],L::H)):=by kernel_rfl
theorem MJ (n l p p2:Nat) (z x A A2:Nat→Int) (u:Int) (L:bm) (H:aa):aN (bp n 12 276) (il aR n 0) (eP aW 2 (eW l z x u (bD p A true) (bD p2 A2 true) (Int.ofNat 0)) (L::H) (.ok (.normal,hints (eW l z x u (bD p A true) (bD p2 A2 true) (Int.ofNat p2)++[(223,.bool false)]),L::H))) aX (part Tryz.f12 [1,1,1,1,1,1,1,1,1,1,1,1,1,1,1,0]) (hints [(0,aG 5 l z),(13,.int .i64 u),(14,aG 5 l x),(19,bD p A true),(32,bD p2 A2 true),(219,.bool false)]) (L::H) =
 (fun (Z0:ay)=>Tr.reqP (Z0=Z0∧L::H=L::H) (Tr.ok (Ex.normal,[(0,aG 5 l z,none),(13,AV.int .i64 u,none),(14,AV.slcT none (Row.M [aL.arr .i64 x (aq l 5)]) 5 l false,none),(19,AV.slcT none (Row.M [aL.arr .i64 A p]) 1 p true,none),(32,AV.slcT none (Row.M [aL.arr .i64 A2 p2]) 1 p2 true,none),(37,AV.int .i64 (Int.ofNat p2),none),(223,AV.bool false,none)],L::H))) [(0,aG 5 l z),(13,AV.int .i64 u),(14,AV.slcT none (Row.M [aL.arr .i64 x (aq l 5)]) 5 l false),(19,AV.slcT none (Row.M [aL.arr .i64 A p]) 1 p true),(32,AV.slcT none (Row.M [aL.arr .i64 A2 p2]) 1 p2 true),(37,AV.int .i64 (Int.ofNat 0))]:=by kernel_rfl
theorem ML (n l:Nat) (z x:Nat→Int) (u:Int) (L:bm) (H:aa):aN (bp n 12 276) (il aR n 0) (eP aW 2 (eW l z x u .nils .nils (Int.ofNat 0)) (L::H) (.ok (.normal,hints (eW l z x u .nils .nils (Int.ofNat 0)++[(223,.bool false)]),L::H))) aX (part Tryz.f12 [1,1,1,1,1,1,1,1,1,1,1,1,1,1,1,0]) (hints [(0,aG 5 l z),(13,.int .i64 u),(14,aG 5 l x),(19,.nils),(32,.nils),(219,.bool false)]) (L::H) =
 (fun (Z0:ay)=>Tr.reqP (Z0=Z0∧L::H=L::H) (Tr.ok (Ex.normal,[(0,aG 5 l z,none),(13,AV.int .i64 u,none),(14,AV.slcT none (Row.M [aL.arr .i64 x (aq l 5)]) 5 l false,none),(19,AV.nils,none),(32,AV.nils,none),(37,AV.int .i64 (Int.ofNat 0),none),(223,AV.bool false,none)],L::H))) [(0,aG 5 l z),(13,AV.int .i64 u),(14,AV.slcT none (Row.M [aL.arr .i64 x (aq l 5)]) 5 l false),(19,AV.nils),(32,AV.nils),(37,AV.int .i64 (Int.ofNat 0))]:=by kernel_rfl
theorem Np (n l v:Nat) (z x:Nat→Int) (u i:Int) (R1 R2 R3:Nat→(Nat→Int)→Int→Int) (Q16:Nat→(Nat→Int)→Int→Prop) (H:aa):aN (bp n 12 276) (il (iz (iz aR 48 Ob) 16 (OV Q16 (fun l z q=>.tup [.agg (.I .i64 [R1 l z q,R2 l z q]),.int .i64 (R3 l z q)]))) n 0) aW aX (part Tryz.f12 [1,1,1,1,1,1,1,1,1,1,1,1,1,1,1,1,0,1,0,0]) (hints (nQ l z x u i)) (gW v::H) =
 (fun (Z0:bm)=>((fun (Z1:aT)=>Tr.ite (df i (Int.ofNat l)) (Tr.reqP (aq l 5=aq l 5∧Q16 l z i) (Tr.reqP (aq l 5=aq l 5∧Q16 l x i) (Tr.ite (bG (dD (R3 l z i) (R3 l x i))) (Tr.ok (Ex.ret,[(10,AV.bool false,some 1)],Z0::H)) (Tr.ite (dD (R3 l z i) (Int.ofNat 0)) (Tr.reqP True (Tr.ite (bG (gJ (dD (R1 l x i) (aK .i64 (R1 l z i) u)) (dD (R2 l x i) (aK .i64 (R2 l z i) u)))) (Tr.ok (Ex.ret,[(10,AV.bool false,some 1)],Z0::H)) (Tr.ok (Ex.normal,Z1,Z0::H)))) (Tr.ok (Ex.normal,Z1,Z0::H)))))) (Tr.ok (Ex.exit 4,[(0,aG 5 l z,none),(13,AV.int .i64 u,none),(14,AV.slcT none (Row.M [aL.arr .i64 x (aq l 5)]) 5 l false,none),(38,AV.int .i64 i,none),(240,AV.bool false,some 1)],{ lock:=false,bs:=[(v,ak.dead),(v,ak.dead),(v,ak.dead)] } :: H))) [(0,aG 5 l z,none),(13,AV.int .i64 u,none),(14,AV.slcT none (Row.M [aL.arr .i64 x (aq l 5)]) 5 l false,none),(38,AV.int .i64 (aK .i64 i (Int.ofNat 1)),none)])) { lock:=false,bs:=[(v,ak.dead),(v,ak.dead),(v,ak.dead),(0,ak.row (Row.I .i64 [R1 l z i,R2 l z i])),(0,ak.row (Row.I .i64 [R1 l x i,R2 l x i]))] }:=by kernel_rfl
theorem MM (n l v p p2:Nat) (z x A A2:Nat→Int) (u:Int) (H:aa):aN (bp n 12 276) (il (iz aR 15 Ja) n 0) (eP aW 4 (nQ l z x u (Int.ofNat 0)) (gW v::H) (.ok (.normal,hints (nQ l z x u (Int.ofNat l)++[(240,.bool false)]),gW v::H))) aX (chain [part Tryz.f12 [1,1,1,1,1,1,1,1,1,1,1,1,1,1,1,1,0],part Tryz.f12 [1,1,1,1,1,1,1,1,1,1,1,1,1,1,1,1,1]]) (hints (eW l z x u (bD p A true) (bD p2 A2 true) (Int.ofNat p2)++[(223,.bool false)])) (gW v::H) =
 (fun (Z0:bm)=>((fun (Z1:ay)=>Tr.reqP (Z1=Z1∧Z0::H=Z0::H) (Tr.reqP True (Tr.ok (Ex.ret,[(10,AV.bool true,none)],Z0::H)))) [(0,aG 5 l z),(13,AV.int .i64 u),(14,AV.slcT none (Row.M [aL.arr .i64 x (aq l 5)]) 5 l false),(38,AV.int .i64 (Int.ofNat 0))])) { lock:=false,bs:=[(v,ak.dead),(v,ak.dead),(v,ak.dead)] }:=by kernel_rfl
theorem MN (n l v:Nat) (z x:Nat→Int) (u:Int) (H:aa):aN (bp n 12 276) (il (iz aR 15 Ja) n 0) (eP aW 4 (nQ l z x u (Int.ofNat 0)) (gW v::H) (.ok (.normal,hints (nQ l z x u (Int.ofNat l)++[(240,.bool false)]),gW v::H))) aX (chain [part Tryz.f12 [1,1,1,1,1,1,1,1,1,1,1,1,1,1,1,1,0],part Tryz.f12 [1,1,1,1,1,1,1,1,1,1,1,1,1,1,1,1,1]]) (hints (eW l z x u .nils .nils (Int.ofNat 0)++[(223,.bool false)])) (gW v::H) =
 (fun (Z0:bm)=>((fun (Z1:ay)=>Tr.reqP (Z1=Z1∧Z0::H=Z0::H) (Tr.reqP True (Tr.ok (Ex.ret,[(10,AV.bool true,none)],Z0::H)))) [(0,aG 5 l z),(13,AV.int .i64 u),(14,AV.slcT none (Row.M [aL.arr .i64 x (aq l 5)]) 5 l false),(38,AV.int .i64 (Int.ofNat 0))])) { lock:=false,bs:=[(v,ak.dead),(v,ak.dead),(v,ak.dead)] }:=by kernel_rfl
end Go.Eng
end
section
namespace Go.Eng
open Go.Proofs
theorem Uq (n:Nat) (a b c d e:Int) (H:aa):bu Tryz.prog (cd n) 100000 49 Tryz.f49 (KtB.kt 49) (il (iz aR 48 Ob) n 0) aW aX [(.int .i64 a,none),(.int .i64 b,none),(.int .i64 c,none),(.int .i64 d,none),(.int .i64 e,none)] H =
 Tr.reqP True (Tr.reqP True (Tr.ok ((AV.agg (Row.I .i64 [a,b,c,d,e]),none),H))):=by kernel_rfl
def AU (z:Nat→Int) (u:Int) (i k:Nat):Int:=if k<2 then z (i*5+k)+u else z (i*5+k)
def Cd (z:Nat→Int) (t:Int) (i k:Nat):Int:=if k=4 then t*z (i*5+4) else z (i*5+k)
def Cc (z:Nat→Int) (l r:Nat) (i k:Nat):Int:=z ((i+r) % l*5+k)
noncomputable def rF (g:Nat→Nat→Int) (j:Nat) (i:Nat):Int:=if i<j*5 then g (i / 5) (i % 5) else 0
theorem wm (g:Nat→Nat→Int) {j i k:Nat} (hi:i<j) (hk:k<5):rF g j (i*5+k)=g i k:=by
 unfold rF
 rw[if_pos (by omega),show (i*5+k) / 5=i by omega,show (i*5+k) % 5=k by omega]
theorem OP (a b c d e:Int) (k:Nat):[a,b,c,d,e].getD k 0=if k=0 then a else if k=1 then b else if k=2 then c else if k=3 then d else if k=4 then e else 0:=by
 match k with
 | 0=>rfl
 | 1=>rfl
 | 2=>rfl
 | 3=>rfl
 | 4=>rfl
 | k+5=>simp
theorem xM (g:Nat→Nat→Int) (j:Nat) {a b c d e:Int} (h0:a=g j 0) (h1:b=g j 1) (h2:c=g j 2) (h3:d=g j 3) (h4:e=g j 4):iE (rF g j) (j*5) (aB [a,b,c,d,e])=rF g (j+1):=by
 rw[jN,fI]
 funext i
 dsimp only
 unfold rF
 by_cases h:i<j*5
 · rw[if_pos h,if_pos h,if_pos (by omega)]
 · rw[if_neg h,OP]
   by_cases h':i<(j+1)*5
   · rw[if_pos h',show i / 5=j by omega]
     have:i-j*5=i % 5:=by omega
     rw[this]
     have:i % 5<5:=by omega
     generalize i % 5=k at *
     match k,this with
     | 0,_=>exact h0
     | 1,_=>exact h1
     | 2,_=>exact h2
     | 3,_=>exact h3
     | 4,_=>exact h4
   · rw[if_neg h',if_neg (by omega),if_neg (by omega),if_neg (by omega),if_neg (by omega),if_neg (by omega)]
theorem Bj (g:Nat→Nat→Int) {a b c d e:Int} (h0:a=g 0 0) (h1:b=g 0 1) (h2:c=g 0 2) (h3:d=g 0 3) (h4:e=g 0 4):aB [a,b,c,d,e]=rF g 1:=by
 rw[← xM g 0 h0 h1 h2 h3 h4,jN]
 funext i;simp
noncomputable def oP (b:Nat):Nat→AV
 | 0=>.nils
 | j+1=>.slc 0 b j 0 5 (j+1) none
noncomputable def FJ (x y w:Nat→Nat→Int):Nat→bm
 | 0=>aC
 | j+1=>⟨false,[gf j (rF w (j+1)) (j+1),gf j (rF y (j+1)) (j+1),gf j (rF x (j+1)) (j+1)]⟩
theorem Sb (n:Nat) (args:List AV) (p:Prop) (v:AV) (hg:L5 args=some (p,v)) (H:aa):cd (n+2) (.fn 49) args H=some (v,H):=by
 unfold L5 at hg
 split at hg
 · rename_i a b c d e
   simp only[nP] at hg
   obtain ⟨_,rfl⟩:=hg
   exact ba (n:=n+1) Tryz.func49 rfl rfl rfl (Uq (n+1) a b c d e H) (cD _ _ (dQ (aO _) (fun args p v hg hp H=>Oy _ args p v hg H))) (af _ _) (ag _ _) (Tr.aw trivial (Tr.aw trivial (Tr.av ⟨rfl,rfl⟩)))
 · cases hg
theorem OW (l:Nat) (z:Nat→Int) (r t k u:Int) (x y w:Nat→Nat→Int) (H:aa):(lC l z r t k u (.slc 0 2 0 0 5 1 none) (.slc 0 1 0 0 5 1 none) (.slc 0 0 0 0 5 1 none) ((0+1:Nat):Int),(⟨false,[(0,.row (.M [.arr .i64 (rF w 1) 5])),(0,.row (.M [.arr .i64 (rF y 1) 5])),(0,.row (.M [.arr .i64 (rF x 1) 5]))]⟩:bm)::H)=(lC l z r t k u (oP 2 (0+1)) (oP 1 (0+1)) (oP 0 (0+1)) ((0+1:Nat):Int),FJ x y w (0+1)::H):=by
 show _=(lC l z r t k u _ _ _ _,(⟨false,[(0,.row (.M [.arr .i64 (rF w 1) (aq 1 5)])),(0,.row (.M [.arr .i64 (rF y 1) (aq 1 5)])),(0,.row (.M [.arr .i64 (rF x 1) (aq 1 5)]))]⟩:bm)::H)
 rw[KC];rfl
theorem PR (n l R:Nat) (z:Nat→Int) (r t k u:Int) (H:aa) (h:bh l z=0) (hr:iZ .i64 r=(R:Int)) (hR:R≤255) (ht:1≤t∧t≤5) (hu:0≤u∧u≤65535) :
 exec (bp (n+2) 12 276) (.block 0 (.loop (part Tryz.f12 [1,1,1,1,0,1,0,0]))) (lC l z r t k u .nils .nils .nils (Int.ofNat 0)) (aC::H)=some (.normal,lC l z r t k u (oP 2 l) (oP 1 l) (oP 0 l) (Int.ofNat l)++[(59,.bool false)],FJ (AU z u) (Cd z t) (Cc z l R) l::H):=by
 obtain ⟨hl,hz⟩:=bM h
 refine j9 0 (fun j=>lC l z r t k u (oP 2 j) (oP 1 j) (oP 0 j) (j:Nat)) (fun j=>FJ (AU z u) (Cd z t) (Cc z l R) j::H) l (lC l z r t k u (oP 2 l) (oP 1 l) (oP 0 l) (Int.ofNat l)++[(59,.bool false)],FJ (AU z u) (Cd z t) (Cc z l R) l::H) (by omega) (fun j hj=>?_) ?_
 · have hzj:=hz j hj
   have e1:aK .i64 (j:Int) (Int.ofNat 1)=((j+1:Nat):Int):=rV (by omega)
   have er:dq .i64 (aK .i64 (j:Int) (R:Int)) (Int.ofNat l)=(((j+R) % l:Nat):Int):=by
    rw[bH,cr (by omega) (by omega),xO (by omega)]
    show ((j:Int)+(R:Int)) % (l:Int)=_
    rw[Int.natCast_emod,Int.natCast_add]
   have hm:(j+R) % l<l:=Nat.mod_lt _ (by omega)
   have ei:au 0 (j:Int) 5=j*5:=by rw[bB];omega
   have ew:au 0 (((j+R) % l:Nat):Int) 5=(j+R) % l*5:=by rw[bB];omega
   have vx0:aK .i64 (z (j*5)) u=z (j*5)+u:=by rw[bH,cr (by omega) (by omega)]
   have vx1:aK .i64 (z (j*5+1)) u=z (j*5+1)+u:=by rw[bH,cr (by omega) (by omega)]
   have vy4:oG .i64 t (z (j*5+4))=t*z (j*5+4):=by
    have h1:0≤t*z (j*5+4):=Int.mul_nonneg (by omega) (by omega)
    have h2:t*z (j*5+4)≤5*z (j*5+4):=Int.mul_le_mul_of_nonneg_right (by omega) (by omega)
    rw[iT,cr (by omega) (by omega)]
   have hx:=xM (AU z u) j (a:=z (j*5)+u) (b:=z (j*5+1)+u) (c:=z (j*5+2)) (d:=z (j*5+3)) (e:=z (j*5+4)) rfl rfl rfl rfl rfl
   have hy:=xM (Cd z t) j (a:=z (j*5)) (b:=z (j*5+1)) (c:=z (j*5+2)) (d:=z (j*5+3)) (e:=t*z (j*5+4)) rfl rfl rfl rfl rfl
   have hw:=xM (Cc z l R) j (a:=z ((j+R) % l*5)) (b:=z ((j+R) % l*5+1)) (c:=z ((j+R) % l*5+2)) (d:=z ((j+R) % l*5+3)) (e:=z ((j+R) % l*5+4)) rfl rfl rfl rfl rfl
   have hC:(il (iz aR 49 L5) (n+2) 0).Ok (cd (n+2)):=cD _ _ (dQ (aO _) (fun args p v hg hp H=>Sb _ args p v hg H))
   cases j with
   | zero =>
     have hx1:=Bj (AU z u) (a:=z (0*5)+u) (b:=z (0*5+1)+u) (c:=z (0*5+2)) (d:=z (0*5+3)) (e:=z (0*5+4)) rfl rfl rfl rfl rfl
     have hy1:=Bj (Cd z t) (a:=z (0*5)) (b:=z (0*5+1)) (c:=z (0*5+2)) (d:=z (0*5+3)) (e:=t*z (0*5+4)) rfl rfl rfl rfl rfl
     have hw1:=Bj (Cc z l R) (a:=z ((0+R) % l*5)) (b:=z ((0+R) % l*5+1)) (c:=z ((0+R) % l*5+2)) (d:=z ((0+R) % l*5+3)) (e:=z ((0+R) % l*5+4)) rfl rfl rfl rfl rfl
     refine aD (QL (n+2) l z r t k u ((0:Nat):Int) H) hC (af _ _) (ag _ _) ?_
     rw[hr,er,ei,ew,e1]
     simp only[aU,vx0,vx1,vy4]
     rw[hx1,hy1,hw1]
     clear vx0 vx1 vy4 hx hy hw hx1 hy1 hw1 er ew
     generalize (0+R) % l=M at *
     repeat' first | (refine Tr.al (fun hc=>?_) (fun hc=>?_)<;>(try simp (disch:=omega) only[nV,nW] at hc)<;>(try (exfalso;omega))) | (refine Tr.a8 ?_ ?_;· ((try simp (disch:=omega) only[nV,nW]);try omega)) | (refine Tr.aw ?_ ?_;· first | exact trivial | rfl | exact ⟨rfl,rfl⟩ | exact ⟨trivial,rfl⟩ | exact ⟨rfl,by assumption⟩ | exact ⟨trivial,by assumption⟩ | exact ⟨rfl,rfl,rfl⟩ | (simp (disch:=omega) only[nV,nW];done) | ((try simp (disch:=omega) only[nV,nW]);omega)) | fail
     all_goals first
      | (refine Tr.av ⟨rfl,Eq.trans ?_ (OW l z r t k u (AU z u) (Cd z t) (Cc z l R) H)⟩
         kernel_rfl)
      | fail
   | succ j =>
     have e5:ah (aq (j+1) 5) 5=aq (j+1+1) 5:=by rw[aU,eL,eL];omega
     have e6:ah (j+1) 1=j+1+1:=aU _ _
     have em:aq (j+1) 5=(j+1)*5:=eL _ _
     refine aD (t12 (n+2) l j (j+1) z (rF (AU z u) (j+1)) (rF (Cd z t) (j+1)) (rF (Cc z l R) (j+1)) r t k u ((j+1:Nat):Int) H) hC (af _ _) (ag _ _) ?_
     rw[hr,er,ei,ew,e1,e5,e6]
     simp only[aU,vx0,vx1,vy4,c9]
     simp only[em]
     rw[hx,hy,hw]
     clear vx0 vx1 vy4 hx hy hw er ew
     generalize (j+1+R) % l=M at *
     repeat' first | (refine Tr.al (fun hc=>?_) (fun hc=>?_)<;>(try simp (disch:=omega) only[nV,nW] at hc)<;>(try (exfalso;omega))) | (refine Tr.a8 ?_ ?_;· ((try simp (disch:=omega) only[nV,nW]);try omega)) | (refine Tr.aw ?_ ?_;· first | exact trivial | rfl | exact ⟨rfl,rfl⟩ | exact ⟨trivial,rfl⟩ | exact ⟨rfl,by assumption⟩ | exact ⟨trivial,by assumption⟩ | exact ⟨rfl,rfl,rfl⟩ | (simp (disch:=omega) only[nV,nW];done) | ((try simp (disch:=omega) only[nV,nW]);omega)) | fail
     all_goals first
      | (refine Tr.av ⟨rfl,?_⟩
         kernel_rfl)
      | fail
 · obtain ⟨l',rfl⟩:∃ l',l=l'+1:=⟨l-1,by omega⟩
   obtain ⟨q,q1,rfl⟩:=aD (Q:=fun q=>q=(.exit 0,lC (l'+1) z r t k u (oP 2 (l'+1)) (oP 1 (l'+1)) (oP 0 (l'+1)) (Int.ofNat (l'+1))++[(59,.bool false)],FJ (AU z u) (Cd z t) (Cc z (l'+1) R) (l'+1)::H)) (QM (n+2) (l'+1) l' (l'+1) z (rF (AU z u) (l'+1)) (rF (Cd z t) (l'+1)) (rF (Cc z (l'+1) R) (l'+1)) r t k u (Int.ofNat (l'+1)) H) (aI _) (af _ _) (ag _ _) (by
    refine Tr.al (fun hc=>?_) (fun hc=>Tr.av rfl)
    simp (disch:=omega) only[nV,nW] at hc;omega)
   exact q1
end Go.Eng
end
section
namespace Go.Eng
open Go.Proofs
theorem OI:Tryz.f12.body=some (chain [part Tryz.f12 [0],part Tryz.f12 [1,0],part Tryz.f12 [1,1,0],part Tryz.f12 [1,1,1,0],part Tryz.f12 [1,1,1,1,0],part Tryz.f12 [1,1,1,1,1,0],part Tryz.f12 [1,1,1,1,1,1,0],part Tryz.f12 [1,1,1,1,1,1,1,0],part Tryz.f12 [1,1,1,1,1,1,1,1,0],part Tryz.f12 [1,1,1,1,1,1,1,1,1,0],part Tryz.f12 [1,1,1,1,1,1,1,1,1,1,0],part Tryz.f12 [1,1,1,1,1,1,1,1,1,1,1,0],part Tryz.f12 [1,1,1,1,1,1,1,1,1,1,1,1,0],part Tryz.f12 [1,1,1,1,1,1,1,1,1,1,1,1,1,0],part Tryz.f12 [1,1,1,1,1,1,1,1,1,1,1,1,1,1,0],part Tryz.f12 [1,1,1,1,1,1,1,1,1,1,1,1,1,1,1,0],part Tryz.f12 [1,1,1,1,1,1,1,1,1,1,1,1,1,1,1,1,0],part Tryz.f12 [1,1,1,1,1,1,1,1,1,1,1,1,1,1,1,1,1]]):=by kernel_rfl
theorem Qe:Tryz.f12.ntmps=276:=by kernel_rfl
theorem MZ (H:aa) (l:bm):LF Tryz.f12 H [(10,.bool true)] l=some (.bool true,H):=by kernel_rfl
theorem qt {c f:Nat} {t:me} {Q:Nat→(Nat→Int)→Prop} {R:Nat→(Nat→Int)→AV} (ht:t.Ok (cd c)) (h:∀ l z H,Q l z→cd c (.fn f) [aG 5 l z] H=some (R l z,H)):(iz t f (Lk Q R)).Ok (cd c):=by
 refine dQ ht (fun args p v hg hp H=>?_)
 unfold Lk at hg
 split at hg
 · simp only[nP] at hg
   obtain ⟨rfl,rfl⟩:=hg
   obtain ⟨rfl,hq⟩:=hp
   have:=h _ _ H hq
   unfold aG at this
   rw[cj,← eL] at this
   exact this
 · cases hg
theorem Fs {c f:Nat} {t:me} {Q:Nat→(Nat→Int)→Int→Prop} {R:Nat→(Nat→Int)→Int→AV} (ht:t.Ok (cd c)) (h:∀ l z q H,Q l z q→cd c (.fn f) [aG 5 l z,.int .i64 q] H=some (R l z q,H)):(iz t f (OV Q R)).Ok (cd c):=by
 refine dQ ht (fun args p v hg hp H=>?_)
 unfold OV at hg
 split at hg
 · simp only[nP] at hg
   obtain ⟨rfl,rfl⟩:=hg
   obtain ⟨rfl,hq⟩:=hp
   have:=h _ _ _ H hq
   unfold aG at this
   rw[cj,← eL] at this
   exact this
 · cases hg
def Dk (l:Nat) (z:Nat→Int) (q:Int):Int:=if bE z q.toNat<cq z q.toNat then 0 else cq z q.toNat
def Dl (l:Nat) (z:Nat→Int) (q:Int):Int:=if bE z q.toNat<cq z q.toNat then 0 else bE z q.toNat
def ym (l:Nat) (z:Nat→Int) (q:Int):Int:=if bE z q.toNat<cq z q.toNat then 22 else 0
def Lv (l:Nat) (z:Nat→Int) (q:Int):Prop:=bh l z=0∧0≤q∧q<l
theorem Lx (n l:Nat) (z:Nat→Int) (q:Int) (H:aa) (hq:Lv l z q):cd (n+12) (.fn 16) [aG 5 l z,.int .i64 q] H=some (.tup [.agg (.I .i64 [Dk l z q,Dl l z q]),.int .i64 (ym l z q)],H):=by
 obtain ⟨h,h1,h2⟩:=hq
 rw[R7]
 unfold JT Dk Dl ym
 rw[if_neg (fun x=>x h),if_neg (fun x=>x ⟨h1,h2⟩)]
 by_cases c:bE z q.toNat<cq z q.toNat
 · rw[if_pos c,if_pos c,if_pos c,if_pos c]
 · rw[if_neg c,if_neg c,if_neg c,if_neg c]
theorem PS (n l p v:Nat) (z x A A2:Nat→Int) (u:Int) (H:aa) (hp:p≤1000) (hA:∀ j,j<p→A2 j=A j+u) (hr:∀ j,j<p→-10000≤A j∧A j≤10000) (hu:0≤u∧u≤65535) :
 exec (bp n 12 276) (.block 2 (.loop (part Tryz.f12 [1,1,1,1,1,1,1,1,1,1,1,1,1,1,1,0,1,0,0]))) (eW l z x u (bD p A true) (bD p A2 true) (Int.ofNat 0)) (gW v::H)=some (.normal,eW l z x u (bD p A true) (bD p A2 true) (Int.ofNat p)++[(223,.bool false)],gW v::H):=by
 refine j9 2 (fun j=>eW l z x u (bD p A true) (bD p A2 true) (j:Nat)) (fun j=>gW v::H) p (eW l z x u (bD p A true) (bD p A2 true) (Int.ofNat p)++[(223,.bool false)],gW v::H) (by omega) (fun j hj=>?_) ?_
 · have e1:aK .i64 (j:Int) (Int.ofNat 1)=((j+1:Nat):Int):=rV (by omega)
   have ei:au 0 (j:Int) 1=j:=by rw[bB];omega
   have hj2:=hA j hj
   have hj3:=hr j hj
   have ea:aK .i64 (A j) u=A j+u:=by rw[bH,cr (by omega) (by omega)]
   refine aD (No n l p p z x A A2 u (j:Nat) v H) (aI n) (af _ _) (ag _ _) ?_
   rw[e1,ei,ea]
   exact wF
 · obtain ⟨q,q1,rfl⟩:=aD (Q:=fun q=>q=(.exit 2,eW l z x u (bD p A true) (bD p A2 true) (Int.ofNat p)++[(223,.bool false)],gW v::H)) (No n l p p z x A A2 u (Int.ofNat p) v H) (aI n) (af _ _) (ag _ _) (by
    refine Tr.al (fun hc=>?_) (fun hc=>Tr.av rfl)
    simp (disch:=omega) only[nV,nW] at hc;omega)
   exact q1
theorem PT (n l:Nat) (z x:Nat→Int) (u:Int) (L:bm) (H:aa) :
 exec (bp n 12 276) (.block 2 (.loop (part Tryz.f12 [1,1,1,1,1,1,1,1,1,1,1,1,1,1,1,0,1,0,0]))) (eW l z x u .nils .nils (Int.ofNat 0)) (L::H)=some (.normal,eW l z x u .nils .nils (Int.ofNat 0)++[(223,.bool false)],L::H):=by
 refine j9 2 (fun j=>eW l z x u .nils .nils (j:Nat)) (fun j=>L::H) 0 (eW l z x u .nils .nils (Int.ofNat 0)++[(223,.bool false)],L::H) (by omega) (fun j hj=>absurd hj (Nat.not_lt_zero _)) ?_
 obtain ⟨q,q1,rfl⟩:=aD (Q:=fun q=>q=(.exit 2,eW l z x u .nils .nils (Int.ofNat 0)++[(223,.bool false)],L::H)) (QK n l z x u (Int.ofNat 0) L H) (aI n) (af _ _) (ag _ _) (by
  refine Tr.al (fun hc=>?_) (fun hc=>Tr.av rfl)
  simp (disch:=omega) only[nV,nW] at hc;omega)
 exact q1
theorem PU (n l v:Nat) (z x:Nat→Int) (u:Int) (H:aa) (hz:bh l z=0) (hx:bh l x=0) (hb:∀ i,i<l→cq x i=cq z i+u∧bE x i=bE z i+u) (hu:0≤u∧u≤65535) :
 exec (bp (n+12) 12 276) (.block 4 (.loop (part Tryz.f12 [1,1,1,1,1,1,1,1,1,1,1,1,1,1,1,1,0,1,0,0]))) (nQ l z x u (Int.ofNat 0)) (gW v::H)=some (.normal,nQ l z x u (Int.ofNat l)++[(240,.bool false)],gW v::H):=by
 have hl:=(bM hz).1
 refine j9 4 (fun j=>nQ l z x u (j:Nat)) (fun j=>gW v::H) l (nQ l z x u (Int.ofNat l)++[(240,.bool false)],gW v::H) (by omega) (fun j hj=>?_) ?_
 · have e1:aK .i64 (j:Int) (Int.ofNat 1)=((j+1:Nat):Int):=rV (by omega)
   have hj1:Lv l z (j:Int):=⟨hz,by omega,by omega⟩
   have hj2:Lv l x (j:Int):=⟨hx,by omega,by omega⟩
   obtain ⟨hb1,hb2⟩:=hb j hj
   have hcz:=(bM hz).2 j hj
   refine aD (Np (n+12) l v z x u (j:Nat) Dk Dl ym Lv H) (cD _ _ (Fs (dQ (aO _) (fun args p v hg hp H=>Oy _ args p v hg H)) (fun l z q H hq=>Lx n l z q H hq))) (af _ _) (ag _ _) ?_
   have hcc:(bE x j<cq x j)↔(bE z j<cq z j):=by omega
   by_cases c:bE z j<cq z j
   · have r3:ym l z (j:Int)=22:=if_pos c
     have r4:ym l x (j:Int)=22:=if_pos (hcc.2 c)
     rw[e1,r3,r4]
     exact wF
   · have r3:ym l z (j:Int)=0:=if_neg c
     have r4:ym l x (j:Int)=0:=if_neg (fun h=>c (hcc.1 h))
     have r5:Dk l z (j:Int)=cq z j:=if_neg c
     have r6:Dk l x (j:Int)=cq z j+u:=(if_neg (fun h=>c (hcc.1 h))).trans hb1
     have r7:Dl l z (j:Int)=bE z j:=if_neg c
     have r8:Dl l x (j:Int)=bE z j+u:=(if_neg (fun h=>c (hcc.1 h))).trans hb2
     have v1:aK .i64 (cq z j) u=cq z j+u:=by unfold cq;rw[bH,cr (by omega) (by omega)]
     have v2:aK .i64 (bE z j) u=bE z j+u:=by unfold bE;rw[bH,cr (by omega) (by omega)]
     rw[e1,r3,r4,r5,r6,r7,r8,v1,v2]
     exact wF
 · obtain ⟨q,q1,rfl⟩:=aD (Q:=fun q=>q=(.exit 4,nQ l z x u (Int.ofNat l)++[(240,.bool false)],gW v::H)) (Np (n+12) l v z x u (Int.ofNat l) Dk Dl ym Lv H) (cD _ _ (Fs (dQ (aO _) (fun args p v hg hp H=>Oy _ args p v hg H)) (fun l z q H hq=>Lx n l z q H hq))) (af _ _) (ag _ _) (by
    refine Tr.al (fun hc=>?_) (fun hc=>Tr.av rfl)
    simp (disch:=omega) only[nV,nW] at hc;omega)
   exact q1
end Go.Eng
end
