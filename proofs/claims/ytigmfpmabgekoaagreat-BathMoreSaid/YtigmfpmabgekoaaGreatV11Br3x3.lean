/- Bath: BathMore: trees. -/
import Derived.Test.YtigmfpmabgekoaaGreatV11Bqlx6
set_option linter.unusedVariables false
set_option linter.unusedSimpArgs false
set_option maxRecDepth 100000
section
namespace Go.Eng
open Go.Proofs
noncomputable def TO (Q:Nat→(Nat→Int)→Prop) (R:Nat→(Nat→Int)→AV):List AV→Option (Prop×AV)
 | [.slcT none (.M [.arr .i64 z N]) 5 l false]=>some (N=aD l 5∧Q l z,R l z)
 | _=>none
noncomputable def TP (Q:Nat→(Nat→Int)→Int→Prop) (R:Nat→(Nat→Int)→Int→AV):List AV→Option (Prop×AV)
 | [.slcT none (.M [.arr .i64 z N]) 5 l false,.int .i64 q]=>some (N=aD l 5∧Q l z q,R l z q)
 | _=>none
noncomputable def N5 (Q:Nat→(Nat→Int)→Int→Prop) (M:Nat→(Nat→Int)→Int→Int) (W:Nat→(Nat→Int)→Int→AV) (args:List AV) (H:aa):Tr (AV×aa) :=
 match args with
 | [.slcT none (.M [.arr .i64 z N]) 5 l false,.int .i64 q]=>match H with
   | [⟨_,_⟩,⟨_,_⟩]=>.reqP (N=aD l 5∧Q l z q) (.ok (.tup [.int .i64 (M l z q),W l z q,.int .i64 0],H))
   | _=>.bad
 | _=>.bad
noncomputable def Nr:List AV→Option (Prop×AV)
 | [.int .i64 a,.int .i64 b]=>some (True,.agg (.I .i64 [a,b]))
 | _=>none
noncomputable def BL (l:Nat) (z:Nat→Int) (w q:Int):av:=[(0,aJ 5 l z),(2,.int .u8 w),(4,.int .u8 q),(6,.ptr 0 0 0 0),(8,.ptr 0 1 0 0)]
noncomputable def G6 (a b c d e b0 b1 b2 b3:Int):bn:=⟨false,[(0,.row (.I .i64 [a,b,c,d,e])),(0,.row (.I .u16 [b0,b1,b2,b3]))]⟩
noncomputable def vj (l m:Nat) (z x:Nat→Int) (w q fe:Int):av:=[(0,aJ 5 l z),(2,.int .u8 w),(4,.int .u8 q),(8,.ptr 0 1 0 0),(11,.int .i64 fe),(13,aJ 5 m x)]
noncomputable def rn (a b c d e b0 b1 b2 b3:Int) (v:Nat):bn:=⟨false,[(0,.row (.I .i64 [a,b,c,d,e])),(0,.row (.I .u16 [b0,b1,b2,b3])),(0,.row (.I .i64 [])),(v,.dead),(0,.row (.I .i64 [a,b,c,d,e])),(0,.dead)]⟩
theorem LZ (n l:Nat) (z:Nat→Int) (a b c d e w b0 b1 b2 b3 q:Int) (fin:Bool) (H:aa):aX (bz n 11 219) (il (tX (lg aU 15 Lp) 41 [aJ 5 l z] (.bool fin)) n 0) aZ a6 (chain [part Tryz.f11 [0],part Tryz.f11 [1,0]]) (hints [(0,aJ 5 l z),(1,.agg (.I .i64 [a,b,c,d,e])),(2,.int .u8 w),(3,.agg (.I .u16 [b0,b1,b2,b3])),(4,.int .u8 q)]) (aB::H) =
 (fun (Z0:bn)=>Tr.reqP ([aJ 5 l z]=[aJ 5 l z]) (Tr.ite (b8 fin) (Tr.reqP True (Tr.ok (Ex.ret,[(10,AV.bool true,none)],Z0::H))) (Tr.ok (Ex.normal,[(0,aJ 5 l z,none),(2,AV.int IntKind.u8 w,none),(4,AV.int IntKind.u8 q,none),(6,AV.ptr 0 0 0 0,none),(8,AV.ptr 0 1 0 0,none),(30,AV.bool false,some 1)],Z0::H)))) { lock:=false,bs:=[(0,ak.row (Row.I .i64 [a,b,c,d,e])),(0,ak.row (Row.I IntKind.u16 [b0,b1,b2,b3]))] }:=by kernel_rfl
theorem Ps (n l:Nat) (z:Nat→Int) (a b c d e w b0 b1 b2 b3 q:Int) (fe:Int) (H:aa):aX (bz n 11 219) (il (tX aU 46 [aJ 5 l z] (.tup [.int .i64 fe,.bool true])) n 0) aZ a6 (chain [part Tryz.f11 [1,1,0],part Tryz.f11 [1,1,1,0],part Tryz.f11 [1,1,1,1,0]]) (hints (BL l z w q++[(30,.bool false)])) (G6 a b c d e b0 b1 b2 b3::H) =
 (fun (Z0:Nat×ak)=>((fun (Z1:Nat×ak)=>Tr.reqP ([aJ 5 l z]=[aJ 5 l z]) (Tr.ite (b8 true) (Tr.ok (Ex.ret,[(10,AV.bool false,some 1)],{ lock:=false,bs:=[Z0,Z1] } :: H)) (Tr.ite (bX l 0) (Tr.req (dU 0 1 40) (Tr.req (bX 0 0) (Tr.req (dG 1 1) (Tr.ite (bA 0 (af 0 1)) (Tr.req (bX 0 0) (Tr.req (dG 0 0) (Tr.req (bX 0 0) (Tr.req (lX 0 (aD (af 0 1) 5) 0 5) (Tr.ok (Ex.normal,[(0,aJ 5 l z,none),(2,AV.int IntKind.u8 w,none),(4,AV.int IntKind.u8 q,none),(8,AV.ptr 0 1 0 0,none),(11,AV.int .i64 fe,none),(13,AV.slcT none (Row.M [aW.arr .i64 (g7 (an [a,b,c,d,e]) 0) (aD (af 0 1) 5)]) 5 (af 0 1) false,none)],{ lock:=false,bs:=[Z0,Z1,(0,ak.row (Row.I .i64 [])),(0,ak.dead),Z0,(0,ak.dead)] } :: H)))))) (Tr.req (bX 0 0) Tr.bad))))) (Tr.req (dU 0 l 40) (Tr.req (dG l l) (Tr.req (dG (af (aD 0 5) (aD l 5)) (aD l 5)) (Tr.ite (bA 0 (af 0 l)) (Tr.req (bX 0 0) (Tr.req (dG 0 0) (Tr.req (dU (af 0 l) 1 40) (Tr.req (bX 0 0) (Tr.req (dG 1 1) (Tr.req (bX 0 0) (Tr.req (bX (af 0 (aD (af 0 l) 5)) (af 0 (aD l 5))) (Tr.req (fa (dG 0 1) (dG 1 1)) (Tr.req (bX 1 1) (Tr.req (lX 0 (aD (af (af 0 l) 1) 5) 0 (af (aD (af 0 l) 5) 5)) (Tr.ok (Ex.normal,[(0,aJ 5 l z,none),(2,AV.int IntKind.u8 w,none),(4,AV.int IntKind.u8 q,none),(8,AV.ptr 0 1 0 0,none),(11,AV.int .i64 fe,none),(13,AV.slcT none (Row.M [aW.arr .i64 (g7 (bF (g7 (bF (an []) 0 z) 0) (aD (af 0 l) 5) (an [a,b,c,d,e])) 0) (aD (af (af 0 l) 1) 5)]) 5 (af (af 0 l) 1) false,none)],{ lock:=false,bs:=[Z0,Z1,(0,ak.row (Row.I .i64 [])),(1,ak.dead),Z0,(0,ak.dead)] } :: H)))))))))))) (Tr.req (bX 0 0) Tr.bad)))))))) (0,ak.row (Row.I IntKind.u16 [b0,b1,b2,b3])))) (0,ak.row (Row.I .i64 [a,b,c,d,e])):=by kernel_rfl
theorem L3 (n l m v:Nat) (z x:Nat→Int) (a b c d e w b0 b1 b2 b3 q:Int) (fe fx er r1 r2:Int) (fin:Bool) (H:aa):aX (bz n 11 219) (il (tX (tX (tX aU 41 [aJ 5 m x] (.bool fin)) 46 [aJ 5 m x] (.tup [.int .i64 fx,.bool true])) 16 [aJ 5 m x,.int .i64 (Int.ofNat l)] (.tup [.agg (.I .i64 [r1,r2]),.int .i64 er])) n 0) aZ a6 (chain [part Tryz.f11 [1,1,1,1,1,0]]) (hints (vj l m z x w q fe)) (rn a b c d e b0 b1 b2 b3 v::H) =
 (fun (Z0:bn)=>((fun (Z1:aM)=>((fun (Z2:Row)=>Tr.reqP ([AV.slcT none Z2 5 m false]=[AV.slcT none Z2 5 m false]) (Tr.ite fin (Tr.reqP ([AV.slcT none Z2 5 m false,AV.int .i64 (Int.ofNat l)]=[AV.slcT none Z2 5 m false,AV.int .i64 (Int.ofNat l)]) (Tr.reqP ([AV.slcT none Z2 5 m false]=[AV.slcT none Z2 5 m false]) (Tr.ite (b8 true) (Tr.ok (Ex.ret,[(10,AV.bool false,some 1)],Z0::H)) (Tr.ite (b8 (dm er (Int.ofNat 0))) (Tr.ite (b8 (dm er (Int.ofNat 22))) (Tr.ok (Ex.ret,[(10,AV.bool false,some 1)],Z0::H)) (Tr.ite (dq fe (Int.ofNat 100)) (Tr.ite (dm er (Int.ofNat 0)) (Tr.ite (dq r2 r1) (Tr.ok (Ex.ret,[(10,AV.bool false,some 1)],Z0::H)) (Tr.ite (b8 (dm fx fe)) (Tr.ite (b8 (dm fx (a8 .i64 fe (Int.ofNat 1)))) (Tr.ok (Ex.ret,[(10,AV.bool false,some 1)],Z0::H)) (Tr.ite (dm er (Int.ofNat 22)) (Tr.ite (b8 (dm fx (Int.ofNat 100))) (Tr.ok (Ex.ret,[(10,AV.bool false,some 1)],Z0::H)) (Tr.ok (Ex.normal,Z1,Z0::H))) (Tr.ok (Ex.normal,Z1,Z0::H)))) (Tr.ite (dm er (Int.ofNat 22)) (Tr.ite (b8 (dm fx (Int.ofNat 100))) (Tr.ok (Ex.ret,[(10,AV.bool false,some 1)],Z0::H)) (Tr.ok (Ex.normal,Z1,Z0::H))) (Tr.ok (Ex.normal,Z1,Z0::H))))) (Tr.ite (dm er (Int.ofNat 22)) (Tr.ite (b8 (dm fx (Int.ofNat 100))) (Tr.ok (Ex.ret,[(10,AV.bool false,some 1)],Z0::H)) (Tr.ok (Ex.normal,Z1,Z0::H))) (Tr.ok (Ex.normal,Z1,Z0::H)))) (Tr.ite (dm er (Int.ofNat 22)) (Tr.ite (b8 (dm fx (Int.ofNat 100))) (Tr.ok (Ex.ret,[(10,AV.bool false,some 1)],Z0::H)) (Tr.ok (Ex.normal,Z1,Z0::H))) (Tr.ok (Ex.normal,Z1,Z0::H))))) (Tr.ite (dq fe (Int.ofNat 100)) (Tr.ite (dm er (Int.ofNat 0)) (Tr.ite (dq r2 r1) (Tr.ok (Ex.ret,[(10,AV.bool false,some 1)],Z0::H)) (Tr.ite (b8 (dm fx fe)) (Tr.ite (b8 (dm fx (a8 .i64 fe (Int.ofNat 1)))) (Tr.ok (Ex.ret,[(10,AV.bool false,some 1)],Z0::H)) (Tr.ite (dm er (Int.ofNat 22)) (Tr.ite (b8 (dm fx (Int.ofNat 100))) (Tr.ok (Ex.ret,[(10,AV.bool false,some 1)],Z0::H)) (Tr.ok (Ex.normal,Z1,Z0::H))) (Tr.ok (Ex.normal,Z1,Z0::H)))) (Tr.ite (dm er (Int.ofNat 22)) (Tr.ite (b8 (dm fx (Int.ofNat 100))) (Tr.ok (Ex.ret,[(10,AV.bool false,some 1)],Z0::H)) (Tr.ok (Ex.normal,Z1,Z0::H))) (Tr.ok (Ex.normal,Z1,Z0::H))))) (Tr.ite (dm er (Int.ofNat 22)) (Tr.ite (b8 (dm fx (Int.ofNat 100))) (Tr.ok (Ex.ret,[(10,AV.bool false,some 1)],Z0::H)) (Tr.ok (Ex.normal,Z1,Z0::H))) (Tr.ok (Ex.normal,Z1,Z0::H)))) (Tr.ite (dm er (Int.ofNat 22)) (Tr.ite (b8 (dm fx (Int.ofNat 100))) (Tr.ok (Ex.ret,[(10,AV.bool false,some 1)],Z0::H)) (Tr.ok (Ex.normal,Z1,Z0::H))) (Tr.ok (Ex.normal,Z1,Z0::H)))))))) (Tr.ok (Ex.normal,[(0,aJ 5 l z,none),(2,AV.int IntKind.u8 w,none),(4,AV.int IntKind.u8 q,none),(8,AV.ptr 0 1 0 0,none),(11,AV.int .i64 fe,none),(13,AV.slcT none Z2 5 m false,none),(46,AV.bool false,some 1)],{ lock:=false,bs:=[(0,ak.row (Row.I .i64 [a,b,c,d,e])),(0,ak.row (Row.I IntKind.u16 [b0,b1,b2,b3])),(0,ak.row (Row.I .i64 [])),(v,ak.dead),(0,ak.row (Row.I .i64 [a,b,c,d,e])),(0,ak.dead)] } :: H)))) (Row.M [aW.arr .i64 x (aD m 5)]))) [(0,aJ 5 l z,none),(2,AV.int IntKind.u8 w,none),(4,AV.int IntKind.u8 q,none),(8,AV.ptr 0 1 0 0,none),(11,AV.int .i64 fe,none),(102,AV.bool false,some 1)])) { lock:=false,bs:=[(0,ak.row (Row.I .i64 [a,b,c,d,e])),(0,ak.row (Row.I IntKind.u16 [b0,b1,b2,b3])),(0,ak.row (Row.I .i64 [])),(v,ak.dead),(0,ak.row (Row.I .i64 [a,b,c,d,e])),(0,ak.dead),(0,ak.row (Row.I .i64 [r1,r2]))] }:=by kernel_rfl
theorem Pt (n l v:Nat) (z:Nat→Int) (a b c d e w b0 b1 b2 b3 q fe r1 r2:Int) (H:aa):aX (bz n 11 219) (il (lg aU 48 Nr) n 0) aZ a6 (chain [part Tryz.f11 [1,1,1,1,1,1,0],part Tryz.f11 [1,1,1,1,1,1,1,0],part Tryz.f11 [1,1,1,1,1,1,1,1,0],part Tryz.f11 [1,1,1,1,1,1,1,1,1,0],part Tryz.f11 [1,1,1,1,1,1,1,1,1,1,0]]) (hints [(0,aJ 5 l z),(2,.int .u8 w),(4,.int .u8 q),(8,.ptr 0 1 0 0),(11,.int .i64 fe),(102,.bool false)]) (⟨false,[(0,.row (.I .i64 [a,b,c,d,e])),(0,.row (.I .u16 [b0,b1,b2,b3])),(0,.row (.I .i64 [])),(v,.dead),(0,.row (.I .i64 [a,b,c,d,e])),(0,.dead),(0,.row (.I .i64 [r1,r2]))]⟩::H) =
 Tr.ite (bX l 0) (Tr.req (b8 (dm (Int.ofNat l) (Int.ofNat 0))) (Tr.req (dF (aN IntKind.i64 (bx IntKind.i64 w) (Int.ofNat l)) 0) (Tr.req (bX 0 0) (Tr.req (bA (af (ar 0 (aN IntKind.i64 (bx IntKind.i64 w) (Int.ofNat l)) 5) 2) (AJ [])) (Tr.req (dF (Int.ofNat 0) 4) (Tr.req (bX 0 0) (Tr.req (bA (af (af (ar 0 (aN IntKind.i64 (bx IntKind.i64 w) (Int.ofNat l)) 5) 2) 1) (AJ [])) (Tr.req (dF (Int.ofNat 1) 4) (Tr.reqP True (Tr.req (bX 0 0) Tr.bad)))))))))) (Tr.req (dU 0 l 40) (Tr.req (dG l l) (Tr.req (dG (af (aD 0 5) (aD l 5)) (aD l 5)) (Tr.ite (bA 0 (af 0 l)) (Tr.req (bX 0 0) (Tr.req (dG 0 0) (Tr.req (b8 (dm (Int.ofNat l) (Int.ofNat 0))) (Tr.req (dF (aN IntKind.i64 (bx IntKind.i64 w) (Int.ofNat l)) (af 0 l)) (Tr.req (bX 0 0) (Tr.req (bA (af (ar 0 (aN IntKind.i64 (bx IntKind.i64 w) (Int.ofNat l)) 5) 2) (af 0 (aD l 5))) (Tr.req (dF (Int.ofNat 0) 4) (Tr.req (bX 0 0) (Tr.req (bA (af (af (ar 0 (aN IntKind.i64 (bx IntKind.i64 w) (Int.ofNat l)) 5) 2) 1) (af 0 (aD l 5))) (Tr.req (dF (Int.ofNat 1) 4) (Tr.reqP True (Tr.req (bX 0 0) (Tr.req (bA (af (ar 0 (aN IntKind.i64 (bx IntKind.i64 w) (Int.ofNat l)) 5) 2) (af 0 (aD l 5))) (Tr.req (bA (af (af (ar 0 (aN IntKind.i64 (bx IntKind.i64 w) (Int.ofNat l)) 5) 2) 1) (af 0 (aD l 5))) (Tr.req (fa (dG 0 0) (dG 0 1)) (Tr.req (bX 0 0) (Tr.req (bA (af (ar 0 (aN IntKind.i64 (bx IntKind.i64 w) (Int.ofNat l)) 5) 1) (af 0 (aD l 5))) (Tr.req (bX 0 0) (Tr.req (bA (ar 0 (aN IntKind.i64 (bx IntKind.i64 w) (Int.ofNat l)) 5) (af 0 (aD l 5))) (Tr.req (dF (Int.ofNat 2) 4) (Tr.req (bX 0 0) (Tr.req (bA (ar 0 (aN IntKind.i64 (bx IntKind.i64 w) (Int.ofNat l)) 5) (af 0 (aD l 5))) (Tr.req (fa (dG 0 0) (dG 0 1)) (Tr.req (bX 0 0) (Tr.req (bA (ar 0 (aN IntKind.i64 (bx IntKind.i64 w) (Int.ofNat l)) 5) (af 0 (aD l 5))) (Tr.req (bX 0 0) (Tr.req (bA (af (ar 0 (aN IntKind.i64 (bx IntKind.i64 w) (Int.ofNat l)) 5) 1) (af 0 (aD l 5))) (Tr.req (dF (Int.ofNat 3) 4) (Tr.req (bX 0 0) (Tr.req (bA (af (ar 0 (aN IntKind.i64 (bx IntKind.i64 w) (Int.ofNat l)) 5) 1) (af 0 (aD l 5))) (Tr.req (fa (dG 0 0) (dG 0 1)) (Tr.req (bX 0 0) (Tr.req (lX 0 (aD (af 0 l) 5) 0 (af 0 (aD l 5))) (Tr.ok (Ex.normal,[(0,aJ 5 l z,none),(4,AV.int IntKind.u8 q,none),(11,AV.int .i64 fe,none),(18,AV.slcT none (Row.M [aW.arr .i64 (g7 (bG (bG (bG (bG (bF (an []) 0 z) (af (ar 0 (aN IntKind.i64 (bx IntKind.i64 w) (Int.ofNat l)) 5) 2) (ij (Int.ofNat 0) (cu .i64 (bF (an []) 0 z (af (ar 0 (aN IntKind.i64 (bx IntKind.i64 w) (Int.ofNat l)) 5) 2)) (bx IntKind.i64 b0)))) (af (af (ar 0 (aN IntKind.i64 (bx IntKind.i64 w) (Int.ofNat l)) 5) 2) 1) (fY (Int.ofNat 10000) (a8 .i64 (bF (an []) 0 z (af (af (ar 0 (aN IntKind.i64 (bx IntKind.i64 w) (Int.ofNat l)) 5) 2) 1)) (bx IntKind.i64 b1)))) (ar 0 (aN IntKind.i64 (bx IntKind.i64 w) (Int.ofNat l)) 5) (fY (bG (bG (bF (an []) 0 z) (af (ar 0 (aN IntKind.i64 (bx IntKind.i64 w) (Int.ofNat l)) 5) 2) (ij (Int.ofNat 0) (cu .i64 (bF (an []) 0 z (af (ar 0 (aN IntKind.i64 (bx IntKind.i64 w) (Int.ofNat l)) 5) 2)) (bx IntKind.i64 b0)))) (af (af (ar 0 (aN IntKind.i64 (bx IntKind.i64 w) (Int.ofNat l)) 5) 2) 1) (fY (Int.ofNat 10000) (a8 .i64 (bF (an []) 0 z (af (af (ar 0 (aN IntKind.i64 (bx IntKind.i64 w) (Int.ofNat l)) 5) 2) 1)) (bx IntKind.i64 b1))) (af (ar 0 (aN IntKind.i64 (bx IntKind.i64 w) (Int.ofNat l)) 5) 1)) (a8 .i64 (bG (bG (bF (an []) 0 z) (af (ar 0 (aN IntKind.i64 (bx IntKind.i64 w) (Int.ofNat l)) 5) 2) (ij (Int.ofNat 0) (cu .i64 (bF (an []) 0 z (af (ar 0 (aN IntKind.i64 (bx IntKind.i64 w) (Int.ofNat l)) 5) 2)) (bx IntKind.i64 b0)))) (af (af (ar 0 (aN IntKind.i64 (bx IntKind.i64 w) (Int.ofNat l)) 5) 2) 1) (fY (Int.ofNat 10000) (a8 .i64 (bF (an []) 0 z (af (af (ar 0 (aN IntKind.i64 (bx IntKind.i64 w) (Int.ofNat l)) 5) 2) 1)) (bx IntKind.i64 b1))) (ar 0 (aN IntKind.i64 (bx IntKind.i64 w) (Int.ofNat l)) 5)) (bx IntKind.i64 b2)))) (af (ar 0 (aN IntKind.i64 (bx IntKind.i64 w) (Int.ofNat l)) 5) 1) (ij (bG (bG (bG (bF (an []) 0 z) (af (ar 0 (aN IntKind.i64 (bx IntKind.i64 w) (Int.ofNat l)) 5) 2) (ij (Int.ofNat 0) (cu .i64 (bF (an []) 0 z (af (ar 0 (aN IntKind.i64 (bx IntKind.i64 w) (Int.ofNat l)) 5) 2)) (bx IntKind.i64 b0)))) (af (af (ar 0 (aN IntKind.i64 (bx IntKind.i64 w) (Int.ofNat l)) 5) 2) 1) (fY (Int.ofNat 10000) (a8 .i64 (bF (an []) 0 z (af (af (ar 0 (aN IntKind.i64 (bx IntKind.i64 w) (Int.ofNat l)) 5) 2) 1)) (bx IntKind.i64 b1)))) (ar 0 (aN IntKind.i64 (bx IntKind.i64 w) (Int.ofNat l)) 5) (fY (bG (bG (bF (an []) 0 z) (af (ar 0 (aN IntKind.i64 (bx IntKind.i64 w) (Int.ofNat l)) 5) 2) (ij (Int.ofNat 0) (cu .i64 (bF (an []) 0 z (af (ar 0 (aN IntKind.i64 (bx IntKind.i64 w) (Int.ofNat l)) 5) 2)) (bx IntKind.i64 b0)))) (af (af (ar 0 (aN IntKind.i64 (bx IntKind.i64 w) (Int.ofNat l)) 5) 2) 1) (fY (Int.ofNat 10000) (a8 .i64 (bF (an []) 0 z (af (af (ar 0 (aN IntKind.i64 (bx IntKind.i64 w) (Int.ofNat l)) 5) 2) 1)) (bx IntKind.i64 b1))) (af (ar 0 (aN IntKind.i64 (bx IntKind.i64 w) (Int.ofNat l)) 5) 1)) (a8 .i64 (bG (bG (bF (an []) 0 z) (af (ar 0 (aN IntKind.i64 (bx IntKind.i64 w) (Int.ofNat l)) 5) 2) (ij (Int.ofNat 0) (cu .i64 (bF (an []) 0 z (af (ar 0 (aN IntKind.i64 (bx IntKind.i64 w) (Int.ofNat l)) 5) 2)) (bx IntKind.i64 b0)))) (af (af (ar 0 (aN IntKind.i64 (bx IntKind.i64 w) (Int.ofNat l)) 5) 2) 1) (fY (Int.ofNat 10000) (a8 .i64 (bF (an []) 0 z (af (af (ar 0 (aN IntKind.i64 (bx IntKind.i64 w) (Int.ofNat l)) 5) 2) 1)) (bx IntKind.i64 b1))) (ar 0 (aN IntKind.i64 (bx IntKind.i64 w) (Int.ofNat l)) 5)) (bx IntKind.i64 b2))) (ar 0 (aN IntKind.i64 (bx IntKind.i64 w) (Int.ofNat l)) 5)) (cu .i64 (bG (bG (bG (bF (an []) 0 z) (af (ar 0 (aN IntKind.i64 (bx IntKind.i64 w) (Int.ofNat l)) 5) 2) (ij (Int.ofNat 0) (cu .i64 (bF (an []) 0 z (af (ar 0 (aN IntKind.i64 (bx IntKind.i64 w) (Int.ofNat l)) 5) 2)) (bx IntKind.i64 b0)))) (af (af (ar 0 (aN IntKind.i64 (bx IntKind.i64 w) (Int.ofNat l)) 5) 2) 1) (fY (Int.ofNat 10000) (a8 .i64 (bF (an []) 0 z (af (af (ar 0 (aN IntKind.i64 (bx IntKind.i64 w) (Int.ofNat l)) 5) 2) 1)) (bx IntKind.i64 b1)))) (ar 0 (aN IntKind.i64 (bx IntKind.i64 w) (Int.ofNat l)) 5) (fY (bG (bG (bF (an []) 0 z) (af (ar 0 (aN IntKind.i64 (bx IntKind.i64 w) (Int.ofNat l)) 5) 2) (ij (Int.ofNat 0) (cu .i64 (bF (an []) 0 z (af (ar 0 (aN IntKind.i64 (bx IntKind.i64 w) (Int.ofNat l)) 5) 2)) (bx IntKind.i64 b0)))) (af (af (ar 0 (aN IntKind.i64 (bx IntKind.i64 w) (Int.ofNat l)) 5) 2) 1) (fY (Int.ofNat 10000) (a8 .i64 (bF (an []) 0 z (af (af (ar 0 (aN IntKind.i64 (bx IntKind.i64 w) (Int.ofNat l)) 5) 2) 1)) (bx IntKind.i64 b1))) (af (ar 0 (aN IntKind.i64 (bx IntKind.i64 w) (Int.ofNat l)) 5) 1)) (a8 .i64 (bG (bG (bF (an []) 0 z) (af (ar 0 (aN IntKind.i64 (bx IntKind.i64 w) (Int.ofNat l)) 5) 2) (ij (Int.ofNat 0) (cu .i64 (bF (an []) 0 z (af (ar 0 (aN IntKind.i64 (bx IntKind.i64 w) (Int.ofNat l)) 5) 2)) (bx IntKind.i64 b0)))) (af (af (ar 0 (aN IntKind.i64 (bx IntKind.i64 w) (Int.ofNat l)) 5) 2) 1) (fY (Int.ofNat 10000) (a8 .i64 (bF (an []) 0 z (af (af (ar 0 (aN IntKind.i64 (bx IntKind.i64 w) (Int.ofNat l)) 5) 2) 1)) (bx IntKind.i64 b1))) (ar 0 (aN IntKind.i64 (bx IntKind.i64 w) (Int.ofNat l)) 5)) (bx IntKind.i64 b2))) (af (ar 0 (aN IntKind.i64 (bx IntKind.i64 w) (Int.ofNat l)) 5) 1)) (bx IntKind.i64 b3)))) 0) (aD (af 0 l) 5)]) 5 (af 0 l) false,none)],{ lock:=false,bs:=[(0,ak.row (Row.I .i64 [a,b,c,d,e])),(0,ak.row (Row.I IntKind.u16 [b0,b1,b2,b3])),(0,ak.row (Row.I .i64 [])),(v,ak.dead),(0,ak.row (Row.I .i64 [a,b,c,d,e])),(0,ak.dead),(0,ak.row (Row.I .i64 [r1,r2])),(0,ak.row (Row.I .i64 [])),(0,ak.dead)] } :: H))))))))))))))))))))))))))))))))))) (Tr.req (bX 0 0) Tr.bad))))):=by kernel_rfl
theorem Pu (n l m v:Nat) (z x:Nat→Int) (a b c d e w b0 b1 b2 b3 q fe:Int) (H:aa):aX (bz n 11 219) (il (lg aU 48 Nr) n 0) aZ a6 (chain [part Tryz.f11 [1,1,1,1,1,1,0],part Tryz.f11 [1,1,1,1,1,1,1,0],part Tryz.f11 [1,1,1,1,1,1,1,1,0],part Tryz.f11 [1,1,1,1,1,1,1,1,1,0],part Tryz.f11 [1,1,1,1,1,1,1,1,1,1,0]]) (hints [(0,aJ 5 l z),(2,.int .u8 w),(4,.int .u8 q),(8,.ptr 0 1 0 0),(11,.int .i64 fe),(13,aJ 5 m x),(46,.bool false)]) (⟨false,[(0,.row (.I .i64 [a,b,c,d,e])),(0,.row (.I .u16 [b0,b1,b2,b3])),(0,.row (.I .i64 [])),(v,.dead),(0,.row (.I .i64 [a,b,c,d,e])),(0,.dead)]⟩::H) =
 Tr.ite (bX l 0) (Tr.req (b8 (dm (Int.ofNat l) (Int.ofNat 0))) (Tr.req (dF (aN IntKind.i64 (bx IntKind.i64 w) (Int.ofNat l)) 0) (Tr.req (bX 0 0) (Tr.req (bA (af (ar 0 (aN IntKind.i64 (bx IntKind.i64 w) (Int.ofNat l)) 5) 2) (AJ [])) (Tr.req (dF (Int.ofNat 0) 4) (Tr.req (bX 0 0) (Tr.req (bA (af (af (ar 0 (aN IntKind.i64 (bx IntKind.i64 w) (Int.ofNat l)) 5) 2) 1) (AJ [])) (Tr.req (dF (Int.ofNat 1) 4) (Tr.reqP True (Tr.req (bX 0 0) Tr.bad)))))))))) (Tr.req (dU 0 l 40) (Tr.req (dG l l) (Tr.req (dG (af (aD 0 5) (aD l 5)) (aD l 5)) (Tr.ite (bA 0 (af 0 l)) (Tr.req (bX 0 0) (Tr.req (dG 0 0) (Tr.req (b8 (dm (Int.ofNat l) (Int.ofNat 0))) (Tr.req (dF (aN IntKind.i64 (bx IntKind.i64 w) (Int.ofNat l)) (af 0 l)) (Tr.req (bX 0 0) (Tr.req (bA (af (ar 0 (aN IntKind.i64 (bx IntKind.i64 w) (Int.ofNat l)) 5) 2) (af 0 (aD l 5))) (Tr.req (dF (Int.ofNat 0) 4) (Tr.req (bX 0 0) (Tr.req (bA (af (af (ar 0 (aN IntKind.i64 (bx IntKind.i64 w) (Int.ofNat l)) 5) 2) 1) (af 0 (aD l 5))) (Tr.req (dF (Int.ofNat 1) 4) (Tr.reqP True (Tr.req (bX 0 0) (Tr.req (bA (af (ar 0 (aN IntKind.i64 (bx IntKind.i64 w) (Int.ofNat l)) 5) 2) (af 0 (aD l 5))) (Tr.req (bA (af (af (ar 0 (aN IntKind.i64 (bx IntKind.i64 w) (Int.ofNat l)) 5) 2) 1) (af 0 (aD l 5))) (Tr.req (fa (dG 0 0) (dG 0 1)) (Tr.req (bX 0 0) (Tr.req (bA (af (ar 0 (aN IntKind.i64 (bx IntKind.i64 w) (Int.ofNat l)) 5) 1) (af 0 (aD l 5))) (Tr.req (bX 0 0) (Tr.req (bA (ar 0 (aN IntKind.i64 (bx IntKind.i64 w) (Int.ofNat l)) 5) (af 0 (aD l 5))) (Tr.req (dF (Int.ofNat 2) 4) (Tr.req (bX 0 0) (Tr.req (bA (ar 0 (aN IntKind.i64 (bx IntKind.i64 w) (Int.ofNat l)) 5) (af 0 (aD l 5))) (Tr.req (fa (dG 0 0) (dG 0 1)) (Tr.req (bX 0 0) (Tr.req (bA (ar 0 (aN IntKind.i64 (bx IntKind.i64 w) (Int.ofNat l)) 5) (af 0 (aD l 5))) (Tr.req (bX 0 0) (Tr.req (bA (af (ar 0 (aN IntKind.i64 (bx IntKind.i64 w) (Int.ofNat l)) 5) 1) (af 0 (aD l 5))) (Tr.req (dF (Int.ofNat 3) 4) (Tr.req (bX 0 0) (Tr.req (bA (af (ar 0 (aN IntKind.i64 (bx IntKind.i64 w) (Int.ofNat l)) 5) 1) (af 0 (aD l 5))) (Tr.req (fa (dG 0 0) (dG 0 1)) (Tr.req (bX 0 0) (Tr.req (lX 0 (aD (af 0 l) 5) 0 (af 0 (aD l 5))) (Tr.ok (Ex.normal,[(0,aJ 5 l z,none),(4,AV.int IntKind.u8 q,none),(11,AV.int .i64 fe,none),(18,AV.slcT none (Row.M [aW.arr .i64 (g7 (bG (bG (bG (bG (bF (an []) 0 z) (af (ar 0 (aN IntKind.i64 (bx IntKind.i64 w) (Int.ofNat l)) 5) 2) (ij (Int.ofNat 0) (cu .i64 (bF (an []) 0 z (af (ar 0 (aN IntKind.i64 (bx IntKind.i64 w) (Int.ofNat l)) 5) 2)) (bx IntKind.i64 b0)))) (af (af (ar 0 (aN IntKind.i64 (bx IntKind.i64 w) (Int.ofNat l)) 5) 2) 1) (fY (Int.ofNat 10000) (a8 .i64 (bF (an []) 0 z (af (af (ar 0 (aN IntKind.i64 (bx IntKind.i64 w) (Int.ofNat l)) 5) 2) 1)) (bx IntKind.i64 b1)))) (ar 0 (aN IntKind.i64 (bx IntKind.i64 w) (Int.ofNat l)) 5) (fY (bG (bG (bF (an []) 0 z) (af (ar 0 (aN IntKind.i64 (bx IntKind.i64 w) (Int.ofNat l)) 5) 2) (ij (Int.ofNat 0) (cu .i64 (bF (an []) 0 z (af (ar 0 (aN IntKind.i64 (bx IntKind.i64 w) (Int.ofNat l)) 5) 2)) (bx IntKind.i64 b0)))) (af (af (ar 0 (aN IntKind.i64 (bx IntKind.i64 w) (Int.ofNat l)) 5) 2) 1) (fY (Int.ofNat 10000) (a8 .i64 (bF (an []) 0 z (af (af (ar 0 (aN IntKind.i64 (bx IntKind.i64 w) (Int.ofNat l)) 5) 2) 1)) (bx IntKind.i64 b1))) (af (ar 0 (aN IntKind.i64 (bx IntKind.i64 w) (Int.ofNat l)) 5) 1)) (a8 .i64 (bG (bG (bF (an []) 0 z) (af (ar 0 (aN IntKind.i64 (bx IntKind.i64 w) (Int.ofNat l)) 5) 2) (ij (Int.ofNat 0) (cu .i64 (bF (an []) 0 z (af (ar 0 (aN IntKind.i64 (bx IntKind.i64 w) (Int.ofNat l)) 5) 2)) (bx IntKind.i64 b0)))) (af (af (ar 0 (aN IntKind.i64 (bx IntKind.i64 w) (Int.ofNat l)) 5) 2) 1) (fY (Int.ofNat 10000) (a8 .i64 (bF (an []) 0 z (af (af (ar 0 (aN IntKind.i64 (bx IntKind.i64 w) (Int.ofNat l)) 5) 2) 1)) (bx IntKind.i64 b1))) (ar 0 (aN IntKind.i64 (bx IntKind.i64 w) (Int.ofNat l)) 5)) (bx IntKind.i64 b2)))) (af (ar 0 (aN IntKind.i64 (bx IntKind.i64 w) (Int.ofNat l)) 5) 1) (ij (bG (bG (bG (bF (an []) 0 z) (af (ar 0 (aN IntKind.i64 (bx IntKind.i64 w) (Int.ofNat l)) 5) 2) (ij (Int.ofNat 0) (cu .i64 (bF (an []) 0 z (af (ar 0 (aN IntKind.i64 (bx IntKind.i64 w) (Int.ofNat l)) 5) 2)) (bx IntKind.i64 b0)))) (af (af (ar 0 (aN IntKind.i64 (bx IntKind.i64 w) (Int.ofNat l)) 5) 2) 1) (fY (Int.ofNat 10000) (a8 .i64 (bF (an []) 0 z (af (af (ar 0 (aN IntKind.i64 (bx IntKind.i64 w) (Int.ofNat l)) 5) 2) 1)) (bx IntKind.i64 b1)))) (ar 0 (aN IntKind.i64 (bx IntKind.i64 w) (Int.ofNat l)) 5) (fY (bG (bG (bF (an []) 0 z) (af (ar 0 (aN IntKind.i64 (bx IntKind.i64 w) (Int.ofNat l)) 5) 2) (ij (Int.ofNat 0) (cu .i64 (bF (an []) 0 z (af (ar 0 (aN IntKind.i64 (bx IntKind.i64 w) (Int.ofNat l)) 5) 2)) (bx IntKind.i64 b0)))) (af (af (ar 0 (aN IntKind.i64 (bx IntKind.i64 w) (Int.ofNat l)) 5) 2) 1) (fY (Int.ofNat 10000) (a8 .i64 (bF (an []) 0 z (af (af (ar 0 (aN IntKind.i64 (bx IntKind.i64 w) (Int.ofNat l)) 5) 2) 1)) (bx IntKind.i64 b1))) (af (ar 0 (aN IntKind.i64 (bx IntKind.i64 w) (Int.ofNat l)) 5) 1)) (a8 .i64 (bG (bG (bF (an []) 0 z) (af (ar 0 (aN IntKind.i64 (bx IntKind.i64 w) (Int.ofNat l)) 5) 2) (ij (Int.ofNat 0) (cu .i64 (bF (an []) 0 z (af (ar 0 (aN IntKind.i64 (bx IntKind.i64 w) (Int.ofNat l)) 5) 2)) (bx IntKind.i64 b0)))) (af (af (ar 0 (aN IntKind.i64 (bx IntKind.i64 w) (Int.ofNat l)) 5) 2) 1) (fY (Int.ofNat 10000) (a8 .i64 (bF (an []) 0 z (af (af (ar 0 (aN IntKind.i64 (bx IntKind.i64 w) (Int.ofNat l)) 5) 2) 1)) (bx IntKind.i64 b1))) (ar 0 (aN IntKind.i64 (bx IntKind.i64 w) (Int.ofNat l)) 5)) (bx IntKind.i64 b2))) (ar 0 (aN IntKind.i64 (bx IntKind.i64 w) (Int.ofNat l)) 5)) (cu .i64 (bG (bG (bG (bF (an []) 0 z) (af (ar 0 (aN IntKind.i64 (bx IntKind.i64 w) (Int.ofNat l)) 5) 2) (ij (Int.ofNat 0) (cu .i64 (bF (an []) 0 z (af (ar 0 (aN IntKind.i64 (bx IntKind.i64 w) (Int.ofNat l)) 5) 2)) (bx IntKind.i64 b0)))) (af (af (ar 0 (aN IntKind.i64 (bx IntKind.i64 w) (Int.ofNat l)) 5) 2) 1) (fY (Int.ofNat 10000) (a8 .i64 (bF (an []) 0 z (af (af (ar 0 (aN IntKind.i64 (bx IntKind.i64 w) (Int.ofNat l)) 5) 2) 1)) (bx IntKind.i64 b1)))) (ar 0 (aN IntKind.i64 (bx IntKind.i64 w) (Int.ofNat l)) 5) (fY (bG (bG (bF (an []) 0 z) (af (ar 0 (aN IntKind.i64 (bx IntKind.i64 w) (Int.ofNat l)) 5) 2) (ij (Int.ofNat 0) (cu .i64 (bF (an []) 0 z (af (ar 0 (aN IntKind.i64 (bx IntKind.i64 w) (Int.ofNat l)) 5) 2)) (bx IntKind.i64 b0)))) (af (af (ar 0 (aN IntKind.i64 (bx IntKind.i64 w) (Int.ofNat l)) 5) 2) 1) (fY (Int.ofNat 10000) (a8 .i64 (bF (an []) 0 z (af (af (ar 0 (aN IntKind.i64 (bx IntKind.i64 w) (Int.ofNat l)) 5) 2) 1)) (bx IntKind.i64 b1))) (af (ar 0 (aN IntKind.i64 (bx IntKind.i64 w) (Int.ofNat l)) 5) 1)) (a8 .i64 (bG (bG (bF (an []) 0 z) (af (ar 0 (aN IntKind.i64 (bx IntKind.i64 w) (Int.ofNat l)) 5) 2) (ij (Int.ofNat 0) (cu .i64 (bF (an []) 0 z (af (ar 0 (aN IntKind.i64 (bx IntKind.i64 w) (Int.ofNat l)) 5) 2)) (bx IntKind.i64 b0)))) (af (af (ar 0 (aN IntKind.i64 (bx IntKind.i64 w) (Int.ofNat l)) 5) 2) 1) (fY (Int.ofNat 10000) (a8 .i64 (bF (an []) 0 z (af (af (ar 0 (aN IntKind.i64 (bx IntKind.i64 w) (Int.ofNat l)) 5) 2) 1)) (bx IntKind.i64 b1))) (ar 0 (aN IntKind.i64 (bx IntKind.i64 w) (Int.ofNat l)) 5)) (bx IntKind.i64 b2))) (af (ar 0 (aN IntKind.i64 (bx IntKind.i64 w) (Int.ofNat l)) 5) 1)) (bx IntKind.i64 b3)))) 0) (aD (af 0 l) 5)]) 5 (af 0 l) false,none)],{ lock:=false,bs:=[(0,ak.row (Row.I .i64 [a,b,c,d,e])),(0,ak.row (Row.I IntKind.u16 [b0,b1,b2,b3])),(0,ak.row (Row.I .i64 [])),(v,ak.dead),(0,ak.row (Row.I .i64 [a,b,c,d,e])),(0,ak.dead),(0,ak.row (Row.I .i64 [])),(0,ak.dead)] } :: H))))))))))))))))))))))))))))))))))) (Tr.req (bX 0 0) Tr.bad))))):=by kernel_rfl
theorem Pv (n l:Nat) (z y:Nat→Int) (q fe fy:Int) (Q:Nat→(Nat→Int)→Int→Prop) (M:Nat→(Nat→Int)→Int→Int) (W:Nat→(Nat→Int)→Int→AV) (L:List (Nat×ak)):aX (bz n 11 219) (il (jc (tX (lg aU 15 Lp) 46 [aJ 5 l y] (.tup [.int .i64 fy,.bool true])) 36 (N5 Q M W)) n 0) aZ a6 (chain [part Tryz.f11 [1,1,1,1,1,1,1,1,1,1,1,0],part Tryz.f11 [1,1,1,1,1,1,1,1,1,1,1,1,0],part Tryz.f11 [1,1,1,1,1,1,1,1,1,1,1,1,1,0],part Tryz.f11 [1,1,1,1,1,1,1,1,1,1,1,1,1,1,0],part Tryz.f11 [1,1,1,1,1,1,1,1,1,1,1,1,1,1,1]]) (hints [(0,aJ 5 l z),(4,.int .u8 q),(11,.int .i64 fe),(18,aJ 5 l y)]) [⟨false,L⟩,⟨true,[]⟩] =
 Tr.reqP ([AV.slcT none (Row.M [aW.arr .i64 y (aD l 5)]) 5 l false]=[AV.slcT none (Row.M [aW.arr .i64 y (aD l 5)]) 5 l false]) (Tr.req (b8 (dm (Int.ofNat 15) (Int.ofNat 0))) (Tr.reqP (aD l 5=aD l 5∧Q l z (aN IntKind.i64 (bx IntKind.i64 q) (Int.ofNat 15))) (Tr.reqP (aD l 5=aD l 5∧Q l y (aN IntKind.i64 (bx IntKind.i64 q) (Int.ofNat 15))) (Tr.ite true (Tr.ite (mP fy fe) (Tr.ite (dm (Int.ofNat 0) (Int.ofNat 0)) (Tr.ite (dm (Int.ofNat 0) (Int.ofNat 0)) (Tr.ite (mP (M l z (aN IntKind.i64 (bx IntKind.i64 q) (Int.ofNat 15))) (M l y (aN IntKind.i64 (bx IntKind.i64 q) (Int.ofNat 15)))) (Tr.reqP True (Tr.ok (Ex.ret,[(10,AV.bool true,none)],[{ lock:=false,bs:=L },{ lock:=true,bs:=[] }]))) (Tr.ok (Ex.ret,[(10,AV.bool false,some 1)],[{ lock:=false,bs:=L },{ lock:=true,bs:=[] }]))) (Tr.ok (Ex.ret,[(10,AV.bool false,some 1)],[{ lock:=false,bs:=L },{ lock:=true,bs:=[] }]))) (Tr.ok (Ex.ret,[(10,AV.bool false,some 1)],[{ lock:=false,bs:=L },{ lock:=true,bs:=[] }]))) (Tr.ok (Ex.ret,[(10,AV.bool false,some 1)],[{ lock:=false,bs:=L },{ lock:=true,bs:=[] }]))) (Tr.ok (Ex.ret,[(10,AV.bool false,some 1)],[{ lock:=false,bs:=L },{ lock:=true,bs:=[] }])))))):=by kernel_rfl
end Go.Eng
end
section
namespace Go.Eng
open Go.Proofs
theorem Tz (n l:Nat) (z:Nat→Int) (e:Int) (H:aa):bw Tryz.prog (cd (n+1)) 100000 41 Tryz.f41 (KtB.kt 41) (il (tX aU 21 [aJ 5 l z] (.int .i64 e)) n 1) aZ a6 [(aJ 5 l z,none)] H =
 Tr.ite (b8 (dq (Int.ofNat 20) (Int.ofNat l))) (Tr.reqP ([aJ 5 l z]=[aJ 5 l z]) (Tr.ok ((AV.bool (dm e (Int.ofNat 0)),none),H))) (Tr.ok ((AV.bool false,some 1),H)):=by kernel_rfl
theorem NW:Tryz.f11.body=some (chain [part Tryz.f11 [0],part Tryz.f11 [1,0],part Tryz.f11 [1,1,0],part Tryz.f11 [1,1,1,0],part Tryz.f11 [1,1,1,1,0],part Tryz.f11 [1,1,1,1,1,0],part Tryz.f11 [1,1,1,1,1,1,0],part Tryz.f11 [1,1,1,1,1,1,1,0],part Tryz.f11 [1,1,1,1,1,1,1,1,0],part Tryz.f11 [1,1,1,1,1,1,1,1,1,0],part Tryz.f11 [1,1,1,1,1,1,1,1,1,1,0],part Tryz.f11 [1,1,1,1,1,1,1,1,1,1,1,0],part Tryz.f11 [1,1,1,1,1,1,1,1,1,1,1,1,0],part Tryz.f11 [1,1,1,1,1,1,1,1,1,1,1,1,1,0],part Tryz.f11 [1,1,1,1,1,1,1,1,1,1,1,1,1,1,0],part Tryz.f11 [1,1,1,1,1,1,1,1,1,1,1,1,1,1,1]]):=by kernel_rfl
theorem Pl:Tryz.f11.ntmps=219:=by kernel_rfl
def yf (l:Nat) (z:Nat→Int):Bool:=decide (bp l z=0)
theorem No (n l:Nat) (z:Nat→Int) (H:aa):cd (n+5) (.fn 41) [aJ 5 l z] H=some (.bool (yf l z),H):=by
 refine ba (n:=n+4) Tryz.func41 rfl rfl rfl (Tz (n+3) l z (bp l z) H) (cS _ (n+3) 1 (fun k=>dP (aT _) (fun H=>by rw[show n+3+k=n+k+3 by omega];exact Rh _ l z H))) (ag _ _) (ah _ _) ?_
 have hl:=fun h=>(bM (l:=l) (z:=z) h).1
 unfold yf
 rw[cg]
 by_cases h:bp l z=0
 · have:=hl h
   rw[show (bp l z == Int.ofNat 0)=true from beq_iff_eq.2 h,decide_eq_true h]
   exact wF
 · rw[show (bp l z == Int.ofNat 0)=false from beq_eq_false_iff_ne.2 h,decide_eq_false h]
   exact wF
theorem Jl (n l:Nat) (z:Nat→Int) (H:aa) (h:bp l z=0):cd (n+14) (.fn 46) [aJ 5 l z] H=some (.tup [.int .i64 (ib l z),.bool true],H):=by
 by_cases hw:cY l z=0
 · rw[vg hw];exact Rj n l z H hw
 · rw[ye hw]
   have h23:∀ H,cd (n+13) (.fn 23) [aJ 5 l z] H=some (Ap l z,H):=fun H=>QU n l z H
   unfold Ap at h23
   rw[if_neg hw,Ky h hw] at h23
   refine ba (n:=n+13) Tryz.func46 rfl rfl rfl (Qi (n+13) l z H 22) (dC _ _ (dP (aT _) h23)) (ag _ _) (ah _ _) ?_
   exact wF
end Go.Eng
end
section
namespace Go.Eng
open Go.Proofs
theorem TB (n:Nat) (a b:Int) (H:aa):bw Tryz.prog (cd n) 100000 48 Tryz.f48 (KtB.kt 48) (il aU n 0) aZ a6 [(.int .i64 a,none),(.int .i64 b,none)] H =
 Tr.ok ((AV.agg (Row.I .i64 [a,b]),none),H):=by kernel_rfl
theorem Px (n l m v:Nat) (z x:Nat→Int) (a b c d e w b0 b1 b2 b3 q:Int) (fe:Int) (fin:Bool) (H:aa):aX (bz n 11 219) (il (tX aU 41 [aJ 5 m x] (.bool fin)) n 0) aZ a6 (part Tryz.f11 [1,1,1,1,1,0]) (hints (vj l m z x w q fe)) (rn a b c d e b0 b1 b2 b3 v::H) =
 Tr.reqP ([AV.slcT none (Row.M [aW.arr .i64 x (aD m 5)]) 5 m false]=[AV.slcT none (Row.M [aW.arr .i64 x (aD m 5)]) 5 m false]) (Tr.ite fin Tr.bad (Tr.ok (Ex.normal,[(0,AV.slcT none (Row.M [aW.arr .i64 z (aD l 5)]) 5 l false,none),(2,AV.int IntKind.u8 w,none),(4,AV.int IntKind.u8 q,none),(8,AV.ptr 0 1 0 0,none),(11,AV.int .i64 fe,none),(13,AV.slcT none (Row.M [aW.arr .i64 x (aD m 5)]) 5 m false,none),(46,AV.bool false,some 1)],{ lock:=false,bs:=[(0,ak.row (Row.I .i64 [a,b,c,d,e])),(0,ak.row (Row.I IntKind.u16 [b0,b1,b2,b3])),(0,ak.row (Row.I .i64 [])),(v,ak.dead),(0,ak.row (Row.I .i64 [a,b,c,d,e])),(0,ak.dead)] } :: H))):=by kernel_rfl
def yM (z:Nat→Int) (K:Nat) (b0 b1 b2 b3:Int) (i:Nat):Int :=
 if i=K*5+1 then max (min (z (K*5+1)) (z (K*5)+b2)) (z (K*5+1)-b3)
 else if i=K*5 then min (z (K*5+1)) (z (K*5)+b2)
 else if i=K*5+2+1 then min 10000 (z (K*5+2+1)+b1)
 else if i=K*5+2 then max 0 (z (K*5+2)-b0) else z i
theorem Nj (z:Nat→Int) (K:Nat) (b0 b1 b2 b3:Int):yM z K b0 b1 b2 b3 (K*5+1)=max (min (z (K*5+1)) (z (K*5)+b2)) (z (K*5+1)-b3)∧yM z K b0 b1 b2 b3 (K*5)=min (z (K*5+1)) (z (K*5)+b2)∧yM z K b0 b1 b2 b3 (K*5+3)=min 10000 (z (K*5+3)+b1)∧yM z K b0 b1 b2 b3 (K*5+2)=max 0 (z (K*5+2)-b0)∧yM z K b0 b1 b2 b3 (K*5+4)=z (K*5+4):=by
 refine ⟨?_,?_,?_,?_,?_⟩
 · unfold yM;rw[if_pos rfl]
 · unfold yM;rw[if_neg (by omega),if_pos rfl]
 · unfold yM;rw[if_neg (by omega),if_neg (by omega),if_pos rfl]
 · unfold yM;rw[if_neg (by omega),if_neg (by omega),if_neg (by omega),if_pos rfl]
 · unfold yM;rw[if_neg (by omega),if_neg (by omega),if_neg (by omega),if_neg (by omega)]
theorem Nk (z:Nat→Int) (K:Nat) (b0 b1 b2 b3:Int) {i:Nat} (h:i≠K) (j:Nat) (hj:j<5):yM z K b0 b1 b2 b3 (i*5+j)=z (i*5+j):=by
 unfold yM
 rw[if_neg (by omega),if_neg (by omega),if_neg (by omega),if_neg (by omega)]
theorem Nl {l K:Nat} {z:Nat→Int} {b0 b1 b2 b3:Int} (hc:bp l z=0) (hK:K<l) (h0:0≤b0) (h1:0≤b1) (h2:0≤b2) (h3:0≤b3):bp l (yM z K b0 b1 b2 b3)=0∧(∀ i,i<l→cQ (yM z K b0 b1 b2 b3) i≤cQ z i)∧(∀ i,i<l→bU z i≤bU (yM z K b0 b1 b2 b3) i)∧∀ i,i<l→gI (yM z K b0 b1 b2 b3) i=gI z i:=by
 obtain ⟨hl,hz⟩:=bM hc
 obtain ⟨a1,a0,a3,a2,a4⟩:=Nj z K b0 b1 b2 b3
 have hn:=fun i (h:i≠K)=>Nk z K b0 b1 b2 b3 h
 generalize yM z K b0 b1 b2 b3=y at *
 have hk:=hz K hK
 refine ⟨Ea hl (fun j hj=>?_),fun i hi=>?_,fun i hi=>?_,fun i hi=>?_⟩
 · by_cases e:j=K
   · subst e
     rw[a0,a1,a2,a3,a4];omega
   · have e0:=hn j e 0 (by omega)
     rw[Nat.add_zero] at e0
     rw[e0,hn j e 1 (by omega),hn j e 2 (by omega),hn j e 3 (by omega),hn j e 4 (by omega)]
     exact hz j hj
 · by_cases e:i=K
   · subst e;unfold cQ;rw[a1,a3];omega
   · exact Int.le_of_eq (rO (fun j hj=>hn i e j hj)).1
 · by_cases e:i=K
   · subst e;unfold bU;rw[a0,a2];omega
   · exact Int.le_of_eq (rO (fun j hj=>hn i e j hj)).2.1.symm
 · by_cases e:i=K
   · subst e;exact a4
   · exact (rO (fun j hj=>hn i e j hj)).2.2
theorem Mm {l l' N:Nat} {z y y':Nat→Int} {A B:AV} {L:List (Nat×ak)} {H:aa} (h1:l'=l) (h2:N=l*5) (h3:∀ i,y' i=y i):((Ex.normal,([(0,aJ 5 l z),(4,A),(11,B),(18,AV.slcT none (.M [.arr .i64 y' N]) 5 l' false)]:av),(⟨false,L⟩:bn)::H):Ex×av×aa)=(.normal,[(0,aJ 5 l z),(4,A),(11,B),(18,aJ 5 l y)],⟨false,L⟩::H):=by
 obtain rfl:y'=y:=funext h3
 subst h1;subst h2
 unfold aJ;simp only[cr]
theorem PV {l m l' N:Nat} {z x x':Nat→Int} {A B C D:AV} {lv:bn} {H:aa} (h1:l'=m) (h2:N=m*5) (h3:∀ i,x' i=x i):((Ex.normal,([(0,aJ 5 l z),(2,A),(4,B),(8,C),(11,D),(13,AV.slcT none (.M [.arr .i64 x' N]) 5 l' false)]:av),lv::H):Ex×av×aa)=(.normal,[(0,aJ 5 l z),(2,A),(4,B),(8,C),(11,D),(13,aJ 5 m x)],lv::H):=by
 obtain rfl:x'=x:=funext h3
 subst h1;subst h2
 unfold aJ;simp only[cr]
theorem Me (H:aa) (l:bn):K2 Tryz.f11 H [(10,.bool true)] l=some (.bool true,H):=by kernel_rfl
noncomputable def xM (l:Nat) (z:Nat→Int) (a b c d e:Int):Nat→Int:=bF z (l*5) (an [a,b,c,d,e])
theorem Ni (l:Nat) (z:Nat→Int) (a b c d e:Int) (i:Nat) (hi:i<l*5):xM l z a b c d e i=z i:=by
 unfold xM;rw[jF];simp[hi]
theorem QV (n:Nat) (args:List AV) (p:Prop) (v:AV) (hg:Nr args=some (p,v)) (H:aa):cd (n+1) (.fn 48) args H=some (v,H):=by
 unfold Nr at hg
 split at hg
 · rename_i a b
   simp only[nP] at hg
   obtain ⟨_,rfl⟩:=hg
   exact ba (n:=n) Tryz.func48 rfl rfl rfl (TB n a b H) (aO _) (ag _ _) (ah _ _) (Tr.aw ⟨rfl,rfl⟩)
 · cases hg
section
variable (n l:Nat) (z:Nat→Int) (a b c d e w b0 b1 b2 b3 q:Int) (H:aa)
theorem PL (hf:yf l z=true):exec (bz (n+14) 11 219) (chain [part Tryz.f11 [0],part Tryz.f11 [1,0]]) [(0,aJ 5 l z),(1,.agg (.I .i64 [a,b,c,d,e])),(2,.int .u8 w),(3,.agg (.I .u16 [b0,b1,b2,b3])),(4,.int .u8 q)] (aB::H)=some (.normal,BL l z w q++[(30,.bool false)],G6 a b c d e b0 b1 b2 b3::H):=by
 obtain ⟨x,h1,rfl⟩:=aG (Q:=fun x=>x=(.normal,BL l z w q++[(30,.bool false)],G6 a b c d e b0 b1 b2 b3::H)) (LZ (n+14) l z a b c d e w b0 b1 b2 b3 q true H) (dC _ _ (dP (NY (by omega) (aT _)) (fun H=>by have:=No (n+9) l z H;rwa [hf] at this))) (ag _ _) (ah _ _) (by
  exact wF)
 exact h1
theorem PM (h:bp l z=0):∃ v,exec (bz (n+14) 11 219) (chain [part Tryz.f11 [1,1,0],part Tryz.f11 [1,1,1,0],part Tryz.f11 [1,1,1,1,0]]) (BL l z w q++[(30,.bool false)]) (G6 a b c d e b0 b1 b2 b3::H)=some (.normal,vj l (l+1) z (xM l z a b c d e) w q (ib l z),rn a b c d e b0 b1 b2 b3 v::H):=by
 have hl:=(bM h).1
 obtain ⟨x,h1,v,rfl⟩:=aG (Q:=fun x=>∃ v,x=(.normal,vj l (l+1) z (xM l z a b c d e) w q (ib l z),rn a b c d e b0 b1 b2 b3 v::H)) (Ps (n+14) l z a b c d e w b0 b1 b2 b3 q (ib l z) H) (dC _ _ (dP (aT _) (fun H=>Jl n l z H h))) (ag _ _) (ah _ _) (by
  simp only[df,Jc,aQ,Nat.zero_add]
  repeat' first | (refine Tr.al (fun hc=>?_) (fun hc=>?_)<;>(try simp (disch:=omega) only[nV,nW] at hc)<;>(try (exfalso;omega))) | (refine Tr.bf ?_ ?_;· ((try simp (disch:=omega) only[nV,nW]);try omega)) | (refine Tr.ay ?_ ?_;· first | exact trivial | rfl | exact ⟨rfl,rfl⟩ | exact ⟨trivial,rfl⟩ | exact ⟨rfl,by assumption⟩ | exact ⟨trivial,by assumption⟩ | exact ⟨rfl,rfl,rfl⟩ | (simp (disch:=omega) only[nV,nW];done) | ((try simp (disch:=omega) only[nV,nW]);omega)) | fail
  all_goals first
   | (refine Tr.aw ⟨1,PV rfl (by rw[fF]) (fun i=>?_)⟩;unfold xM;rw[fF])
   | fail)
 exact ⟨v,h1⟩
theorem PN (x:Nat→Int) (v:Nat) (h:bp l z=0) (hx:∀ i,i<l*5→x i=z i) (hf:yf (l+1) x=true):∃ r1 r2,exec (bz (n+14) 11 219) (part Tryz.f11 [1,1,1,1,1,0]) (vj l (l+1) z x w q (ib l z)) (rn a b c d e b0 b1 b2 b3 v::H)=some (.normal,[(0,aJ 5 l z),(2,.int .u8 w),(4,.int .u8 q),(8,.ptr 0 1 0 0),(11,.int .i64 (ib l z)),(102,.bool false)],⟨false,[(0,.row (.I .i64 [a,b,c,d,e])),(0,.row (.I .u16 [b0,b1,b2,b3])),(0,.row (.I .i64 [])),(v,.dead),(0,.row (.I .i64 [a,b,c,d,e])),(0,.dead),(0,.row (.I .i64 [r1,r2]))]⟩::H):=by
 have hcx:bp (l+1) x=0:=of_decide_eq_true hf
 obtain ⟨m1,m2⟩:=Hc h hx hcx
 have hfz:=Er (l:=l) (z:=z)
 have hfx:=Er (l:=l+1) (z:=x)
 have hlt:ib l z<100→cY l z=0:=fun h2=>Classical.byContradiction fun h3=>by rw[ye h3] at h2;omega
 have h46:=fun H=>Jl n (l+1) x H hcx
 have h16:=fun H=>Rg (n+2) (l+1) x H (Int.ofNat l)
 have h41:=fun H=>No (n+9) (l+1) x H
 rw[hf] at h41
 have hnn:(0:Int)≤Int.ofNat l:=by show (0:Int)≤(l:Int);omega
 have hnl:Int.ofNat l<((l+1:Nat):Int):=by show (l:Int) < _;omega
 have htn:(Int.ofNat l).toNat=l:=rfl
 have ea:a8 .i64 (ib l z) (Int.ofNat 1)=ib l z+1:=by rw[bV,show Int.ofNat 1=1 from rfl,cK (by omega) (by omega)]
 have e3:((false:Bool)=true)=False:=by simp
 unfold Jj at h16
 rw[if_neg (fun q=>q hcx),if_neg (fun q=>q ⟨hnn,hnl⟩),htn] at h16
 by_cases hb:bU x l<cQ x l
 · rw[if_pos hb] at h16
   have m3:=m2 hb
   refine ⟨0,0,?_⟩
   obtain ⟨y,h1,rfl⟩:=aG (Q:=fun y=>y=(.normal,[(0,aJ 5 l z),(2,.int .u8 w),(4,.int .u8 q),(8,.ptr 0 1 0 0),(11,.int .i64 (ib l z)),(102,.bool false)],(⟨false,[(0,.row (.I .i64 [a,b,c,d,e])),(0,.row (.I .u16 [b0,b1,b2,b3])),(0,.row (.I .i64 [])),(v,.dead),(0,.row (.I .i64 [a,b,c,d,e])),(0,.dead),(0,.row (.I .i64 [0,0]))]⟩:bn)::H)) (L3 (n+14) l (l+1) v z x a b c d e w b0 b1 b2 b3 q (ib l z) (ib (l+1) x) 22 0 0 true H) (dC _ _ (dP (dP (dP (aT _) h41) h46) h16)) (ag _ _) (ah _ _) (by
    rw[ea,m3]
    generalize ib l z=fe at *
    exact wF)
   exact h1
 · rw[if_neg hb] at h16
   have m3:ib l z<100→ib (l+1) x=ib l z∨ib (l+1) x=ib l z+1:=fun hh=>m1 (by omega) (hlt hh)
   refine ⟨cQ x l,bU x l,?_⟩
   obtain ⟨y,h1,rfl⟩:=aG (Q:=fun y=>y=(.normal,[(0,aJ 5 l z),(2,.int .u8 w),(4,.int .u8 q),(8,.ptr 0 1 0 0),(11,.int .i64 (ib l z)),(102,.bool false)],(⟨false,[(0,.row (.I .i64 [a,b,c,d,e])),(0,.row (.I .u16 [b0,b1,b2,b3])),(0,.row (.I .i64 [])),(v,.dead),(0,.row (.I .i64 [a,b,c,d,e])),(0,.dead),(0,.row (.I .i64 [cQ x l,bU x l]))]⟩:bn)::H)) (L3 (n+14) l (l+1) v z x a b c d e w b0 b1 b2 b3 q (ib l z) (ib (l+1) x) 0 (cQ x l) (bU x l) true H) (dC _ _ (dP (dP (dP (aT _) h41) h46) h16)) (ag _ _) (ah _ _) (by
    rw[ea]
    generalize ib l z=fe at *
    generalize ib (l+1) x=fx at *
    generalize cQ x l=r1 at *
    generalize bU x l=r2 at *
    clear h16 h46 h41 m1 m2 hlt
    exact wF)
   exact h1
theorem PO (x:Nat→Int) (v:Nat) (h:bp l z=0) (hf:yf (l+1) x=false):exec (bz (n+14) 11 219) (part Tryz.f11 [1,1,1,1,1,0]) (vj l (l+1) z x w q (ib l z)) (rn a b c d e b0 b1 b2 b3 v::H)=some (.normal,[(0,aJ 5 l z),(2,.int .u8 w),(4,.int .u8 q),(8,.ptr 0 1 0 0),(11,.int .i64 (ib l z)),(13,aJ 5 (l+1) x),(46,.bool false)],rn a b c d e b0 b1 b2 b3 v::H):=by
 have h41:=fun H=>No (n+9) (l+1) x H
 rw[hf] at h41
 obtain ⟨y,h1,rfl⟩:=aG (Q:=fun y=>y=(.normal,[(0,aJ 5 l z),(2,.int .u8 w),(4,.int .u8 q),(8,.ptr 0 1 0 0),(11,.int .i64 (ib l z)),(13,aJ 5 (l+1) x),(46,.bool false)],rn a b c d e b0 b1 b2 b3 v::H)) (Px (n+14) l (l+1) v z x a b c d e w b0 b1 b2 b3 q (ib l z) false H) (dC _ _ (dP (aT _) h41)) (ag _ _) (ah _ _) (by
  exact Tr.ay rfl (Tr.al (fun hc=>by cases hc) (fun _=>Tr.aw rfl)))
 exact h1
theorem Mi {K:Nat} (h:bp l z=0) (hK:K<l) (h0:0≤b0∧b0≤65535) (h1:0≤b1∧b1≤65535) (h2:0≤b2∧b2≤65535) (h3:0≤b3∧b3≤65535) (i:Nat) :
 bG (bG (bG (bG z (K*5+2) (max 0 (z (K*5+2)-b0))) (K*5+2+1) (min 10000 (z (K*5+2+1)+b1))) (K*5) (min (z (K*5+1)) (z (K*5)+b2))) (K*5+1) (max (min (z (K*5+1)) (z (K*5)+b2)) (z (K*5+1)-b3)) i=yM z K b0 b1 b2 b3 i:=by
 rw[jR,jR,jR,jR];rfl
theorem IP (x y:Int):ij x y=max x y:=by rw[wY];split<;>omega
theorem IN (x y:Int):fY x y=min x y:=by rw[w7];split<;>omega
theorem F7 (z:Nat→Int) (i:Nat) (x:Int):bG z i x i=x:=by rw[jR];exact if_pos rfl
theorem F8 (z:Nat→Int) (i:Nat) (x:Int) (j:Nat) (h:¬ j=i):bG z i x j=z j:=by rw[jR];exact if_neg h
theorem PQ {K v:Nat} {r1 r2:Int} (h:bp l z=0) (hK:K<l) (hw:aN .i64 (bx .i64 w) (Int.ofNat l)=(K:Int)) (h0:0≤b0∧b0≤65535) (h1:0≤b1∧b1≤65535) (h2:0≤b2∧b2≤65535) (h3:0≤b3∧b3≤65535):∃ L,exec (bz (n+14) 11 219) (chain [part Tryz.f11 [1,1,1,1,1,1,0],part Tryz.f11 [1,1,1,1,1,1,1,0],part Tryz.f11 [1,1,1,1,1,1,1,1,0],part Tryz.f11 [1,1,1,1,1,1,1,1,1,0],part Tryz.f11 [1,1,1,1,1,1,1,1,1,1,0]]) [(0,aJ 5 l z),(2,.int .u8 w),(4,.int .u8 q),(8,.ptr 0 1 0 0),(11,.int .i64 (ib l z)),(102,.bool false)] (⟨false,[(0,.row (.I .i64 [a,b,c,d,e])),(0,.row (.I .u16 [b0,b1,b2,b3])),(0,.row (.I .i64 [])),(v,.dead),(0,.row (.I .i64 [a,b,c,d,e])),(0,.dead),(0,.row (.I .i64 [r1,r2]))]⟩::H)=some (.normal,[(0,aJ 5 l z),(4,.int .u8 q),(11,.int .i64 (ib l z)),(18,aJ 5 l (yM z K b0 b1 b2 b3))],(⟨false,L⟩:bn)::H):=by
 obtain ⟨hl,hz⟩:=bM h
 have hk:=hz K hK
 have ei:ar 0 (K:Int) 5=K*5:=by rw[bC];omega
 have w0:bx .i64 b0=b0:=ke (by omega) (by omega)
 have w1:bx .i64 b1=b1:=ke (by omega) (by omega)
 have w2:bx .i64 b2=b2:=ke (by omega) (by omega)
 have w3:bx .i64 b3=b3:=ke (by omega) (by omega)
 have v2:cu .i64 (z (K*5+2)) b0=z (K*5+2)-b0:=by rw[eh,cK (by omega) (by omega)]
 have v3:a8 .i64 (z (K*5+2+1)) b1=z (K*5+2+1)+b1:=by
  rw[show K*5+2+1=K*5+3 from rfl,bV,cK (by omega) (by omega)]
 have v0:a8 .i64 (z (K*5)) b2=z (K*5)+b2:=by rw[bV,cK (by omega) (by omega)]
 have v1:cu .i64 (z (K*5+1)) b3=z (K*5+1)-b3:=by rw[eh,cK (by omega) (by omega)]
 have hy:=Mi l z b0 b1 b2 b3 h hK h0 h1 h2 h3
 obtain ⟨y,e1,L,rfl⟩:=aG (Q:=fun y=>∃ L,y=(.normal,[(0,aJ 5 l z),(4,.int .u8 q),(11,.int .i64 (ib l z)),(18,aJ 5 l (yM z K b0 b1 b2 b3))],(⟨false,L⟩:bn)::H)) (Pt (n+14) l v z a b c d e w b0 b1 b2 b3 q (ib l z) r1 r2 H) (dC _ _ (fI (aT _) (fun args p v hg hp H=>QV _ args p v hg H))) (ag _ _) (ah _ _) (by
  rw[hw,ei,w0,w1,w2,w3]
  simp (disch:=omega) only[df,Jc,aQ,Nat.zero_add,F7,F8,v0,v1,v2,v3,IP,IN]
  clear v0 v1 v2 v3 w0 w1 w2 w3
  repeat' first | (refine Tr.al (fun hc=>?_) (fun hc=>?_)<;>(try simp (disch:=omega) only[nV,nW] at hc)<;>(try (exfalso;omega))) | (refine Tr.bf ?_ ?_;· ((try simp (disch:=omega) only[nV,nW]);try omega)) | (refine Tr.ay ?_ ?_;· first | exact trivial | rfl | exact ⟨rfl,rfl⟩ | exact ⟨trivial,rfl⟩ | exact ⟨rfl,by assumption⟩ | exact ⟨trivial,by assumption⟩ | exact ⟨rfl,rfl,rfl⟩ | (simp (disch:=omega) only[nV,nW];done) | ((try simp (disch:=omega) only[nV,nW]);omega)) | fail
  all_goals first
   | exact Tr.aw ⟨_,Mm rfl (by rw[fF]) hy⟩
   | fail)
 exact ⟨L,e1⟩
end
end Go.Eng
end
