/- Lay: law LayBounds: trees. -/
import Derived.Test.YtoomemfhcbajoaaV6Lb43x10
set_option linter.unusedVariables false
set_option linter.unusedSimpArgs false
set_option maxRecDepth 100000
section
namespace Go.Eng
open Go.Proofs
noncomputable def O7 (l:Nat) (t:Nat→Int) (k:Nat) (hv:Int) (S:(Nat→Int)→Bool) (TT:(Nat→Int)→Nat) (FF:(Nat→Int)→Nat→Nat→Int) (GG:(Nat→Int)→Nat→Nat) (N:(Nat→Int)→Int) (args:List AV) (H:aa):Tr (AV×aa) :=
 match args with
 | [.agg (.G [a,.slcT s (.M [.arr i z p]) e m u]),b]=>.reqP ([.agg (.G [a,.slcT s (.M [.arr i z p]) e m u]),b]=[b5 l t k z,.int .i64 hv]) (.ite (S z) (.ok (.tup [dA (TT z) (FF z) (GG z),.int .i64 0],H)) (.ok (.tup [.nils,.int .i64 (N z)],H)))
 | _=>.bad
noncomputable def O8 (l:Nat) (t:Nat→Int) (k:Nat) (d:Nat→Int) (P:AV→Prop) (Z:AV→Nat→Int):List AV→Option (Prop×AV)
 | [a,b]=>some (a=b5 l t k d∧P b,.tup [b6 l (Z b) true,.int .i64 0])
 | _=>none
noncomputable def O9 (l:Nat) (t:Nat→Int) (k:Nat) (d:Nat→Int) (c:Int) (X:Int→Nat→Int):List AV→Option (Prop×AV)
 | [a,.int .i64 b,.int .i64 e,.int .i64 o]=>some ([a,.int .i64 b,.int .i64 e]=[b5 l t k d,.int .i64 40,.int .i64 c],b5 l t k (X o))
 | _=>none
noncomputable def MD (A:List AV) (P:AV→Prop) (E:AV→Int):List AV→Option (Prop×AV)
 | [a,b,.slcT s r e m u]=>some ([a,b]=A∧P (.slcT s r e m u),.int .i64 (E (.slcT s r e m u)))
 | _=>none
noncomputable def sR (l:Nat) (z la:Nat→Int) (hv c fv j:Int):aq:=[(4,.ptr 0 0 0 0),(9,.int .i64 hv),(10,.int .i64 c),(14,b6 l z true),(16,b6 l la false),(18,.int .i64 fv),(20,.int .i64 j)]
noncomputable def q9 (l:Nat) (lv:Nat→Int) (hv c fv mo j:Int):aq:=[(4,.ptr 0 0 0 0),(9,.int .i64 hv),(10,.int .i64 c),(18,.int .i64 fv),(21,b6 l lv false),(22,.int .i64 mo),(23,.int .i64 j)]
noncomputable def o8 (l:Nat) (lv:Nat→Int) (hv c fv mo j a:Int):aq:=[(4,.ptr 0 0 0 0),(9,.int .i64 hv),(10,.int .i64 c),(18,.int .i64 fv),(21,b6 l lv false),(22,.int .i64 mo),(23,.int .i64 j),(24,.int .i64 a)]
theorem Ny (n l k:Nat) (t d z la:Nat→Int) (hv c fv j:Int) (H:aa):aJ (bn n 11 222) (il aE n 0) aG aH (part Try.f11 [1,1,1,1,1,1,1,1,1,1,0,1,0,0]) (hints (sR l z la hv c fv j)) (cK l t k d::H) =
 (fun (Z0:aT)=>Tr.ite (bK j (Int.ofNat l)) (Tr.req (cE j l) (Tr.req (cr (au 0 j 1) l) (Tr.req (cE j l) (Tr.req (cr (au 0 j 1) l) (Tr.ite (bK (la (au 0 j 1)) (z (au 0 j 1))) (Tr.ok (Ex.ret,[(8,AV.bool false,some 1)],Z0::H)) (Tr.req (cE j l) (Tr.req (cr (au 0 j 1) l) (Tr.req (cE j k) (Tr.req (cr (au 0 j 1) k) (Tr.ite (bK (d (au 0 j 1)) (la (au 0 j 1))) (Tr.ok (Ex.ret,[(8,AV.bool false,some 1)],Z0::H)) (Tr.ok (Ex.normal,[(4,AV.ptr 0 0 0 0,none),(9,AV.int .i64 hv,none),(10,AV.int .i64 c,none),(14,AV.slcT none (Row.M [ah.arr .i64 z l]) 1 l true,none),(16,AV.slcT none (Row.M [ah.arr .i64 la l]) 1 l false,none),(18,AV.int .i64 fv,none),(20,AV.int .i64 (bA .i64 j (Int.ofNat 1)),none)],Z0::H)))))))))))) (Tr.ok (Ex.exit 0,[(4,AV.ptr 0 0 0 0,none),(9,AV.int .i64 hv,none),(10,AV.int .i64 c,none),(14,AV.slcT none (Row.M [ah.arr .i64 z l]) 1 l true,none),(16,AV.slcT none (Row.M [ah.arr .i64 la l]) 1 l false,none),(18,AV.int .i64 fv,none),(20,AV.int .i64 j,none),(127,AV.bool false,some 1)],Z0::H))) { lock:=false,bs:=[(0,ai.row (Row.G [AV.slcT none (Row.M [ah.arr .i64 t l]) 1 l false,AV.slcT none (Row.M [ah.arr .i64 d k]) 1 k false]))] }:=by kernel_rfl
theorem Nz (n l k:Nat) (t d lv:Nat→Int) (hv c fv mo j a:Int) (H:aa):aJ (bn n 11 222) (il aE n 0) aG aH (part Try.f11 [1,1,1,1,1,1,1,1,1,1,1,1,1,0,1,0,0,1,0,0,1,0,0,0]) (hints (o8 l lv hv c fv mo j a)) (cK l t k d::H) =
 (fun (Z0:aT)=>((fun (Z1:aN)=>Tr.ite (aP (b7 a c)) (Tr.ite (lV (Int.ofNat 0) a) (Tr.req (cE a l) (Tr.req (cr (au 0 a 1) l) (Tr.ok (Ex.normal,[(4,AV.ptr 0 0 0 0,none),(9,AV.int .i64 hv,none),(10,AV.int .i64 c,none),(18,AV.int .i64 fv,none),(21,AV.slcT none (Row.M [ah.arr .i64 lv l]) 1 l false,none),(22,AV.int .i64 mo,none),(23,AV.int .i64 j,none),(24,AV.int .i64 (t (au 0 a 1)),none)],Z0::H)))) (Tr.ok (Ex.exit 4,Z1,Z0::H))) (Tr.ok (Ex.exit 4,Z1,Z0::H))) [(4,AV.ptr 0 0 0 0,none),(9,AV.int .i64 hv,none),(10,AV.int .i64 c,none),(18,AV.int .i64 fv,none),(21,AV.slcT none (Row.M [ah.arr .i64 lv l]) 1 l false,none),(22,AV.int .i64 mo,none),(23,AV.int .i64 j,none),(24,AV.int .i64 a,none),(166,AV.bool false,some 1)])) { lock:=false,bs:=[(0,ai.row (Row.G [AV.slcT none (Row.M [ah.arr .i64 t l]) 1 l false,AV.slcT none (Row.M [ah.arr .i64 d k]) 1 k false]))] }:=by kernel_rfl
theorem QC (n l k:Nat) (t d lv:Nat→Int) (hv c fv mo j a:Int) (H:aa):aJ (bn n 11 222) (il aE n 0) (bS aG 4 (o8 l lv hv c fv mo j j) (cK l t k d::H) (.ok (.normal,hints (o8 l lv hv c fv mo j a++[(166,.bool false)]),cK l t k d::H))) aH (part Try.f11 [1,1,1,1,1,1,1,1,1,1,1,1,1,0,1,0,0]) (hints (q9 l lv hv c fv mo j)) (cK l t k d::H) =
 (fun (Z0:aT)=>((fun (Z1:aq)=>((fun (Z2:Nat×AV×Option Nat)=>Tr.ite (bK j (Int.ofNat l)) (Tr.reqP (Z1=Z1∧Z0::H=Z0::H) (Tr.ite (b7 a c) (Tr.req (cE j l) (Tr.req (cr (au 0 j 1) l) (Tr.req (cE c l) (Tr.req (cr (au 0 c 1) l) (Tr.ok (Ex.normal,[(4,AV.ptr 0 0 0 0,none),(9,AV.int .i64 hv,none),(10,AV.int .i64 c,none),(18,AV.int .i64 fv,none),Z2,(22,AV.int .i64 (D6 mo (bA .i64 (br .i64 (lv (au 0 j 1)) (lv (au 0 c 1))) (Int.ofNat 1))),none),(23,AV.int .i64 (bA .i64 j (Int.ofNat 1)),none)],Z0::H)))))) (Tr.ok (Ex.normal,[(4,AV.ptr 0 0 0 0,none),(9,AV.int .i64 hv,none),(10,AV.int .i64 c,none),(18,AV.int .i64 fv,none),Z2,(22,AV.int .i64 mo,none),(23,AV.int .i64 (bA .i64 j (Int.ofNat 1)),none)],Z0::H)))) (Tr.ok (Ex.exit 2,[(4,AV.ptr 0 0 0 0,none),(9,AV.int .i64 hv,none),(10,AV.int .i64 c,none),(18,AV.int .i64 fv,none),Z2,(22,AV.int .i64 mo,none),(23,AV.int .i64 j,none),(156,AV.bool false,some 1)],Z0::H))) (21,AV.slcT none (Row.M [ah.arr .i64 lv l]) 1 l false,none))) [(4,AV.ptr 0 0 0 0),(9,AV.int .i64 hv),(10,AV.int .i64 c),(18,AV.int .i64 fv),(21,AV.slcT none (Row.M [ah.arr .i64 lv l]) 1 l false),(22,AV.int .i64 mo),(23,AV.int .i64 j),(24,AV.int .i64 j)])) { lock:=false,bs:=[(0,ai.row (Row.G [AV.slcT none (Row.M [ah.arr .i64 t l]) 1 l false,AV.slcT none (Row.M [ah.arr .i64 d k]) 1 k false]))] }:=by kernel_rfl
theorem Oe (n l k:Nat) (t d:Nat→Int) (h w:Int) (m:Nat) (f:Nat→Nat→Int) (g:Nat→Nat) (b1 b2:Bool) (H:aa):aX Try.prog (cd n) 100000 11 Try.f11 (KtL.kt 11) (il (wQ (tX (tX aE 43 [b5 l t k d] (.bool b1)) 24 [dA m f g] (.bool b2)) 16 MB) n 0) (bS aG 0 [] [] .bad) aH [(b5 l t k d,none),(.int .u8 h,none),(.int .u8 w,none),(dA m f g,none)] H =
 (fun (Z0:List AV)=>((fun (Z1:List AV)=>Tr.reqP (Z0=Z0) (Tr.ite (aP b1) (Tr.reqP True (Tr.ok ((AV.bool true,none),H))) (Tr.reqP (Z1=Z1) (Tr.ite b2 (Tr.reqP True (Tr.ok ((AV.bool true,none),H))) (Tr.req (aP (b7 (Int.ofNat 10) (Int.ofNat 0))) (Tr.req (aP (b7 (Int.ofNat l) (Int.ofNat 0))) Tr.bad)))))) [AV.slcT none (Row.F (fun j=>AV.slcT none (Row.M [ah.arr .i64 (f j) (g j)]) 1 (g j) false) m) 1 m false])) [AV.agg (Row.G [AV.slcT none (Row.M [ah.arr .i64 t l]) 1 l false,AV.slcT none (Row.M [ah.arr .i64 d k]) 1 k false])]:=by kernel_rfl
theorem R5 (n l k:Nat) (t d z la lv:Nat→Int) (h w hv c fv mo:Int) (m:Nat) (f:Nat→Nat→Int) (g:Nat→Nat) (P P2:AV→Prop) (E:AV→Int) (Z:AV→Nat→Int) (X:Int→Nat→Int) (S:(Nat→Int)→Bool) (TT:(Nat→Int)→Nat) (FF:(Nat→Int)→Nat→Nat→Int) (GG:(Nat→Int)→Nat→Nat) (N:(Nat→Int)→Int) (H:aa):aX Try.prog (cd n) 100000 11 Try.f11 (KtL.kt 11) (il (wQ (wQ (wQ (gu (wQ (wQ (tX (tX (tX (tX (tX aE 43 [b5 l t k d] (.bool true)) 24 [dA m f g] (.bool false)) 19 [b5 l t k d] (.tup [b6 l la false,.int .i64 0])) 39 [b5 l t k d,.int .i64 hv,.int .i64 c] (.tup [.int .i64 fv,.int .i64 0])) 46 [b5 l t k d] (b6 l lv false)) 29 (MD [b5 l t k d,.int .i64 hv] P E)) 30 (MD [b5 l t k d,.int .i64 hv] P E)) 27 (O7 l t k hv S TT FF GG N)) 47 (O8 l t k d P2 Z)) 48 (O9 l t k d c X)) 16 MB) n 0) (bS (bS aG 2 (q9 l lv (bA .i64 (Int.ofNat 1) (fU .i64 (nn .i64 h) (Int.ofNat 10))) (fU .i64 (nn .i64 w) (Int.ofNat l)) fv 0 0) (cK l t k d::H) (.ok (.normal,hints (q9 l lv hv c fv mo (Int.ofNat l)++[(156,.bool false)]),cK l t k d::H))) 0 (sR l z la (bA .i64 (Int.ofNat 1) (fU .i64 (nn .i64 h) (Int.ofNat 10))) (fU .i64 (nn .i64 w) (Int.ofNat l)) fv 0) (cK l t k d::H) (.ok (.normal,hints (sR l z la (bA .i64 (Int.ofNat 1) (fU .i64 (nn .i64 h) (Int.ofNat 10))) (fU .i64 (nn .i64 w) (Int.ofNat l)) fv (Int.ofNat l)++[(127,.bool false)]),cK l t k d::H))) aH [(b5 l t k d,none),(.int .u8 h,none),(.int .u8 w,none),(dA m f g,none)] H =
 (fun (Z0:Row)=>((fun (Z1:List AV)=>((fun (Z2:aq)=>((fun (Z3:AV)=>((fun (Z4:AV)=>((fun (Z5:List AV)=>((fun (Z6:List AV)=>((fun (Z7:aq)=>Tr.reqP ([AV.agg Z0]=[AV.agg Z0]) (Tr.ite (aP true) (Tr.reqP True (Tr.ok ((AV.bool true,none),H))) (Tr.reqP ([AV.slcT none (Row.F (fun j=>AV.slcT none (Row.M [ah.arr .i64 (f j) (g j)]) 1 (g j) false) m) 1 m false]=[AV.slcT none (Row.F (fun j=>AV.slcT none (Row.M [ah.arr .i64 (f j) (g j)]) 1 (g j) false) m) 1 m false]) (Tr.ite false (Tr.reqP True (Tr.ok ((AV.bool true,none),H))) (Tr.req (aP (b7 (Int.ofNat 10) (Int.ofNat 0))) (Tr.req (aP (b7 (Int.ofNat l) (Int.ofNat 0))) (Tr.reqP (Z5=[AV.agg Z0,AV.int .i64 hv]∧P Z3) (Tr.ite (aP (b7 (E Z3) (Int.ofNat 0))) (Tr.reqP (Z5=[AV.agg Z0,AV.int .i64 hv]) (Tr.ite (S d) (Tr.ite (aP (b7 (Int.ofNat 0) (Int.ofNat 0))) (Tr.ite (b7 (Int.ofNat 0) (Int.ofNat 13)) (Tr.reqP True (Tr.ok ((AV.bool true,none),H))) (Tr.ok ((AV.bool false,some 1),H))) (Tr.reqP (Z5=[AV.agg Z0,AV.int .i64 hv]∧P Z4) (Tr.ite (aP (b7 (E Z4) (Int.ofNat 0))) (Tr.ok ((AV.bool false,some 1),H)) (Tr.reqP (Z5=[AV.agg Z0,AV.int .i64 hv]∧P Z4) (Tr.ite (aP (b7 (E Z4) (Int.ofNat 0))) (Tr.ok ((AV.bool false,some 1),H)) (Tr.reqP (AV.agg Z0=AV.agg Z0∧P2 Z4) (Tr.reqP ([AV.agg Z0]=[AV.agg Z0]) (Tr.reqP ([AV.agg Z0,AV.int .i64 (bA .i64 (Int.ofNat 1) (fU IntKind.i64 (nn IntKind.i64 h) (Int.ofNat 10))),AV.int .i64 (fU IntKind.i64 (nn IntKind.i64 w) (Int.ofNat l))]=[AV.agg Z0,AV.int .i64 hv,AV.int .i64 c]) (Tr.ite (aP (b7 (Int.ofNat 0) (Int.ofNat 0))) (Tr.ok ((AV.bool false,some 1),H)) (Tr.ite (aP (b7 (Int.ofNat 0) (Int.ofNat 0))) (Tr.ok ((AV.bool false,some 1),H)) (Tr.ite (aP (b7 (Int.ofNat l) (Int.ofNat l))) (Tr.ok ((AV.bool false,some 1),H)) (Tr.req (cE (fU IntKind.i64 (nn IntKind.i64 w) (Int.ofNat l)) l) (Tr.req (cr (au 0 (fU IntKind.i64 (nn IntKind.i64 w) (Int.ofNat l)) 1) l) (Tr.ite (bK (Z Z4 (au 0 (fU IntKind.i64 (nn IntKind.i64 w) (Int.ofNat l)) 1)) fv) (Tr.ok ((AV.bool false,some 1),H)) (Tr.ite (bK fv (Int.ofNat 1)) (Tr.ok ((AV.bool false,some 1),H)) (Tr.reqP ([(4,AV.ptr 0 0 0 0),(9,AV.int .i64 (bA .i64 (Int.ofNat 1) (fU IntKind.i64 (nn IntKind.i64 h) (Int.ofNat 10)))),(10,AV.int .i64 (fU IntKind.i64 (nn IntKind.i64 w) (Int.ofNat l))),(14,AV.slcT none (Row.M [ah.arr .i64 (Z Z4) l]) 1 l true),(16,AV.slcT none (Row.M [ah.arr .i64 la l]) 1 l false),(18,AV.int .i64 fv),(20,AV.int .i64 (Int.ofNat 0))]=Z7∧{ lock:=false,bs:=[(0,ai.row Z0)] } :: H={ lock:=false,bs:=[(0,ai.row Z0)] } :: H) (Tr.reqP ([AV.agg Z0]=[AV.agg Z0]) (Tr.reqP (Z2=Z2∧{ lock:=false,bs:=[(0,ai.row Z0)] } :: H={ lock:=false,bs:=[(0,ai.row Z0)] } :: H) (Tr.reqP ([AV.agg Z0,AV.int .i64 (Int.ofNat 40),AV.int .i64 c]=[AV.agg Z0,AV.int .i64 (Int.ofNat 40),AV.int .i64 c]) (Tr.reqP ([AV.agg Z0,AV.int .i64 (Int.ofNat 40),AV.int .i64 c]=[AV.agg Z0,AV.int .i64 (Int.ofNat 40),AV.int .i64 c]) (Tr.reqP (Z6=Z6) (Tr.ite (S (X fv)) (Tr.reqP (Z1=Z1) (Tr.ite (S (X (br .i64 fv (Int.ofNat 1)))) (Tr.ite (lV mo fv) (Tr.ite (b7 (Int.ofNat 0) (Int.ofNat 0)) (Tr.ite (aP (b7 (Int.ofNat 0) (Int.ofNat 0))) (Tr.reqP True (Tr.ok ((AV.bool true,none),H))) (Tr.ok ((AV.bool false,some 1),H))) (Tr.ok ((AV.bool false,some 1),H))) (Tr.ok ((AV.bool false,some 1),H))) (Tr.ite (lV mo fv) (Tr.ite (b7 (Int.ofNat 0) (Int.ofNat 0)) (Tr.ite (aP (b7 (N (X (br .i64 fv (Int.ofNat 1)))) (Int.ofNat 0))) (Tr.reqP True (Tr.ok ((AV.bool true,none),H))) (Tr.ok ((AV.bool false,some 1),H))) (Tr.ok ((AV.bool false,some 1),H))) (Tr.ok ((AV.bool false,some 1),H))))) (Tr.reqP (Z1=Z1) (Tr.ite (S (X (br .i64 fv (Int.ofNat 1)))) (Tr.ite (lV mo fv) (Tr.ite (b7 (N (X fv)) (Int.ofNat 0)) (Tr.ite (aP (b7 (Int.ofNat 0) (Int.ofNat 0))) (Tr.reqP True (Tr.ok ((AV.bool true,none),H))) (Tr.ok ((AV.bool false,some 1),H))) (Tr.ok ((AV.bool false,some 1),H))) (Tr.ok ((AV.bool false,some 1),H))) (Tr.ite (lV mo fv) (Tr.ite (b7 (N (X fv)) (Int.ofNat 0)) (Tr.ite (aP (b7 (N (X (br .i64 fv (Int.ofNat 1)))) (Int.ofNat 0))) (Tr.reqP True (Tr.ok ((AV.bool true,none),H))) (Tr.ok ((AV.bool false,some 1),H))) (Tr.ok ((AV.bool false,some 1),H))) (Tr.ok ((AV.bool false,some 1),H))))))))))))))))))))))))))) (Tr.ite (aP (b7 (N d) (Int.ofNat 0))) (Tr.ite (b7 (N d) (Int.ofNat 13)) (Tr.reqP True (Tr.ok ((AV.bool true,none),H))) (Tr.ok ((AV.bool false,some 1),H))) Tr.bad))) (Tr.reqP (Z5=[AV.agg Z0,AV.int .i64 hv]∧P Z3) (Tr.ite (aP (b7 (E Z3) (Int.ofNat 0))) (Tr.ok ((AV.bool false,some 1),H)) (Tr.reqP (Z5=[AV.agg Z0,AV.int .i64 hv]∧P Z3) (Tr.ite (aP (b7 (E Z3) (Int.ofNat 0))) (Tr.ok ((AV.bool false,some 1),H)) (Tr.reqP (AV.agg Z0=AV.agg Z0∧P2 Z3) (Tr.reqP ([AV.agg Z0]=[AV.agg Z0]) (Tr.reqP ([AV.agg Z0,AV.int .i64 (bA .i64 (Int.ofNat 1) (fU IntKind.i64 (nn IntKind.i64 h) (Int.ofNat 10))),AV.int .i64 (fU IntKind.i64 (nn IntKind.i64 w) (Int.ofNat l))]=[AV.agg Z0,AV.int .i64 hv,AV.int .i64 c]) (Tr.ite (aP (b7 (Int.ofNat 0) (Int.ofNat 0))) (Tr.ok ((AV.bool false,some 1),H)) (Tr.ite (aP (b7 (Int.ofNat 0) (Int.ofNat 0))) (Tr.ok ((AV.bool false,some 1),H)) (Tr.ite (aP (b7 (Int.ofNat l) (Int.ofNat l))) (Tr.ok ((AV.bool false,some 1),H)) (Tr.req (cE (fU IntKind.i64 (nn IntKind.i64 w) (Int.ofNat l)) l) (Tr.req (cr (au 0 (fU IntKind.i64 (nn IntKind.i64 w) (Int.ofNat l)) 1) l) (Tr.ite (bK (Z Z3 (au 0 (fU IntKind.i64 (nn IntKind.i64 w) (Int.ofNat l)) 1)) fv) (Tr.ok ((AV.bool false,some 1),H)) (Tr.ite (bK fv (Int.ofNat 1)) (Tr.ok ((AV.bool false,some 1),H)) (Tr.reqP ([(4,AV.ptr 0 0 0 0),(9,AV.int .i64 (bA .i64 (Int.ofNat 1) (fU IntKind.i64 (nn IntKind.i64 h) (Int.ofNat 10)))),(10,AV.int .i64 (fU IntKind.i64 (nn IntKind.i64 w) (Int.ofNat l))),(14,AV.slcT none (Row.M [ah.arr .i64 (Z Z3) l]) 1 l true),(16,AV.slcT none (Row.M [ah.arr .i64 la l]) 1 l false),(18,AV.int .i64 fv),(20,AV.int .i64 (Int.ofNat 0))]=Z7∧{ lock:=false,bs:=[(0,ai.row Z0)] } :: H={ lock:=false,bs:=[(0,ai.row Z0)] } :: H) (Tr.reqP ([AV.agg Z0]=[AV.agg Z0]) (Tr.reqP (Z2=Z2∧{ lock:=false,bs:=[(0,ai.row Z0)] } :: H={ lock:=false,bs:=[(0,ai.row Z0)] } :: H) (Tr.reqP ([AV.agg Z0,AV.int .i64 (Int.ofNat 40),AV.int .i64 c]=[AV.agg Z0,AV.int .i64 (Int.ofNat 40),AV.int .i64 c]) (Tr.reqP ([AV.agg Z0,AV.int .i64 (Int.ofNat 40),AV.int .i64 c]=[AV.agg Z0,AV.int .i64 (Int.ofNat 40),AV.int .i64 c]) (Tr.reqP (Z6=Z6) (Tr.ite (S (X fv)) (Tr.reqP (Z1=Z1) (Tr.ite (S (X (br .i64 fv (Int.ofNat 1)))) (Tr.ite (lV mo fv) (Tr.ite (b7 (Int.ofNat 0) (Int.ofNat 0)) (Tr.ite (aP (b7 (Int.ofNat 0) (Int.ofNat 0))) (Tr.reqP True (Tr.ok ((AV.bool true,none),H))) (Tr.ok ((AV.bool false,some 1),H))) (Tr.ok ((AV.bool false,some 1),H))) (Tr.ok ((AV.bool false,some 1),H))) (Tr.ite (lV mo fv) (Tr.ite (b7 (Int.ofNat 0) (Int.ofNat 0)) (Tr.ite (aP (b7 (N (X (br .i64 fv (Int.ofNat 1)))) (Int.ofNat 0))) (Tr.reqP True (Tr.ok ((AV.bool true,none),H))) (Tr.ok ((AV.bool false,some 1),H))) (Tr.ok ((AV.bool false,some 1),H))) (Tr.ok ((AV.bool false,some 1),H))))) (Tr.reqP (Z1=Z1) (Tr.ite (S (X (br .i64 fv (Int.ofNat 1)))) (Tr.ite (lV mo fv) (Tr.ite (b7 (N (X fv)) (Int.ofNat 0)) (Tr.ite (aP (b7 (Int.ofNat 0) (Int.ofNat 0))) (Tr.reqP True (Tr.ok ((AV.bool true,none),H))) (Tr.ok ((AV.bool false,some 1),H))) (Tr.ok ((AV.bool false,some 1),H))) (Tr.ok ((AV.bool false,some 1),H))) (Tr.ite (lV mo fv) (Tr.ite (b7 (N (X fv)) (Int.ofNat 0)) (Tr.ite (aP (b7 (N (X (br .i64 fv (Int.ofNat 1)))) (Int.ofNat 0))) (Tr.reqP True (Tr.ok ((AV.bool true,none),H))) (Tr.ok ((AV.bool false,some 1),H))) (Tr.ok ((AV.bool false,some 1),H))) (Tr.ok ((AV.bool false,some 1),H)))))))))))))))))))))))))))))))))) [(4,AV.ptr 0 0 0 0),(9,AV.int .i64 (bA .i64 (Int.ofNat 1) (fU IntKind.i64 (nn IntKind.i64 h) (Int.ofNat 10)))),(10,AV.int .i64 (fU IntKind.i64 (nn IntKind.i64 w) (Int.ofNat l))),(14,AV.slcT none (Row.M [ah.arr .i64 z l]) 1 l true),(16,AV.slcT none (Row.M [ah.arr .i64 la l]) 1 l false),(18,AV.int .i64 fv),(20,AV.int .i64 (Int.ofNat 0))])) [AV.agg (Row.G [AV.slcT none (Row.M [ah.arr .i64 t l]) 1 l false,AV.slcT none (Row.M [ah.arr .i64 (X fv) k]) 1 k false]),AV.int .i64 hv])) [AV.agg Z0,AV.int .i64 (bA .i64 (Int.ofNat 1) (fU IntKind.i64 (nn IntKind.i64 h) (Int.ofNat 10)))])) (AV.slcT none (Row.F (fun j=>AV.slcT none (Row.M [ah.arr .i64 (FF d j) (GG d j)]) 1 (GG d j) false) (TT d)) 1 (TT d) false))) (AV.slcT none (Row.F (fun j=>AV.slcT none (Row.M [ah.arr .i64 (f j) (g j)]) 1 (g j) false) m) 1 m false))) [(4,AV.ptr 0 0 0 0),(9,AV.int .i64 (bA .i64 (Int.ofNat 1) (fU IntKind.i64 (nn IntKind.i64 h) (Int.ofNat 10)))),(10,AV.int .i64 (fU IntKind.i64 (nn IntKind.i64 w) (Int.ofNat l))),(18,AV.int .i64 fv),(21,AV.slcT none (Row.M [ah.arr .i64 lv l]) 1 l false),(22,AV.int .i64 (Int.ofNat 0)),(23,AV.int .i64 (Int.ofNat 0))])) [AV.agg (Row.G [AV.slcT none (Row.M [ah.arr .i64 t l]) 1 l false,AV.slcT none (Row.M [ah.arr .i64 (X (br .i64 fv (Int.ofNat 1))) k]) 1 k false]),AV.int .i64 hv])) (Row.G [AV.slcT none (Row.M [ah.arr .i64 t l]) 1 l false,AV.slcT none (Row.M [ah.arr .i64 d k]) 1 k false]):=by kernel_rfl
theorem EV:∀ b,(0,b) ∈ aI (bj Try.f11)→b=.loop (part Try.f11 [1,1,1,1,1,1,1,1,1,1,0,1,0,0]):=ep (by kernel_rfl)
theorem LQ:∀ b,(2,b) ∈ aI (bj Try.f11)→b=.loop (part Try.f11 [1,1,1,1,1,1,1,1,1,1,1,1,1,0,1,0,0]):=ep (by kernel_rfl)
theorem LR:∀ b,(4,b) ∈ aI (part Try.f11 [1,1,1,1,1,1,1,1,1,1,1,1,1,0,1,0,0])→b=.loop (part Try.f11 [1,1,1,1,1,1,1,1,1,1,1,1,1,0,1,0,0,1,0,0,1,0,0,0]):=ep (by kernel_rfl)
end Go.Eng
end
section
namespace Go.Eng
section
variable {l k m:Nat} {t d:Nat→Int} {h:Int} {f:Nat→Nat→Int} {g:Nat→Nat}
theorem JB (r:Rp l k t d h m f g) {c:Nat} (hc:c<l):cg f g m c≤nZ l t d c:=(rp r.sh.fw hc).2 (fun q hq=>by
 have:=BD r.sh.fw r.ru hc q hq
 have h1:=(lx r.sh.fw hc q hq).1
 have h2:=fz r.sh.tl (x:=(c:Int)) (by omega) q
 have:=r.la (bE t q (c:Int)).toNat (by omega)
 omega)
def uN (d:Nat→Int) (c:Int) (T:Nat):Nat→Int:=fun i=>if (i:Int)=c then min (d i) (T:Nat) else d i
theorem B9 (hs:Sh l t k d) (hc:bC l t d h=true) (c:Int):bC l t (uN d c (iO l t d h c)) h=true∧1≤iO l t d h c∧iO l t d h c≤40:=by
 have hb:=r7 (fun T=>bC l t (uN d c T) h)
 refine ⟨?_,hb⟩
 have e:iO l t d h c=jm (fun T=>bC l t (uN d c T) h):=rfl
 rw[e]
 by_cases c4:jm (fun T=>bC l t (uN d c T) h)<40
 · exact (tg (fun T=>bC l t (uN d c T) h)).1 c4
 · have:jm (fun T=>bC l t (uN d c T) h)=40:=by omega
   rw[this,j8 (e':=d) hs.fw (fun j hj=>by
    have:=hs.d40 j hj
    show (if (j:Int)=c then min (d j) ((40:Nat):Int) else d j)=d j
    split<;>omega)]
   exact hc
theorem Ko {c:Int} {T:Nat} (h1:1≤T) (h2:T<iO l t d h c):bC l t (uN d c T) h=false:=by
 have hb:=r7 (fun T=>bC l t (uN d c T) h)
 have e:iO l t d h c=jm (fun T=>bC l t (uN d c T) h):=rfl
 rw[e] at h2
 cases hx:bC l t (uN d c T) h with
 | false=>rfl
 | true =>
   have:=(tg (fun T=>bC l t (uN d c T) h)).2 T h1 (by omega) hx
   omega
theorem Jj (r:Rp l k t d h m f g) {c:Nat} (hc:c<l):(iO l t d h c:Int)≤cg f g m c:=by
 have hm:=(G1 r.tn).1
 obtain ⟨z1,z2⟩:=IL r hc
 obtain ⟨T,hT⟩:∃ T:Nat,cg f g m c=T:=⟨(cg f g m c).toNat,by omega⟩
 have hb:=r7 (fun T=>bC l t (uN d c T) h)
 have e:iO l t d h c=jm (fun T=>bC l t (uN d c T) h):=rfl
 rw[e,hT]
 by_cases c4:T<40
 · have:=(tg (fun T=>bC l t (uN d c T) h)).2 T (by omega) c4 (yr r.sh.fw r.tn (by have:=r.h1;omega) r.gh r.ru (fun j hj=>by
    have:=r.la j hj
    show cg f g m j≤if (j:Int)=c then min (d j) (T:Nat) else d j
    split
    · rename_i ej
      have:j=c:=by omega
      subst this
      omega
    · exact this))
   omega
 · omega
theorem FC (hs:Sh l t k d) (hc:bC l t d h=true) {c i q:Nat} (hi:i<l) (hq:q<eP l t i) (e:bE t q (i:Int)=(c:Int)):q+1≤iO l t d h c:=by
 obtain ⟨o1,o2,o3⟩:=B9 hs hc c
 have h0:Fv l t (uN d c (iO l t d h c)) 0=0:=by
  apply Classical.byContradiction
  intro hn
  have:=Kj l t (uN d c (iO l t d h c)) h (by omega)
  rw[o1] at this;cases this
 have h1:=kV h0 i hi
 rw[decide_eq_false_iff_not] at h1
 have h2:=(rp (e:=uN d c (iO l t d h c)) (v:=1) hs.fw hi).1 (by omega) q hq
 rw[e,Int.toNat_natCast] at h2
 have:uN d c (iO l t d h c) c≤(iO l t d h c:Int):=by
  show (if (c:Int)=(c:Int) then min (d c) (iO l t d h c:Nat) else d c)≤_
  rw[if_pos rfl];omega
 omega
theorem Oo (hs:Sh l t k d) (h1:1≤h) (h10:h≤10) (hc:bC l t d h=true) (c:Int):fE l k t (ay (dM (vn d 40 c (iO l t d h c:Nat)) k)) h=0:=by
 obtain ⟨o1,o2,o3⟩:=B9 hs hc c
 have hw:∀ j,j<l→ay (dM (vn d 40 c (iO l t d h c:Nat)) k) j=uN d c (iO l t d h c) j:=fun j hj=>by
  have:=hs.d40 j hj
  rw[nS _ (by have:=hs.kl;omega)]
  show (if (j:Int)=c then min (min (d j) 40) (iO l t d h c:Nat) else min (d j) 40)=(if (j:Int)=c then min (d j) (iO l t d h c:Nat) else d j)
  split<;>omega
 have ha:dj l t k (ay (dM (vn d 40 c (iO l t d h c:Nat)) k)) h=0:=AW (IS hs (fun j hj=>by
  rw[hw j hj]
  have:=hs.d1 j hj
  have:=hs.d40 j hj
  show 1≤(if (j:Int)=c then min (d j) (iO l t d h c:Nat) else d j)∧(if (j:Int)=c then min (d j) (iO l t d h c:Nat) else d j)≤40
  split<;>omega)) h1 h10
 unfold fE
 rw[if_pos ha,if_pos]
 rw[j8 (e':=uN d c (iO l t d h c)) hs.fw hw]
 exact o1
theorem On (hs:Sh l t k d) (hc:bC l t d h=true) {c:Nat} (hcl:c<l):fE l k t (ay (dM (vn d 40 c ((iO l t d h c:Nat)-1)) k)) h≠0:=fun hn=>by
 obtain ⟨o1,o2,o3⟩:=B9 hs hc c
 obtain ⟨a1,a2⟩:=xu hn
 obtain ⟨s,_,_⟩:=ma a1
 have hkl:=hs.kl
 have h1:=s.d1 c hcl
 rw[nS _ (by omega)] at h1
 have h2:1≤(if (c:Int)=(c:Int) then min (min (d c) 40) (((iO l t d h c:Nat):Int)-1) else min (d c) 40):=h1
 rw[if_pos rfl] at h2
 have:=Ko (l:=l) (t:=t) (d:=d) (h:=h) (c:=(c:Int)) (T:=iO l t d h c-1) (by omega) (by omega)
 rw[j8 (e':=uN d c (iO l t d h c-1)) hs.fw (fun j hj=>by
  have:=hs.d40 j hj
  rw[nS _ (by omega)]
  show (if (j:Int)=(c:Int) then min (min (d j) 40) (((iO l t d h c:Nat):Int)-1) else min (d j) 40)=(if (j:Int)=(c:Int) then min (d j) ((iO l t d h c-1:Nat):Int) else d j)
  split<;>omega),this] at a2
 cases a2
end
def nB (t:Nat→Int) (c:Int) (i:Nat):Nat:=fN (fun q=>decide (bE t q (i:Int)=c) || decide (bE t q (i:Int)<0)) 31 0
def rB (t:Nat→Int) (c:Int) (i:Nat):Bool:=decide (bE t (nB t c i) (i:Int)=c)
def zH (t lv:Nat→Int) (c:Nat):Nat→Int
 | 0=>0
 | i+1=>if rB t c i=true then max (zH t lv c i) (lv i-lv c+1) else zH t lv c i
section
variable {l k:Nat} {t d:Nat→Int} {h:Int}
theorem Nd (hf:Fw l t) {i:Nat} (hi:i<l) (c:Int):nB t c i≤30∧(∀ q,q<nB t c i→bE t q (i:Int)≠c∧0≤bE t q (i:Int))∧(bE t (nB t c i) (i:Int)=c∨bE t (nB t c i) (i:Int)<0):=by
 obtain ⟨a1,a2,a3⟩:=jS hf.cyc i hi
 have hp:=qA hf hi
 have hl:=hf.l30
 obtain ⟨b1,b2,b3,b4⟩:=kZ (fun q=>decide (bE t q (i:Int)=c) || decide (bE t q (i:Int)<0)) 31 0
 have hn:nB t c i≤eP l t i:=by
  apply Classical.byContradiction
  intro hx
  have:=b3 (eP l t i) (by omega) (by unfold nB at hx;omega)
  simp only[Bool.or_eq_false_iff,decide_eq_false_iff_not] at this
  exact this.2 a3
 have hle:nB t c i≤30:=by omega
 refine ⟨hle,fun q hq=>?_,?_⟩
 · have:=b3 q (by omega) hq
   simp only[Bool.or_eq_false_iff,decide_eq_false_iff_not] at this
   exact ⟨this.1,by omega⟩
 · have:=b4 (by unfold nB at hle;omega)
   simp only[Bool.or_eq_true,decide_eq_true_eq] at this
   exact this
theorem zI (hs:Sh l t k d) (hc:bC l t d h=true) {lv:Nat→Int} (hlv:∀ i,i<l→lv i=(eP l t i:Int)) {c:Nat} (hcl:c<l):∀ i,i≤l→zH t lv c i≤(iO l t d h c:Int)
 | 0,_=>by show (0:Int)≤_;omega
 | i + 1,hi=>by
   have ih:=zI hs hc hlv hcl i (by omega)
   show (if rB t c i=true then max (zH t lv c i) (lv i-lv c+1) else zH t lv c i)≤_
   by_cases e:rB t c i=true
   · rw[if_pos e]
     have e2:bE t (nB t c i) (i:Int)=(c:Int):=by unfold rB at e;simpa using e
     have hq:nB t c i<eP l t i:=by
      apply Classical.byContradiction
      intro hx
      obtain ⟨a1,a2,a3⟩:=jS hs.fw.cyc i (by omega)
      have:=uk (t:=t) (x:=(i:Int)) (m:=eP l t i) (q:=nB t c i) (by omega) (by omega)
      omega
     have a:=FC hs hc (by omega) hq e2
     have b:=(lx hs.fw (i:=i) (by omega) (nB t c i) hq).2
     rw[e2,Int.toNat_natCast] at b
     rw[hlv i (by omega),hlv c hcl]
     omega
   · rw[if_neg e];exact ih
end
end Go.Eng
end
section
namespace Go.Eng
open Go.Proofs
theorem QD (n l k:Nat) (t d lv:Nat→Int) (hv c fv mo j:Int) (H:aa):aJ (bn n 11 222) (il aE n 0) (bS aG 4 [] [] .bad) aH (part Try.f11 [1,1,1,1,1,1,1,1,1,1,1,1,1,0,1,0,0]) (hints (q9 l lv hv c fv mo j)) (cK l t k d::H) =
 (fun (Z0:aT)=>Tr.ite (bK j (Int.ofNat l)) (Tr.reqP ([(4,AV.ptr 0 0 0 0),(9,AV.int .i64 hv),(10,AV.int .i64 c),(18,AV.int .i64 fv),(21,AV.slcT none (Row.M [ah.arr .i64 lv l]) 1 l false),(22,AV.int .i64 mo),(23,AV.int .i64 j),(24,AV.int .i64 j)]=[]∧Z0::H=[]) Tr.bad) (Tr.ok (Ex.exit 2,[(4,AV.ptr 0 0 0 0,none),(9,AV.int .i64 hv,none),(10,AV.int .i64 c,none),(18,AV.int .i64 fv,none),(21,AV.slcT none (Row.M [ah.arr .i64 lv l]) 1 l false,none),(22,AV.int .i64 mo,none),(23,AV.int .i64 j,none),(156,AV.bool false,some 1)],Z0::H))) { lock:=false,bs:=[(0,ai.row (Row.G [AV.slcT none (Row.M [ah.arr .i64 t l]) 1 l false,AV.slcT none (Row.M [ah.arr .i64 d k]) 1 k false]))] }:=by kernel_rfl
section
variable (l:Nat) (t:Nat→Int) (k:Nat) (hv:Int) (z:Nat→Int)
noncomputable def K1:Bool:=decide (fE l k t z hv=0)
noncomputable def tS:Nat:=dY l t z hv
noncomputable def DR:Nat→Nat→Int:=fP l k t z hv (dY l t z hv-1)
noncomputable def yR:Nat→Nat:=gP l k t z hv (dY l t z hv-1)
end
noncomputable def zC (c:AV):Nat→Int:=by
 classical exact if e:∃ q:Nat×(Nat→Nat→Int)×(Nat→Nat),c=dA q.1 q.2.1 q.2.2 then cg e.choose.2.1 e.choose.2.2 e.choose.1 else fun _=>0
theorem G9 (m:Nat) (f:Nat→Nat→Int) (g:Nat→Nat):zC (dA m f g)=cg f g m:=by
 have e:∃ q:Nat×(Nat→Nat→Int)×(Nat→Nat),dA m f g=dA q.1 q.2.1 q.2.2:=⟨(m,f,g),rfl⟩
 unfold zC
 rw[dif_pos e]
 obtain ⟨a,b,c⟩:=C4 e.choose_spec
 rw[← a,← b,← c]
def Ob (l:Nat) (c:AV):Prop:=∃ (m:Nat) (f:Nat→Nat→Int) (g:Nat→Nat),c=dA m f g∧nk l m f g=0∧∀ i,i<m→g i≤40
theorem FR {c l k:Nat} {t:Nat→Int} {hv:Int} {T:nw} (hT:T.Ok (cd (c+12))):(gu T 27 (O7 l t k hv (K1 l t k hv) (tS l t hv) (DR l t k hv) (yR l t k hv) (cS l t k hv))).Ok (cd (c+12)):=by
 refine im hT (fun args H x hx=>?_)
 unfold O7 at hx
 split at hx
 · rename_i a s i z p e m u b
   obtain ⟨h1,hx⟩:=Tr.c8 hx
   rw[h1,RQ]
   unfold Ox
   rcases Tr.eY hx with ⟨h2,hx⟩ | ⟨h2,hx⟩
   · rw[← Tr.ab hx,if_pos (of_decide_eq_true h2)];rfl
   · rw[← Tr.ab hx,if_neg (of_decide_eq_false h2)];rfl
 · exact (Tr.ae hx).elim
theorem FT {c l k:Nat} {t d:Nat→Int} {T:nw} (hl:l≤30) (hT:T.Ok (cd (c+2))):(wQ T 47 (O8 l t k d (Ob l) zC)).Ok (cd (c+2)):=by
 refine mf hT (fun args p v hg hp H=>?_)
 unfold O8 at hg
 split at hg
 · simp only[nP] at hg
   obtain ⟨rfl,rfl⟩:=hg
   obtain ⟨rfl,m,f,g,rfl,h1,h2⟩:=hp
   rw[RR c l k t d m f g H (by omega) (fun i hi=>by have:=h2 i hi;omega),BL,if_pos h1,G9]
 · cases hg
noncomputable def xS (k:Nat) (d:Nat→Int) (c o:Int):Nat→Int:=ay (dM (vn d 40 c o) k)
theorem FU {n l k:Nat} {t d:Nat→Int} {c:Int} {T:nw} (h0:0<k) (hk:k≤1000) (hT:T.Ok (cd (n+1))):(wQ T 48 (O9 l t k d c (xS k d c))).Ok (cd (n+1)):=by
 refine mf hT (fun args p v hg hp H=>?_)
 unfold O9 at hg
 split at hg
 · simp only[nP] at hg
   obtain ⟨rfl,rfl⟩:=hg
   simp only[List.cons.injEq,and_true,AV.int.injEq,true_and] at hp
   obtain ⟨rfl,rfl,rfl⟩:=hp
   exact Su n l k t d H 40 _ _ h0 hk
 · cases hg
theorem sX {c fn l k:Nat} {t d:Nat→Int} {h:Int} {T:nw} (hT:T.Ok (cd c)) (h2:∀ m f g H,m≤50→(∀ i,i<m→g i≤40)→cd c (.fn fn) [b5 l t k d,.int .i64 h,dA m f g] H=some (.int .i64 (qU l k t d h m f g),H)):(wQ T fn (MD [b5 l t k d,.int .i64 h] LM (Jf l k t d h))).Ok (cd c):=by
 refine mf hT (fun args p v hg hp H=>?_)
 unfold MD at hg
 split at hg
 · simp only[nP] at hg
   obtain ⟨rfl,rfl⟩:=hg
   obtain ⟨e,m,f,g,e2,h3,h4⟩:=hp
   simp only[List.cons.injEq,and_true] at e
   obtain ⟨rfl,rfl⟩:=e
   rw[e2,A9]
   exact h2 m f g H h3 h4
 · cases hg
section
variable (n l k:Nat) (t d z:Nat→Int) (H:aa)
theorem ML (la:Nat→Int) (hv c fv:Int) (hl:l≤30) (hk:k=l) (h1:∀ j,j<l→z j≤la j∧la j≤d j):exec (bn n 11 222) (.block 0 (.loop (part Try.f11 [1,1,1,1,1,1,1,1,1,1,0,1,0,0]))) (sR l z la hv c fv ((0:Nat):Int)) (cK l t k d::H)=some (.normal,sR l z la hv c fv (Int.ofNat l)++[(127,.bool false)],cK l t k d::H):=by
 subst hk
 refine jf (n:=n) (f:=11) (nt:=222) (c:=part Try.f11 [1,1,1,1,1,1,1,1,1,1,0,1,0,0]) 0 (fun j=>sR k z la hv c fv (j:Nat)) (fun j=>cK k t k d::H) k _ (by omega) (fun j hj=>?_) ?_
 · have:=h1 j hj
   refine aB (Ny n k k t d z la hv c fv (j:Nat) H) (ao n) (af _ _) (ag _ _) ?_
   show Tr.all _ (fun r=>_∧tidy _ _ _=(sR k z la hv c fv ((j+1:Nat):Int),cK k t k d::H))
   rw[c7 (j:=j) (by omega)]
   simp only[iS]
   exact wF
 · exact cO (Ny n k k t d z la hv c fv (Int.ofNat k) H) (ao n) (af _ _) (ag _ _) (by first | (simp (disch:=omega) only[nV,nW];done) | (simp (disch:=omega) only[nV,nW];omega))
theorem PL (lv:Nat→Int) (hv fv mo j:Int) (c i:Nat) (hf:Fw l t) (hi:i<l):exec (bn n 11 222) (.block 4 (.loop (part Try.f11 [1,1,1,1,1,1,1,1,1,1,1,1,1,0,1,0,0,1,0,0,1,0,0,0]))) (o8 l lv hv (c:Nat) fv mo j (i:Nat)) (cK l t k d::H)=some (.normal,o8 l lv hv (c:Nat) fv mo j (bE t (nB t c i) (i:Nat))++[(166,.bool false)],cK l t k d::H):=by
 obtain ⟨b1,b2,b3⟩:=Nd hf hi (c:Int)
 have hx:=jf (n:=n) (f:=11) (nt:=222) (c:=part Try.f11 [1,1,1,1,1,1,1,1,1,1,1,1,1,0,1,0,0,1,0,0,1,0,0,0]) 4 (fun q=>o8 l lv hv (c:Nat) fv mo j (bE t q (i:Nat))) (fun q=>cK l t k d::H) (nB t c i) (o8 l lv hv (c:Nat) fv mo j (bE t (nB t c i) (i:Nat))++[(166,.bool false)],cK l t k d::H) (by omega) (fun q hq=>?_) ?_
 · exact hx
 · obtain ⟨c1,c2⟩:=b2 q hq
   have c3:=fz hf.tl (x:=(i:Int)) (by omega) q
   refine aB (Nz n l k t d lv hv (c:Nat) fv mo j (bE t q (i:Nat)) H) (ao n) (af _ _) (ag _ _) ?_
   show Tr.all _ (fun r=>_∧tidy _ _ _=(o8 l lv hv (c:Nat) fv mo j (bE t (q+1) (i:Nat)),cK l t k d::H))
   rw[pN c2]
   obtain ⟨x,hx⟩:∃ x:Nat,bE t q (i:Int)=x:=⟨(bE t q (i:Int)).toNat,by omega⟩
   rw[hx] at c1 c2 c3 ⊢
   simp only[iS,Int.toNat_natCast]
   exact wF
 · obtain ⟨x,hx,rfl⟩:=aB (Q:=fun x=>x=(.exit 4,o8 l lv hv (c:Nat) fv mo j (bE t (nB t c i) (i:Nat))++[(166,.bool false)],cK l t k d::H)) (Nz n l k t d lv hv (c:Nat) fv mo j (bE t (nB t c i) (i:Nat)) H) (ao n) (af _ _) (ag _ _) (by
    generalize bE t (nB t c i) (i:Nat)=x at *
    exact wF
    )
   exact hx
theorem PK (lv:Nat→Int) (hv fv:Int) (c:Nat) (hf:Fw l t) (hc:c<l) (hlv:∀ i,i<l→0≤lv i∧lv i≤100):exec (bn n 11 222) (.block 2 (.loop (part Try.f11 [1,1,1,1,1,1,1,1,1,1,1,1,1,0,1,0,0]))) (q9 l lv hv (c:Nat) fv 0 ((0:Nat):Int)) (cK l t k d::H)=some (.normal,q9 l lv hv (c:Nat) fv (zH t lv c l) (Int.ofNat l)++[(156,.bool false)],cK l t k d::H):=by
 have l30:=hf.l30
 refine jf (n:=n) (f:=11) (nt:=222) (c:=part Try.f11 [1,1,1,1,1,1,1,1,1,1,1,1,1,0,1,0,0]) 2 (fun i=>q9 l lv hv (c:Nat) fv (zH t lv c i) (i:Nat)) (fun i=>cK l t k d::H) l _ (by omega) (fun i hi=>?_) ?_
 · have hx:=PL n l k t d H lv hv fv (zH t lv c i) (i:Nat) c i hf hi
   refine aB (QC n l k t d lv hv (c:Nat) fv (zH t lv c i) (i:Nat) (bE t (nB t c i) (i:Nat)) H) (ao n) (aA (af _ _) LR (fun x hy=>bN hy hx)) (ag _ _) ?_
   show Tr.all _ (fun r=>_∧tidy _ _ _=(q9 l lv hv (c:Nat) fv (if rB t c i=true then max (zH t lv c i) (lv i-lv c+1) else zH t lv c i) ((i+1:Nat):Int),cK l t k d::H))
   have h1:=hlv i hi
   have h2:=hlv c hc
   have e1:br .i64 (lv i) (lv c)=lv i-lv c:=qM (by omega) (by omega)
   have e2:bA .i64 (lv i-lv c) (Int.ofNat 1)=lv i-lv c+1:=EJ (by show _≤lv i-lv c+1;omega) (by show lv i-lv c+1≤_;omega)
   rw[c7 (j:=i) (by omega)]
   simp only[iS,e1,e2,zG]
   have er:rB t c i=decide (bE t (nB t c i) (i:Nat)=(c:Int)):=rfl
   rw[er]
   clear hx
   generalize bE t (nB t c i) (i:Nat)=x at *
   generalize zH t lv c i=M at *
   generalize lv i-lv c+1=V at *
   by_cases cx:x=(c:Int)
   · rw[decide_eq_true cx]
     simp only[if_true]
     generalize max M V=W at *
     exact wF
   · rw[decide_eq_false cx]
     simp only[Bool.false_eq_true,if_false]
     generalize max M V=W at *
     exact wF
 · exact cO (QD n l k t d lv hv (c:Nat) fv (zH t lv c l) (Int.ofNat l) H) (ao n) (aA (af _ _) LR (fun x hx=>(Tr.ae hx).elim)) (ag _ _) (by first | (simp (disch:=omega) only[nV,nW];done) | (simp (disch:=omega) only[nV,nW];omega))
end
end Go.Eng
end
section
namespace Go.Eng
open Go.Proofs
theorem Q0 (n l k:Nat) (t d:Nat→Int) (h w hv:Int) (m:Nat) (f:Nat→Nat→Int) (g:Nat→Nat) (P:AV→Prop) (E:AV→Int) (H:aa):aX Try.prog (cd n) 100000 11 Try.f11 (KtL.kt 11) (il (wQ (wQ (tX (tX (tX aE 43 [b5 l t k d] (.bool true)) 24 [dA m f g] (.bool false)) 27 [b5 l t k d,.int .i64 hv] (.tup [.nils,.int .i64 13])) 30 (MD [b5 l t k d,.int .i64 hv] P E)) 16 MB) n 0) (bS aG 0 [] [] .bad) aH [(b5 l t k d,none),(.int .u8 h,none),(.int .u8 w,none),(dA m f g,none)] H =
 (fun (Z0:Row)=>((fun (Z1:Row)=>((fun (Z2:List AV)=>Tr.reqP ([AV.agg Z0]=[AV.agg Z0]) (Tr.ite (aP true) (Tr.reqP True (Tr.ok ((AV.bool true,none),H))) (Tr.reqP ([AV.slcT none Z1 1 m false]=[AV.slcT none Z1 1 m false]) (Tr.ite false (Tr.reqP True (Tr.ok ((AV.bool true,none),H))) (Tr.req (aP (b7 (Int.ofNat 10) (Int.ofNat 0))) (Tr.req (aP (b7 (Int.ofNat l) (Int.ofNat 0))) (Tr.reqP (Z2=[AV.agg Z0,AV.int .i64 hv]∧P (AV.slcT none Z1 1 m false)) (Tr.ite (aP (b7 (E (AV.slcT none Z1 1 m false)) (Int.ofNat 0))) (Tr.reqP (Z2=[AV.agg Z0,AV.int .i64 hv]) (Tr.ite (aP (b7 (Int.ofNat 13) (Int.ofNat 0))) (Tr.ite (b7 (Int.ofNat 13) (Int.ofNat 13)) (Tr.reqP True (Tr.ok ((AV.bool true,none),H))) (Tr.ok ((AV.bool false,some 1),H))) Tr.bad)) Tr.bad)))))))) [AV.agg Z0,AV.int .i64 (bA .i64 (Int.ofNat 1) (fU IntKind.i64 (nn IntKind.i64 h) (Int.ofNat 10)))])) (Row.F (fun j=>AV.slcT none (Row.M [ah.arr .i64 (f j) (g j)]) 1 (g j) false) m))) (Row.G [AV.slcT none (Row.M [ah.arr .i64 t l]) 1 l false,AV.slcT none (Row.M [ah.arr .i64 d k]) 1 k false]):=by kernel_rfl
section
variable (n l k:Nat) (t d:Nat→Int) (H:aa)
theorem Sj (h w:Int) (m:Nat) (f:Nat→Nat→Int) (g:Nat→Nat) (hh:0≤h∧h≤255) (hw:0≤w∧w≤255):cd (n+14) (.fn 11) [b5 l t k d,.int .u8 h,.int .u8 w,dA m f g] H=some (.bool true,H):=by
 have h43:∀ H,cd (n+13) (.fn 43) [b5 l t k d] H=some (.bool (decide (l7 l t k d=0)),H):=fun H=>Sr (n+10) l k t d H
 have h24:∀ H,cd (n+13) (.fn 24) [dA m f g] H=some (.bool (decide (50<m) || bV (fun j=>decide (40<g j)) m),H):=fun H=>Sn (n+12) m f g H
 by_cases hb1:l7 l t k d=0
 · rw [decide_eq_true hb1] at h43
   cases hb2:(decide (50<m) || bV (fun j=>decide (40<g j)) m) with
   | true =>
     refine aD (n:=n+13) Try.func11 rfl rfl rfl (Oe (n+13) l k t d h w m f g _ _ H) (aO _ (n+13) (Mk (by omega) (bp (bp (aF _) h43) h24))) (aA (af _ _) EV (fun x hx=>(Tr.ae hx).elim)) (ag _ _) ?_
     rw[hb2]
     exact wF
   | false =>
     rw[hb2] at h24
     simp only[Bool.or_eq_false_iff,decide_eq_false_iff_not] at hb2
     have hm:m≤50:=by omega
     have hg:∀ i,i<m→g i≤40:=fun i hi=>by
      have:=dR hb2.2 i hi
      rw[decide_eq_false_iff_not] at this
      omega
     clear hb2
     have hs:=Ap hb1
     have l30:=hs.l30
     have l1:=hs.l1
     have hkl:=hs.kl
     have m1:h.tmod 10=h % 10:=Int.tmod_eq_emod_of_nonneg hh.1
     have m2:w.tmod (l:Int)=w % (l:Int):=Int.tmod_eq_emod_of_nonneg hw.1
     have hh1:1≤1+h % 10:=by omega
     have hh2:1+h % 10≤10:=by omega
     have p1:0≤w % (l:Int):=Int.emod_nonneg _ (by omega)
     have p2:w % (l:Int)<l:=Int.emod_lt_of_pos _ (by omega)
     obtain ⟨C,hC⟩:∃ C:Nat,w % (l:Int)=C:=⟨(w % (l:Int)).toNat,by omega⟩
     have hCl:C<l:=by omega
     have e2:fU .i64 (nn .i64 w) (Int.ofNat l)=(C:Nat):=by
      rw[G7 (by omega) (by omega),xN,show Int.ofNat l=(l:Int) from rfl,m2,hC]
     generalize hhv:1+h % 10=hv at *
     have e1:bA .i64 (Int.ofNat 1) (fU .i64 (nn .i64 h) (Int.ofNat 10))=hv:=by
      rw[G7 (by omega) (by omega),xN,show Int.ofNat 10=10 from rfl,m1,show Int.ofNat 1=1 from rfl,EJ (by omega) (by omega),hhv]
     have ha:=AW hs hh1 hh2
     have h29:∀ m f g H,m≤50→(∀ i,i<m→g i≤40)→cd (n+13) (.fn 29) [b5 l t k d,.int .i64 hv,dA m f g] H=some (.int .i64 (qU l k t d hv m f g),H):=fun m f g H a b=>So (n+2) l k t d hv m f g H a b
     have h30:∀ m f g H,m≤50→(∀ i,i<m→g i≤40)→cd (n+13) (.fn 30) [b5 l t k d,.int .i64 hv,dA m f g] H=some (.int .i64 (qU l k t d hv m f g),H):=fun m f g H a b=>Sp (n+9) l k t d hv m f g H a b
     have h19:∀ H,cd (n+13) (.fn 19) [b5 l t k d] H=some (.tup [b6 l (bG (bG (nD l t d l))) false,.int .i64 0],H):=fun H=>by
      rw[show n+13=(n+4)+9 by omega,Sm];unfold Qb;rw[if_pos hb1]
     have h46:∀ H,cd (n+13) (.fn 46) [b5 l t k d] H=some (b6 l (ay (dM (fun i=>(eP l t i:Int)) l)) false,H):=fun H=>Ss (n+12) l k t d H hs.fw (by omega)
     have hla:∀ i,i<l→bG (bG (nD l t d l)) i=nZ l t d i:=fun i hi=>by
      rw[wO (l:=l) (by omega),Bp hi]
     have hlv:∀ i,i<l→ay (dM (fun i=>(eP l t i:Int)) l) i=(eP l t i:Int):=fun i hi=>nS _ hi
     generalize bG (bG (nD l t d l))=la at *
     generalize ay (dM (fun i=>(eP l t i:Int)) l)=lv at *
     have hlv2:∀ i,i<l→0≤lv i∧lv i≤100:=fun i hi=>by
      have:=qA hs.fw hi
      rw[hlv i hi];omega
     have hP:LM (dA m f g):=⟨m,f,g,rfl,hm,hg⟩
     obtain ⟨x,hx⟩:∃ x,qU l k t d hv m f g=x:=⟨_,rfl⟩
     have hE1:Jf l k t d hv (AV.slcT none (.F (fun j=>AV.slcT none (.M [.arr .i64 (f j) (g j)]) 1 (g j) false) m) 1 m false)=x:=by rw[← hx];exact A9 l k t d hv m f g
     have hNd:cS l t k hv d=if bC l t d hv=true then 0 else 13:=by unfold cS fE;rw[if_pos ha]
     by_cases hc:bC l t d hv=true
     · rw [if_pos hc] at hNd
       have hSd:K1 l t k hv d=true:=by unfold K1;exact decide_eq_true hNd
       have h39:∀ H,cd (n+13) (.fn 39) [b5 l t k d,.int .i64 hv,.int .i64 (C:Nat)] H=some (.tup [.int .i64 (iO l t d hv (C:Nat):Nat),.int .i64 0],H):=fun H=>by
        rw[show n+13=(n+1)+12 by omega,Sq _ l k t d H hv (C:Nat) (by omega)]
        have e0:Ji l t k d hv (C:Nat)=0:=by
         unfold Ji
         rw[if_pos ha,if_neg (show ¬ ((C:Int)<0∨(l:Int)-1<(C:Int)) by omega),if_pos hc]
        unfold O2
        rw[if_pos e0]
       obtain ⟨f1,f2,f3⟩:=B9 hs hc (C:Int)
       have hfv:(1:Int)≤((iO l t d hv (C:Nat):Nat):Int):=by omega
       have hmo:=zI hs hc hlv hCl l (Nat.le_refl _)
       have hS1:K1 l t k hv (xS k d (C:Nat) (iO l t d hv (C:Nat):Nat))=true:=decide_eq_true (Oo hs hh1 hh2 hc (C:Int))
       have hno:=On hs hc hCl
       have hS2:K1 l t k hv (xS k d (C:Nat) ((iO l t d hv (C:Nat):Nat)-1))=false:=decide_eq_false hno
       have hN2:cS l t k hv (xS k d (C:Nat) ((iO l t d hv (C:Nat):Nat)-1))≠0:=hno
       have hxb:=PK (n+13) l k t d H lv hv (iO l t d hv (C:Nat):Nat) C hs.fw hCl hlv2
       have es:br .i64 ((iO l t d hv (C:Nat):Nat):Int) (Int.ofNat 1)=(iO l t d hv (C:Nat):Nat)-1:=qM (by show _≤((iO l t d hv (C:Nat):Nat):Int)-1;omega) (by show ((iO l t d hv (C:Nat):Nat):Int)-1≤_;omega)
       by_cases hx0:x=0
       · have r:=JC (show qU l k t d hv m f g=0 by rw[hx];exact hx0)
         have hz:=Jj r hCl
         have hla2:∀ j,j<l→cg f g m j≤la j∧la j≤d j:=fun j hj=>by
          rw[hla j hj]
          exact ⟨JB r hj,F7 hs.fw hj⟩
         have hP2:Ob l (dA m f g):=⟨m,f,g,rfl,r.tn,hg⟩
         have hZ:zC (AV.slcT none (.F (fun j=>AV.slcT none (.M [.arr .i64 (f j) (g j)]) 1 (g j) false) m) 1 m false)=cg f g m:=G9 m f g
         have hxa:=ML (n+13) l k t d (cg f g m) H la hv (C:Nat) (iO l t d hv (C:Nat):Nat) l30 hkl hla2
         clear r hla2 hx hno
         subst hx0
         generalize cg f g m=Z at *
         generalize ((iO l t d hv (C:Nat):Nat):Int)=fv at *
         refine aD (n:=n+13) Try.func11 rfl rfl rfl (R5 (n+13) l k t d Z la lv h w hv (C:Nat) fv (zH t lv C l) m f g LM (Ob l) (Jf l k t d hv) zC (xS k d (C:Nat)) (K1 l t k hv) (tS l t hv) (DR l t k hv) (yR l t k hv) (cS l t k hv) H) (aO _ (n+13) (Mk (by omega) (FU (n:=n+12) (by omega) (by omega) (FT (c:=n+11) l30 (FR (c:=n+1) (sX (sX (bp (bp (bp (bp (bp (aF _) h43) h24) h19) h39) h46) h29) h30)))))) (aA (aA (af _ _) LQ (fun x hy=>bN hy (by rw[e1,e2];exact hxb))) EV (fun x hy=>bN hy (by rw[e1,e2];exact hxa))) (ag _ _) ?_
         clear hxa hxb h43 h24 h19 h39 h46 h29 h30
         simp only[e1,e2,iS,hS1,es,hS2,hE1,hZ]
         generalize cS l t k hv (xS k d (C:Nat) (fv-1))=NN at *
         generalize zH t lv C l=MO at *
         exact wF
       · have r:=IK hs hc hh1 hh2
         have hp:=Nu r
         have hz:=Jj r hCl
         have hla2:∀ j,j<l→cg (DR l t k hv d) (yR l t k hv d) (tS l t hv d) j≤la j∧la j≤d j:=fun j hj=>by
          rw[hla j hj]
          exact ⟨JB r hj,F7 hs.fw hj⟩
         have hT:=(lQ hs hc).2
         have hlen:∀ j,j<tS l t hv d→yR l t k hv d j≤40:=fun j hj=>by
          have:=r.gh j hj
          unfold yR
          omega
         have hP2:Ob l (dA (tS l t hv d) (DR l t k hv d) (yR l t k hv d)):=⟨_,_,_,rfl,r.tn,hlen⟩
         have hP3:LM (dA (tS l t hv d) (DR l t k hv d) (yR l t k hv d)):=⟨_,_,_,rfl,by unfold tS;omega,hlen⟩
         have hE2:Jf l k t d hv (AV.slcT none (.F (fun j=>AV.slcT none (.M [.arr .i64 (DR l t k hv d j) (yR l t k hv d j)]) 1 (yR l t k hv d j) false) (tS l t hv d)) 1 (tS l t hv d) false)=0:=(A9 l k t d hv (tS l t hv d) (DR l t k hv d) (yR l t k hv d)).trans hp
         have hZ:zC (AV.slcT none (.F (fun j=>AV.slcT none (.M [.arr .i64 (DR l t k hv d j) (yR l t k hv d j)]) 1 (yR l t k hv d j) false) (tS l t hv d)) 1 (tS l t hv d) false)=cg (DR l t k hv d) (yR l t k hv d) (tS l t hv d):=G9 _ _ _
         have hz:((iO l t d hv (C:Nat):Nat):Int)≤cg (DR l t k hv d) (yR l t k hv d) (tS l t hv d) C:=hz
         have hxa:=ML (n+13) l k t d (cg (DR l t k hv d) (yR l t k hv d) (tS l t hv d)) H la hv (C:Nat) (iO l t d hv (C:Nat):Nat) l30 hkl hla2
         clear r hla2 hx hno hlen hp
         generalize cg (DR l t k hv d) (yR l t k hv d) (tS l t hv d)=Z at *
         generalize ((iO l t d hv (C:Nat):Nat):Int)=fv at *
         refine aD (n:=n+13) Try.func11 rfl rfl rfl (R5 (n+13) l k t d Z la lv h w hv (C:Nat) fv (zH t lv C l) m f g LM (Ob l) (Jf l k t d hv) zC (xS k d (C:Nat)) (K1 l t k hv) (tS l t hv) (DR l t k hv) (yR l t k hv) (cS l t k hv) H) (aO _ (n+13) (Mk (by omega) (FU (n:=n+12) (by omega) (by omega) (FT (c:=n+11) l30 (FR (c:=n+1) (sX (sX (bp (bp (bp (bp (bp (aF _) h43) h24) h19) h39) h46) h29) h30)))))) (aA (aA (af _ _) LQ (fun x hy=>bN hy (by rw[e1,e2];exact hxb))) EV (fun x hy=>bN hy (by rw[e1,e2];exact hxa))) (ag _ _) ?_
         clear hxa hxb h43 h24 h19 h39 h46 h29 h30
         simp only[e1,e2,iS,hS1,es,hS2,hE1,hE2,hZ,hSd]
         generalize cS l t k hv (xS k d (C:Nat) (fv-1))=NN at *
         generalize zH t lv C l=MO at *
         exact wF
     · rw[if_neg hc] at hNd
       have h27:∀ H,cd (n+13) (.fn 27) [b5 l t k d,.int .i64 hv] H=some (.tup [.nils,.int .i64 13],H):=fun H=>by
        have e:fE l k t d hv=13:=hNd
        rw[show n+13=(n+1)+12 by omega,RQ]
        unfold Ox
        rw[e,if_neg (by decide)]
       have hx0:x≠0:=fun e=>by
        have:=Li (JC (show qU l k t d hv m f g=0 by rw[hx];exact e))
        exact hc this
       refine aD (n:=n+13) Try.func11 rfl rfl rfl (Q0 (n+13) l k t d h w hv m f g LM (Jf l k t d hv) H) (aO _ (n+13) (Mk (by omega) (sX (bp (bp (bp (aF _) h43) h24) h27) h30))) (aA (af _ _) EV (fun x hx=>(Tr.ae hx).elim)) (ag _ _) ?_
       simp only[e1,hE1]
       exact wF
 · rw[decide_eq_false hb1] at h43
   refine aD (n:=n+13) Try.func11 rfl rfl rfl (Oe (n+13) l k t d h w m f g _ _ H) (aO _ (n+13) (Mk (by omega) (bp (bp (aF _) h43) h24))) (aA (af _ _) EV (fun x hx=>(Tr.ae hx).elim)) (ag _ _) ?_
   exact wF
end
end Go.Eng
end
