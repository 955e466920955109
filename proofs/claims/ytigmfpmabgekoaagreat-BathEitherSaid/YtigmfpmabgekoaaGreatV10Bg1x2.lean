/- Bath: the law BathEither, its trees. -/
import Derived.Test.YtigmfpmabgekoaaGreatV10Bc8x10
import Derived.Test.YtigmfpmabgekoaaGreatV10Ba4x6
section
namespace Go.Eng
open Go.Proofs
set_option linter.unusedVariables false
set_option linter.unusedSimpArgs false
set_option maxRecDepth 100000
noncomputable def fr10a (l:Nat) (z:Nat→Int) (w:Int) (s:Bool) (j:Int):Frm:=[(0,slA 5 l z),(1,.int .u8 w),(5,.bool s),(6,.int .i64 j)]
noncomputable def g16 (l:Nat) (z:Nat→Int) (j a b e:Int):List AV→Option (Prop×AV):=fun x=>some (x=[slA 5 l z,.int .i64 j],.tup [.agg (.I .i64 [a,b]),.int .i64 e])
noncomputable def fr10b (l p:Nat) (z x:Nat→Int) (i:Int):Frm:=[(0,slA 5 l z),(9,sl1 p x true),(16,.int .i64 i)]
noncomputable def fr10c (l p:Nat) (z x:Nat→Int) (i:Int) (d:Bool) (m:Int):Frm:=[(0,slA 5 l z),(9,sl1 p x true),(16,.int .i64 i),(17,.bool d),(18,.int .i64 m)]
noncomputable def ct10 (l p k:Nat) (z x v:Nat→Int) (C:AV) (i nn:Int) (mm:Bool):Ctr:=ctG (ctG (tX (tX (tX (tX (tX noCt 23 [slA 5 l z] (.tup [sl1 p x true,.int .i64 0])) 25 [slA 5 l z] (.tup [C,.int .i64 0])) 47 [slA 5 l z,.int .i64 i] (slA 5 k v)) 46 [slA 5 k v] (.tup [.int .i64 nn,.bool true])) 42 [C,.int .i64 i] (.bool mm)) 21 (gO (slA 5 l z) (.int .i64 0))) 15 g15
noncomputable def bl10 (l p:Nat) (z x:Nat→Int) (w:Int) (s:Bool) (H:Heap):BlkT:=blkE (blkE noBT 2 (fr10b l p z x 0) (lvE::H) (.ok (.normal,hints (fr10b l p z x (Int.ofNat l)++[(115,.bool false)]),lvE::H))) 0 (fr10a l z w true 0) (lvE::H) (.ok (.normal,hints (fr10a l z w s (Int.ofNat l)++[(33,.bool false)]),lvE::H))
theorem t10a (n l:Nat) (z:Nat→Int) (H:Heap) (w:Int) (s:Bool) (j a b e:Int):execT (cxD n 10 144) (il (ctG noCt 16 (g16 l z j a b e)) n 0) noBT noRT (part Tryz.f10 [1,1,1,0,1,0,0]) (hints (fr10a l z w s j)) (lvE::H) =
 (fun (Z0:Lvl)=>((fun (Z1:HFrm)=>((fun (Z2:HFrm)=>Tr.ite (ltI j (Int.ofNat l)) (Tr.reqP ([slA 5 l z,AV.int .i64 j]=[slA 5 l z,AV.int .i64 j]) (Tr.ite (notB (eqI e (Int.ofNat 0))) (Tr.ite (notB (eqI e (Int.ofNat 22))) (Tr.ok (Ex.ret,[(4,AV.bool false,some 1)],Z0::H)) (Tr.ite s (Tr.ok (Ex.normal,Z1,Z0::H)) (Tr.ok (Ex.normal,Z2,Z0::H)))) (Tr.ite s (Tr.ok (Ex.normal,Z1,Z0::H)) (Tr.ok (Ex.normal,Z2,Z0::H))))) (Tr.ok (Ex.exit 0,[(0,slA 5 l z,none),(1,AV.int IntKind.u8 w,none),(5,AV.bool s,none),(6,AV.int .i64 j,none),(33,AV.bool false,some 1)],lvE::H))) [(0,slA 5 l z,none),(1,AV.int IntKind.u8 w,none),(5,AV.bool false,some 1),(6,AV.int .i64 (addI .i64 j (Int.ofNat 1)),none)])) [(0,slA 5 l z,none),(1,AV.int IntKind.u8 w,none),(5,AV.bool (eqI e (Int.ofNat 0)),none),(6,AV.int .i64 (addI .i64 j (Int.ofNat 1)),none)])) { lock:=false,bs:=[(0,Blk.row (Row.I .i64 [a,b]))] }:=by kernel_rfl
theorem t10ax (n l:Nat) (z:Nat→Int) (H:Heap) (w:Int) (s:Bool) (j:Int):execT (cxD n 10 144) (il noCt n 0) noBT noRT (part Tryz.f10 [1,1,1,0,1,0,0]) (hints (fr10a l z w s j)) (lvE::H) =
 Tr.ite (ltI j (Int.ofNat l)) Tr.bad (Tr.ok (Ex.exit 0,[(0,slA 5 l z,none),(1,AV.int IntKind.u8 w,none),(5,AV.bool s,none),(6,AV.int .i64 j,none),(33,AV.bool false,some 1)],lvE::H)):=by kernel_rfl
theorem u10w (n l:Nat) (z:Nat→Int) (H:Heap) (w e:Int):bodyT Tryz.prog (cd (n+2)) 100000 10 Tryz.f10 (KtB.kt 10) (il (ctG (ctG noCt 21 (gO (slA 5 l z) (.int .i64 e))) 15 g15) n 2) (stopB noBT 0) noRT [(slA 5 l z,none),(.int .u8 w,none)] H =
 Tr.ite (notB (ltI (Int.ofNat 20) (Int.ofNat l))) (Tr.reqP (slA 5 l z=slA 5 l z) (Tr.ite (notB (eqI e (Int.ofNat 0))) (Tr.reqP True (Tr.ok ((AV.bool true,none),H))) (Tr.ite (ltI (Int.ofNat l) (Int.ofNat 2)) (Tr.reqP True (Tr.ok ((AV.bool true,none),H))) Tr.bad))) (Tr.reqP True (Tr.ok ((AV.bool true,none),H))):=by kernel_rfl
theorem u10e (n l:Nat) (z:Nat→Int) (H:Heap) (w e:Int):bodyT Tryz.prog (cd (n+2)) 100000 10 Tryz.f10 (KtB.kt 10) (il (ctG (ctG (tX (tX noCt 23 [slA 5 l z] (.tup [.nils,.int .i64 e])) 25 [slA 5 l z] (.tup [.nils,.int .i64 e])) 21 (gO (slA 5 l z) (.int .i64 0))) 15 g15) n 2) (blkE (stopB noBT 2) 0 (fr10a l z w true 0) (lvE::H) (.ok (.normal,hints (fr10a l z w false (Int.ofNat l)++[(33,.bool false)]),lvE::H))) noRT [(slA 5 l z,none),(.int .u8 w,none)] H =
 (fun (Z0:Frm)=>Tr.ite (notB (ltI (Int.ofNat 20) (Int.ofNat l))) (Tr.reqP (slA 5 l z=slA 5 l z) (Tr.ite (notB (eqI (Int.ofNat 0) (Int.ofNat 0))) (Tr.reqP True (Tr.ok ((AV.bool true,none),H))) (Tr.ite (ltI (Int.ofNat l) (Int.ofNat 2)) (Tr.reqP True (Tr.ok ((AV.bool true,none),H))) (Tr.reqP (Z0=Z0∧lvE::H=lvE::H) (Tr.reqP ([slA 5 l z]=[slA 5 l z]) (Tr.reqP ([slA 5 l z]=[slA 5 l z]) (Tr.ite (notB (eqB (eqI e (Int.ofNat 0)) false)) (Tr.ok ((AV.bool false,some 1),H)) (Tr.ite (notB (eqI e e)) (Tr.ok ((AV.bool false,some 1),H)) (Tr.ite (notB false) (Tr.reqP True (Tr.ok ((AV.bool true,none),H))) (Tr.req (notB (eqI (Int.ofNat l) (Int.ofNat 0))) (Tr.req (bndI (remI IntKind.i64 (wrI IntKind.i64 w) (Int.ofNat l)) l) (Tr.req (leN (addO (mulO 0 5) (mulO (toN (remI IntKind.i64 (wrI IntKind.i64 w) (Int.ofNat l))) 5)) (mulO l 5)) (Tr.ite (eqN (toN (remI IntKind.i64 (wrI IntKind.i64 w) (Int.ofNat l))) 0) (Tr.req (bndI (addI .i64 (remI IntKind.i64 (wrI IntKind.i64 w) (Int.ofNat l)) (Int.ofNat 1)) l) (Tr.req (leN (addO (mulO (toN (addI .i64 (remI IntKind.i64 (wrI IntKind.i64 w) (Int.ofNat l)) (Int.ofNat 1))) 5) (mulO (subO l (toN (addI .i64 (remI IntKind.i64 (wrI IntKind.i64 w) (Int.ofNat l)) (Int.ofNat 1)))) 5)) (mulO l 5)) (Tr.ite (eqN (subO l (toN (addI .i64 (remI IntKind.i64 (wrI IntKind.i64 w) (Int.ofNat l)) (Int.ofNat 1)))) 0) (Tr.req (eqN 0 0) (Tr.reqP ([AV.slcT none (Row.I .i64 []) 5 0 (eqN 0 0)]=[slA 5 l z]) (Tr.ite (eqI e (Int.ofNat 22)) (Tr.ite (notB true) (Tr.ok ((AV.bool false,some 1),H)) (Tr.ite (ltI (Int.ofNat 0) (Int.ofNat 100)) (Tr.ok ((AV.bool false,some 1),H)) (Tr.ite (ltI (Int.ofNat 100) (Int.negSucc 0)) (Tr.ok ((AV.bool false,some 1),H)) (Tr.ite (notB (eqB false (ltI (Int.ofNat 100) (Int.ofNat 0)))) (Tr.ok ((AV.bool false,some 1),H)) Tr.bad)))) (Tr.ite (notB (eqI e (Int.ofNat 0))) (Tr.ok ((AV.bool false,some 1),H)) (Tr.ite (ltI (Int.ofNat 0) (Int.ofNat 0)) (Tr.ok ((AV.bool false,some 1),H)) (Tr.ite (ltI (Int.ofNat 0) (Int.negSucc 0)) (Tr.ok ((AV.bool false,some 1),H)) (Tr.ite (notB (eqB false (ltI (Int.ofNat 0) (Int.ofNat 0)))) (Tr.ok ((AV.bool false,some 1),H)) Tr.bad))))))) (Tr.req (roomO 0 (subO l (toN (addI .i64 (remI IntKind.i64 (wrI IntKind.i64 w) (Int.ofNat l)) (Int.ofNat 1)))) 40) (Tr.req (leN (subO l (toN (addI .i64 (remI IntKind.i64 (wrI IntKind.i64 w) (Int.ofNat l)) (Int.ofNat 1)))) (subO l (toN (addI .i64 (remI IntKind.i64 (wrI IntKind.i64 w) (Int.ofNat l)) (Int.ofNat 1))))) (Tr.req (leN (addO (mulO 0 5) (mulO (subO l (toN (addI .i64 (remI IntKind.i64 (wrI IntKind.i64 w) (Int.ofNat l)) (Int.ofNat 1)))) 5)) (mulO (subO l (toN (addI .i64 (remI IntKind.i64 (wrI IntKind.i64 w) (Int.ofNat l)) (Int.ofNat 1)))) 5)) (Tr.ite (ltN 0 (addO 0 (subO l (toN (addI .i64 (remI IntKind.i64 (wrI IntKind.i64 w) (Int.ofNat l)) (Int.ofNat 1)))))) (Tr.req (eqN 0 0) (Tr.req (leN 0 0) (Tr.req (eqN 0 0) (Tr.req (inO 0 (mulO (addO 0 (subO l (toN (addI .i64 (remI IntKind.i64 (wrI IntKind.i64 w) (Int.ofNat l)) (Int.ofNat 1))))) 5) 0 (addO 0 (mulO (subO l (toN (addI .i64 (remI IntKind.i64 (wrI IntKind.i64 w) (Int.ofNat l)) (Int.ofNat 1)))) 5))) (Tr.reqP ([AV.slcT none (Row.M [Seg.arr .i64 (shO (appO (lstO []) 0 (shO z (mulO (toN (addI .i64 (remI IntKind.i64 (wrI IntKind.i64 w) (Int.ofNat l)) (Int.ofNat 1))) 5))) 0) (mulO (addO 0 (subO l (toN (addI .i64 (remI IntKind.i64 (wrI IntKind.i64 w) (Int.ofNat l)) (Int.ofNat 1))))) 5)]) 5 (addO 0 (subO l (toN (addI .i64 (remI IntKind.i64 (wrI IntKind.i64 w) (Int.ofNat l)) (Int.ofNat 1))))) false]=[slA 5 l z]) (Tr.ite (eqI e (Int.ofNat 22)) (Tr.ite (notB true) (Tr.ok ((AV.bool false,some 1),H)) (Tr.ite (ltI (Int.ofNat 0) (Int.ofNat 100)) (Tr.ok ((AV.bool false,some 1),H)) (Tr.ite (ltI (Int.ofNat 100) (Int.negSucc 0)) (Tr.ok ((AV.bool false,some 1),H)) (Tr.ite (notB (eqB false (ltI (Int.ofNat 100) (Int.ofNat 0)))) (Tr.ok ((AV.bool false,some 1),H)) Tr.bad)))) (Tr.ite (notB (eqI e (Int.ofNat 0))) (Tr.ok ((AV.bool false,some 1),H)) (Tr.ite (ltI (Int.ofNat 0) (Int.ofNat 0)) (Tr.ok ((AV.bool false,some 1),H)) (Tr.ite (ltI (Int.ofNat 0) (Int.negSucc 0)) (Tr.ok ((AV.bool false,some 1),H)) (Tr.ite (notB (eqB false (ltI (Int.ofNat 0) (Int.ofNat 0)))) (Tr.ok ((AV.bool false,some 1),H)) Tr.bad)))))))))) (Tr.req (eqN 0 0) Tr.bad)))))))) (Tr.req (roomO 0 (toN (remI IntKind.i64 (wrI IntKind.i64 w) (Int.ofNat l))) 40) (Tr.req (leN (toN (remI IntKind.i64 (wrI IntKind.i64 w) (Int.ofNat l))) (toN (remI IntKind.i64 (wrI IntKind.i64 w) (Int.ofNat l)))) (Tr.req (leN (addO (mulO 0 5) (mulO (toN (remI IntKind.i64 (wrI IntKind.i64 w) (Int.ofNat l))) 5)) (mulO (toN (remI IntKind.i64 (wrI IntKind.i64 w) (Int.ofNat l))) 5)) (Tr.ite (ltN 0 (addO 0 (toN (remI IntKind.i64 (wrI IntKind.i64 w) (Int.ofNat l))))) (Tr.req (eqN 0 0) (Tr.req (leN 0 0) (Tr.req (bndI (addI .i64 (remI IntKind.i64 (wrI IntKind.i64 w) (Int.ofNat l)) (Int.ofNat 1)) l) (Tr.req (leN (addO (mulO (toN (addI .i64 (remI IntKind.i64 (wrI IntKind.i64 w) (Int.ofNat l)) (Int.ofNat 1))) 5) (mulO (subO l (toN (addI .i64 (remI IntKind.i64 (wrI IntKind.i64 w) (Int.ofNat l)) (Int.ofNat 1)))) 5)) (mulO l 5)) (Tr.ite (eqN (subO l (toN (addI .i64 (remI IntKind.i64 (wrI IntKind.i64 w) (Int.ofNat l)) (Int.ofNat 1)))) 0) (Tr.req (eqN 0 0) (Tr.req (inO 0 (mulO (addO 0 (toN (remI IntKind.i64 (wrI IntKind.i64 w) (Int.ofNat l)))) 5) 0 (addO 0 (mulO (toN (remI IntKind.i64 (wrI IntKind.i64 w) (Int.ofNat l))) 5))) (Tr.reqP ([AV.slcT none (Row.M [Seg.arr .i64 (shO (appO (lstO []) 0 z) 0) (mulO (addO 0 (toN (remI IntKind.i64 (wrI IntKind.i64 w) (Int.ofNat l)))) 5)]) 5 (addO 0 (toN (remI IntKind.i64 (wrI IntKind.i64 w) (Int.ofNat l)))) false]=[slA 5 l z]) (Tr.ite (eqI e (Int.ofNat 22)) (Tr.ite (notB true) (Tr.ok ((AV.bool false,some 1),H)) (Tr.ite (ltI (Int.ofNat 0) (Int.ofNat 100)) (Tr.ok ((AV.bool false,some 1),H)) (Tr.ite (ltI (Int.ofNat 100) (Int.negSucc 0)) (Tr.ok ((AV.bool false,some 1),H)) (Tr.ite (notB (eqB false (ltI (Int.ofNat 100) (Int.ofNat 0)))) (Tr.ok ((AV.bool false,some 1),H)) Tr.bad)))) (Tr.ite (notB (eqI e (Int.ofNat 0))) (Tr.ok ((AV.bool false,some 1),H)) (Tr.ite (ltI (Int.ofNat 0) (Int.ofNat 0)) (Tr.ok ((AV.bool false,some 1),H)) (Tr.ite (ltI (Int.ofNat 0) (Int.negSucc 0)) (Tr.ok ((AV.bool false,some 1),H)) (Tr.ite (notB (eqB false (ltI (Int.ofNat 0) (Int.ofNat 0)))) (Tr.ok ((AV.bool false,some 1),H)) Tr.bad)))))))) (Tr.req (roomO (addO 0 (toN (remI IntKind.i64 (wrI IntKind.i64 w) (Int.ofNat l)))) (subO l (toN (addI .i64 (remI IntKind.i64 (wrI IntKind.i64 w) (Int.ofNat l)) (Int.ofNat 1)))) 40) (Tr.req (leN (subO l (toN (addI .i64 (remI IntKind.i64 (wrI IntKind.i64 w) (Int.ofNat l)) (Int.ofNat 1)))) (subO l (toN (addI .i64 (remI IntKind.i64 (wrI IntKind.i64 w) (Int.ofNat l)) (Int.ofNat 1))))) (Tr.req (leN (addO (mulO 0 5) (mulO (subO l (toN (addI .i64 (remI IntKind.i64 (wrI IntKind.i64 w) (Int.ofNat l)) (Int.ofNat 1)))) 5)) (mulO (subO l (toN (addI .i64 (remI IntKind.i64 (wrI IntKind.i64 w) (Int.ofNat l)) (Int.ofNat 1)))) 5)) (Tr.req (eqN 0 0) (Tr.req (eqN (addO 0 (mulO (addO 0 (toN (remI IntKind.i64 (wrI IntKind.i64 w) (Int.ofNat l)))) 5)) (addO 0 (mulO (toN (remI IntKind.i64 (wrI IntKind.i64 w) (Int.ofNat l))) 5))) (Tr.req (andB (leN 0 1) (leN 1 1)) (Tr.req (eqN 1 1) (Tr.req (inO 0 (mulO (addO (addO 0 (toN (remI IntKind.i64 (wrI IntKind.i64 w) (Int.ofNat l)))) (subO l (toN (addI .i64 (remI IntKind.i64 (wrI IntKind.i64 w) (Int.ofNat l)) (Int.ofNat 1))))) 5) 0 (addO (mulO (addO 0 (toN (remI IntKind.i64 (wrI IntKind.i64 w) (Int.ofNat l)))) 5) (mulO (subO l (toN (addI .i64 (remI IntKind.i64 (wrI IntKind.i64 w) (Int.ofNat l)) (Int.ofNat 1)))) 5))) (Tr.reqP ([AV.slcT none (Row.M [Seg.arr .i64 (shO (appO (shO (appO (lstO []) 0 z) 0) (mulO (addO 0 (toN (remI IntKind.i64 (wrI IntKind.i64 w) (Int.ofNat l)))) 5) (shO z (mulO (toN (addI .i64 (remI IntKind.i64 (wrI IntKind.i64 w) (Int.ofNat l)) (Int.ofNat 1))) 5))) 0) (mulO (addO (addO 0 (toN (remI IntKind.i64 (wrI IntKind.i64 w) (Int.ofNat l)))) (subO l (toN (addI .i64 (remI IntKind.i64 (wrI IntKind.i64 w) (Int.ofNat l)) (Int.ofNat 1))))) 5)]) 5 (addO (addO 0 (toN (remI IntKind.i64 (wrI IntKind.i64 w) (Int.ofNat l)))) (subO l (toN (addI .i64 (remI IntKind.i64 (wrI IntKind.i64 w) (Int.ofNat l)) (Int.ofNat 1))))) false]=[slA 5 l z]) (Tr.ite (eqI e (Int.ofNat 22)) (Tr.ite (notB true) (Tr.ok ((AV.bool false,some 1),H)) (Tr.ite (ltI (Int.ofNat 0) (Int.ofNat 100)) (Tr.ok ((AV.bool false,some 1),H)) (Tr.ite (ltI (Int.ofNat 100) (Int.negSucc 0)) (Tr.ok ((AV.bool false,some 1),H)) (Tr.ite (notB (eqB false (ltI (Int.ofNat 100) (Int.ofNat 0)))) (Tr.ok ((AV.bool false,some 1),H)) Tr.bad)))) (Tr.ite (notB (eqI e (Int.ofNat 0))) (Tr.ok ((AV.bool false,some 1),H)) (Tr.ite (ltI (Int.ofNat 0) (Int.ofNat 0)) (Tr.ok ((AV.bool false,some 1),H)) (Tr.ite (ltI (Int.ofNat 0) (Int.negSucc 0)) (Tr.ok ((AV.bool false,some 1),H)) (Tr.ite (notB (eqB false (ltI (Int.ofNat 0) (Int.ofNat 0)))) (Tr.ok ((AV.bool false,some 1),H)) Tr.bad))))))))))))))))))) (Tr.req (eqN 0 0) Tr.bad)))))))))))))))))) (Tr.reqP True (Tr.ok ((AV.bool true,none),H)))) [(0,slA 5 l z),(1,AV.int IntKind.u8 w),(5,AV.bool true),(6,AV.int .i64 (Int.ofNat 0))]:=by kernel_rfl
theorem u10n (n l p k:Nat) (z x v:Nat→Int) (H:Heap) (w i nn:Int) (s mm:Bool):bodyT Tryz.prog (cd (n+2)) 100000 10 Tryz.f10 (KtB.kt 10) (il (ct10 l p k z x v .nils i nn mm) n 2) (bl10 l p z x w s H) noRT [(slA 5 l z,none),(.int .u8 w,none)] H =
 (fun (Z0:Frm)=>((fun (Z1:Frm)=>Tr.ite (notB (ltI (Int.ofNat 20) (Int.ofNat l))) (Tr.reqP (slA 5 l z=slA 5 l z) (Tr.ite (notB (eqI (Int.ofNat 0) (Int.ofNat 0))) (Tr.reqP True (Tr.ok ((AV.bool true,none),H))) (Tr.ite (ltI (Int.ofNat l) (Int.ofNat 2)) (Tr.reqP True (Tr.ok ((AV.bool true,none),H))) (Tr.reqP (Z1=Z1∧lvE::H=lvE::H) (Tr.reqP ([slA 5 l z]=[slA 5 l z]) (Tr.reqP ([slA 5 l z]=[slA 5 l z]) (Tr.ite (notB (eqB (eqI (Int.ofNat 0) (Int.ofNat 0)) s)) (Tr.ok ((AV.bool false,some 1),H)) (Tr.ite (notB (eqI (Int.ofNat 0) (Int.ofNat 0))) (Tr.ok ((AV.bool false,some 1),H)) (Tr.ite (notB s) (Tr.reqP True (Tr.ok ((AV.bool true,none),H))) (Tr.req (notB (eqI (Int.ofNat l) (Int.ofNat 0))) (Tr.reqP ([slA 5 l z,AV.int .i64 (remI IntKind.i64 (wrI IntKind.i64 w) (Int.ofNat l))]=[slA 5 l z,AV.int .i64 i]) (Tr.reqP ([AV.slcT none (Row.M [Seg.arr .i64 v (mulO k 5)]) 5 k false]=[AV.slcT none (Row.M [Seg.arr .i64 v (mulO k 5)]) 5 k false]) (Tr.ite (notB true) (Tr.ok ((AV.bool false,some 1),H)) (Tr.ite (ltI (Int.ofNat p) nn) (Tr.ok ((AV.bool false,some 1),H)) (Tr.ite (ltI nn (subI .i64 (Int.ofNat p) (Int.ofNat 1))) (Tr.ok ((AV.bool false,some 1),H)) (Tr.reqP ([AV.nils,AV.int .i64 (remI IntKind.i64 (wrI IntKind.i64 w) (Int.ofNat l))]=[AV.nils,AV.int .i64 i]) (Tr.ite (notB (eqB mm (ltI nn (Int.ofNat p)))) (Tr.ok ((AV.bool false,some 1),H)) (Tr.reqP (Z0=Z0∧lvE::H=lvE::H) (Tr.reqP True (Tr.ok ((AV.bool true,none),H))))))))))))))))))))) (Tr.reqP True (Tr.ok ((AV.bool true,none),H)))) [(0,slA 5 l z),(1,AV.int IntKind.u8 w),(5,AV.bool true),(6,AV.int .i64 (Int.ofNat 0))])) [(0,slA 5 l z),(9,AV.slcT none (Row.M [Seg.arr .i64 x p]) 1 p true),(16,AV.int .i64 (Int.ofNat 0))]:=by kernel_rfl
theorem u10c (n l p k q:Nat) (z x v c:Nat→Int) (H:Heap) (w i nn:Int) (s mm:Bool):bodyT Tryz.prog (cd (n+2)) 100000 10 Tryz.f10 (KtB.kt 10) (il (ct10 l p k z x v (sl1 q c false) i nn mm) n 2) (bl10 l p z x w s H) noRT [(slA 5 l z,none),(.int .u8 w,none)] H =
 (fun (Z0:Frm)=>((fun (Z1:Frm)=>Tr.ite (notB (ltI (Int.ofNat 20) (Int.ofNat l))) (Tr.reqP (slA 5 l z=slA 5 l z) (Tr.ite (notB (eqI (Int.ofNat 0) (Int.ofNat 0))) (Tr.reqP True (Tr.ok ((AV.bool true,none),H))) (Tr.ite (ltI (Int.ofNat l) (Int.ofNat 2)) (Tr.reqP True (Tr.ok ((AV.bool true,none),H))) (Tr.reqP (Z1=Z1∧lvE::H=lvE::H) (Tr.reqP ([slA 5 l z]=[slA 5 l z]) (Tr.reqP ([slA 5 l z]=[slA 5 l z]) (Tr.ite (notB (eqB (eqI (Int.ofNat 0) (Int.ofNat 0)) s)) (Tr.ok ((AV.bool false,some 1),H)) (Tr.ite (notB (eqI (Int.ofNat 0) (Int.ofNat 0))) (Tr.ok ((AV.bool false,some 1),H)) (Tr.ite (notB s) (Tr.reqP True (Tr.ok ((AV.bool true,none),H))) (Tr.req (notB (eqI (Int.ofNat l) (Int.ofNat 0))) (Tr.reqP ([slA 5 l z,AV.int .i64 (remI IntKind.i64 (wrI IntKind.i64 w) (Int.ofNat l))]=[slA 5 l z,AV.int .i64 i]) (Tr.reqP ([AV.slcT none (Row.M [Seg.arr .i64 v (mulO k 5)]) 5 k false]=[AV.slcT none (Row.M [Seg.arr .i64 v (mulO k 5)]) 5 k false]) (Tr.ite (notB true) (Tr.ok ((AV.bool false,some 1),H)) (Tr.ite (ltI (Int.ofNat p) nn) (Tr.ok ((AV.bool false,some 1),H)) (Tr.ite (ltI nn (subI .i64 (Int.ofNat p) (Int.ofNat 1))) (Tr.ok ((AV.bool false,some 1),H)) (Tr.reqP ([AV.slcT none (Row.M [Seg.arr .i64 c q]) 1 q false,AV.int .i64 (remI IntKind.i64 (wrI IntKind.i64 w) (Int.ofNat l))]=[AV.slcT none (Row.M [Seg.arr .i64 c q]) 1 q false,AV.int .i64 i]) (Tr.ite (notB (eqB mm (ltI nn (Int.ofNat p)))) (Tr.ok ((AV.bool false,some 1),H)) (Tr.reqP (Z0=Z0∧lvE::H=lvE::H) (Tr.reqP True (Tr.ok ((AV.bool true,none),H))))))))))))))))))))) (Tr.reqP True (Tr.ok ((AV.bool true,none),H)))) [(0,slA 5 l z),(1,AV.int IntKind.u8 w),(5,AV.bool true),(6,AV.int .i64 (Int.ofNat 0))])) [(0,slA 5 l z),(9,AV.slcT none (Row.M [Seg.arr .i64 x p]) 1 p true),(16,AV.int .i64 (Int.ofNat 0))]:=by kernel_rfl
theorem t10b (n l p:Nat) (z x:Nat→Int) (H:Heap) (i:Int) (d:Bool):execT (cxD n 10 144) (il noCt n 0) (blkE noBT 4 (fr10c l p z x i false 0) (lvE::H) (.ok (.normal,hints (fr10c l p z x i d (Int.ofNat p)++[(121,.bool false)]),lvE::H))) noRT (part Tryz.f10 [1,1,1,1,1,1,1,1,1,1,1,0,1,0,0]) (hints (fr10b l p z x i)) (lvE::H) =
 (fun (Z0:Frm)=>Tr.ite (ltI i (Int.ofNat l)) (Tr.reqP (Z0=Z0∧lvE::H=lvE::H) (Tr.ite (notB d) (Tr.ok (Ex.ret,[(4,AV.bool false,some 1)],lvE::H)) (Tr.ok (Ex.normal,[(0,slA 5 l z,none),(9,AV.slcT none (Row.M [Seg.arr .i64 x p]) 1 p true,none),(16,AV.int .i64 (addI .i64 i (Int.ofNat 1)),none)],lvE::H)))) (Tr.ok (Ex.exit 2,[(0,slA 5 l z,none),(9,AV.slcT none (Row.M [Seg.arr .i64 x p]) 1 p true,none),(16,AV.int .i64 i,none),(115,AV.bool false,some 1)],lvE::H))) [(0,slA 5 l z),(9,AV.slcT none (Row.M [Seg.arr .i64 x p]) 1 p true),(16,AV.int .i64 i),(17,AV.bool false),(18,AV.int .i64 (Int.ofNat 0))]:=by kernel_rfl
theorem t10bx (n l p:Nat) (z x:Nat→Int) (H:Heap) (i:Int):execT (cxD n 10 144) (il noCt n 0) (stopB noBT 4) noRT (part Tryz.f10 [1,1,1,1,1,1,1,1,1,1,1,0,1,0,0]) (hints (fr10b l p z x i)) (lvE::H) =
 Tr.ite (ltI i (Int.ofNat l)) Tr.bad (Tr.ok (Ex.exit 2,[(0,slA 5 l z,none),(9,AV.slcT none (Row.M [Seg.arr .i64 x p]) 1 p true,none),(16,AV.int .i64 i,none),(115,AV.bool false,some 1)],lvE::H)):=by kernel_rfl
theorem t10cn (n l p:Nat) (z x:Nat→Int) (H:Heap) (i m b:Int) (d:Bool):execT (cxD n 10 144) (il (tX (tX noCt 18 [slA 5 l z,.int .i64 b] (.tup [.nils,.int .i64 0])) 42 [.nils,.int .i64 i] (.bool false)) n 0) noBT noRT (part Tryz.f10 [1,1,1,1,1,1,1,1,1,1,1,0,1,0,0,1,0,0,1,0,1,0,0]) (hints (fr10c l p z x i d m)) (lvE::H) =
 (fun (Z0:Nat×AV×Option Nat)=>Tr.ite (ltI m (Int.ofNat p)) (Tr.req (inI m p) (Tr.req (ltN (idO 0 m 1) p) (Tr.reqP ([slA 5 l z,AV.int .i64 (x (idO 0 m 1))]=[slA 5 l z,AV.int .i64 b]) (Tr.ite (notB (eqI (Int.ofNat 0) (Int.ofNat 0))) (Tr.ok (Ex.ret,[(4,AV.bool false,some 1)],lvE::H)) (Tr.ite d (Tr.ok (Ex.normal,[(0,slA 5 l z,none),Z0,(16,AV.int .i64 i,none),(17,AV.bool true,some 1),(18,AV.int .i64 (addI .i64 m (Int.ofNat 1)),none)],lvE::H)) (Tr.reqP ([AV.nils,AV.int .i64 i]=[AV.nils,AV.int .i64 i]) (Tr.ok (Ex.normal,[(0,slA 5 l z,none),Z0,(16,AV.int .i64 i,none),(17,AV.bool false,none),(18,AV.int .i64 (addI .i64 m (Int.ofNat 1)),none)],lvE::H)))))))) (Tr.ok (Ex.exit 4,[(0,slA 5 l z,none),Z0,(16,AV.int .i64 i,none),(17,AV.bool d,none),(18,AV.int .i64 m,none),(121,AV.bool false,some 1)],lvE::H))) (9,AV.slcT none (Row.M [Seg.arr .i64 x p]) 1 p true,none):=by kernel_rfl
theorem t10cc (n l p q:Nat) (z x y:Nat→Int) (H:Heap) (i m b:Int) (d mm:Bool):execT (cxD n 10 144) (il (tX (tX noCt 18 [slA 5 l z,.int .i64 b] (.tup [sl1 q y false,.int .i64 0])) 42 [sl1 q y false,.int .i64 i] (.bool mm)) n 0) noBT noRT (part Tryz.f10 [1,1,1,1,1,1,1,1,1,1,1,0,1,0,0,1,0,0,1,0,1,0,0]) (hints (fr10c l p z x i d m)) (lvE::H) =
 (fun (Z0:Nat×AV×Option Nat)=>Tr.ite (ltI m (Int.ofNat p)) (Tr.req (inI m p) (Tr.req (ltN (idO 0 m 1) p) (Tr.reqP ([slA 5 l z,AV.int .i64 (x (idO 0 m 1))]=[slA 5 l z,AV.int .i64 b]) (Tr.ite (notB (eqI (Int.ofNat 0) (Int.ofNat 0))) (Tr.ok (Ex.ret,[(4,AV.bool false,some 1)],lvE::H)) (Tr.ite d (Tr.ok (Ex.normal,[(0,slA 5 l z,none),Z0,(16,AV.int .i64 i,none),(17,AV.bool true,some 1),(18,AV.int .i64 (addI .i64 m (Int.ofNat 1)),none)],lvE::H)) (Tr.reqP ([AV.slcT none (Row.M [Seg.arr .i64 y q]) 1 q false,AV.int .i64 i]=[AV.slcT none (Row.M [Seg.arr .i64 y q]) 1 q false,AV.int .i64 i]) (Tr.ok (Ex.normal,[(0,slA 5 l z,none),Z0,(16,AV.int .i64 i,none),(17,AV.bool mm,none),(18,AV.int .i64 (addI .i64 m (Int.ofNat 1)),none)],lvE::H)))))))) (Tr.ok (Ex.exit 4,[(0,slA 5 l z,none),Z0,(16,AV.int .i64 i,none),(17,AV.bool d,none),(18,AV.int .i64 m,none),(121,AV.bool false,some 1)],lvE::H))) (9,AV.slcT none (Row.M [Seg.arr .i64 x p]) 1 p true,none):=by kernel_rfl
theorem t10cx (n l p:Nat) (z x:Nat→Int) (H:Heap) (i m:Int) (d:Bool):execT (cxD n 10 144) (il noCt n 0) noBT noRT (part Tryz.f10 [1,1,1,1,1,1,1,1,1,1,1,0,1,0,0,1,0,0,1,0,1,0,0]) (hints (fr10c l p z x i d m)) (lvE::H) =
 Tr.ite (ltI m (Int.ofNat p)) (Tr.req (inI m p) (Tr.req (ltN (idO 0 m 1) p) Tr.bad)) (Tr.ok (Ex.exit 4,[(0,slA 5 l z,none),(9,AV.slcT none (Row.M [Seg.arr .i64 x p]) 1 p true,none),(16,AV.int .i64 i,none),(17,AV.bool d,none),(18,AV.int .i64 m,none),(121,AV.bool false,some 1)],lvE::H)):=by kernel_rfl
theorem u46 (n l p:Nat) (z x:Nat→Int) (H:Heap):bodyT Tryz.prog (cd n) 100000 46 Tryz.f46 (KtB.kt 46) (il (tX noCt 23 [slA 5 l z] (.tup [sl1 p x true,.int .i64 0])) n 0) noBT noRT [(slA 5 l z,none)] H =
 Tr.reqP ([slA 5 l z]=[slA 5 l z]) (Tr.ite (eqI (Int.ofNat 0) (Int.ofNat 22)) (Tr.ok ((AV.tup [AV.int .i64 (Int.ofNat 100),AV.bool (eqI (Int.ofNat p) (Int.ofNat 0))],none),H)) (Tr.ok ((AV.tup [AV.int .i64 (Int.ofNat p),AV.bool (eqI (Int.ofNat 0) (Int.ofNat 0))],none),H))):=by kernel_rfl
theorem b10a:∀ b,(0,b) ∈ blocksOf (bodyOf Tryz.f10)→b=.loop (part Tryz.f10 [1,1,1,0,1,0,0]):=by
 have:((blocksOf (bodyOf Tryz.f10)).filter fun x=>Nat.beq x.1 0)=[(0,.loop (part Tryz.f10 [1,1,1,0,1,0,0]))]:=by kernel_rfl
 intro b hb
 have hm:(0,b) ∈ ((blocksOf (bodyOf Tryz.f10)).filter fun x=>Nat.beq x.1 0):=List.mem_filter.2 ⟨hb,rfl⟩
 rw[this] at hm;simpa using hm
theorem b10b:∀ b,(2,b) ∈ blocksOf (bodyOf Tryz.f10)→b=.loop (part Tryz.f10 [1,1,1,1,1,1,1,1,1,1,1,0,1,0,0]):=by
 have:((blocksOf (bodyOf Tryz.f10)).filter fun x=>Nat.beq x.1 2)=[(2,.loop (part Tryz.f10 [1,1,1,1,1,1,1,1,1,1,1,0,1,0,0]))]:=by kernel_rfl
 intro b hb
 have hm:(2,b) ∈ ((blocksOf (bodyOf Tryz.f10)).filter fun x=>Nat.beq x.1 2):=List.mem_filter.2 ⟨hb,rfl⟩
 rw[this] at hm;simpa using hm
theorem b10c:∀ b,(4,b) ∈ blocksOf (part Tryz.f10 [1,1,1,1,1,1,1,1,1,1,1,0,1,0,0])→b=.loop (part Tryz.f10 [1,1,1,1,1,1,1,1,1,1,1,0,1,0,0,1,0,0,1,0,1,0,0]):=by
 have:((blocksOf (part Tryz.f10 [1,1,1,1,1,1,1,1,1,1,1,0,1,0,0])).filter fun x=>Nat.beq x.1 4)=[(4,.loop (part Tryz.f10 [1,1,1,1,1,1,1,1,1,1,1,0,1,0,0,1,0,0,1,0,1,0,0]))]:=by kernel_rfl
 intro b hb
 have hm:(4,b) ∈ ((blocksOf (part Tryz.f10 [1,1,1,1,1,1,1,1,1,1,1,0,1,0,0])).filter fun x=>Nat.beq x.1 4):=List.mem_filter.2 ⟨hb,rfl⟩
 rw[this] at hm;simpa using hm
end Go.Eng
end
section
namespace Go.Eng
open Go.Proofs
set_option linter.unusedVariables false
set_option linter.unusedSimpArgs false
set_option maxRecDepth 100000
def smB (z:Nat→Int):Nat→Bool
 | 0=>true
 | j+1=>smB z j && decide (bLo z j≤bHi z j)
theorem smB_iff (z:Nat→Int) (j:Nat):smB z j=true↔∀ i,i<j→bLo z i≤bHi z i:=by
 induction j with
 | zero=>simp[smB]
 | succ j ih =>
   unfold smB
   rw[Bool.and_eq_true,ih,decide_eq_true_eq]
   constructor
   · rintro ⟨h1,h2⟩ i hi
     by_cases e:i<j
     · exact h1 i e
     · have:i=j:=by omega
       subst this;exact h2
   · intro h
     exact ⟨fun i hi=>h i (by omega),h j (by omega)⟩
theorem smB_who (l:Nat) (z:Nat→Int) (h:chkO l z=0):whoE l z=if smB z l=true then 0 else 22:=by
 rw[who_eq,if_neg (fun x=>x h)]
 cases e:exN (noB z) l with
 | false=>rw[if_neg (by decide),if_pos ((smB_iff z l).2 ((no_all l z).1 e))]
 | true =>
   rw[if_pos rfl,if_neg]
   intro hs
   have:=(no_all l z).2 ((smB_iff z l).1 hs)
   rw[e] at this;cases this
def ddB (z x:Nat→Int) (i:Nat):Nat→Bool
 | 0=>false
 | m+1=>ddB z x i m || dnB z (x m) i
theorem ddB_iff (z x:Nat→Int) (i m:Nat):ddB z x i m=true↔∃ q,q<m∧dnB z (x q) i=true:=by
 induction m with
 | zero=>simp[ddB]
 | succ m ih =>
   unfold ddB
   rw[Bool.or_eq_true,ih]
   constructor
   · rintro (⟨q,h1,h2⟩ | h)
     · exact ⟨q,by omega,h2⟩
     · exact ⟨m,by omega,h⟩
   · rintro ⟨q,h1,h2⟩
     by_cases e:q<m
     · exact .inl ⟨q,e,h2⟩
     · have:q=m:=by omega
       subst this;exact .inr h2
section
variable (n l p:Nat) (z x:Nat→Int) (H:Heap) (w:Int)
theorem l10a (h:chkO l z=0):exec (cxD (n+12) 10 144) (.block 0 (.loop (part Tryz.f10 [1,1,1,0,1,0,0]))) (fr10a l z w true 0) (lvE::H)=some (.normal,fr10a l z w (smB z l) (Int.ofNat l)++[(33,.bool false)],lvE::H):=by
 obtain ⟨hl,hb⟩:=chk_odd h
 refine forX 0 (fun j=>fr10a l z w (smB z j) (j:Int)) (fun _=>lvE::H) l (fr10a l z w (smB z l) (Int.ofNat l)++[(33,.bool false)],lvE::H) (by omega) (fun j hj=>?_) ?_
 · have hc:∀ H,cd (n+12) (.fn 16) [slA 5 l z,.int .i64 (j:Int)] H=some (birV l z j,H):=fun H=>c16 n l z H j
   have hv:∃ a b,birV l z j=.tup [.agg (.I .i64 [a,b]),.int .i64 (if bHi z j<bLo z j then 22 else 0)]:=by
    unfold birV
    rw[if_neg (fun y=>y h),if_neg (by omega),Int.toNat_natCast]
    by_cases e:bHi z j<bLo z j
    · rw[if_pos e,if_pos e];exact ⟨_,_,rfl⟩
    · rw[if_neg e,if_neg e];exact ⟨_,_,rfl⟩
   obtain ⟨a,b,hv⟩:=hv
   rw[hv] at hc
   have hs:smB z (j+1)=(smB z j && decide (bLo z j≤bHi z j)):=rfl
   refine ex_all (t10a (n+12) l z H w (smB z j) (j:Int) a b (if bHi z j<bLo z j then 22 else 0)) (il_ok0 _ _ (ctG_ok (noCt_ok _) (fun args p v hg hp H=>by
    unfold g16 at hg
    simp only[nP] at hg
    obtain ⟨rfl,rfl⟩:=hg
    rw[hp];exact hc H))) (noBT_ok _ _) (noRT_ok _ _) ?_
   rw[cs64 (by omega),hs]
   clear hs hv hc
   generalize bLo z j=lo at *
   generalize bHi z j=hi at *
   by_cases e:hi<lo
   · rw [if_pos e,decide_eq_false (by omega:¬ lo≤hi)]
     cases smB z j
     · repeat' first | (refine Tr.all_ite (fun hc=>?_) (fun hc=>?_)<;>(try simp (disch:=omega) only[nV,nW] at hc)<;>try omega) | (refine Tr.all_req ?_ ?_;· (try simp (disch:=omega) only[nV,nW]);try omega) | (refine Tr.all_reqP ?_ ?_;· first | exact trivial | rfl | exact ⟨rfl,rfl⟩ | exact ⟨rfl,rfl,rfl⟩ | (simp (disch:=omega) only[nV,nW];done) | ((try simp (disch:=omega) only[nV,nW]);omega)) | fail
       all_goals first
        | exact Tr.all_ok ⟨rfl,by kernel_rfl⟩
        | fail
     · have e2:eqI 22 (Int.ofNat 0)=false:=by rw[eqI_eq];rfl
       rw[e2]
       repeat' first | (refine Tr.all_ite (fun hc=>?_) (fun hc=>?_)<;>(try simp (disch:=omega) only[nV,nW] at hc)<;>try omega) | (refine Tr.all_req ?_ ?_;· (try simp (disch:=omega) only[nV,nW]);try omega) | (refine Tr.all_reqP ?_ ?_;· first | exact trivial | rfl | exact ⟨rfl,rfl⟩ | exact ⟨rfl,rfl,rfl⟩ | (simp (disch:=omega) only[nV,nW];done) | ((try simp (disch:=omega) only[nV,nW]);omega)) | fail
       all_goals first
        | exact Tr.all_ok ⟨rfl,by kernel_rfl⟩
        | fail
   · rw [if_neg e,decide_eq_true (by omega:lo≤hi)]
     cases smB z j
     · repeat' first | (refine Tr.all_ite (fun hc=>?_) (fun hc=>?_)<;>(try simp (disch:=omega) only[nV,nW] at hc)<;>try omega) | (refine Tr.all_req ?_ ?_;· (try simp (disch:=omega) only[nV,nW]);try omega) | (refine Tr.all_reqP ?_ ?_;· first | exact trivial | rfl | exact ⟨rfl,rfl⟩ | exact ⟨rfl,rfl,rfl⟩ | (simp (disch:=omega) only[nV,nW];done) | ((try simp (disch:=omega) only[nV,nW]);omega)) | fail
       all_goals first
        | exact Tr.all_ok ⟨rfl,by kernel_rfl⟩
        | fail
     · have e2:eqI 0 (Int.ofNat 0)=true:=by rw[eqI_eq];rfl
       rw[e2]
       repeat' first | (refine Tr.all_ite (fun hc=>?_) (fun hc=>?_)<;>(try simp (disch:=omega) only[nV,nW] at hc)<;>try omega) | (refine Tr.all_req ?_ ?_;· (try simp (disch:=omega) only[nV,nW]);try omega) | (refine Tr.all_reqP ?_ ?_;· first | exact trivial | rfl | exact ⟨rfl,rfl⟩ | exact ⟨rfl,rfl,rfl⟩ | (simp (disch:=omega) only[nV,nW];done) | ((try simp (disch:=omega) only[nV,nW]);omega)) | fail
       all_goals first
        | exact Tr.all_ok ⟨rfl,by kernel_rfl⟩
        | fail
 · obtain ⟨x,h1,rfl⟩:=ex_all (Q:=fun x=>x=(.exit 0,fr10a l z w (smB z l) (Int.ofNat l)++[(33,.bool false)],lvE::H)) (t10ax (n+12) l z H w (smB z l) (Int.ofNat l)) (il_no0 _) (noBT_ok _ _) (noRT_ok _ _) (by
    refine Tr.all_ite (fun hc=>?_) (fun hc=>Tr.all_ok rfl)
    simp (disch:=omega) only[nV,nW] at hc;omega)
   exact h1
theorem l10c (h:chkO l z=0) (hp:p≤1000) (i:Nat) (hi:i<l):exec (cxD (n+12) 10 144) (.block 4 (.loop (part Tryz.f10 [1,1,1,1,1,1,1,1,1,1,1,0,1,0,0,1,0,0,1,0,1,0,0]))) (fr10c l p z x i false 0) (lvE::H)=some (.normal,fr10c l p z x i (ddB z x i p) (Int.ofNat p)++[(121,.bool false)],lvE::H):=by
 obtain ⟨hl,hb⟩:=chk_odd h
 refine forX 4 (fun m=>fr10c l p z x i (ddB z x i m) (m:Int)) (fun _=>lvE::H) p (fr10c l p z x i (ddB z x i p) (Int.ofNat p)++[(121,.bool false)],lvE::H) (by omega) (fun m hm=>?_) ?_
 · have hc:∀ H,cd (n+12) (.fn 18) [slA 5 l z,.int .i64 (x m)] H=some (doeV l z (x m),H):=fun H=>c18 n l z H (x m)
   unfold doeV at hc
   rw[if_pos h] at hc
   have hs:ddB z x i (m+1)=(ddB z x i m || dnB z (x m) i):=rfl
   have h42:∀ H,cd (n+12) (.fn 42) [dA (dl (mkJ z (x m) l) 14),.int .i64 (i:Int)] H=some (.bool (dnB z (x m) i),H):=fun H=>by
    have:=c42d (n+11) H (dl (mkJ z (x m) l) 14) i (by have:=dl_len (mkJ z (x m) l) 14;omega)
    rw[this]
    congr 3
    rw[Bool.eq_iff_iff,decide_eq_true_eq,mem_dl]
    unfold mkJ
    constructor
    · rintro ⟨_,h2⟩
      by_cases e:i<l∧dnB z (x m) i=true
      · exact e.2
      · rw[if_neg e] at h2;cases h2
    · intro h2
      exact ⟨by omega,by rw[if_pos ⟨hi,h2⟩]⟩
   cases e:dl (mkJ z (x m) l) 14 with
   | nil =>
     rw[e] at hc h42
     have hf:dnB z (x m) i=false:=by
      have a:=h42 H
      rw[show dA []=AV.nils from rfl,c42n (n+11) H (i:Int)] at a
      simpa using a.symm
     rw[hf] at h42 hs
     refine ex_all (t10cn (n+12) l p z x H i m (x m) (ddB z x i m)) (il_ok0 _ _ (tX_ok (tX_ok (noCt_ok _) hc) h42)) (noBT_ok _ _) (noRT_ok _ _) ?_
     rw[cs64 (by omega),hs,id1]
     cases ddB z x i m
     · repeat' first | (refine Tr.all_ite (fun hc=>?_) (fun hc=>?_)<;>(try simp (disch:=omega) only[nV,nW] at hc)<;>try omega) | (refine Tr.all_req ?_ ?_;· (try simp (disch:=omega) only[nV,nW]);try omega) | (refine Tr.all_reqP ?_ ?_;· first | exact trivial | rfl | exact ⟨rfl,rfl⟩ | exact ⟨rfl,rfl,rfl⟩ | (simp (disch:=omega) only[nV,nW];done) | ((try simp (disch:=omega) only[nV,nW]);omega)) | fail
       all_goals first
        | exact Tr.all_ok ⟨rfl,rfl⟩
        | fail
     · repeat' first | (refine Tr.all_ite (fun hc=>?_) (fun hc=>?_)<;>(try simp (disch:=omega) only[nV,nW] at hc)<;>try omega) | (refine Tr.all_req ?_ ?_;· (try simp (disch:=omega) only[nV,nW]);try omega) | (refine Tr.all_reqP ?_ ?_;· first | exact trivial | rfl | exact ⟨rfl,rfl⟩ | exact ⟨rfl,rfl,rfl⟩ | (simp (disch:=omega) only[nV,nW];done) | ((try simp (disch:=omega) only[nV,nW]);omega)) | fail
       all_goals first
        | exact Tr.all_ok ⟨rfl,rfl⟩
        | fail
   | cons a r =>
     rw[e] at hc h42
     refine ex_all (t10cc (n+12) l p (r.length+1) z x (lstO (a::r)) H i m (x m) (ddB z x i m) (dnB z (x m) i)) (il_ok0 _ _ (tX_ok (tX_ok (noCt_ok _) hc) h42)) (noBT_ok _ _) (noRT_ok _ _) ?_
     rw[cs64 (by omega),hs,id1]
     cases ddB z x i m
     · repeat' first | (refine Tr.all_ite (fun hc=>?_) (fun hc=>?_)<;>(try simp (disch:=omega) only[nV,nW] at hc)<;>try omega) | (refine Tr.all_req ?_ ?_;· (try simp (disch:=omega) only[nV,nW]);try omega) | (refine Tr.all_reqP ?_ ?_;· first | exact trivial | rfl | exact ⟨rfl,rfl⟩ | exact ⟨rfl,rfl,rfl⟩ | (simp (disch:=omega) only[nV,nW];done) | ((try simp (disch:=omega) only[nV,nW]);omega)) | fail
       all_goals first
        | exact Tr.all_ok ⟨rfl,rfl⟩
        | fail
     · repeat' first | (refine Tr.all_ite (fun hc=>?_) (fun hc=>?_)<;>(try simp (disch:=omega) only[nV,nW] at hc)<;>try omega) | (refine Tr.all_req ?_ ?_;· (try simp (disch:=omega) only[nV,nW]);try omega) | (refine Tr.all_reqP ?_ ?_;· first | exact trivial | rfl | exact ⟨rfl,rfl⟩ | exact ⟨rfl,rfl,rfl⟩ | (simp (disch:=omega) only[nV,nW];done) | ((try simp (disch:=omega) only[nV,nW]);omega)) | fail
       all_goals first
        | exact Tr.all_ok ⟨rfl,rfl⟩
        | fail
 · obtain ⟨y,h1,rfl⟩:=ex_all (Q:=fun y=>y=(.exit 4,fr10c l p z x i (ddB z x i p) (Int.ofNat p)++[(121,.bool false)],lvE::H)) (t10cx (n+12) l p z x H i (Int.ofNat p) (ddB z x i p)) (il_no0 _) (noBT_ok _ _) (noRT_ok _ _) (by
    refine Tr.all_ite (fun hc=>?_) (fun hc=>Tr.all_ok rfl)
    simp (disch:=omega) only[nV,nW] at hc;omega)
   exact h1
theorem l10b (h:chkO l z=0) (hp:p≤1000) (hd:∀ i,i<l→ddB z x i p=true):exec (cxD (n+12) 10 144) (.block 2 (.loop (part Tryz.f10 [1,1,1,1,1,1,1,1,1,1,1,0,1,0,0]))) (fr10b l p z x 0) (lvE::H)=some (.normal,fr10b l p z x (Int.ofNat l)++[(115,.bool false)],lvE::H):=by
 obtain ⟨hl,hb⟩:=chk_odd h
 refine forX 2 (fun i=>fr10b l p z x (i:Int)) (fun _=>lvE::H) l (fr10b l p z x (Int.ofNat l)++[(115,.bool false)],lvE::H) (by omega) (fun i hi=>?_) ?_
 · have hx:=l10c n l p z x H h hp i hi
   rw[hd i hi] at hx
   refine ex_all (t10b (n+12) l p z x H i true) (il_no0 _) (blkE_ok (noBT_ok _ _) b10c (fun x hy=>by rw[← Tr.ok_some hy];simp only[Res.st,hints_eq];exact hx)) (noRT_ok _ _) ?_
   rw[cs64 (by omega)]
   repeat' first | (refine Tr.all_ite (fun hc=>?_) (fun hc=>?_)<;>(try simp (disch:=omega) only[nV,nW] at hc)<;>try omega) | (refine Tr.all_req ?_ ?_;· (try simp (disch:=omega) only[nV,nW]);try omega) | (refine Tr.all_reqP ?_ ?_;· first | exact trivial | rfl | exact ⟨rfl,rfl⟩ | exact ⟨rfl,rfl,rfl⟩ | (simp (disch:=omega) only[nV,nW];done) | ((try simp (disch:=omega) only[nV,nW]);omega)) | fail
   all_goals first
    | exact Tr.all_ok ⟨rfl,rfl⟩
    | fail
 · obtain ⟨y,h1,rfl⟩:=ex_all (Q:=fun y=>y=(.exit 2,fr10b l p z x (Int.ofNat l)++[(115,.bool false)],lvE::H)) (t10bx (n+12) l p z x H (Int.ofNat l)) (il_no0 _) (stopB_ok (noBT_ok _ _) 4) (noRT_ok _ _) (by
    repeat' first | (refine Tr.all_ite (fun hc=>?_) (fun hc=>?_)<;>(try simp (disch:=omega) only[nV,nW] at hc)<;>try omega) | (refine Tr.all_req ?_ ?_;· (try simp (disch:=omega) only[nV,nW]);try omega) | (refine Tr.all_reqP ?_ ?_;· first | exact trivial | rfl | exact ⟨rfl,rfl⟩ | exact ⟨rfl,rfl,rfl⟩ | (simp (disch:=omega) only[nV,nW];done) | ((try simp (disch:=omega) only[nV,nW]);omega)) | fail
    all_goals first
     | exact Tr.all_ok rfl
     | fail)
   exact h1
end
end Go.Eng
end
