/- Lay: law LayMore. -/
import Derived.Test.YtoomemfhcbajoaaV6Lb16x4
import Derived.Test.YtoomemfhcbajoaaV6EngRn4x5
import Derived.Test.YtoomemfhcbajoaaV6EngTix5
import Derived.Test.YtoomemfhcbajoaaProg
import Derived.KernelRfl
import Derived.Test.YtoomemfhcbajoaaChecked
section
namespace Go.Eng
open Go.Proofs
set_option linter.unusedVariables false
set_option linter.unusedSimpArgs false
set_option maxRecDepth 100000
noncomputable def g45 (G:Nat→(Nat→Int)→Nat→(Nat→Int)→Int→Prop) (F:Nat→(Nat→Int)→Nat→(Nat→Int)→Int→Int):List AV→Option (Prop×AV)
 | [.agg (.G [.slcT none (.M [.arr .i64 t l]) 1 l' u,.slcT none (.M [.arr .i64 d k]) 1 k' v]),.int .i64 h]=>some ((l=l'∧k=k'∧u=false∧v=false)∧G l t k d h,.tup [.int .i64 (F l t k d h),.bool true])
 | _=>none
noncomputable def g39 (G:Nat→(Nat→Int)→Nat→(Nat→Int)→Int→Int→Prop) (F E:Nat→(Nat→Int)→Nat→(Nat→Int)→Int→Int→Int):List AV→Option (Prop×AV)
 | [.agg (.G [.slcT none (.M [.arr .i64 t l]) 1 l' u,.slcT none (.M [.arr .i64 d k]) 1 k' v]),.int .i64 h,.int .i64 c]=>some ((l=l'∧k=k'∧u=false∧v=false)∧G l t k d h c,.tup [.int .i64 (F l t k d h c),.int .i64 (E l t k d h c)])
 | _=>none
theorem u15 (n l k:Nat) (t d:Nat→Int) (H:Heap):bodyT Try.prog (cd n) 100000 15 Try.f15 (KtL.kt 15) (il noCt n 0) noBT noRT [(shA l t k d,none)] H =
 Tr.ite (ltI (Int.ofNat 40) (Int.ofNat l)) (Tr.ok ((AV.bool true,some 1),H)) (Tr.ok ((AV.bool (ltI (Int.ofNat 40) (Int.ofNat k)),none),H)):=by kernel_rfl
theorem u43 (n l k:Nat) (t d:Nat→Int) (b:Bool) (e:Int) (H:Heap):bodyT Try.prog (cd n) 100000 43 Try.f43 (KtL.kt 43) (il (tX (tX noCt 15 [shA l t k d] (.bool b)) 22 [shA l t k d] (.int .i64 e)) n 0) noBT noRT [(shA l t k d,none)] H =
 (fun (Z0:List AV)=>Tr.reqP (Z0=Z0) (Tr.ite (notB b) (Tr.reqP (Z0=Z0) (Tr.ok ((AV.bool (eqI e (Int.ofNat 0)),none),H))) (Tr.ok ((AV.bool false,some 1),H)))) [AV.agg (Row.G [AV.slcT none (Row.M [Seg.arr .i64 t l]) 1 l false,AV.slcT none (Row.M [Seg.arr .i64 d k]) 1 k false])]:=by kernel_rfl
theorem u45 (n l k:Nat) (t d:Nat→Int) (h a e:Int) (H:Heap):bodyT Try.prog (cd n) 100000 45 Try.f45 (KtL.kt 45) (il (tX noCt 36 [shA l t k d,.int .i64 h] (.tup [.int .i64 a,.int .i64 e])) n 0) noBT noRT [(shA l t k d,none),(.int .i64 h,none)] H =
 (fun (Z0:List AV)=>Tr.reqP (Z0=Z0) (Tr.ite (eqI e (Int.ofNat 13)) (Tr.ok ((AV.tup [AV.int .i64 (Int.ofNat 100),AV.bool (eqI a (Int.ofNat 0))],none),H)) (Tr.ok ((AV.tup [AV.int .i64 a,AV.bool (eqI e (Int.ofNat 0))],none),H)))) [AV.agg (Row.G [AV.slcT none (Row.M [Seg.arr .i64 t l]) 1 l false,AV.slcT none (Row.M [Seg.arr .i64 d k]) 1 k false]),AV.int .i64 h]:=by kernel_rfl
theorem u9s (n l k:Nat) (t d:Nat→Int) (h w c g:Int) (H:Heap):bodyT Try.prog (cd n) 100000 9 Try.f9 (KtL.kt 9) (il (ctG (tX noCt 43 [shA l t k d] (.bool false)) 16 g16) n 0) noBT noRT [(shA l t k d,none),(.int .u8 h,none),(.int .u8 w,none),(.int .u8 c,none),(.int .u8 g,none)] H =
 (fun (Z0:List AV)=>Tr.reqP (Z0=Z0) (Tr.ite (notB false) (Tr.reqP True (Tr.ok ((AV.bool true,none),H))) (Tr.req (notB (eqI (Int.ofNat 9) (Int.ofNat 0))) (Tr.req (notB (eqI (Int.ofNat l) (Int.ofNat 0))) (Tr.req (notB (eqI (Int.ofNat l) (Int.ofNat 0))) (Tr.ite (eqN k 0) (Tr.req (andB (leN 0 0) (leN 0 1)) (Tr.ite (eqN l 0) (Tr.req (andB (leN 0 0) (leN 0 1)) (Tr.req (inI (remI IntKind.i64 (wrI IntKind.i64 w) (Int.ofNat l)) 0) (Tr.req (eqN 0 0) (Tr.req (ltN (idO 0 (remI IntKind.i64 (wrI IntKind.i64 w) (Int.ofNat l)) 1) (lenL [])) (Tr.req (inI (remI IntKind.i64 (wrI IntKind.i64 w) (Int.ofNat l)) 0) (Tr.req (eqN 0 0) Tr.bad)))))) (Tr.req (roomO 0 l 8) (Tr.req (leN l l) (Tr.req (leN (addO 0 l) l) (Tr.ite (ltN 0 (addO 0 l)) (Tr.req (eqN 0 0) (Tr.req (leN 0 0) (Tr.req (andB (leN 0 0) (leN 0 1)) (Tr.req (inI (remI IntKind.i64 (wrI IntKind.i64 w) (Int.ofNat l)) 0) (Tr.req (eqN 0 0) (Tr.req (ltN (idO 0 (remI IntKind.i64 (wrI IntKind.i64 w) (Int.ofNat l)) 1) (lenL [])) (Tr.req (inI (remI IntKind.i64 (wrI IntKind.i64 w) (Int.ofNat l)) 0) (Tr.req (eqN 0 0) Tr.bad)))))))) (Tr.req (eqN 0 0) Tr.bad))))))) (Tr.req (roomO 0 k 8) (Tr.req (leN k k) (Tr.req (leN (addO 0 k) k) (Tr.ite (ltN 0 (addO 0 k)) (Tr.req (eqN 0 0) (Tr.req (leN 0 0) (Tr.req (andB (leN 0 0) (leN 0 1)) (Tr.ite (eqN l 0) (Tr.req (andB (leN 0 0) (leN 0 1)) (Tr.req (inI (remI IntKind.i64 (wrI IntKind.i64 w) (Int.ofNat l)) (addO 0 k)) (Tr.req (eqN 0 0) (Tr.req (ltN (idO 0 (remI IntKind.i64 (wrI IntKind.i64 w) (Int.ofNat l)) 1) (addO 0 k)) (Tr.req (inI (remI IntKind.i64 (wrI IntKind.i64 w) (Int.ofNat l)) (addO 0 k)) (Tr.req (eqN 0 0) (Tr.req (ltN (idO 0 (remI IntKind.i64 (wrI IntKind.i64 w) (Int.ofNat l)) 1) (addO 0 k)) (Tr.req (andB (leN 0 0) (leN 0 1)) (Tr.req (inI (remI IntKind.i64 (wrI IntKind.i64 w) (Int.ofNat l)) 0) (Tr.req (eqN 0 0) Tr.bad)))))))))) (Tr.req (roomO 0 l 8) (Tr.req (leN l l) (Tr.req (leN (addO 0 l) l) (Tr.ite (ltN 0 (addO 0 l)) (Tr.req (eqN 0 0) (Tr.req (leN 0 0) (Tr.req (andB (leN 0 0) (leN 0 1)) (Tr.req (inI (remI IntKind.i64 (wrI IntKind.i64 w) (Int.ofNat l)) (addO 0 k)) (Tr.req (eqN 0 0) (Tr.req (ltN (idO 0 (remI IntKind.i64 (wrI IntKind.i64 w) (Int.ofNat l)) 1) (addO 0 k)) (Tr.req (inI (remI IntKind.i64 (wrI IntKind.i64 w) (Int.ofNat l)) (addO 0 k)) (Tr.req (eqN 0 0) (Tr.req (ltN (idO 0 (remI IntKind.i64 (wrI IntKind.i64 w) (Int.ofNat l)) 1) (addO 0 k)) (Tr.req (andB (leN 0 0) (leN 0 1)) (Tr.req (inI (remI IntKind.i64 (wrI IntKind.i64 w) (Int.ofNat l)) (addO 0 l)) (Tr.req (eqN 0 0) (Tr.req (ltN (idO 0 (remI IntKind.i64 (wrI IntKind.i64 w) (Int.ofNat l)) 1) (addO 0 l)) (Tr.req (eqN 0 0) (Tr.req (inO 0 (addO 0 k) 0 (addO 0 k)) (Tr.req (eqN 0 0) (Tr.req (inO 0 (addO 0 l) 0 (addO 0 l)) Tr.bad))))))))))))))))) (Tr.req (eqN 0 0) Tr.bad))))))))) (Tr.req (eqN 0 0) Tr.bad))))))))))) [AV.agg (Row.G [AV.slcT none (Row.M [Seg.arr .i64 t l]) 1 l false,AV.slcT none (Row.M [Seg.arr .i64 d k]) 1 k false])]:=by kernel_rfl
theorem u9 (n l k:Nat) (t d:Nat→Int) (h w c g:Int) (G:Nat→(Nat→Int)→Nat→(Nat→Int)→Int→Prop) (G2:Nat→(Nat→Int)→Nat→(Nat→Int)→Int→Int→Prop) (F:Nat→(Nat→Int)→Nat→(Nat→Int)→Int→Int) (E1 E2:Nat→(Nat→Int)→Nat→(Nat→Int)→Int→Int→Int) (H:Heap):bodyT Try.prog (cd n) 100000 9 Try.f9 (KtL.kt 9) (il (ctG (ctG (ctG (tX noCt 43 [shA l t k d] (.bool true)) 45 (g45 G F)) 39 (g39 G2 E1 E2)) 16 g16) n 0) noBT noRT [(shA l t k d,none),(.int .u8 h,none),(.int .u8 w,none),(.int .u8 c,none),(.int .u8 g,none)] H =
 (fun (Z0:List AV)=>Tr.reqP (Z0=Z0) (Tr.ite (notB true) (Tr.reqP True (Tr.ok ((AV.bool true,none),H))) (Tr.req (notB (eqI (Int.ofNat 9) (Int.ofNat 0))) (Tr.req (notB (eqI (Int.ofNat l) (Int.ofNat 0))) (Tr.req (notB (eqI (Int.ofNat l) (Int.ofNat 0))) (Tr.ite (eqN k 0) (Tr.req (andB (leN 0 0) (leN 0 1)) (Tr.ite (eqN l 0) (Tr.req (andB (leN 0 0) (leN 0 1)) (Tr.req (inI (remI IntKind.i64 (wrI IntKind.i64 w) (Int.ofNat l)) 0) (Tr.req (eqN 0 0) (Tr.req (ltN (idO 0 (remI IntKind.i64 (wrI IntKind.i64 w) (Int.ofNat l)) 1) (lenL [])) (Tr.req (inI (remI IntKind.i64 (wrI IntKind.i64 w) (Int.ofNat l)) 0) (Tr.req (eqN 0 0) Tr.bad)))))) (Tr.req (roomO 0 l 8) (Tr.req (leN l l) (Tr.req (leN (addO 0 l) l) (Tr.ite (ltN 0 (addO 0 l)) (Tr.req (eqN 0 0) (Tr.req (leN 0 0) (Tr.req (andB (leN 0 0) (leN 0 1)) (Tr.req (inI (remI IntKind.i64 (wrI IntKind.i64 w) (Int.ofNat l)) 0) (Tr.req (eqN 0 0) (Tr.req (ltN (idO 0 (remI IntKind.i64 (wrI IntKind.i64 w) (Int.ofNat l)) 1) (lenL [])) (Tr.req (inI (remI IntKind.i64 (wrI IntKind.i64 w) (Int.ofNat l)) 0) (Tr.req (eqN 0 0) Tr.bad)))))))) (Tr.req (eqN 0 0) Tr.bad))))))) (Tr.req (roomO 0 k 8) (Tr.req (leN k k) (Tr.req (leN (addO 0 k) k) (Tr.ite (ltN 0 (addO 0 k)) (Tr.req (eqN 0 0) (Tr.req (leN 0 0) (Tr.req (andB (leN 0 0) (leN 0 1)) (Tr.ite (eqN l 0) (Tr.req (andB (leN 0 0) (leN 0 1)) (Tr.req (inI (remI IntKind.i64 (wrI IntKind.i64 w) (Int.ofNat l)) (addO 0 k)) (Tr.req (eqN 0 0) (Tr.req (ltN (idO 0 (remI IntKind.i64 (wrI IntKind.i64 w) (Int.ofNat l)) 1) (addO 0 k)) (Tr.req (inI (remI IntKind.i64 (wrI IntKind.i64 w) (Int.ofNat l)) (addO 0 k)) (Tr.req (eqN 0 0) (Tr.req (ltN (idO 0 (remI IntKind.i64 (wrI IntKind.i64 w) (Int.ofNat l)) 1) (addO 0 k)) (Tr.req (andB (leN 0 0) (leN 0 1)) (Tr.req (inI (remI IntKind.i64 (wrI IntKind.i64 w) (Int.ofNat l)) 0) (Tr.req (eqN 0 0) Tr.bad)))))))))) (Tr.req (roomO 0 l 8) (Tr.req (leN l l) (Tr.req (leN (addO 0 l) l) (Tr.ite (ltN 0 (addO 0 l)) (Tr.req (eqN 0 0) (Tr.req (leN 0 0) (Tr.req (andB (leN 0 0) (leN 0 1)) (Tr.req (inI (remI IntKind.i64 (wrI IntKind.i64 w) (Int.ofNat l)) (addO 0 k)) (Tr.req (eqN 0 0) (Tr.req (ltN (idO 0 (remI IntKind.i64 (wrI IntKind.i64 w) (Int.ofNat l)) 1) (addO 0 k)) (Tr.req (inI (remI IntKind.i64 (wrI IntKind.i64 w) (Int.ofNat l)) (addO 0 k)) (Tr.req (eqN 0 0) (Tr.req (ltN (idO 0 (remI IntKind.i64 (wrI IntKind.i64 w) (Int.ofNat l)) 1) (addO 0 k)) (Tr.req (andB (leN 0 0) (leN 0 1)) (Tr.req (inI (remI IntKind.i64 (wrI IntKind.i64 w) (Int.ofNat l)) (addO 0 l)) (Tr.req (eqN 0 0) (Tr.req (ltN (idO 0 (remI IntKind.i64 (wrI IntKind.i64 w) (Int.ofNat l)) 1) (addO 0 l)) (Tr.req (eqN 0 0) (Tr.req (inO 0 (addO 0 k) 0 (addO 0 k)) (Tr.req (eqN 0 0) (Tr.req (inO 0 (addO 0 l) 0 (addO 0 l)) (Tr.reqP ((l=l∧k=k∧false=false∧false=false)∧G l t k d (addI .i64 (Int.ofNat 1) (remI IntKind.i64 (wrI IntKind.i64 h) (Int.ofNat 9)))) (Tr.reqP ((l=l∧k=k∧false=false∧false=false)∧G2 l t k d (addI .i64 (Int.ofNat 1) (remI IntKind.i64 (wrI IntKind.i64 h) (Int.ofNat 9))) (remI IntKind.i64 (wrI IntKind.i64 c) (Int.ofNat l))) (Tr.ite (notB true) (Tr.ok ((AV.bool false,some 1),H)) (Tr.ite (notB (eqB (eqI (E2 l t k d (addI .i64 (Int.ofNat 1) (remI IntKind.i64 (wrI IntKind.i64 h) (Int.ofNat 9))) (remI IntKind.i64 (wrI IntKind.i64 c) (Int.ofNat l))) (Int.ofNat 0)) (ltI (F l t k d (addI .i64 (Int.ofNat 1) (remI IntKind.i64 (wrI IntKind.i64 h) (Int.ofNat 9)))) (Int.ofNat 100)))) (Tr.ok ((AV.bool false,some 1),H)) (Tr.req (inI (Int.ofNat 0) 3) (Tr.req (inI (Int.ofNat 0) 3) (Tr.reqP ((l=l∧k=k∧false=false∧false=false)∧G l t k d (addI .i64 (addI .i64 (Int.ofNat 1) (remI IntKind.i64 (wrI IntKind.i64 h) (Int.ofNat 9))) (Int.ofNat 1))) (Tr.req (inI (Int.ofNat 0) 3) (Tr.req (inI (Int.ofNat 0) 3) (Tr.reqP ((l=l∧k=k∧false=false∧false=false)∧G2 l t k d (addI .i64 (addI .i64 (Int.ofNat 1) (remI IntKind.i64 (wrI IntKind.i64 h) (Int.ofNat 9))) (Int.ofNat 1)) (remI IntKind.i64 (wrI IntKind.i64 c) (Int.ofNat l))) (Tr.ite (notB true) (Tr.ok ((AV.bool false,some 1),H)) (Tr.ite (ltI (F l t k d (addI .i64 (Int.ofNat 1) (remI IntKind.i64 (wrI IntKind.i64 h) (Int.ofNat 9)))) (F l t k d (addI .i64 (addI .i64 (Int.ofNat 1) (remI IntKind.i64 (wrI IntKind.i64 h) (Int.ofNat 9))) (Int.ofNat 1)))) (Tr.ok ((AV.bool false,some 1),H)) (Tr.ite (ltI (F l t k d (addI .i64 (Int.ofNat 1) (remI IntKind.i64 (wrI IntKind.i64 h) (Int.ofNat 9)))) (Int.ofNat 100)) (Tr.ite (notB (eqI (E2 l t k d (addI .i64 (addI .i64 (Int.ofNat 1) (remI IntKind.i64 (wrI IntKind.i64 h) (Int.ofNat 9))) (Int.ofNat 1)) (remI IntKind.i64 (wrI IntKind.i64 c) (Int.ofNat l))) (Int.ofNat 0))) (Tr.ok ((AV.bool false,some 1),H)) (Tr.ite (ltI (E1 l t k d (addI .i64 (Int.ofNat 1) (remI IntKind.i64 (wrI IntKind.i64 h) (Int.ofNat 9))) (remI IntKind.i64 (wrI IntKind.i64 c) (Int.ofNat l))) (E1 l t k d (addI .i64 (addI .i64 (Int.ofNat 1) (remI IntKind.i64 (wrI IntKind.i64 h) (Int.ofNat 9))) (Int.ofNat 1)) (remI IntKind.i64 (wrI IntKind.i64 c) (Int.ofNat l)))) (Tr.ok ((AV.bool false,some 1),H)) (Tr.req (inI (Int.ofNat 1) 3) (Tr.req (inI (Int.ofNat 1) 3) (Tr.reqP ((l=l∧addO 0 k=addO 0 k∧false=false∧false=false)∧G l t (addO 0 k) (shO (updO (appO (lstO []) 0 d) (idO 0 (remI IntKind.i64 (wrI IntKind.i64 w) (Int.ofNat l)) 1) (minO (Int.ofNat 40) (addI .i64 (appO (lstO []) 0 d (idO 0 (remI IntKind.i64 (wrI IntKind.i64 w) (Int.ofNat l)) 1)) (wrI IntKind.i64 g)))) 0) (addI .i64 (Int.ofNat 1) (remI IntKind.i64 (wrI IntKind.i64 h) (Int.ofNat 9)))) (Tr.req (inI (Int.ofNat 1) 3) (Tr.req (inI (Int.ofNat 1) 3) (Tr.reqP ((l=l∧addO 0 k=addO 0 k∧false=false∧false=false)∧G2 l t (addO 0 k) (shO (updO (appO (lstO []) 0 d) (idO 0 (remI IntKind.i64 (wrI IntKind.i64 w) (Int.ofNat l)) 1) (minO (Int.ofNat 40) (addI .i64 (appO (lstO []) 0 d (idO 0 (remI IntKind.i64 (wrI IntKind.i64 w) (Int.ofNat l)) 1)) (wrI IntKind.i64 g)))) 0) (addI .i64 (Int.ofNat 1) (remI IntKind.i64 (wrI IntKind.i64 h) (Int.ofNat 9))) (remI IntKind.i64 (wrI IntKind.i64 c) (Int.ofNat l))) (Tr.ite (notB true) (Tr.ok ((AV.bool false,some 1),H)) (Tr.ite (ltI (F l t k d (addI .i64 (Int.ofNat 1) (remI IntKind.i64 (wrI IntKind.i64 h) (Int.ofNat 9)))) (F l t (addO 0 k) (shO (updO (appO (lstO []) 0 d) (idO 0 (remI IntKind.i64 (wrI IntKind.i64 w) (Int.ofNat l)) 1) (minO (Int.ofNat 40) (addI .i64 (appO (lstO []) 0 d (idO 0 (remI IntKind.i64 (wrI IntKind.i64 w) (Int.ofNat l)) 1)) (wrI IntKind.i64 g)))) 0) (addI .i64 (Int.ofNat 1) (remI IntKind.i64 (wrI IntKind.i64 h) (Int.ofNat 9))))) (Tr.ok ((AV.bool false,some 1),H)) (Tr.ite (ltI (F l t k d (addI .i64 (Int.ofNat 1) (remI IntKind.i64 (wrI IntKind.i64 h) (Int.ofNat 9)))) (Int.ofNat 100)) (Tr.ite (notB (eqI (E2 l t (addO 0 k) (shO (updO (appO (lstO []) 0 d) (idO 0 (remI IntKind.i64 (wrI IntKind.i64 w) (Int.ofNat l)) 1) (minO (Int.ofNat 40) (addI .i64 (appO (lstO []) 0 d (idO 0 (remI IntKind.i64 (wrI IntKind.i64 w) (Int.ofNat l)) 1)) (wrI IntKind.i64 g)))) 0) (addI .i64 (Int.ofNat 1) (remI IntKind.i64 (wrI IntKind.i64 h) (Int.ofNat 9))) (remI IntKind.i64 (wrI IntKind.i64 c) (Int.ofNat l))) (Int.ofNat 0))) (Tr.ok ((AV.bool false,some 1),H)) (Tr.ite (ltI (E1 l t k d (addI .i64 (Int.ofNat 1) (remI IntKind.i64 (wrI IntKind.i64 h) (Int.ofNat 9))) (remI IntKind.i64 (wrI IntKind.i64 c) (Int.ofNat l))) (E1 l t (addO 0 k) (shO (updO (appO (lstO []) 0 d) (idO 0 (remI IntKind.i64 (wrI IntKind.i64 w) (Int.ofNat l)) 1) (minO (Int.ofNat 40) (addI .i64 (appO (lstO []) 0 d (idO 0 (remI IntKind.i64 (wrI IntKind.i64 w) (Int.ofNat l)) 1)) (wrI IntKind.i64 g)))) 0) (addI .i64 (Int.ofNat 1) (remI IntKind.i64 (wrI IntKind.i64 h) (Int.ofNat 9))) (remI IntKind.i64 (wrI IntKind.i64 c) (Int.ofNat l)))) (Tr.ok ((AV.bool false,some 1),H)) (Tr.req (inI (Int.ofNat 2) 3) (Tr.req (inI (Int.ofNat 2) 3) (Tr.reqP ((addO 0 l=addO 0 l∧k=k∧false=false∧false=false)∧G (addO 0 l) (shO (updO (appO (lstO []) 0 t) (idO 0 (remI IntKind.i64 (wrI IntKind.i64 w) (Int.ofNat l)) 1) (Int.negSucc 0)) 0) k d (addI .i64 (Int.ofNat 1) (remI IntKind.i64 (wrI IntKind.i64 h) (Int.ofNat 9)))) (Tr.req (inI (Int.ofNat 2) 3) (Tr.req (inI (Int.ofNat 2) 3) (Tr.reqP ((addO 0 l=addO 0 l∧k=k∧false=false∧false=false)∧G2 (addO 0 l) (shO (updO (appO (lstO []) 0 t) (idO 0 (remI IntKind.i64 (wrI IntKind.i64 w) (Int.ofNat l)) 1) (Int.negSucc 0)) 0) k d (addI .i64 (Int.ofNat 1) (remI IntKind.i64 (wrI IntKind.i64 h) (Int.ofNat 9))) (remI IntKind.i64 (wrI IntKind.i64 c) (Int.ofNat l))) (Tr.ite (notB true) (Tr.ok ((AV.bool false,some 1),H)) (Tr.ite (ltI (F l t k d (addI .i64 (Int.ofNat 1) (remI IntKind.i64 (wrI IntKind.i64 h) (Int.ofNat 9)))) (F (addO 0 l) (shO (updO (appO (lstO []) 0 t) (idO 0 (remI IntKind.i64 (wrI IntKind.i64 w) (Int.ofNat l)) 1) (Int.negSucc 0)) 0) k d (addI .i64 (Int.ofNat 1) (remI IntKind.i64 (wrI IntKind.i64 h) (Int.ofNat 9))))) (Tr.ok ((AV.bool false,some 1),H)) (Tr.ite (ltI (F l t k d (addI .i64 (Int.ofNat 1) (remI IntKind.i64 (wrI IntKind.i64 h) (Int.ofNat 9)))) (Int.ofNat 100)) (Tr.ite (notB (eqI (E2 (addO 0 l) (shO (updO (appO (lstO []) 0 t) (idO 0 (remI IntKind.i64 (wrI IntKind.i64 w) (Int.ofNat l)) 1) (Int.negSucc 0)) 0) k d (addI .i64 (Int.ofNat 1) (remI IntKind.i64 (wrI IntKind.i64 h) (Int.ofNat 9))) (remI IntKind.i64 (wrI IntKind.i64 c) (Int.ofNat l))) (Int.ofNat 0))) (Tr.ok ((AV.bool false,some 1),H)) (Tr.ite (ltI (E1 l t k d (addI .i64 (Int.ofNat 1) (remI IntKind.i64 (wrI IntKind.i64 h) (Int.ofNat 9))) (remI IntKind.i64 (wrI IntKind.i64 c) (Int.ofNat l))) (E1 (addO 0 l) (shO (updO (appO (lstO []) 0 t) (idO 0 (remI IntKind.i64 (wrI IntKind.i64 w) (Int.ofNat l)) 1) (Int.negSucc 0)) 0) k d (addI .i64 (Int.ofNat 1) (remI IntKind.i64 (wrI IntKind.i64 h) (Int.ofNat 9))) (remI IntKind.i64 (wrI IntKind.i64 c) (Int.ofNat l)))) (Tr.ok ((AV.bool false,some 1),H)) (Tr.reqP True (Tr.ok ((AV.bool true,none),H))))) (Tr.reqP True (Tr.ok ((AV.bool true,none),H)))))))))))))) (Tr.req (inI (Int.ofNat 2) 3) (Tr.req (inI (Int.ofNat 2) 3) (Tr.reqP ((addO 0 l=addO 0 l∧k=k∧false=false∧false=false)∧G (addO 0 l) (shO (updO (appO (lstO []) 0 t) (idO 0 (remI IntKind.i64 (wrI IntKind.i64 w) (Int.ofNat l)) 1) (Int.negSucc 0)) 0) k d (addI .i64 (Int.ofNat 1) (remI IntKind.i64 (wrI IntKind.i64 h) (Int.ofNat 9)))) (Tr.req (inI (Int.ofNat 2) 3) (Tr.req (inI (Int.ofNat 2) 3) (Tr.reqP ((addO 0 l=addO 0 l∧k=k∧false=false∧false=false)∧G2 (addO 0 l) (shO (updO (appO (lstO []) 0 t) (idO 0 (remI IntKind.i64 (wrI IntKind.i64 w) (Int.ofNat l)) 1) (Int.negSucc 0)) 0) k d (addI .i64 (Int.ofNat 1) (remI IntKind.i64 (wrI IntKind.i64 h) (Int.ofNat 9))) (remI IntKind.i64 (wrI IntKind.i64 c) (Int.ofNat l))) (Tr.ite (notB true) (Tr.ok ((AV.bool false,some 1),H)) (Tr.ite (ltI (F l t k d (addI .i64 (Int.ofNat 1) (remI IntKind.i64 (wrI IntKind.i64 h) (Int.ofNat 9)))) (F (addO 0 l) (shO (updO (appO (lstO []) 0 t) (idO 0 (remI IntKind.i64 (wrI IntKind.i64 w) (Int.ofNat l)) 1) (Int.negSucc 0)) 0) k d (addI .i64 (Int.ofNat 1) (remI IntKind.i64 (wrI IntKind.i64 h) (Int.ofNat 9))))) (Tr.ok ((AV.bool false,some 1),H)) (Tr.ite (ltI (F l t k d (addI .i64 (Int.ofNat 1) (remI IntKind.i64 (wrI IntKind.i64 h) (Int.ofNat 9)))) (Int.ofNat 100)) (Tr.ite (notB (eqI (E2 (addO 0 l) (shO (updO (appO (lstO []) 0 t) (idO 0 (remI IntKind.i64 (wrI IntKind.i64 w) (Int.ofNat l)) 1) (Int.negSucc 0)) 0) k d (addI .i64 (Int.ofNat 1) (remI IntKind.i64 (wrI IntKind.i64 h) (Int.ofNat 9))) (remI IntKind.i64 (wrI IntKind.i64 c) (Int.ofNat l))) (Int.ofNat 0))) (Tr.ok ((AV.bool false,some 1),H)) (Tr.ite (ltI (E1 l t k d (addI .i64 (Int.ofNat 1) (remI IntKind.i64 (wrI IntKind.i64 h) (Int.ofNat 9))) (remI IntKind.i64 (wrI IntKind.i64 c) (Int.ofNat l))) (E1 (addO 0 l) (shO (updO (appO (lstO []) 0 t) (idO 0 (remI IntKind.i64 (wrI IntKind.i64 w) (Int.ofNat l)) 1) (Int.negSucc 0)) 0) k d (addI .i64 (Int.ofNat 1) (remI IntKind.i64 (wrI IntKind.i64 h) (Int.ofNat 9))) (remI IntKind.i64 (wrI IntKind.i64 c) (Int.ofNat l)))) (Tr.ok ((AV.bool false,some 1),H)) (Tr.reqP True (Tr.ok ((AV.bool true,none),H))))) (Tr.reqP True (Tr.ok ((AV.bool true,none),H))))))))))))))))))))))) (Tr.req (inI (Int.ofNat 1) 3) (Tr.req (inI (Int.ofNat 1) 3) (Tr.reqP ((l=l∧addO 0 k=addO 0 k∧false=false∧false=false)∧G l t (addO 0 k) (shO (updO (appO (lstO []) 0 d) (idO 0 (remI IntKind.i64 (wrI IntKind.i64 w) (Int.ofNat l)) 1) (minO (Int.ofNat 40) (addI .i64 (appO (lstO []) 0 d (idO 0 (remI IntKind.i64 (wrI IntKind.i64 w) (Int.ofNat l)) 1)) (wrI IntKind.i64 g)))) 0) (addI .i64 (Int.ofNat 1) (remI IntKind.i64 (wrI IntKind.i64 h) (Int.ofNat 9)))) (Tr.req (inI (Int.ofNat 1) 3) (Tr.req (inI (Int.ofNat 1) 3) (Tr.reqP ((l=l∧addO 0 k=addO 0 k∧false=false∧false=false)∧G2 l t (addO 0 k) (shO (updO (appO (lstO []) 0 d) (idO 0 (remI IntKind.i64 (wrI IntKind.i64 w) (Int.ofNat l)) 1) (minO (Int.ofNat 40) (addI .i64 (appO (lstO []) 0 d (idO 0 (remI IntKind.i64 (wrI IntKind.i64 w) (Int.ofNat l)) 1)) (wrI IntKind.i64 g)))) 0) (addI .i64 (Int.ofNat 1) (remI IntKind.i64 (wrI IntKind.i64 h) (Int.ofNat 9))) (remI IntKind.i64 (wrI IntKind.i64 c) (Int.ofNat l))) (Tr.ite (notB true) (Tr.ok ((AV.bool false,some 1),H)) (Tr.ite (ltI (F l t k d (addI .i64 (Int.ofNat 1) (remI IntKind.i64 (wrI IntKind.i64 h) (Int.ofNat 9)))) (F l t (addO 0 k) (shO (updO (appO (lstO []) 0 d) (idO 0 (remI IntKind.i64 (wrI IntKind.i64 w) (Int.ofNat l)) 1) (minO (Int.ofNat 40) (addI .i64 (appO (lstO []) 0 d (idO 0 (remI IntKind.i64 (wrI IntKind.i64 w) (Int.ofNat l)) 1)) (wrI IntKind.i64 g)))) 0) (addI .i64 (Int.ofNat 1) (remI IntKind.i64 (wrI IntKind.i64 h) (Int.ofNat 9))))) (Tr.ok ((AV.bool false,some 1),H)) (Tr.ite (ltI (F l t k d (addI .i64 (Int.ofNat 1) (remI IntKind.i64 (wrI IntKind.i64 h) (Int.ofNat 9)))) (Int.ofNat 100)) (Tr.ite (notB (eqI (E2 l t (addO 0 k) (shO (updO (appO (lstO []) 0 d) (idO 0 (remI IntKind.i64 (wrI IntKind.i64 w) (Int.ofNat l)) 1) (minO (Int.ofNat 40) (addI .i64 (appO (lstO []) 0 d (idO 0 (remI IntKind.i64 (wrI IntKind.i64 w) (Int.ofNat l)) 1)) (wrI IntKind.i64 g)))) 0) (addI .i64 (Int.ofNat 1) (remI IntKind.i64 (wrI IntKind.i64 h) (Int.ofNat 9))) (remI IntKind.i64 (wrI IntKind.i64 c) (Int.ofNat l))) (Int.ofNat 0))) (Tr.ok ((AV.bool false,some 1),H)) (Tr.ite (ltI (E1 l t k d (addI .i64 (Int.ofNat 1) (remI IntKind.i64 (wrI IntKind.i64 h) (Int.ofNat 9))) (remI IntKind.i64 (wrI IntKind.i64 c) (Int.ofNat l))) (E1 l t (addO 0 k) (shO (updO (appO (lstO []) 0 d) (idO 0 (remI IntKind.i64 (wrI IntKind.i64 w) (Int.ofNat l)) 1) (minO (Int.ofNat 40) (addI .i64 (appO (lstO []) 0 d (idO 0 (remI IntKind.i64 (wrI IntKind.i64 w) (Int.ofNat l)) 1)) (wrI IntKind.i64 g)))) 0) (addI .i64 (Int.ofNat 1) (remI IntKind.i64 (wrI IntKind.i64 h) (Int.ofNat 9))) (remI IntKind.i64 (wrI IntKind.i64 c) (Int.ofNat l)))) (Tr.ok ((AV.bool false,some 1),H)) (Tr.req (inI (Int.ofNat 2) 3) (Tr.req (inI (Int.ofNat 2) 3) (Tr.reqP ((addO 0 l=addO 0 l∧k=k∧false=false∧false=false)∧G (addO 0 l) (shO (updO (appO (lstO []) 0 t) (idO 0 (remI IntKind.i64 (wrI IntKind.i64 w) (Int.ofNat l)) 1) (Int.negSucc 0)) 0) k d (addI .i64 (Int.ofNat 1) (remI IntKind.i64 (wrI IntKind.i64 h) (Int.ofNat 9)))) (Tr.req (inI (Int.ofNat 2) 3) (Tr.req (inI (Int.ofNat 2) 3) (Tr.reqP ((addO 0 l=addO 0 l∧k=k∧false=false∧false=false)∧G2 (addO 0 l) (shO (updO (appO (lstO []) 0 t) (idO 0 (remI IntKind.i64 (wrI IntKind.i64 w) (Int.ofNat l)) 1) (Int.negSucc 0)) 0) k d (addI .i64 (Int.ofNat 1) (remI IntKind.i64 (wrI IntKind.i64 h) (Int.ofNat 9))) (remI IntKind.i64 (wrI IntKind.i64 c) (Int.ofNat l))) (Tr.ite (notB true) (Tr.ok ((AV.bool false,some 1),H)) (Tr.ite (ltI (F l t k d (addI .i64 (Int.ofNat 1) (remI IntKind.i64 (wrI IntKind.i64 h) (Int.ofNat 9)))) (F (addO 0 l) (shO (updO (appO (lstO []) 0 t) (idO 0 (remI IntKind.i64 (wrI IntKind.i64 w) (Int.ofNat l)) 1) (Int.negSucc 0)) 0) k d (addI .i64 (Int.ofNat 1) (remI IntKind.i64 (wrI IntKind.i64 h) (Int.ofNat 9))))) (Tr.ok ((AV.bool false,some 1),H)) (Tr.ite (ltI (F l t k d (addI .i64 (Int.ofNat 1) (remI IntKind.i64 (wrI IntKind.i64 h) (Int.ofNat 9)))) (Int.ofNat 100)) (Tr.ite (notB (eqI (E2 (addO 0 l) (shO (updO (appO (lstO []) 0 t) (idO 0 (remI IntKind.i64 (wrI IntKind.i64 w) (Int.ofNat l)) 1) (Int.negSucc 0)) 0) k d (addI .i64 (Int.ofNat 1) (remI IntKind.i64 (wrI IntKind.i64 h) (Int.ofNat 9))) (remI IntKind.i64 (wrI IntKind.i64 c) (Int.ofNat l))) (Int.ofNat 0))) (Tr.ok ((AV.bool false,some 1),H)) (Tr.ite (ltI (E1 l t k d (addI .i64 (Int.ofNat 1) (remI IntKind.i64 (wrI IntKind.i64 h) (Int.ofNat 9))) (remI IntKind.i64 (wrI IntKind.i64 c) (Int.ofNat l))) (E1 (addO 0 l) (shO (updO (appO (lstO []) 0 t) (idO 0 (remI IntKind.i64 (wrI IntKind.i64 w) (Int.ofNat l)) 1) (Int.negSucc 0)) 0) k d (addI .i64 (Int.ofNat 1) (remI IntKind.i64 (wrI IntKind.i64 h) (Int.ofNat 9))) (remI IntKind.i64 (wrI IntKind.i64 c) (Int.ofNat l)))) (Tr.ok ((AV.bool false,some 1),H)) (Tr.reqP True (Tr.ok ((AV.bool true,none),H))))) (Tr.reqP True (Tr.ok ((AV.bool true,none),H)))))))))))))) (Tr.req (inI (Int.ofNat 2) 3) (Tr.req (inI (Int.ofNat 2) 3) (Tr.reqP ((addO 0 l=addO 0 l∧k=k∧false=false∧false=false)∧G (addO 0 l) (shO (updO (appO (lstO []) 0 t) (idO 0 (remI IntKind.i64 (wrI IntKind.i64 w) (Int.ofNat l)) 1) (Int.negSucc 0)) 0) k d (addI .i64 (Int.ofNat 1) (remI IntKind.i64 (wrI IntKind.i64 h) (Int.ofNat 9)))) (Tr.req (inI (Int.ofNat 2) 3) (Tr.req (inI (Int.ofNat 2) 3) (Tr.reqP ((addO 0 l=addO 0 l∧k=k∧false=false∧false=false)∧G2 (addO 0 l) (shO (updO (appO (lstO []) 0 t) (idO 0 (remI IntKind.i64 (wrI IntKind.i64 w) (Int.ofNat l)) 1) (Int.negSucc 0)) 0) k d (addI .i64 (Int.ofNat 1) (remI IntKind.i64 (wrI IntKind.i64 h) (Int.ofNat 9))) (remI IntKind.i64 (wrI IntKind.i64 c) (Int.ofNat l))) (Tr.ite (notB true) (Tr.ok ((AV.bool false,some 1),H)) (Tr.ite (ltI (F l t k d (addI .i64 (Int.ofNat 1) (remI IntKind.i64 (wrI IntKind.i64 h) (Int.ofNat 9)))) (F (addO 0 l) (shO (updO (appO (lstO []) 0 t) (idO 0 (remI IntKind.i64 (wrI IntKind.i64 w) (Int.ofNat l)) 1) (Int.negSucc 0)) 0) k d (addI .i64 (Int.ofNat 1) (remI IntKind.i64 (wrI IntKind.i64 h) (Int.ofNat 9))))) (Tr.ok ((AV.bool false,some 1),H)) (Tr.ite (ltI (F l t k d (addI .i64 (Int.ofNat 1) (remI IntKind.i64 (wrI IntKind.i64 h) (Int.ofNat 9)))) (Int.ofNat 100)) (Tr.ite (notB (eqI (E2 (addO 0 l) (shO (updO (appO (lstO []) 0 t) (idO 0 (remI IntKind.i64 (wrI IntKind.i64 w) (Int.ofNat l)) 1) (Int.negSucc 0)) 0) k d (addI .i64 (Int.ofNat 1) (remI IntKind.i64 (wrI IntKind.i64 h) (Int.ofNat 9))) (remI IntKind.i64 (wrI IntKind.i64 c) (Int.ofNat l))) (Int.ofNat 0))) (Tr.ok ((AV.bool false,some 1),H)) (Tr.ite (ltI (E1 l t k d (addI .i64 (Int.ofNat 1) (remI IntKind.i64 (wrI IntKind.i64 h) (Int.ofNat 9))) (remI IntKind.i64 (wrI IntKind.i64 c) (Int.ofNat l))) (E1 (addO 0 l) (shO (updO (appO (lstO []) 0 t) (idO 0 (remI IntKind.i64 (wrI IntKind.i64 w) (Int.ofNat l)) 1) (Int.negSucc 0)) 0) k d (addI .i64 (Int.ofNat 1) (remI IntKind.i64 (wrI IntKind.i64 h) (Int.ofNat 9))) (remI IntKind.i64 (wrI IntKind.i64 c) (Int.ofNat l)))) (Tr.ok ((AV.bool false,some 1),H)) (Tr.reqP True (Tr.ok ((AV.bool true,none),H))))) (Tr.reqP True (Tr.ok ((AV.bool true,none),H))))))))))))))))))))))))))))))))))))))))))))))))))) (Tr.req (eqN 0 0) Tr.bad))))))))) (Tr.req (eqN 0 0) Tr.bad))))))))))) [AV.agg (Row.G [AV.slcT none (Row.M [Seg.arr .i64 t l]) 1 l false,AV.slcT none (Row.M [Seg.arr .i64 d k]) 1 k false])]:=by kernel_rfl
def Gd2 (l:Nat) (t:Nat→Int) (k:Nat) (d:Nat→Int) (h c:Int):Prop:=(Sh l t k d∧1≤h∧h≤10)∧0≤c∧c<l
def Gd (l:Nat) (t:Nat→Int) (k:Nat) (d:Nat→Int) (h:Int):Prop:=Sh l t k d∧1≤h∧h≤10
section
variable (n l k:Nat) (t d:Nat→Int) (H:Heap)
theorem c15:cd (n+1) (.fn 15) [shA l t k d] H=some (.bool (decide (40<l) || decide (40<k)),H):=by
 refine fn_all (n:=n) Try.func15 rfl rfl rfl (u15 n l k t d H) (il_no0 _) (noBT_ok _ _) (noRT_ok _ _) ?_
 have e:ltI (Int.ofNat 40) (Int.ofNat k)=decide (40<k):=by rw[ltI_eq,decide_eq_decide];show (40:Int)<(k:Int)↔_;omega
 rw[e]
 by_cases c:40<l
 · rw[decide_eq_true c,Bool.true_or]
   repeat' first | (refine Tr.all_ite (fun hc=>?_) (fun hc=>?_)<;>(try simp (disch:=omega) only[nV,nW] at hc)<;>try omega) | (refine Tr.all_req ?_ ?_;· (try simp (disch:=omega) only[nV,nW]);try omega) | (refine Tr.all_reqP ?_ ?_;· first | exact trivial | rfl | exact ⟨rfl,rfl⟩ | exact ⟨rfl,rfl,rfl⟩ | (simp (disch:=omega) only[nV,nW];done) | ((try simp (disch:=omega) only[nV,nW]);omega)) | fail
   all_goals first
    | exact Tr.all_ok ⟨rfl,rfl⟩
    | fail
 · rw[decide_eq_false c,Bool.false_or]
   repeat' first | (refine Tr.all_ite (fun hc=>?_) (fun hc=>?_)<;>(try simp (disch:=omega) only[nV,nW] at hc)<;>try omega) | (refine Tr.all_req ?_ ?_;· (try simp (disch:=omega) only[nV,nW]);try omega) | (refine Tr.all_reqP ?_ ?_;· first | exact trivial | rfl | exact ⟨rfl,rfl⟩ | exact ⟨rfl,rfl,rfl⟩ | (simp (disch:=omega) only[nV,nW];done) | ((try simp (disch:=omega) only[nV,nW]);omega)) | fail
   all_goals first
    | exact Tr.all_ok ⟨rfl,rfl⟩
    | fail
theorem c43:cd (n+3) (.fn 43) [shA l t k d] H=some (.bool (decide (shE l t k d=0)),H):=by
 refine fn_all (n:=n+2) Try.func43 rfl rfl rfl (u43 (n+2) l k t d (decide (40<l) || decide (40<k)) (shE l t k d) H) (il_ok0 _ (n+2) (tX_ok (tX_ok (noCt_ok _) (fun H=>c15 (n+1) l k t d H)) (fun H=>c22 n l k t d H))) (noBT_ok _ _) (noRT_ok _ _) ?_
 by_cases c:40<l∨40<k
 · have hb:(decide (40<l) || decide (40<k))=true:=by simpa using c
   have he:shE l t k d≠0:=fun h=>by
    have hs:=sh_of h
    have:=hs.l30
    have:=hs.kl
    omega
   rw[hb,decide_eq_false he]
   repeat' first | (refine Tr.all_ite (fun hc=>?_) (fun hc=>?_)<;>(try simp (disch:=omega) only[nV,nW] at hc)<;>try omega) | (refine Tr.all_req ?_ ?_;· (try simp (disch:=omega) only[nV,nW]);try omega) | (refine Tr.all_reqP ?_ ?_;· first | exact trivial | rfl | exact ⟨rfl,rfl⟩ | exact ⟨rfl,rfl,rfl⟩ | (simp (disch:=omega) only[nV,nW];done) | ((try simp (disch:=omega) only[nV,nW]);omega)) | fail
   all_goals first
    | exact Tr.all_ok ⟨rfl,rfl⟩
    | fail
 · have hb:(decide (40<l) || decide (40<k))=false:=by simpa using c
   rw[hb,eqI_eq]
   repeat' first | (refine Tr.all_ite (fun hc=>?_) (fun hc=>?_)<;>(try simp (disch:=omega) only[nV,nW] at hc)<;>try omega) | (refine Tr.all_req ?_ ?_;· (try simp (disch:=omega) only[nV,nW]);try omega) | (refine Tr.all_reqP ?_ ?_;· first | exact trivial | rfl | exact ⟨rfl,rfl⟩ | exact ⟨rfl,rfl,rfl⟩ | (simp (disch:=omega) only[nV,nW];done) | ((try simp (disch:=omega) only[nV,nW]);omega)) | fail
   all_goals first
    | exact Tr.all_ok ⟨rfl,rfl⟩
    | fail
theorem c45 (h:Int) (hg:Gd l t k d h):cd (n+13) (.fn 45) [shA l t k d,.int .i64 h] H=some (.tup [.int .i64 (mF l t k d h),.bool true],H):=by
 obtain ⟨hs,h1,h2⟩:=hg
 have ha:=ask_to hs h1 h2
 have en:needE l k t d h=if canB l t d h=true then 0 else 13:=by unfold needE;rw[if_pos ha]
 unfold mF
 by_cases c:canB l t d h=true
 · rw[if_pos c]
   refine fn_all (n:=n+12) Try.func45 rfl rfl rfl (u45 (n+12) l k t d h (trV l t d h:Nat) 0 H) (il_ok0 _ (n+12) (tX_ok (noCt_ok _) (fun H=>by
    rw[c36];unfold trA;rw[en,if_pos c,if_pos rfl]))) (noBT_ok _ _) (noRT_ok _ _) ?_
   generalize (trV l t d h:Nat)=V at *
   rw[show eqI 0 (Int.ofNat 0)=true by rw[eqI_eq];rfl]
   repeat' first | (refine Tr.all_ite (fun hc=>?_) (fun hc=>?_)<;>(try simp (disch:=omega) only[nV,nW] at hc)<;>try omega) | (refine Tr.all_req ?_ ?_;· (try simp (disch:=omega) only[nV,nW]);try omega) | (refine Tr.all_reqP ?_ ?_;· first | exact trivial | rfl | exact ⟨rfl,rfl⟩ | exact ⟨rfl,rfl,rfl⟩ | (simp (disch:=omega) only[nV,nW];done) | ((try simp (disch:=omega) only[nV,nW]);omega)) | fail
   all_goals first
    | exact Tr.all_ok ⟨rfl,rfl⟩
    | fail
 · rw[if_neg c]
   refine fn_all (n:=n+12) Try.func45 rfl rfl rfl (u45 (n+12) l k t d h 0 13 H) (il_ok0 _ (n+12) (tX_ok (noCt_ok _) (fun H=>by
    rw[c36];unfold trA;rw[en,if_neg c,if_neg (by omega)]))) (noBT_ok _ _) (noRT_ok _ _) ?_
   rw[show eqI 0 (Int.ofNat 0)=true by rw[eqI_eq];rfl]
   repeat' first | (refine Tr.all_ite (fun hc=>?_) (fun hc=>?_)<;>(try simp (disch:=omega) only[nV,nW] at hc)<;>try omega) | (refine Tr.all_req ?_ ?_;· (try simp (disch:=omega) only[nV,nW]);try omega) | (refine Tr.all_reqP ?_ ?_;· first | exact trivial | rfl | exact ⟨rfl,rfl⟩ | exact ⟨rfl,rfl,rfl⟩ | (simp (disch:=omega) only[nV,nW];done) | ((try simp (disch:=omega) only[nV,nW]);omega)) | fail
   all_goals first
    | exact Tr.all_ok ⟨rfl,rfl⟩
    | fail
theorem c39g (h c:Int) (hg:Gd l t k d h) (hc:0≤c∧c<l):cd (n+12) (.fn 39) [shA l t k d,.int .i64 h,.int .i64 c] H=some (.tup [.int .i64 (mE1 l t k d h c),.int .i64 (mE2 l t k d h c)],H):=by
 obtain ⟨hs,h1,h2⟩:=hg
 have:=hs.l30
 have ha:=ask_to hs h1 h2
 have en:eaE l t k d h c=if canB l t d h=true then 0 else 13:=by unfold eaE;rw[if_pos ha,if_neg (by omega)]
 rw[c39 n l k t d H h c (by omega)]
 unfold eaA mE1 mE2
 rw[en]
 by_cases c:canB l t d h=true
 · rw[if_pos c,if_pos rfl,if_pos c]
 · rw[if_neg c,if_neg (by omega),if_neg c]
theorem sh_due {l k:Nat} {t d:Nat→Int} (hs:Sh l t k d) (K:Nat) (g:Int) (hg:0≤g):Sh l t k (updO d K (min 40 (d K+g))):=by
 have hv:∀ j,j<l→1≤updO d K (min 40 (d K+g)) j∧updO d K (min 40 (d K+g)) j≤40:=fun j hj=>by
  have:=hs.d1 j hj
  have:=hs.d40 j hj
  rw[updO_fn]
  show 1≤(if j=K then min 40 (d K+g) else d j)∧(if j=K then min 40 (d K+g) else d j)≤40
  by_cases e:j=K
  · subst e;rw[if_pos rfl];omega
  · rw[if_neg e];omega
 exact ⟨hs.l1,hs.l30,hs.kl,hs.tl,hs.tm,hs.tj,fun j hj=>(hv j hj).1,fun j hj=>(hv j hj).2,hs.cyc⟩
theorem sh_cut {l k:Nat} {t d:Nat→Int} (hs:Sh l t k d) (K:Nat):Sh l (cuT t K) k d:=by
 have hf:=cut_fw hs.fw K
 refine ⟨hs.l1,hs.l30,hs.kl,hf.tl,fun j hj=>?_,fun j hj=>?_,hs.d1,hs.d40,hf.cyc⟩
 · have:=hs.tm j hj
   unfold cuT;split<;>omega
 · have:=hs.tj j hj
   unfold cuT;split<;>omega
theorem c9 (h w c g:Int) (hh:0≤h∧h≤255) (hw:0≤w∧w≤255) (hc:0≤c∧c≤255) (hg:0≤g∧g≤255):cd (n+14) (.fn 9) [shA l t k d,.int .u8 h,.int .u8 w,.int .u8 c,.int .u8 g] H=some (.bool true,H):=by
 by_cases he:shE l t k d=0
 · have hs:=sh_of he
   have hl1:=hs.l1
   have hl2:=hs.l30
   obtain rfl:k=l:=hs.kl
   have h43:∀ H,cd (n+13) (.fn 43) [shA k t k d] H=some (.bool true,H):=fun H=>by rw[c43 (n+10),decide_eq_true he]
   refine fn_all (n:=n+13) Try.func9 rfl rfl rfl (u9 (n+13) k k t d h w c g Gd Gd2 mF mE1 mE2 H) (il_ok0 _ (n+13) (ctW (by omega) ?_)) (noBT_ok _ _) (noRT_ok _ _) ?_
   · refine ctG_ok (ctG_ok (tX_ok (noCt_ok _) h43) (fun args p v hg hp H=>?_)) (fun args p v hg hp H=>?_)
     · unfold g45 at hg
       split at hg
       · simp only[nP] at hg
         obtain ⟨rfl,rfl⟩:=hg
         obtain ⟨⟨rfl,rfl,rfl,rfl⟩,hp⟩:=hp
         exact c45 n _ _ _ _ H _ hp
       · cases hg
     · unfold g39 at hg
       split at hg
       · simp only[nP] at hg
         obtain ⟨rfl,rfl⟩:=hg
         obtain ⟨⟨rfl,rfl,rfl,rfl⟩,hp⟩:=hp
         exact c39g (n+1) _ _ _ _ H _ _ hp.1 hp.2
       · cases hg
   · have m1:h.tmod 9=h % 9:=Int.tmod_eq_emod_of_nonneg hh.1
     have m2:w.tmod (k:Int)=w % (k:Int):=Int.tmod_eq_emod_of_nonneg hw.1
     have m3:c.tmod (k:Int)=c % (k:Int):=Int.tmod_eq_emod_of_nonneg hc.1
     have b1:=Int.emod_nonneg h (show (9:Int)≠0 by omega)
     have b2:=Int.emod_lt_of_pos h (show (0:Int)<9 by omega)
     have b3:=Int.emod_nonneg w (show (k:Int)≠0 by omega)
     have b4:=Int.emod_lt_of_pos w (show (0:Int)<k by omega)
     have b5:=Int.emod_nonneg c (show (k:Int)≠0 by omega)
     have b6:=Int.emod_lt_of_pos c (show (0:Int)<k by omega)
     obtain ⟨K,hK⟩:∃ K:Nat,w % (k:Int)=K:=⟨(w % (k:Int)).toNat,by omega⟩
     obtain ⟨C,hC⟩:∃ C,c % (k:Int)=C:=⟨_,rfl⟩
     obtain ⟨h',hh'⟩:∃ h',1+h % 9=h':=⟨_,rfl⟩
     have e1:addI .i64 (Int.ofNat 1) (remI .i64 (wrI .i64 h) (Int.ofNat 9))=h':=by
      rw[wr_64' (by omega) (by omega),remI_eq,show Int.ofNat 9=9 from rfl,m1,show Int.ofNat 1=1 from rfl,ad64 (by omega) (by omega),hh']
     have e2:addI .i64 h' (Int.ofNat 1)=h'+1:=ad64 (by show _≤h'+1;omega) (by show h'+1≤_;omega)
     have e3:remI .i64 (wrI .i64 w) (Int.ofNat k)=(K:Nat):=by
      rw[wr_64' (by omega) (by omega),remI_eq,show Int.ofNat k=(k:Int) from rfl,m2,hK]
     have e4:remI .i64 (wrI .i64 c) (Int.ofNat k)=C:=by
      rw[wr_64' (by omega) (by omega),remI_eq,show Int.ofNat k=(k:Int) from rfl,m3,hC]
     have e5:wrI .i64 g=g:=wr_64' (by omega) (by omega)
     have e6:addO 0 k=k:=by rw[addO_eq,Nat.zero_add]
     have hKl:K<k:=by omega
     have hd40:=hs.d40 K hKl
     have hd1:=hs.d1 K hKl
     have e7:addI .i64 (d K) g=d K+g:=ad64 (by omega) (by omega)
     have e8:updO t K (Int.negSucc 0)=cuT t K:=by rw[updO_fn];rfl
     simp only[e1,e2,e3,e4,e5,e6,app_nil,id1,e7,e8,minO_min,shO_zero]
     have sx:=sh_due hs K g hg.1
     have sy:=sh_cut hs K
     have g1:Gd k t k d h':=⟨hs,by omega,by omega⟩
     have g2:Gd k t k d (h'+1):=⟨hs,by omega,by omega⟩
     have g3:Gd k t k (updO d K (min 40 (d K+g))) h':=⟨sx,by omega,by omega⟩
     have g4:Gd k (cuT t K) k d h':=⟨sy,by omega,by omega⟩
     have q1:Gd2 k t k d h' C:=⟨g1,by omega,by omega⟩
     have q2:Gd2 k t k d (h'+1) C:=⟨g2,by omega,by omega⟩
     have q3:Gd2 k t k (updO d K (min 40 (d K+g))) h' C:=⟨g3,by omega,by omega⟩
     have q4:Gd2 k (cuT t K) k d h' C:=⟨g4,by omega,by omega⟩
     have r0:=more_eq k t k d h' C
     obtain ⟨r1,r2⟩:=more_of (l:=k) (k:=k) (t:=t) (t':=t) (d:=d) (d':=d) (h:=h') (h':=h'+1) (c:=C) hs.fw (fun e i hi=>Int.le_refl _) (fun j hj=>Int.le_refl _) (by omega)
     obtain ⟨r3,r4⟩:=more_of (l:=k) (k:=k) (t:=t) (t':=t) (d:=d) (d':=updO d K (min 40 (d K+g))) (h:=h') (h':=h') (c:=C) hs.fw (fun e i hi=>Int.le_refl _) (fun j hj=>by
      rw[updO_fn]
      show d j≤if j=K then min 40 (d K+g) else d j
      by_cases e:j=K
      · subst e;rw[if_pos rfl];omega
      · rw[if_neg e];omega) (Int.le_refl _)
     obtain ⟨r5,r6⟩:=more_of (l:=k) (k:=k) (t:=t) (t':=cuT t K) (d:=d) (d':=d) (h:=h') (h':=h') (c:=C) hs.fw (fun e i hi=>cut_la hs.fw K hi) (fun j hj=>Int.le_refl _) (Int.le_refl _)
     have heq:eqB (eqI (mE2 k t k d h' C) (Int.ofNat 0)) (ltI (mF k t k d h') (Int.ofNat 100))=true:=by
      rw[eqB_eq,eqI_eq,ltI_eq]
      show (decide (mE2 k t k d h' C=0) == decide (mF k t k d h'<100))=true
      rw[beq_iff_eq,decide_eq_decide]
      exact r0
     simp only[heq]
     generalize updO d K (min 40 (d K+g))=X at *
     generalize cuT t K=Y at *
     generalize mF k t k d h'=N0 at *
     generalize mF k t k d (h'+1)=N1 at *
     generalize mF k t k X h'=N2 at *
     generalize mF k Y k d h'=N3 at *
     generalize mE1 k t k d h' C=A0 at *
     generalize mE1 k t k d (h'+1) C=A1 at *
     generalize mE1 k t k X h' C=A2 at *
     generalize mE1 k Y k d h' C=A3 at *
     generalize mE2 k t k d h' C=B0 at *
     generalize mE2 k t k d (h'+1) C=B1 at *
     generalize mE2 k t k X h' C=B2 at *
     generalize mE2 k Y k d h' C=B3 at *
     by_cases hN:N0<100
     · obtain ⟨rfl,r2b⟩:=r2 hN
       obtain ⟨rfl,r4b⟩:=r4 hN
       obtain ⟨rfl,r6b⟩:=r6 hN
       repeat' first | (refine Tr.all_ite (fun hc=>?_) (fun hc=>?_)<;>(try simp (disch:=omega) only[nV,nW,g1,g2,g3,g4,q1,q2,q3,q4] at hc)<;>try omega) | (refine Tr.all_req ?_ ?_;· (try simp (disch:=omega) only[nV,nW,g1,g2,g3,g4,q1,q2,q3,q4]);try omega) | (refine Tr.all_reqP ?_ ?_;· first | exact trivial | rfl | exact ⟨rfl,rfl⟩ | exact ⟨rfl,rfl,rfl⟩ | (simp (disch:=omega) only[nV,nW,g1,g2,g3,g4,q1,q2,q3,q4];done) | ((try simp (disch:=omega) only[nV,nW,g1,g2,g3,g4,q1,q2,q3,q4]);omega)) | fail
       all_goals first
        | exact Tr.all_ok ⟨rfl,rfl⟩
        | fail
     repeat' first | (refine Tr.all_ite (fun hc=>?_) (fun hc=>?_)<;>(try simp (disch:=omega) only[nV,nW,g1,g2,g3,g4,q1,q2,q3,q4] at hc)<;>try omega) | (refine Tr.all_req ?_ ?_;· (try simp (disch:=omega) only[nV,nW,g1,g2,g3,g4,q1,q2,q3,q4]);try omega) | (refine Tr.all_reqP ?_ ?_;· first | exact trivial | rfl | exact ⟨rfl,rfl⟩ | exact ⟨rfl,rfl,rfl⟩ | (simp (disch:=omega) only[nV,nW,g1,g2,g3,g4,q1,q2,q3,q4];done) | ((try simp (disch:=omega) only[nV,nW,g1,g2,g3,g4,q1,q2,q3,q4]);omega)) | fail
     all_goals first
      | exact Tr.all_ok ⟨rfl,rfl⟩
      | fail
 · have h43:∀ H,cd (n+13) (.fn 43) [shA l t k d] H=some (.bool false,H):=fun H=>by rw[c43 (n+10),decide_eq_false he]
   refine fn_all (n:=n+13) Try.func9 rfl rfl rfl (u9s (n+13) l k t d h w c g H) (il_ok0 _ (n+13) (ctW (by omega) (tX_ok (noCt_ok _) h43))) (noBT_ok _ _) (noRT_ok _ _) ?_
   repeat' first | (refine Tr.all_ite (fun hc=>?_) (fun hc=>?_)<;>(try simp (disch:=omega) only[nV,nW] at hc)<;>try omega) | (refine Tr.all_req ?_ ?_;· (try simp (disch:=omega) only[nV,nW]);try omega) | (refine Tr.all_reqP ?_ ?_;· first | exact trivial | rfl | exact ⟨rfl,rfl⟩ | exact ⟨rfl,rfl,rfl⟩ | (simp (disch:=omega) only[nV,nW];done) | ((try simp (disch:=omega) only[nV,nW]);omega)) | fail
   all_goals first
    | exact Tr.all_ok ⟨rfl,rfl⟩
    | fail
end
end Go.Eng
end
section
namespace Go.Proofs.Ytoomemfhcbajoaa.Known
open Go.Eng Go.Proofs
set_option maxRecDepth 100000
theorem named:Named Try.prog:=by
 have h:(Try.prog.funcs.toList.all fun fn=>fn.body.isNone || !(fn.name == "runtime.NumGoroutine"))=true:=by kernel_rfl
 intro f fn hf hb
 have:=List.all_eq_true.1 h fn (by simpa using Array.mem_of_getElem? hf)
 rw[hb] at this
 simpa using this
theorem mixed:Try.prog.follows .mixedOrders=true:=by kernel_rfl
theorem none_ok:∀ e ∈ ([]:List Ora),OneOk Try.prog e:=fun e h=>by cases h
theorem cons_ok {e:Ora} {t:List Ora} (h:OneOk Try.prog e) (k:∀ x ∈ t,OneOk Try.prog x):∀ x ∈ e::t,OneOk Try.prog x:=fun x hx=>by
 rcases List.mem_cons.1 hx with rfl | hx
 · exact h
 · exact k x hx
def tab0:List Ora:=[]
theorem tab0_ok:∀ e ∈ tab0,OneOk Try.prog e:=none_ok
def navB:List Nat→Code→Code
 | [],c=>c
 | x :: p,c=>match c with
   | .seq a b=>match x with
     | 0=>navB p a
     | _=>navB p b
   | .cond _ a b=>match x with
     | 0=>navB p a
     | _=>navB p b
   | .block _ b=>navB p b
   | .loop b=>navB p b
   | .scope b=>navB p b
   | .rangeFunc _ _ a b=>match x with
     | 0=>navB p a
     | _=>navB p b
   | c=>c
def opsB:Code→Array Oper
 | .region _ ops _=>ops
 | _=>#[]
noncomputable def bd90:Code:=Try.f90.body.getD .skip
def hdO (l:List Oper):Oper:=l.headD { dst:=none,op:=.move (.tmp 0),type:=0,pos := "",after:=#[],guard:=none }
noncomputable def pickS:RStart:={ id0:=3,ops0:=opsB (navB [1,1,1,0,0] bd90),pre:=(opsB (navB [1,1,1,0,0] bd90)).toList.take 1,ro:=hdO ((opsB (navB [1,1,1,0,0] bd90)).toList.drop 1),m:=9,ty:=95 }
noncomputable def pickL:RLoop:={ out:=0,id1:=4,id2:=5,nxt:=1,ops1:=opsB (navB [1,1,1,0,1,0,0,0] bd90),ops2:=opsB (navB [1,1,1,0,1,0,0,1,1,0,0] bd90),no:=hdO (opsB (navB [1,1,1,0,1,0,0,0] bd90)).toList,eo:=hdO (opsB (navB [1,1,1,0,1,0,0,1,1,0,0] bd90)).toList,t1:=(opsB (navB [1,1,1,0,1,0,0,0] bd90)).toList.tail,t2:=(opsB (navB [1,1,1,0,1,0,0,1,1,0,0] bd90)).toList.tail,it:=10,nx:=11,mo:=12,en:=13,rest:=navB [1,1,1,0,1,0,0,1,1,0,1] bd90,km:=16775424 }
noncomputable def pick:RFun:={ f:=90,pre:=[navB [0] bd90,navB [1,0] bd90,navB [1,1,0] bd90],S:=pickS,L:=pickL,suf:=navB [1,1,1,1] bd90 }
theorem pick_b:Try.f90.body=some (assemble pick.pre (pickS.code pickL) pick.suf):=by kernel_rfl
theorem pick_l0:pickS.ops0.toList=pickS.pre++[pickS.ro]:=by kernel_rfl
theorem pick_o0:pickS.ro.op=.range pickS.ty (.tmp pickS.m):=by kernel_rfl
theorem pick_d0:pickS.ro.dst=some pickL.it:=by kernel_rfl
theorem pick_g0:pickS.ro.guard=none:=by kernel_rfl
theorem pick_l1:pickL.ops1.toList=pickL.no::pickL.t1:=by kernel_rfl
theorem pick_o1:pickL.no.op=.next (.tmp pickL.it) false:=by kernel_rfl
theorem pick_d1:pickL.no.dst=some pickL.nx:=by kernel_rfl
theorem pick_g1:pickL.no.guard=none:=by kernel_rfl
theorem pick_l2:pickL.ops2.toList=pickL.eo::pickL.t2:=by kernel_rfl
theorem pick_o2:pickL.eo.op=.entry (.tmp pickL.it):=by kernel_rfl
theorem pick_d2:pickL.eo.dst=some pickL.en:=by kernel_rfl
theorem pick_g2:pickL.eo.guard=none:=by kernel_rfl
theorem pick_ok:pick.Ok Try.prog:=⟨⟨Try.f90,Try.func90,pick_b⟩,⟨pick_l0,pick_o0,pick_d0,pick_g0,⟨_,_,Try.underlying95⟩⟩,⟨pick_l1,pick_o1,pick_d1,pick_g1,pick_l2,pick_o2,pick_d2,pick_g2⟩⟩
noncomputable def rs:List RFun:=[pick]
theorem rs_ok:∀ r ∈ rs,r.Ok Try.prog:=fun r h=>by
 rcases List.mem_cons.1 h with rfl | h
 · exact pick_ok
 · cases h
end Go.Proofs.Ytoomemfhcbajoaa.Known
end
section
namespace Go.Proofs.Ytoomemfhcbajoaa.Known
open Go.Eng Go.Proofs
set_option maxRecDepth 100000
noncomputable def E1:Ora:=⟨50,[.int .i64 5],.agg (.G [.slcT none (.I .i64 [2,2,6,5,5,6,-1]) 1 7 true,.slcT none (.I .i64 [5,5,5,5,5,5,5]) 1 7 true])⟩
theorem ok1:OneOk Try.prog E1:=one_ofO named mixed tab0_ok rs_ok [54,95] KtL.kt 100000 40 (H':=[⟨true,[]⟩]) (by kernel_rfl) (by kernel_rfl)
noncomputable def tab1:List Ora:=E1::tab0
theorem tab1_ok:∀ e ∈ tab1,OneOk Try.prog e:=cons_ok ok1 tab0_ok
noncomputable def E2:Ora:=⟨50,[.int .i64 4],.agg (.G [.slcT none (.I .i64 [2,2,6,5,5,6,-1]) 1 7 true,.slcT none (.I .i64 [4,4,4,4,4,4,4]) 1 7 true])⟩
theorem ok2:OneOk Try.prog E2:=one_ofO named mixed tab1_ok rs_ok [54,95] KtL.kt 100000 40 (H':=[⟨true,[]⟩]) (by kernel_rfl) (by kernel_rfl)
noncomputable def tab2:List Ora:=E2::tab1
theorem tab2_ok:∀ e ∈ tab2,OneOk Try.prog e:=cons_ok ok2 tab1_ok
end Go.Proofs.Ytoomemfhcbajoaa.Known
end
section
namespace Go.Proofs.Ytoomemfhcbajoaa.Known
open Go.Eng Go.Proofs
set_option maxRecDepth 100000
noncomputable def E3:Ora:=⟨50,[.int .i64 3],.agg (.G [.slcT none (.I .i64 [2,2,6,5,5,6,-1]) 1 7 true,.slcT none (.I .i64 [3,3,3,3,3,3,3]) 1 7 true])⟩
theorem ok3:OneOk Try.prog E3:=one_ofO named mixed tab2_ok rs_ok [54,95] KtL.kt 100000 40 (H':=[⟨true,[]⟩]) (by kernel_rfl) (by kernel_rfl)
noncomputable def tab3:List Ora:=E3::tab2
theorem tab3_ok:∀ e ∈ tab3,OneOk Try.prog e:=cons_ok ok3 tab2_ok
noncomputable def E4:Ora:=⟨21,[.agg (.G [.slcT none (.I .i64 [2,2,6,5,5,6,-1]) 1 7 true,.slcT none (.I .i64 [5,5,5,5,5,5,5]) 1 7 true])],.int .i64 0⟩
theorem ok4:OneOk Try.prog E4:=one_ofO named mixed tab3_ok rs_ok [54,95] KtL.kt 100000 40 (H':=[⟨true,[]⟩]) (by kernel_rfl) (by kernel_rfl)
noncomputable def tab4:List Ora:=E4::tab3
theorem tab4_ok:∀ e ∈ tab4,OneOk Try.prog e:=cons_ok ok4 tab3_ok
end Go.Proofs.Ytoomemfhcbajoaa.Known
end
