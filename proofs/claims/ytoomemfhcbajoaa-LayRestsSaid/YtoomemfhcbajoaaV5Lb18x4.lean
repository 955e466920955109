/- Lay: turns of rest. -/
import Derived.Test.YtoomemfhcbajoaaV5Lb14x7
set_option linter.unusedVariables false
set_option linter.unusedSimpArgs false
set_option maxRecDepth 100000
section
namespace Go.Eng
open Go.Proofs
noncomputable def CU (k:Nat) (d:Nat→Int) (x j:Int):ar:=[(0,b7 k d false),(3,.int .i64 x),(4,.int .i64 j)]
noncomputable def kJ (l:Nat) (t:Nat→Int) (k:Nat) (d g:Nat→Int) (h:Int) (o:AV) (c:Nat):ar:=[(1,.int .i64 h),(2,.ptr 0 0 0 0),(6,dC 0 l t k d g),(8,o),(9,.ptr 0 c 0 0)]
noncomputable def oU (l:Nat) (t:Nat→Int) (k:Nat) (d:Nat→Int) (T:Int):aU:=⟨false,[IM l t k d,vK T]⟩
noncomputable def m7 (l:Nat) (t:Nat→Int) (k:Nat) (d:Nat→Int) (x T:Int):aU:=⟨false,[IM l t k d,vK x,vK T]⟩
noncomputable def lz (l:Nat) (t:Nat→Int) (k:Nat) (d:Nat→Int) (x T:Int) (v m:Nat) (y:Nat→Int):aU:=⟨false,[IM l t k d,vK x,vK T,(v,.row (.M [.arr .i64 y m]))]⟩
theorem t78 (n k:Nat) (d:Nat→Int) (x j:Int) (H:aa):aG (bx n 78 25) (il aK n 0) aO aP (part Try.f78 [1,1,1,0,1,0,0]) (hints (CU k d x j)) (aD::H) =
 Tr.ite (cq j (Int.ofNat k)) (Tr.req (dv j k) (Tr.req (c9 (ay 0 j 1) k) (Tr.ok (Ex.normal,[(0,AV.slcT none (Row.M [ah.arr .i64 d k]) 1 k false,none),(3,AV.int .i64 (ua x (d (ay 0 j 1))),none),(4,AV.int .i64 (br .i64 j (Int.ofNat 1)),none)],aD::H)))) (Tr.ok (Ex.exit 0,[(0,AV.slcT none (Row.M [ah.arr .i64 d k]) 1 k false,none),(3,AV.int .i64 x,none),(4,AV.int .i64 j,none),(15,AV.bool false,some 1)],aD::H)):=by kernel_rfl
theorem Sv (n k:Nat) (d:Nat→Int) (x:Int) (H:aa):bn Try.prog (cd n) 100000 78 Try.f78 (KtL.kt 78) (il aK n 0) (cX aO 0 (CU k d (d 0) 1) (aD::H) (.ok (.normal,hints (CU k d x (Int.ofNat k)++[(15,.bool false)]),aD::H))) aP [(b7 k d false,none)] H =
 (fun (Z0:ar)=>Tr.ite (cq (Int.ofNat k) (Int.ofNat 1)) Tr.bad (Tr.req (dv (Int.ofNat 0) k) (Tr.req (c9 0 k) (Tr.reqP (Z0=Z0∧aD::H=aD::H) (Tr.ok ((AV.int .i64 x,none),H)))))) [(0,AV.slcT none (Row.M [ah.arr .i64 d k]) 1 k false),(3,AV.int .i64 (d 0)),(4,AV.int .i64 (Int.ofNat 1))]:=by kernel_rfl
theorem OV (n:Nat) (i e T:Int) (L:aU) (b0 b1:Nat×ai) (bs:List (Nat×ai)) (H:aa):bn Try.prog (cd n) 100000 79 Try.f79 (KtL.kt 79) (il aK n 0) aO aP [(.int .i64 i,none),(.int .i64 e,none),(.ptr 1 2 0 0,none)] (L::⟨false,b0::b1::vK T::bs⟩::H) =
 Tr.ite (lH T e) (Tr.ok ((AV.int .i64 (bP .i64 e (Int.ofNat 1)),none),L::{ lock:=false,bs:=b0::b1::(0,ai.row (Row.I .i64 [T]))::bs } :: H)) (Tr.ok ((AV.int .i64 e,none),L::{ lock:=false,bs:=b0::b1::(0,ai.row (Row.I .i64 [T]))::bs } :: H)):=by kernel_rfl
theorem Oi (n l k:Nat) (t d g y:Nat→Int) (h T M c:Int) (H:aa):aG (bx n 41 41) (il (tX (z9 (tX aK 78 [b7 k d false] (.int .i64 M)) 74 [dC 0 l t k d g,.fn (.func 79) [] [.ptr 0 1 0 0]] (oU l t k d T::H) (.ok (b7 k y false,oU l t k d T::H))) 69 [dC 0 l t k d g,b7 k y false,.int .i64 h] (.int .i64 c)) n 0) aO aP (part Try.f41 [1,1,1,1,0,1,0,0]) (hints (kJ l t k d g h .nils 1)) (oU l t k d T::H) =
 (fun (Z0:Row)=>((fun (Z1:Nat×ai)=>((fun (Z2:aU)=>((fun (Z3:List AV)=>Tr.reqP ([AV.slcT none (Row.M [ah.arr .i64 d k]) 1 k false]=[AV.slcT none (Row.M [ah.arr .i64 d k]) 1 k false]) (Tr.ite (lH T M) (Tr.reqP ([AV.ptrT (some 0) Z0 0,AV.fn (Fn.func 79) [] [AV.ptr 0 1 0 0]]=[AV.ptrT (some 0) Z0 0,AV.fn (Fn.func 79) [] [AV.ptr 0 1 0 0]]∧Z2::H=Z2::H) (Tr.reqP (Z3=Z3) (Tr.ite (cq c (Int.ofNat 0)) (Tr.req (cF 0 1 8) (Tr.req (bM 0 0) (Tr.req (bY 1 1) (Tr.ok (Ex.normal,[(1,AV.int .i64 h,none),(2,AV.ptr 0 0 0 0,none),(6,AV.ptrT (some 0) Z0 0,none),(8,AV.slc 0 3 0 0 1 1 none,none),(9,AV.ptr 0 4 0 0,none)],{ lock:=false,bs:=[Z1,(0,ai.row (Row.I .i64 [T])),(0,ai.row (Row.I .i64 [T])),(0,ai.row (Row.M [ah.arr .i64 (al [T]) 1])),(0,ai.row (Row.I .i64 [br .i64 T (Int.ofNat 1)]))] } :: H))))) (Tr.ok (Ex.normal,[(1,AV.int .i64 h,none),(2,AV.ptr 0 0 0 0,none),(6,AV.ptrT (some 0) Z0 0,none),(8,AV.nils,none),(9,AV.ptr 0 2 0 0,none)],{ lock:=false,bs:=[Z1,(0,ai.row (Row.I .i64 [T])),(0,ai.row (Row.I .i64 [br .i64 T (Int.ofNat 1)]))] } :: H))))) (Tr.ok (Ex.exit 0,[(1,AV.int .i64 h,none),(2,AV.ptr 0 0 0 0,none),(6,AV.ptrT (some 0) Z0 0,none),(8,AV.nils,none),(9,AV.ptr 0 1 0 0,none),(24,AV.bool false,some 1)],Z2::H)))) [AV.ptrT (some 0) Z0 0,AV.slcT none (Row.M [ah.arr .i64 y k]) 1 k false,AV.int .i64 h])) { lock:=false,bs:=[Z1,(0,ai.row (Row.I .i64 [T]))] })) (0,ai.row (Row.G [AV.slcT none (Row.M [ah.arr .i64 t l]) 1 l false,AV.slcT none (Row.M [ah.arr .i64 d k]) 1 k false])))) (Row.M [ah.one (AV.slcT none (Row.M [ah.arr .i64 t l]) 1 l false),ah.one (AV.slcT none (Row.M [ah.arr .i64 d k]) 1 k false),ah.arr .i64 g 30]):=by kernel_rfl
theorem Oj (n l k:Nat) (t d g y:Nat→Int) (x:Int) (h T M c:Int) (H:aa):aG (bx n 41 41) (il (tX (z9 (tX aK 78 [b7 k d false] (.int .i64 M)) 74 [dC 0 l t k d g,.fn (.func 79) [] [.ptr 0 2 0 0]] (m7 l t k d x T::H) (.ok (b7 k y false,m7 l t k d x T::H))) 69 [dC 0 l t k d g,b7 k y false,.int .i64 h] (.int .i64 c)) n 0) aO aP (part Try.f41 [1,1,1,1,0,1,0,0]) (hints (kJ l t k d g h .nils 2)) (m7 l t k d x T::H) =
 (fun (Z0:Row)=>((fun (Z1:Nat×ai)=>((fun (Z2:aU)=>((fun (Z3:List AV)=>Tr.reqP ([AV.slcT none (Row.M [ah.arr .i64 d k]) 1 k false]=[AV.slcT none (Row.M [ah.arr .i64 d k]) 1 k false]) (Tr.ite (lH T M) (Tr.reqP ([AV.ptrT (some 0) Z0 0,AV.fn (Fn.func 79) [] [AV.ptr 0 2 0 0]]=[AV.ptrT (some 0) Z0 0,AV.fn (Fn.func 79) [] [AV.ptr 0 2 0 0]]∧Z2::H=Z2::H) (Tr.reqP (Z3=Z3) (Tr.ite (cq c (Int.ofNat 0)) (Tr.req (cF 0 1 8) (Tr.req (bM 0 0) (Tr.req (bY 1 1) (Tr.ok (Ex.normal,[(1,AV.int .i64 h,none),(2,AV.ptr 0 0 0 0,none),(6,AV.ptrT (some 0) Z0 0,none),(8,AV.slc 0 4 0 0 1 1 none,none),(9,AV.ptr 0 5 0 0,none)],{ lock:=false,bs:=[Z1,(0,ai.row (Row.I .i64 [x])),(0,ai.row (Row.I .i64 [T])),(0,ai.row (Row.I .i64 [T])),(0,ai.row (Row.M [ah.arr .i64 (al [T]) 1])),(0,ai.row (Row.I .i64 [br .i64 T (Int.ofNat 1)]))] } :: H))))) (Tr.ok (Ex.normal,[(1,AV.int .i64 h,none),(2,AV.ptr 0 0 0 0,none),(6,AV.ptrT (some 0) Z0 0,none),(8,AV.nils,none),(9,AV.ptr 0 3 0 0,none)],{ lock:=false,bs:=[Z1,(0,ai.row (Row.I .i64 [x])),(0,ai.row (Row.I .i64 [T])),(0,ai.row (Row.I .i64 [br .i64 T (Int.ofNat 1)]))] } :: H))))) (Tr.ok (Ex.exit 0,[(1,AV.int .i64 h,none),(2,AV.ptr 0 0 0 0,none),(6,AV.ptrT (some 0) Z0 0,none),(8,AV.nils,none),(9,AV.ptr 0 2 0 0,none),(24,AV.bool false,some 1)],Z2::H)))) [AV.ptrT (some 0) Z0 0,AV.slcT none (Row.M [ah.arr .i64 y k]) 1 k false,AV.int .i64 h])) { lock:=false,bs:=[Z1,(0,ai.row (Row.I .i64 [x])),(0,ai.row (Row.I .i64 [T]))] })) (0,ai.row (Row.G [AV.slcT none (Row.M [ah.arr .i64 t l]) 1 l false,AV.slcT none (Row.M [ah.arr .i64 d k]) 1 k false])))) (Row.M [ah.one (AV.slcT none (Row.M [ah.arr .i64 t l]) 1 l false),ah.one (AV.slcT none (Row.M [ah.arr .i64 d k]) 1 k false),ah.arr .i64 g 30]):=by kernel_rfl
theorem LK (n l k:Nat) (t d g:Nat→Int) (x:Int) (h T M:Int) (H:aa):aG (bx n 41 41) (il (tN (tX aK 78 [b7 k d false] (.int .i64 M)) 74) n 0) aO aP (part Try.f41 [1,1,1,1,0,1,0,0]) (hints (kJ l t k d g h .nils 2)) (m7 l t k d x T::H) =
 Tr.reqP ([AV.slcT none (Row.M [ah.arr .i64 d k]) 1 k false]=[AV.slcT none (Row.M [ah.arr .i64 d k]) 1 k false]) (Tr.ite (lH T M) Tr.bad (Tr.ok (Ex.exit 0,[(1,AV.int .i64 h,none),(2,AV.ptr 0 0 0 0,none),(6,AV.ptrT (some 0) (Row.M [ah.one (AV.slcT none (Row.M [ah.arr .i64 t l]) 1 l false),ah.one (AV.slcT none (Row.M [ah.arr .i64 d k]) 1 k false),ah.arr .i64 g 30]) 0,none),(8,AV.nils,none),(9,AV.ptr 0 2 0 0,none),(24,AV.bool false,some 1)],{ lock:=false,bs:=[(0,ai.row (Row.G [AV.slcT none (Row.M [ah.arr .i64 t l]) 1 l false,AV.slcT none (Row.M [ah.arr .i64 d k]) 1 k false])),(0,ai.row (Row.I .i64 [x])),(0,ai.row (Row.I .i64 [T]))] } :: H))):=by kernel_rfl
theorem OI (n l k:Nat) (t d g:Nat→Int) (x:Int) (h T:Int) (H:aa):bn Try.prog (cd n) 100000 41 Try.f41 (KtL.kt 41) (il (tX aK 61 [dx l t k d,.int .i64 h,.int .i64 0] (.tup [dC 0 l t k d g,.int .i64 0])) n 0) (cX aO 0 (kJ l t k d g h .nils 1) (oU l t k d 1::H) (.ok (.normal,hints (kJ l t k d g h .nils 2++[(24,.bool false)]),m7 l t k d x T::H))) aP [(dx l t k d,none),(.int .i64 h,none)] H =
 (fun (Z0:Row)=>((fun (Z1:ar)=>((fun (Z2:aU)=>Tr.reqP ([AV.agg Z0,AV.int .i64 h,AV.int .i64 (Int.ofNat 0)]=[AV.agg Z0,AV.int .i64 h,AV.int .i64 (Int.ofNat 0)]) (Tr.ite (ba (cQ (Int.ofNat 0) (Int.ofNat 0))) (Tr.ok ((AV.tup [AV.nils,AV.int .i64 (Int.ofNat 0)],none),H)) (Tr.reqP (Z1=Z1∧Z2::H=Z2::H) (Tr.ok ((AV.tup [AV.nils,AV.int .i64 (Int.ofNat 0)],none),H))))) { lock:=false,bs:=[(0,ai.row Z0),(0,ai.row (Row.I .i64 [Int.ofNat 1]))] })) [(1,AV.int .i64 h),(2,AV.ptr 0 0 0 0),(6,AV.ptrT (some 0) (Row.M [ah.one (AV.slcT none (Row.M [ah.arr .i64 t l]) 1 l false),ah.one (AV.slcT none (Row.M [ah.arr .i64 d k]) 1 k false),ah.arr .i64 g 30]) 0),(8,AV.nils),(9,AV.ptr 0 1 0 0)])) (Row.G [AV.slcT none (Row.M [ah.arr .i64 t l]) 1 l false,AV.slcT none (Row.M [ah.arr .i64 d k]) 1 k false]):=by kernel_rfl
theorem Ol (n l k:Nat) (t d g y:Nat→Int) (x:Int) (v m:Nat) (z:Nat→Int) (h T M c:Int) (H:aa):aG (bx n 41 41) (il (tX (z9 (tX aK 78 [b7 k d false] (.int .i64 M)) 74 [dC 0 l t k d g,.fn (.func 79) [] [.ptr 0 2 0 0]] (lz l t k d x T v m z::H) (.ok (b7 k y false,lz l t k d x T v m z::H))) 69 [dC 0 l t k d g,b7 k y false,.int .i64 h] (.int .i64 c)) n 0) aO aP (part Try.f41 [1,1,1,1,0,1,0,0]) (hints (kJ l t k d g h (.slc 0 3 v 0 1 m none) 2)) (lz l t k d x T v m z::H) =
 (fun (Z0:Row)=>((fun (Z1:aU)=>((fun (Z2:Nat×ai)=>((fun (Z3:List AV)=>Tr.reqP ([AV.slcT none (Row.M [ah.arr .i64 d k]) 1 k false]=[AV.slcT none (Row.M [ah.arr .i64 d k]) 1 k false]) (Tr.ite (lH T M) (Tr.reqP ([AV.ptrT (some 0) Z0 0,AV.fn (Fn.func 79) [] [AV.ptr 0 2 0 0]]=[AV.ptrT (some 0) Z0 0,AV.fn (Fn.func 79) [] [AV.ptr 0 2 0 0]]∧Z1::H=Z1::H) (Tr.reqP (Z3=Z3) (Tr.ite (cq c (Int.ofNat 0)) (Tr.req (cF m 1 8) (Tr.req (bM 0 0) (Tr.req (bY 1 1) (Tr.req (bM v v) (Tr.req (bM (bB 0 m) m) (Tr.ok (Ex.normal,[(1,AV.int .i64 h,none),(2,AV.ptr 0 0 0 0,none),(6,AV.ptrT (some 0) Z0 0,none),(8,AV.slc 0 3 (Nat.succ v) 0 1 (bB m 1) none,none),(9,AV.ptr 0 5 0 0,none)],{ lock:=false,bs:=[Z2,(0,ai.row (Row.I .i64 [x])),(0,ai.row (Row.I .i64 [T])),(Nat.succ v,ai.row (Row.M [ah.arr .i64 (jO (bm z 0) m (al [T])) (bB m 1)])),(0,ai.row (Row.I .i64 [T])),(0,ai.row (Row.I .i64 [br .i64 T (Int.ofNat 1)]))] } :: H))))))) (Tr.ok (Ex.normal,[(1,AV.int .i64 h,none),(2,AV.ptr 0 0 0 0,none),(6,AV.ptrT (some 0) Z0 0,none),(8,AV.slc 0 3 v 0 1 m none,none),(9,AV.ptr 0 4 0 0,none)],{ lock:=false,bs:=[Z2,(0,ai.row (Row.I .i64 [x])),(0,ai.row (Row.I .i64 [T])),(v,ai.row (Row.M [ah.arr .i64 z m])),(0,ai.row (Row.I .i64 [br .i64 T (Int.ofNat 1)]))] } :: H))))) (Tr.ok (Ex.exit 0,[(1,AV.int .i64 h,none),(2,AV.ptr 0 0 0 0,none),(6,AV.ptrT (some 0) Z0 0,none),(8,AV.slc 0 3 v 0 1 m none,none),(9,AV.ptr 0 2 0 0,none),(24,AV.bool false,some 1)],Z1::H)))) [AV.ptrT (some 0) Z0 0,AV.slcT none (Row.M [ah.arr .i64 y k]) 1 k false,AV.int .i64 h])) (0,ai.row (Row.G [AV.slcT none (Row.M [ah.arr .i64 t l]) 1 l false,AV.slcT none (Row.M [ah.arr .i64 d k]) 1 k false])))) { lock:=false,bs:=[(0,ai.row (Row.G [AV.slcT none (Row.M [ah.arr .i64 t l]) 1 l false,AV.slcT none (Row.M [ah.arr .i64 d k]) 1 k false])),(0,ai.row (Row.I .i64 [x])),(0,ai.row (Row.I .i64 [T])),(v,ai.row (Row.M [ah.arr .i64 z m]))] })) (Row.M [ah.one (AV.slcT none (Row.M [ah.arr .i64 t l]) 1 l false),ah.one (AV.slcT none (Row.M [ah.arr .i64 d k]) 1 k false),ah.arr .i64 g 30]):=by kernel_rfl
theorem LL (n l k:Nat) (t d g:Nat→Int) (x:Int) (v m:Nat) (z:Nat→Int) (h T M:Int) (H:aa):aG (bx n 41 41) (il (tN (tX aK 78 [b7 k d false] (.int .i64 M)) 74) n 0) aO aP (part Try.f41 [1,1,1,1,0,1,0,0]) (hints (kJ l t k d g h (.slc 0 3 v 0 1 m none) 2)) (lz l t k d x T v m z::H) =
 Tr.reqP ([AV.slcT none (Row.M [ah.arr .i64 d k]) 1 k false]=[AV.slcT none (Row.M [ah.arr .i64 d k]) 1 k false]) (Tr.ite (lH T M) Tr.bad (Tr.ok (Ex.exit 0,[(1,AV.int .i64 h,none),(2,AV.ptr 0 0 0 0,none),(6,AV.ptrT (some 0) (Row.M [ah.one (AV.slcT none (Row.M [ah.arr .i64 t l]) 1 l false),ah.one (AV.slcT none (Row.M [ah.arr .i64 d k]) 1 k false),ah.arr .i64 g 30]) 0,none),(8,AV.slc 0 3 v 0 1 m none,none),(9,AV.ptr 0 2 0 0,none),(24,AV.bool false,some 1)],{ lock:=false,bs:=[(0,ai.row (Row.G [AV.slcT none (Row.M [ah.arr .i64 t l]) 1 l false,AV.slcT none (Row.M [ah.arr .i64 d k]) 1 k false])),(0,ai.row (Row.I .i64 [x])),(0,ai.row (Row.I .i64 [T])),(v,ai.row (Row.M [ah.arr .i64 z m]))] } :: H))):=by kernel_rfl
theorem OJ (n l k:Nat) (t d g:Nat→Int) (x:Int) (v m:Nat) (z:Nat→Int) (h T:Int) (H:aa):bn Try.prog (cd n) 100000 41 Try.f41 (KtL.kt 41) (il (tX aK 61 [dx l t k d,.int .i64 h,.int .i64 0] (.tup [dC 0 l t k d g,.int .i64 0])) n 0) (cX aO 0 (kJ l t k d g h .nils 1) (oU l t k d 1::H) (.ok (.normal,hints (kJ l t k d g h (.slc 0 3 v 0 1 m none) 2++[(24,.bool false)]),lz l t k d x T v m z::H))) aP [(dx l t k d,none),(.int .i64 h,none)] H =
 (fun (Z0:Row)=>((fun (Z1:ar)=>((fun (Z2:aU)=>Tr.reqP ([AV.agg Z0,AV.int .i64 h,AV.int .i64 (Int.ofNat 0)]=[AV.agg Z0,AV.int .i64 h,AV.int .i64 (Int.ofNat 0)]) (Tr.ite (ba (cQ (Int.ofNat 0) (Int.ofNat 0))) (Tr.ok ((AV.tup [AV.nils,AV.int .i64 (Int.ofNat 0)],none),H)) (Tr.reqP (Z1=Z1∧Z2::H=Z2::H) (Tr.req (bM v v) (Tr.req (iB 0 m 0 m) (Tr.ok ((AV.tup [AV.slcT none (Row.M [ah.arr .i64 (bm z 0) m]) 1 m false,AV.int .i64 (Int.ofNat 0)],none),H))))))) { lock:=false,bs:=[(0,ai.row Z0),(0,ai.row (Row.I .i64 [Int.ofNat 1]))] })) [(1,AV.int .i64 h),(2,AV.ptr 0 0 0 0),(6,AV.ptrT (some 0) (Row.M [ah.one (AV.slcT none (Row.M [ah.arr .i64 t l]) 1 l false),ah.one (AV.slcT none (Row.M [ah.arr .i64 d k]) 1 k false),ah.arr .i64 g 30]) 0),(8,AV.nils),(9,AV.ptr 0 1 0 0)])) (Row.G [AV.slcT none (Row.M [ah.arr .i64 t l]) 1 l false,AV.slcT none (Row.M [ah.arr .i64 d k]) 1 k false]):=by kernel_rfl
theorem OK (n l k:Nat) (t d:Nat→Int) (h e:Int) (H:aa):bn Try.prog (cd n) 100000 41 Try.f41 (KtL.kt 41) (il (tX aK 61 [dx l t k d,.int .i64 h,.int .i64 0] (.tup [.nilp,.int .i64 e])) n 0) (nh aO 0) aP [(dx l t k d,none),(.int .i64 h,none)] H =
 (fun (Z0:List AV)=>Tr.reqP (Z0=Z0) (Tr.ite (ba (cQ e (Int.ofNat 0))) (Tr.ok ((AV.tup [AV.nils,AV.int .i64 e],none),H)) Tr.bad)) [AV.agg (Row.G [AV.slcT none (Row.M [ah.arr .i64 t l]) 1 l false,AV.slcT none (Row.M [ah.arr .i64 d k]) 1 k false]),AV.int .i64 h,AV.int .i64 (Int.ofNat 0)]:=by kernel_rfl
theorem PF:∀ b,(0,b) ∈ aN (bO Try.f78)→b=.loop (part Try.f78 [1,1,1,0,1,0,0]):=gq (by kernel_rfl)
theorem Pe:∀ b,(0,b) ∈ aN (bO Try.f41)→b=.loop (part Try.f41 [1,1,1,1,0,1,0,0]):=gq (by kernel_rfl)
def ev (d:Nat→Int) (T:Int):Nat→Int:=fun i=>if T≤d i then d i-1 else d i
def rB (l:Nat) (t d:Nat→Int) (h:Int) (T:Nat):Bool:=ct l t (ev d (T:Nat)) h
def wV (p:Nat→Bool):Nat→List Int
 | 0=>[]
 | j+1=>if p (j+1)=true then wV p j++[((j+1:Nat):Int)] else wV p j
theorem wW (p:Nat→Bool):∀ j,(wV p j).length≤j
 | 0=>Nat.le_refl _
 | j+1=>by
   have:=wW p j
   unfold wV
   split
   · simp;omega
   · omega
def kS (d:Nat→Int):Nat→Int
 | 0=>d 0
 | j+1=>max (kS d j) (d (j+1))
def xo (d:Nat→Int):Nat→Int
 | 0=>0
 | j+1=>max (xo d j) (d j)
theorem ES (d:Nat→Int) (h:0≤d 0):∀ j,xo d (j+1)=kS d j
 | 0=>by show max 0 (d 0)=d 0;omega
 | j+1=>by show max (xo d (j+1)) (d (j+1))=max (kS d j) (d (j+1));rw[ES d h j]
theorem wu (d:Nat→Int) (M:Int):∀ j,(∀ i,i≤j→d i≤M)→kS d j≤M
 | 0,h=>h 0 (Nat.le_refl _)
 | j+1,h=>by
   have:=wu d M j (fun i hi=>h i (by omega))
   have:=h (j+1) (Nat.le_refl _)
   show max (kS d j) (d (j+1))≤M
   omega
theorem Av (d:Nat→Int):∀ j i,i≤j→d i≤kS d j
 | 0,i,h=>by
   obtain rfl:i=0:=by omega
   exact Int.le_refl _
 | j+1,i,h=>by
   show d i≤max (kS d j) (d (j+1))
   by_cases e:i=j+1
   · subst e;omega
   · have:=Av d j i (by omega);omega
noncomputable def oQ:List Int→AV
 | []=>.nils
 | a::r=>.slc 0 1 r.length 0 1 (r.length+1) none
noncomputable def oR:List Int→AV
 | []=>.nils
 | a::r=>.slc 0 3 r.length 0 1 (r.length+1) none
noncomputable def Pt (l:Nat) (t:Nat→Int) (k:Nat) (d:Nat→Int) (x T:Int):List Int→aU
 | []=>m7 l t k d x T
 | a::r=>lz l t k d x T r.length (r.length+1) (al (a::r))
theorem DM (a:Int) (r:List Int) (T:Int):jO (bm (al (a::r)) 0) (r.length+1) (al [T])=al (a::(r++[T])):=by
 have:=wg (a::r) T
 simpa using this
section
variable (n l k:Nat) (t d:Nat→Int) (H:aa) (h:Int)
theorem ML (i e T:Int) (L:aU) (b0:Nat×ai) (bs:List (Nat×ai)):cd (n+1) (.fn 79) [.int .i64 i,.int .i64 e,.ptr 1 1 0 0] (L::⟨false,b0::vK T::bs⟩::H)=some (.int .i64 (if T≤e then bP .i64 e (Int.ofNat 1) else e),L::⟨false,b0::vK T::bs⟩::H):=by
 refine aS (n:=n) Try.func79 rfl rfl rfl (Sw n i e T L b0 bs H) (aw _) (af _ _) (ag _ _) ?_
 by_cases c:T≤e
 · rw[if_pos c]
   exact wF
 · rw[if_neg c]
   exact wF
theorem Kp (i e T:Int) (L:aU) (b0 b1:Nat×ai) (bs:List (Nat×ai)):cd (n+1) (.fn 79) [.int .i64 i,.int .i64 e,.ptr 1 2 0 0] (L::⟨false,b0::b1::vK T::bs⟩::H)=some (.int .i64 (if T≤e then bP .i64 e (Int.ofNat 1) else e),L::⟨false,b0::b1::vK T::bs⟩::H):=by
 refine aS (n:=n) Try.func79 rfl rfl rfl (OV n i e T L b0 b1 bs H) (aw _) (af _ _) (ag _ _) ?_
 by_cases c:T≤e
 · rw[if_pos c]
   exact wF
 · rw[if_neg c]
   exact wF
theorem CP {z z':Nat→Int} {k:Nat} (he:∀ i,i<k→z i=z' i):bC z k=bC z' k:=by
 unfold bC
 exact List.map_congr_left (fun i hi=>he i (by simpa using hi))
theorem IN (s c:Nat) (e:Nat→Int) (T:Int) (h0:0<k) (hk:k≤1000) (hd:Bd k d) (hP:∀ i e L,cd n (.fn 79) [.int .i64 i,.int .i64 e,.ptr 1 c 0 0] (L::H)=some (.int .i64 (if T≤e then bP .i64 e (Int.ofNat 1) else e),L::H)):cd (n+1) (.fn 74) [dC s l t k d e,.fn (.func 79) [] [.ptr 0 c 0 0]] H=some (b7 k (al (bC (ev d T) k)) false,H):=by
 rw[MH n s l k c t d e (fun i e=>if T≤e then bP .i64 e (Int.ofNat 1) else e) H h0 hk hP,CP (z':=ev d T) (fun i hi=>by
  have:=hd i hi
  show (if T≤d i then bP .i64 (d i) (Int.ofNat 1) else d i)=if T≤d i then d i-1 else d i
  rw[show bP .i64 (d i) (Int.ofNat 1)=d i-1 from ui (by show _≤d i-1;omega) (by show d i-1≤_;omega)])]
theorem Bi {n f nt:Nat} {c:Code} {callR:bE} {bl:gv} {rg:ri} {fr:ar} {H:aa} {p:Prop} {b:Bool} {A:Tr nj} {y:nj} (e:aG (bx n f nt) callR bl rg c (hints fr) H=.reqP p (.ite b A (.ok y))) (hC:callR.Ok (cd n)) (hB:bl.Ok (bx n f nt) c) (hR:rg.Ok (bx n f nt) c) (hp:p) (hb:b=false):exec (bx n f nt) c fr H=some y.st:=by
 obtain ⟨x,h1,rfl⟩:=aF (Q:=fun x=>x=y.st) e hC hB hR (Tr.aY hp (Tr.bj (fun h=>by rw[hb] at h;cases h) (fun _=>Tr.bg rfl)))
 exact h1
theorem PZ (h0:0<k) (hk:k≤1000):cd (n+1) (.fn 78) [b7 k d false] H=some (.int .i64 (kS d (k-1)),H):=by
 obtain ⟨q,rfl⟩:∃ q,k=q+1:=⟨k-1,by omega⟩
 have hx:=jG (n:=n) (f:=78) (nt:=25) (c:=part Try.f78 [1,1,1,0,1,0,0]) 0 (fun j=>CU (q+1) d (kS d j) ((j+1:Nat):Int)) (fun _=>aD::H) q (CU (q+1) d (kS d q) (Int.ofNat (q+1))++[(15,.bool false)],aD::H) (by omega) (fun j hj=>?_) ?_
 · refine aS (n:=n) Try.func78 rfl rfl rfl (Sv n (q+1) d (kS d q) H) (aw _) (aW (af _ _) PF (fun x hy=>bU hy hx)) (ag _ _) ?_
   rw[show q+1-1=q from rfl]
   generalize kS d q=M at *
   exact wF
 · refine aF (t78 n (q+1) d (kS d j) ((j+1:Nat):Int) H) (aw n) (af _ _) (ag _ _) ?_
   show Tr.all _ (fun r=>_∧tidy _ _ _=(CU (q+1) d (max (kS d j) (d (j+1))) ((j+1+1:Nat):Int),_))
   rw[dJ (j:=j+1) (by omega),j6]
   simp only[mV]
   generalize max (kS d j) (d (j+1))=M at *
   exact wF
 · exact eV (t78 n (q+1) d (kS d q) (Int.ofNat (q+1)) H) (aw n) (af _ _) (ag _ _) (by first | (simp (disch:=omega) only[nV,nW];done) | (simp (disch:=omega) only[nV,nW];omega))
theorem Kl {l:Nat} {d:Nat→Int} (hb:∀ j,j<l→-800≤d j∧d j≤900) (T:Int):Bd l (ev d T):=fun j hj=>by
 have:=hb j hj
 show -900≤(if T≤d j then d j-1 else d j)∧(if T≤d j then d j-1 else d j)≤900
 split<;>omega
theorem Sh.PJ {l k:Nat} {t d:Nat→Int} (h:Sh l t k d):∀ j,j<l→-800≤d j∧d j≤900:=fun j hj=>by
 have:=h.d1 j hj
 have:=h.d40 j hj
 omega
noncomputable def Oe:AV:=if bQ l k t d h=0 then .tup [dA (wV (rB l t d h) (kS d (k-1)).toNat),.int .i64 0] else .tup [.nils,.int .i64 (bQ l k t d h)]
theorem H7 {l k:Nat} {t d:Nat→Int} (hs:Sh l t k d):1≤kS d (k-1)∧kS d (k-1)≤40∧xo d k=kS d (k-1):=by
 have h1:=hs.l1
 have hk:=hs.kl
 refine ⟨?_,wu _ _ _ (fun i hi=>hs.d40 i (by omega)),?_⟩
 · have:=Av d (k-1) 0 (Nat.zero_le _)
   have:=hs.d1 0 (by omega)
   omega
 · obtain ⟨q,rfl⟩:∃ q,k=q+1:=⟨k-1,by omega⟩
   exact ES d (by have:=hs.d1 0 (by omega);omega) q
noncomputable def KQ (l:Nat) (t:Nat→Int) (k:Nat) (d g:Nat→Int) (h:Int) (L:List Int):Nat→ar
 | 0=>kJ l t k d g h .nils 1
 | j+1=>kJ l t k d g h (oR L) 2
noncomputable def Lh (l:Nat) (t:Nat→Int) (k:Nat) (d:Nat→Int) (L:List Int):Nat→aU
 | 0=>oU l t k d 1
 | j+1=>Pt l t k d 1 ((j+2:Nat):Int) L
theorem MF (hs:Sh l t k d) (hh:0≤h∧h≤1000) (T:Int) (g:Nat→Int):∀ H,cd (n+4) (.fn 69) [dC 0 l t k d g,b7 k (al (bC (ev d T) k)) false,.int .i64 h] H=some (.int .i64 (rZ l t (al (bC (ev d T) k)) h),H):=fun H =>
 ME n 0 l k k t d g _ false H h hs.l30 hs.kl hs.tl hs.cyc (DQ hs.kl (Kl hs.PJ _)) hh
theorem RH (g:Nat→Int) (M:Nat) (hs:Sh l t k d) (hh:0≤h∧h≤1000) (hM:kS d (k-1)=(M:Nat)) (hM1:1≤M∧M≤40):exec (bx (n+4) 41 41) (.block 0 (.loop (part Try.f41 [1,1,1,1,0,1,0,0]))) (kJ l t k d g h .nils 1) (oU l t k d 1::H)=some (.normal,kJ l t k d g h (oR (wV (rB l t d h) M)) 2++[(24,.bool false)],Pt l t k d 1 ((M+1:Nat):Int) (wV (rB l t d h) M)::H):=by
 have h1:=hs.l1
 have h2:=hs.l30
 have hkl:=hs.kl
 have h78:∀ H,cd (n+4) (.fn 78) [b7 k d false] H=some (.int .i64 (M:Nat),H):=fun H=>by rw[PZ (n+3) k d H (by omega) (by omega),hM]
 have hcr:∀ T:Nat,rZ l t (al (bC (ev d (T:Nat)) k)) h<0↔rB l t d h T=true:=fun T=>by
  unfold rB
  rw[← z4 hs.fw hs.kl]
  exact (vL _ _ _ _).1
 refine jG (n:=n+4) (f:=41) (nt:=41) (c:=part Try.f41 [1,1,1,1,0,1,0,0]) 0 (fun j=>KQ l t k d g h (wV (rB l t d h) j) j) (fun j=>Lh l t k d (wV (rB l t d h) j) j::H) M _ (by omega) (fun j hj=>?_) ?_
 · have hr:wV (rB l t d h) (j+1)=if rB l t d h (j+1)=true then wV (rB l t d h) j++[((j+1:Nat):Int)] else wV (rB l t d h) j:=rfl
   have hll:=wW (rB l t d h) j
   have hq:=hcr (j+1)
   have h69:=MF n l k t d h hs hh ((j+1:Nat):Int) g
   have hB:Bd k d:=by rw[hkl];exact hs.bd
   cases j with
   | zero =>
     try dsimp only
     rw[hr]
     have h74:cd (n+4) (.fn 74) [dC 0 l t k d g,.fn (.func 79) [] [.ptr 0 1 0 0]] (oU l t k d 1::H)=some (b7 k (al (bC (ev d ((0+1:Nat):Int)) k)) false,oU l t k d 1::H) :=
      IN (n+3) l k t d _ 0 1 g 1 (by omega) (by omega) hB (fun i e L=>ML (n+2) H i e 1 L _ [])
     refine aF (Oi (n+4) l k t d g (al (bC (ev d ((0+1:Nat):Int)) k)) h 1 (M:Nat) (rZ l t (al (bC (ev d ((0+1:Nat):Int)) k)) h) H) (aX _ (n+4) (b5 (ig (b5 (aR _) h78) (fun x hy=>by rw[← Tr.ab hy];exact h74)) h69)) (af _ _) (ag _ _) ?_
     show Tr.all _ (fun x=>_∧tidy 2 _ _=_)
     rw[show br .i64 1 (Int.ofNat 1)=((2:Nat):Int) from dJ (j:=1) (by omega)]
     generalize rZ l t (al (bC (ev d ((0+1:Nat):Int)) k)) h=C at *
     generalize al (bC (ev d ((0+1:Nat):Int)) k)=Y at *
     generalize rB l t d h (0+1)=B at *
     cases B with
     | true =>
       have:=hq.2 rfl
       simp only[if_true]
       show Tr.all _ (fun x=>_∧tidy 2 _ _=(kJ l t k d g h (.slc 0 3 0 0 1 1 none) 2,lz l t k d 1 ((2:Nat):Int) 0 1 (al [((0+1:Nat):Int)])::H))
       exact wF
     | false =>
       have:¬ C<0:=fun c=>by have:=hq.1 c;cases this
       simp only[Bool.false_eq_true,if_false]
       show Tr.all _ (fun x=>_∧tidy 2 _ _=(kJ l t k d g h .nils 2,m7 l t k d 1 ((2:Nat):Int)::H))
       exact wF
   | succ j =>
     try dsimp only
     rw[hr]
     have e2:((j+1+1:Nat):Int)=((j+2:Nat):Int):=rfl
     generalize wV (rB l t d h) (j+1)=L at *
     cases L with
     | nil =>
       have h74:cd (n+4) (.fn 74) [dC 0 l t k d g,.fn (.func 79) [] [.ptr 0 2 0 0]] (m7 l t k d 1 ((j+2:Nat):Int)::H)=some (b7 k (al (bC (ev d ((j+1+1:Nat):Int)) k)) false,m7 l t k d 1 ((j+2:Nat):Int)::H) :=
        IN (n+3) l k t d _ 0 2 g ((j+2:Nat):Int) (by omega) (by omega) hB (fun i e L=>Kp (n+2) H i e ((j+2:Nat):Int) L _ _ [])
       refine aF (Oj (n+4) l k t d g (al (bC (ev d ((j+1+1:Nat):Int)) k)) 1 h ((j+2:Nat):Int) (M:Nat) (rZ l t (al (bC (ev d ((j+1+1:Nat):Int)) k)) h) H) (aX _ (n+4) (b5 (ig (b5 (aR _) h78) (fun x hy=>by rw[← Tr.ab hy];exact h74)) h69)) (af _ _) (ag _ _) ?_
       show Tr.all _ (fun x=>_∧tidy 2 _ _=_)
       rw[dJ (j:=j+2) (by omega)]
       generalize rZ l t (al (bC (ev d ((j+1+1:Nat):Int)) k)) h=C at *
       generalize al (bC (ev d ((j+1+1:Nat):Int)) k)=Y at *
       generalize rB l t d h (j+1+1)=B at *
       cases B with
       | true =>
         have:=hq.2 rfl
         simp only[if_true]
         show Tr.all _ (fun x=>_∧tidy 2 _ _=(kJ l t k d g h (.slc 0 3 0 0 1 1 none) 2,lz l t k d 1 ((j+2+1:Nat):Int) 0 1 (al [((j+2:Nat):Int)])::H))
         exact wF
       | false =>
         have:¬ C<0:=fun c=>by have:=hq.1 c;cases this
         simp only[Bool.false_eq_true,if_false]
         show Tr.all _ (fun x=>_∧tidy 2 _ _=(kJ l t k d g h .nils 2,m7 l t k d 1 ((j+2+1:Nat):Int)::H))
         exact wF
     | cons a r =>
       simp only[List.length_cons] at hll
       have h74:cd (n+4) (.fn 74) [dC 0 l t k d g,.fn (.func 79) [] [.ptr 0 2 0 0]] (lz l t k d 1 ((j+2:Nat):Int) r.length (r.length+1) (al (a::r))::H)=some (b7 k (al (bC (ev d ((j+1+1:Nat):Int)) k)) false,lz l t k d 1 ((j+2:Nat):Int) r.length (r.length+1) (al (a::r))::H) :=
        IN (n+3) l k t d _ 0 2 g ((j+2:Nat):Int) (by omega) (by omega) hB (fun i e L=>Kp (n+2) H i e ((j+2:Nat):Int) L _ _ _)
       refine aF (Ol (n+4) l k t d g (al (bC (ev d ((j+1+1:Nat):Int)) k)) 1 r.length (r.length+1) (al (a::r)) h ((j+2:Nat):Int) (M:Nat) (rZ l t (al (bC (ev d ((j+1+1:Nat):Int)) k)) h) H) (aX _ (n+4) (b5 (ig (b5 (aR _) h78) (fun x hy=>by rw[← Tr.ab hy];exact h74)) h69)) (af _ _) (ag _ _) ?_
       show Tr.all _ (fun x=>_∧tidy 2 _ _=_)
       have hap:=DM a r ((j+2:Nat):Int)
       have ea:bB (r.length+1) 1=r.length+1+1:=bD _ _
       rw[dJ (j:=j+2) (by omega),hap,ea]
       generalize rZ l t (al (bC (ev d ((j+1+1:Nat):Int)) k)) h=C at *
       generalize al (bC (ev d ((j+1+1:Nat):Int)) k)=Y at *
       generalize rB l t d h (j+1+1)=B at *
       cases B with
       | true =>
         have:=hq.2 rfl
         simp only[if_true,List.cons_append]
         have el:(r++[((j+2:Nat):Int)]).length=r.length+1:=by simp
         show Tr.all _ (fun x=>_∧tidy 2 _ _=(kJ l t k d g h (.slc 0 3 (r++[((j+2:Nat):Int)]).length 0 1 ((r++[((j+2:Nat):Int)]).length+1) none) 2,lz l t k d 1 ((j+2+1:Nat):Int) (r++[((j+2:Nat):Int)]).length ((r++[((j+2:Nat):Int)]).length+1) (al (a::(r++[((j+2:Nat):Int)])))::H))
         rw[el]
         generalize al (a::(r++[((j+2:Nat):Int)]))=Z2 at *
         generalize al (a::r)=Z at *
         generalize r.length=m at *
         exact wF
       | false =>
         have:¬ C<0:=fun c=>by have:=hq.1 c;cases this
         simp only[Bool.false_eq_true,if_false]
         show Tr.all _ (fun x=>_∧tidy 2 _ _=(kJ l t k d g h (.slc 0 3 r.length 0 1 (r.length+1) none) 2,lz l t k d 1 ((j+2+1:Nat):Int) r.length (r.length+1) (al (a::r))::H))
         generalize al (a::(r++[((j+2:Nat):Int)]))=Z2 at *
         generalize al (a::r)=Z at *
         generalize r.length=m at *
         exact wF
 · obtain ⟨j,rfl⟩:∃ j,M=j+1:=⟨M-1,by omega⟩
   try dsimp only
   generalize wV (rB l t d h) (j+1)=L at *
   cases L with
   | nil=>exact Bi (LK (n+4) l k t d g 1 h ((j+2:Nat):Int) ((j+1:Nat):Int) H) (aX _ (n+4) (FH (b5 (aR _) h78))) (af _ _) (ag _ _) rfl (by first | (simp (disch:=omega) only[nV,nW];done) | (simp (disch:=omega) only[nV,nW];omega))
   | cons a r=>exact Bi (LL (n+4) l k t d g 1 r.length (r.length+1) (al (a::r)) h ((j+2:Nat):Int) ((j+1:Nat):Int) H) (aX _ (n+4) (FH (b5 (aR _) h78))) (af _ _) (ag _ _) rfl (by first | (simp (disch:=omega) only[nV,nW];done) | (simp (disch:=omega) only[nV,nW];omega))
theorem PQ:cd (n+12) (.fn 41) [dx l t k d,.int .i64 h] H=some (Oe l k t d h,H):=by
 unfold Oe
 by_cases e:bQ l k t d h=0
 · rw[if_pos e]
   obtain ⟨e1,e2⟩:=ru e
   obtain ⟨hs,h1,h2⟩:=rN e1
   obtain ⟨m1,m2,m3⟩:=H7 hs
   have hx:=RH (n+7) l k t d H h (c7 t l) (kS d (k-1)).toNat hs (by omega) (by omega) (by omega)
   have h61:∀ H,cd (n+11) (.fn 61) [dx l t k d,.int .i64 h,.int .i64 0] H=some (.tup [dC 0 l t k d (c7 t l),.int .i64 0],H):=fun H=>Kn n l k t d H h e
   generalize kS d (k-1)=M at *
   generalize wV (rB l t d h) M.toNat=L at *
   generalize c7 t l=g at *
   cases L with
   | nil =>
     refine aS (n:=n+11) Try.func41 rfl rfl rfl (OI (n+11) l k t d g 1 h ((M.toNat+1:Nat):Int) H) (aX _ (n+11) (b5 (aR _) h61)) (aW (af _ _) Pe (fun x hy=>bU hy hx)) (ag _ _) ?_
     exact wF
   | cons a r =>
     rw[show dA (a::r)=AV.slcT none (.M [.arr .i64 (al (a::r)) (r.length+1)]) 1 (r.length+1) false from rfl]
     refine aS (n:=n+11) Try.func41 rfl rfl rfl (OJ (n+11) l k t d g 1 r.length (r.length+1) (al (a::r)) h ((M.toNat+1:Nat):Int) H) (aX _ (n+11) (b5 (aR _) h61)) (aW (af _ _) Pe (fun x hy=>bU hy hx)) (ag _ _) ?_
     rw[di]
     generalize al (a::r)=Z at *
     generalize r.length=m at *
     exact wF
 · rw[if_neg e]
   refine aS (n:=n+11) Try.func41 rfl rfl rfl (OK (n+11) l k t d h (bQ l k t d h) H) (aX _ (n+11) (b5 (aR _) (fun H=>Km n l k t d H h e))) (eK (af _ _) 0) (ag _ _) ?_
   generalize bQ l k t d h=E at *
   exact wF
end
end Go.Eng
end
section
namespace Go.Eng
open Go.Proofs
section
variable (n l k:Nat) (t d:Nat→Int) (H:aa) (h c:Int)
end
end Go.Eng
end
section
namespace Go.Eng
open Go.Proofs
theorem Sa (n l k:Nat) (t d:Nat→Int) (H:aa):bn Try.prog (cd n) 100000 15 Try.f15 (KtL.kt 15) (il aK n 0) aO aP [(dx l t k d,none)] H =
 Tr.ite (cq (Int.ofNat 40) (Int.ofNat l)) (Tr.ok ((AV.bool true,some 1),H)) (Tr.ok ((AV.bool (cq (Int.ofNat 40) (Int.ofNat k)),none),H)):=by kernel_rfl
theorem Sf (n l k:Nat) (t d:Nat→Int) (b:Bool) (e:Int) (H:aa):bn Try.prog (cd n) 100000 43 Try.f43 (KtL.kt 43) (il (tX (tX aK 15 [dx l t k d] (.bool b)) 22 [dx l t k d] (.int .i64 e)) n 0) aO aP [(dx l t k d,none)] H =
 (fun (Z0:List AV)=>Tr.reqP (Z0=Z0) (Tr.ite (ba b) (Tr.reqP (Z0=Z0) (Tr.ok ((AV.bool (cQ e (Int.ofNat 0)),none),H))) (Tr.ok ((AV.bool false,some 1),H)))) [AV.agg (Row.G [AV.slcT none (Row.M [ah.arr .i64 t l]) 1 l false,AV.slcT none (Row.M [ah.arr .i64 d k]) 1 k false])]:=by kernel_rfl
section
variable (n l k:Nat) (t d:Nat→Int) (H:aa)
theorem PL:cd (n+1) (.fn 15) [dx l t k d] H=some (.bool (decide (40<l) || decide (40<k)),H):=by
 refine aS (n:=n) Try.func15 rfl rfl rfl (Sa n l k t d H) (aw _) (af _ _) (ag _ _) ?_
 have e:cq (Int.ofNat 40) (Int.ofNat k)=decide (40<k):=by rw[eY,decide_eq_decide];show (40:Int)<(k:Int)↔_;omega
 rw[e]
 by_cases c:40<l
 · rw[decide_eq_true c,Bool.true_or]
   exact wF
 · rw[decide_eq_false c,Bool.false_or]
   exact wF
theorem Pj:cd (n+3) (.fn 43) [dx l t k d] H=some (.bool (decide (mj l t k d=0)),H):=by
 refine aS (n:=n+2) Try.func43 rfl rfl rfl (Sf (n+2) l k t d (decide (40<l) || decide (40<k)) (mj l t k d) H) (aX _ (n+2) (b5 (b5 (aR _) (fun H=>PL (n+1) l k t d H)) (fun H=>Ph n l k t d H))) (af _ _) (ag _ _) ?_
 by_cases c:40<l∨40<k
 · have hb:(decide (40<l) || decide (40<k))=true:=by simpa using c
   have he:mj l t k d≠0:=fun h=>by
    have hs:=vr h
    have:=hs.l30
    have:=hs.kl
    omega
   rw[hb,decide_eq_false he]
   exact wF
 · have hb:(decide (40<l) || decide (40<k))=false:=by simpa using c
   rw[hb,fW]
   exact wF
end
end Go.Eng
end
section
namespace Go.Eng
open Go.Proofs
noncomputable def R8 (m:Nat) (f:Nat→Nat→Int) (g:Nat→Nat):AV:=.slcT none (.F (fun j=>b7 (g j) (f j) false) m) 1 m false
section
variable (n m:Nat) (f:Nat→Nat→Int) (g:Nat→Nat) (H:aa)
end
end Go.Eng
end
