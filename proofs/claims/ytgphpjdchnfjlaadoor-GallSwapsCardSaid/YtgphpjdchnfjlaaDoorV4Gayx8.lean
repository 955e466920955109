/- Gall: the law of swaps: trees. -/
import Derived.Test.YtgphpjdchnfjlaaDoorV4Gavx4
import Derived.Test.YtgphpjdchnfjlaaDoorV4Gp2x6
import Derived.Test.YtgphpjdchnfjlaaDoorRows
import Derived.Test.YtgphpjdchnfjlaaDoorChecked
import Derived.Test.YtgphpjdchnfjlaaDoorTie
import Derived.Test.YtgphpjdchnfjlaaDoorCards
import Derived.ProofKit
import Derived.Lib.LaidIn
import Derived.Lib.LaidTab
import Derived.FnData
import Derived.Handed
import Derived.SevenTiedAt
import Derived.Test.YtgphpjdchnfjlaaDoorV4GaKx6
set_option linter.unusedVariables false
set_option linter.unusedSimpArgs false
set_option maxRecDepth 100000
section
namespace Go.Eng
open Go.Proofs Go.Eng.Gall
noncomputable def Mw (C:List AV→Prop) (N:List AV→Bool) (E:List AV→Int) (K:List AV→Nat) (Y:List AV→Nat→Int) (args:List AV) (H:aa):Tr (AV×aa):=.reqP (C args) (.ite (N args) (.ok (.tup [.nils,.int .i64 (E args)],H)) (.ok (.tup [bF (K args) (Y args) false,.int .i64 (E args)],H)))
noncomputable def BY (k:Nat) (y:Nat→Int) (c j:Int):au:=[(0,bF k y false),(1,.int .i64 c),(5,.int .i64 j)]
theorem t42 (n k:Nat) (y:Nat→Int) (c j:Int) (G:aa):aT (b5 n 42 18) (il aV n 0) bc ba (part Tryd.f42 [1,0,1,0,0]) (hints (BY k y c j)) (aC::G) =
 Tr.ite (cY j (Int.ofNat k)) (Tr.req (c7 j k) (Tr.req (cI (aM 0 j 1) k) (Tr.ite (cK (y (aM 0 j 1)) c) (Tr.ok (Ex.ret,[(4,AV.bool true,some 1)],aC::G)) (Tr.ok (Ex.normal,[(0,AV.slcT none (Row.M [aq.arr .i64 y k]) 1 k false,none),(1,AV.int .i64 c,none),(5,AV.int .i64 (bf .i64 j (Int.ofNat 1)),none)],aC::G))))) (Tr.ok (Ex.exit 0,[(0,AV.slcT none (Row.M [aq.arr .i64 y k]) 1 k false,none),(1,AV.int .i64 c,none),(5,AV.int .i64 j,none),(9,AV.bool false,some 1)],aC::G)):=by kernel_rfl
theorem Tt (n k:Nat) (y:Nat→Int) (c:Int) (G:aa) (q:Bool):bu Tryd.prog (cd n) 100000 42 Tryd.f42 (KtG.kt 42) (il aV n 0) (dy bc 0 (BY k y c (Int.ofNat 0)) (aC::G) (.ite q (.ok (.ret,[(4,.bool true,none)],aC::G)) (.ok (.normal,hints (BY k y c (Int.ofNat k)++[(9,.bool false)]),aC::G)))) ba [(bF k y false,none),(.int .i64 c,none)] G =
 (fun (Z0:au)=>Tr.reqP (Z0=Z0∧aC::G=aC::G) (Tr.ite q (Tr.ok ((AV.bool true,none),G)) (Tr.ok ((AV.bool false,some 1),G)))) [(0,AV.slcT none (Row.M [aq.arr .i64 y k]) 1 k false),(1,AV.int .i64 c),(5,AV.int .i64 (Int.ofNat 0))]:=by kernel_rfl
theorem Pn (n:Nat) (c:Int) (G:aa):bu Tryd.prog (cd n) 100000 42 Tryd.f42 (KtG.kt 42) (il aV n 0) bc ba [(.nils,none),(.int .i64 c,none)] G =
 Tr.ok ((AV.bool false,some 1),G):=by kernel_rfl
theorem Tn (n:Nat) (dr:Int) (lc:Nat) (zc:Nat→Int) (lb:Nat) (zb:Nat→Int) (H:aa) (m:Nat) (z:Nat→Int) (w:Int) (f:Int) (E:List AV→Int) (N I:List AV→Bool) (K:List AV→Nat) (Y:List AV→Nat→Int) (C39 C45 C42:List AV→Prop):bu Tryd.prog (cd (n+2)) 100000 12 Tryd.f12 (KtG.kt 12) (il (l6 (tX (tV (jA (tX (tV (l6 aV 15 Hm) 39 C39 (fun x=>.int .i64 (E x))) 23 [cM dr lc zc lb zb] (.int .i64 (Int.ofNat 0))) 45 (Mw C45 N E K Y)) 42 C42 (fun x=>.bool (I x))) 40 [cM dr lc zc lb zb,bF m z false] (.int .i64 f)) 15 Hm) n 2) bc ba [(cM dr lc zc lb zb,none),(bF m z false,none),(.int .u8 w,none)] H =
 (fun (Z0:List AV)=>((fun (Z1:List AV)=>((fun (Z2:List AV)=>((fun (Z3:List AV)=>((fun (Z4:List AV)=>((fun (Z5:List AV)=>Tr.ite (cY (Int.ofNat 15) (Int.ofNat lc)) (Tr.reqP True (Tr.ok ((AV.bool true,none),H))) (Tr.ite (bz (cY (Int.ofNat 60) (Int.ofNat lb))) (Tr.reqP (Z5=Z5) (Tr.ite (bz (cK (Int.ofNat 0) (Int.ofNat 0))) (Tr.reqP True (Tr.ok ((AV.bool true,none),H))) (Tr.ite (cY (Int.ofNat 20) (Int.ofNat m)) (Tr.reqP True (Tr.ok ((AV.bool true,none),H))) (Tr.reqP (C45 Z1) (Tr.ite (N Z1) (Tr.reqP (C39 Z1) (Tr.ite (bz (cK (E Z1) (E Z1))) (Tr.ok ((AV.bool false,some 1),H)) (Tr.ite (bz (cK (E Z1) (Int.ofNat 0))) (Tr.reqP (Z1=Z1) (Tr.ite (cK f (E Z1)) (Tr.reqP True (Tr.ok ((AV.bool true,none),H))) (Tr.ok ((AV.bool false,some 1),H)))) (Tr.ite (cY (Int.ofNat m) (Int.ofNat 2)) (Tr.ite (cK (Int.ofNat m) (Int.ofNat lc)) (Tr.reqP True (Tr.ok ((AV.bool true,none),H))) (Tr.ok ((AV.bool false,some 1),H))) (Tr.req (bz (cK (bw .i64 (Int.ofNat m) (Int.ofNat 1)) (Int.ofNat 0))) (Tr.ite (eO m 0) (Tr.req (c7 (bf .i64 (dc IntKind.i64 (kU IntKind.i64 w) (bw .i64 (Int.ofNat m) (Int.ofNat 1))) (Int.ofNat 1)) 0) (Tr.req (eO 0 0) (Tr.req (cI (aM 0 (bf .i64 (dc IntKind.i64 (kU IntKind.i64 w) (bw .i64 (Int.ofNat m) (Int.ofNat 1))) (Int.ofNat 1)) 1) (zw [])) (Tr.req (c7 (dc IntKind.i64 (kU IntKind.i64 w) (bw .i64 (Int.ofNat m) (Int.ofNat 1))) 0) (Tr.req (eO 0 0) (Tr.req (cI (aM 0 (dc IntKind.i64 (kU IntKind.i64 w) (bw .i64 (Int.ofNat m) (Int.ofNat 1))) 1) (zw [])) (Tr.req (c7 (dc IntKind.i64 (kU IntKind.i64 w) (bw .i64 (Int.ofNat m) (Int.ofNat 1))) 0) (Tr.req (eO 0 0) Tr.bad)))))))) (Tr.req (jW 0 m 8) (Tr.req (iV m m) (Tr.req (iV (aF 0 m) m) (Tr.ite (cI 0 (aF 0 m)) (Tr.req (eO 0 0) (Tr.req (iV 0 0) (Tr.req (c7 (bf .i64 (dc IntKind.i64 (kU IntKind.i64 w) (bw .i64 (Int.ofNat m) (Int.ofNat 1))) (Int.ofNat 1)) (aF 0 m)) (Tr.req (eO 0 0) (Tr.req (cI (aM 0 (bf .i64 (dc IntKind.i64 (kU IntKind.i64 w) (bw .i64 (Int.ofNat m) (Int.ofNat 1))) (Int.ofNat 1)) 1) (aF 0 m)) (Tr.req (c7 (dc IntKind.i64 (kU IntKind.i64 w) (bw .i64 (Int.ofNat m) (Int.ofNat 1))) (aF 0 m)) (Tr.req (eO 0 0) (Tr.req (cI (aM 0 (dc IntKind.i64 (kU IntKind.i64 w) (bw .i64 (Int.ofNat m) (Int.ofNat 1))) 1) (aF 0 m)) (Tr.req (c7 (dc IntKind.i64 (kU IntKind.i64 w) (bw .i64 (Int.ofNat m) (Int.ofNat 1))) (aF 0 m)) (Tr.req (eO 0 0) (Tr.req (cI (aM 0 (dc IntKind.i64 (kU IntKind.i64 w) (bw .i64 (Int.ofNat m) (Int.ofNat 1))) 1) (aF 0 m)) (Tr.req (cr (iV 0 0) (iV 0 1)) (Tr.req (c7 (bf .i64 (dc IntKind.i64 (kU IntKind.i64 w) (bw .i64 (Int.ofNat m) (Int.ofNat 1))) (Int.ofNat 1)) (aF 0 m)) (Tr.req (eO 0 0) (Tr.req (cI (aM 0 (bf .i64 (dc IntKind.i64 (kU IntKind.i64 w) (bw .i64 (Int.ofNat m) (Int.ofNat 1))) (Int.ofNat 1)) 1) (aF 0 m)) (Tr.req (cr (iV 0 0) (iV 0 1)) (Tr.req (eO 0 0) (Tr.req (mS 0 (aF 0 m) 0 (aF 0 m)) (Tr.reqP (C45 Z0) (Tr.ite (N Z0) (Tr.reqP (C42 Z3) (Tr.reqP (C39 Z0) (Tr.ite (bz (Au (I Z3) (cK (E Z0) (Int.ofNat 0)))) (Tr.ok ((AV.bool false,some 1),H)) (Tr.reqP (C42 Z3) (Tr.ite (bz (Au (I Z3) (cK (E Z0) (Int.ofNat 0)))) (Tr.ok ((AV.bool false,some 1),H)) (Tr.reqP (C42 Z3) (Tr.ite (I Z3) (Tr.reqP (C42 Z3) (Tr.ite (bz (I Z3)) (Tr.ok ((AV.bool false,some 1),H)) (Tr.reqP True (Tr.ok ((AV.bool true,none),H))))) (Tr.reqP True (Tr.ok ((AV.bool true,none),H)))))))))) (Tr.reqP (C42 Z3) (Tr.reqP (C39 Z0) (Tr.ite (bz (Au (I Z3) (cK (E Z0) (Int.ofNat 0)))) (Tr.ok ((AV.bool false,some 1),H)) (Tr.reqP (C42 Z3) (Tr.ite (bz (Au (I Z3) (cK (E Z0) (Int.ofNat 0)))) (Tr.ok ((AV.bool false,some 1),H)) (Tr.reqP (C42 Z3) (Tr.ite (I Z3) (Tr.reqP (C42 Z4) (Tr.ite (bz (I Z4)) (Tr.ok ((AV.bool false,some 1),H)) (Tr.reqP True (Tr.ok ((AV.bool true,none),H))))) (Tr.reqP True (Tr.ok ((AV.bool true,none),H)))))))))))))))))))))))))))))) (Tr.req (eO 0 0) Tr.bad))))))))))) (Tr.reqP (C39 Z1) (Tr.ite (bz (cK (E Z1) (E Z1))) (Tr.ok ((AV.bool false,some 1),H)) (Tr.ite (bz (cK (E Z1) (Int.ofNat 0))) (Tr.ite (cK (Int.ofNat (K Z1)) (Int.ofNat 0)) (Tr.reqP (Z1=Z1) (Tr.ite (cK f (E Z1)) (Tr.reqP True (Tr.ok ((AV.bool true,none),H))) (Tr.ok ((AV.bool false,some 1),H)))) (Tr.ok ((AV.bool false,some 1),H))) (Tr.ite (cY (Int.ofNat m) (Int.ofNat 2)) (Tr.ite (cK (Int.ofNat (K Z1)) (Int.ofNat 0)) (Tr.ite (cK (Int.ofNat m) (Int.ofNat lc)) (Tr.reqP True (Tr.ok ((AV.bool true,none),H))) (Tr.ok ((AV.bool false,some 1),H))) (Tr.ok ((AV.bool false,some 1),H))) (Tr.req (bz (cK (bw .i64 (Int.ofNat m) (Int.ofNat 1)) (Int.ofNat 0))) (Tr.ite (eO m 0) (Tr.req (c7 (bf .i64 (dc IntKind.i64 (kU IntKind.i64 w) (bw .i64 (Int.ofNat m) (Int.ofNat 1))) (Int.ofNat 1)) 0) (Tr.req (eO 0 0) (Tr.req (cI (aM 0 (bf .i64 (dc IntKind.i64 (kU IntKind.i64 w) (bw .i64 (Int.ofNat m) (Int.ofNat 1))) (Int.ofNat 1)) 1) (zw [])) (Tr.req (c7 (dc IntKind.i64 (kU IntKind.i64 w) (bw .i64 (Int.ofNat m) (Int.ofNat 1))) 0) (Tr.req (eO 0 0) (Tr.req (cI (aM 0 (dc IntKind.i64 (kU IntKind.i64 w) (bw .i64 (Int.ofNat m) (Int.ofNat 1))) 1) (zw [])) (Tr.req (c7 (dc IntKind.i64 (kU IntKind.i64 w) (bw .i64 (Int.ofNat m) (Int.ofNat 1))) 0) (Tr.req (eO 0 0) Tr.bad)))))))) (Tr.req (jW 0 m 8) (Tr.req (iV m m) (Tr.req (iV (aF 0 m) m) (Tr.ite (cI 0 (aF 0 m)) (Tr.req (eO 0 0) (Tr.req (iV 0 0) (Tr.req (c7 (bf .i64 (dc IntKind.i64 (kU IntKind.i64 w) (bw .i64 (Int.ofNat m) (Int.ofNat 1))) (Int.ofNat 1)) (aF 0 m)) (Tr.req (eO 0 0) (Tr.req (cI (aM 0 (bf .i64 (dc IntKind.i64 (kU IntKind.i64 w) (bw .i64 (Int.ofNat m) (Int.ofNat 1))) (Int.ofNat 1)) 1) (aF 0 m)) (Tr.req (c7 (dc IntKind.i64 (kU IntKind.i64 w) (bw .i64 (Int.ofNat m) (Int.ofNat 1))) (aF 0 m)) (Tr.req (eO 0 0) (Tr.req (cI (aM 0 (dc IntKind.i64 (kU IntKind.i64 w) (bw .i64 (Int.ofNat m) (Int.ofNat 1))) 1) (aF 0 m)) (Tr.req (c7 (dc IntKind.i64 (kU IntKind.i64 w) (bw .i64 (Int.ofNat m) (Int.ofNat 1))) (aF 0 m)) (Tr.req (eO 0 0) (Tr.req (cI (aM 0 (dc IntKind.i64 (kU IntKind.i64 w) (bw .i64 (Int.ofNat m) (Int.ofNat 1))) 1) (aF 0 m)) (Tr.req (cr (iV 0 0) (iV 0 1)) (Tr.req (c7 (bf .i64 (dc IntKind.i64 (kU IntKind.i64 w) (bw .i64 (Int.ofNat m) (Int.ofNat 1))) (Int.ofNat 1)) (aF 0 m)) (Tr.req (eO 0 0) (Tr.req (cI (aM 0 (bf .i64 (dc IntKind.i64 (kU IntKind.i64 w) (bw .i64 (Int.ofNat m) (Int.ofNat 1))) (Int.ofNat 1)) 1) (aF 0 m)) (Tr.req (cr (iV 0 0) (iV 0 1)) (Tr.req (eO 0 0) (Tr.req (mS 0 (aF 0 m) 0 (aF 0 m)) (Tr.reqP (C45 Z0) (Tr.ite (N Z0) (Tr.reqP (C42 Z2) (Tr.reqP (C39 Z0) (Tr.ite (bz (Au (I Z2) (cK (E Z0) (Int.ofNat 0)))) (Tr.ok ((AV.bool false,some 1),H)) (Tr.reqP (C42 Z2) (Tr.ite (bz (Au (I Z2) (cK (E Z0) (Int.ofNat 0)))) (Tr.ok ((AV.bool false,some 1),H)) (Tr.reqP (C42 Z2) (Tr.ite (I Z2) (Tr.reqP (C42 Z3) (Tr.ite (bz (I Z3)) (Tr.ok ((AV.bool false,some 1),H)) (Tr.reqP True (Tr.ok ((AV.bool true,none),H))))) (Tr.reqP True (Tr.ok ((AV.bool true,none),H)))))))))) (Tr.reqP (C42 Z2) (Tr.reqP (C39 Z0) (Tr.ite (bz (Au (I Z2) (cK (E Z0) (Int.ofNat 0)))) (Tr.ok ((AV.bool false,some 1),H)) (Tr.reqP (C42 Z2) (Tr.ite (bz (Au (I Z2) (cK (E Z0) (Int.ofNat 0)))) (Tr.ok ((AV.bool false,some 1),H)) (Tr.reqP (C42 Z2) (Tr.ite (I Z2) (Tr.reqP (C42 Z4) (Tr.ite (bz (I Z4)) (Tr.ok ((AV.bool false,some 1),H)) (Tr.reqP True (Tr.ok ((AV.bool true,none),H))))) (Tr.reqP True (Tr.ok ((AV.bool true,none),H)))))))))))))))))))))))))))))) (Tr.req (eO 0 0) Tr.bad)))))))))))))))) (Tr.reqP True (Tr.ok ((AV.bool true,none),H))))) [AV.agg (Row.G [AV.int .i64 dr,AV.slcT none (Row.M [aq.arr .i64 zc (aw lc 4)]) 4 lc false,AV.slcT none (Row.M [aq.arr .i64 zb (aw lb 2)]) 2 lb false])])) [AV.slcT none (Row.M [aq.arr .i64 (Y Z0) (K Z0)]) 1 (K Z0) false,AV.int .i64 (dc IntKind.i64 (kU IntKind.i64 w) (bw .i64 (Int.ofNat m) (Int.ofNat 1)))])) [AV.nils,AV.int .i64 (dc IntKind.i64 (kU IntKind.i64 w) (bw .i64 (Int.ofNat m) (Int.ofNat 1)))])) [AV.slcT none (Row.M [aq.arr .i64 (Y Z1) (K Z1)]) 1 (K Z1) false,AV.int .i64 (dc IntKind.i64 (kU IntKind.i64 w) (bw .i64 (Int.ofNat m) (Int.ofNat 1)))])) [AV.agg (Row.G [AV.int .i64 dr,AV.slcT none (Row.M [aq.arr .i64 zc (aw lc 4)]) 4 lc false,AV.slcT none (Row.M [aq.arr .i64 zb (aw lb 2)]) 2 lb false]),AV.slcT none (Row.M [aq.arr .i64 z m]) 1 m false])) [AV.agg (Row.G [AV.int .i64 dr,AV.slcT none (Row.M [aq.arr .i64 zc (aw lc 4)]) 4 lc false,AV.slcT none (Row.M [aq.arr .i64 zb (aw lb 2)]) 2 lb false]),AV.slcT none (Row.M [aq.arr .i64 (xU (ju (ju (qe (aX []) 0 z) (aM 0 (dc IntKind.i64 (kU IntKind.i64 w) (bw .i64 (Int.ofNat m) (Int.ofNat 1))) 1) (qe (aX []) 0 z (aM 0 (bf .i64 (dc IntKind.i64 (kU IntKind.i64 w) (bw .i64 (Int.ofNat m) (Int.ofNat 1))) (Int.ofNat 1)) 1))) (aM 0 (bf .i64 (dc IntKind.i64 (kU IntKind.i64 w) (bw .i64 (Int.ofNat m) (Int.ofNat 1))) (Int.ofNat 1)) 1) (qe (aX []) 0 z (aM 0 (dc IntKind.i64 (kU IntKind.i64 w) (bw .i64 (Int.ofNat m) (Int.ofNat 1))) 1))) 0) (aF 0 m)]) 1 (aF 0 m) false]:=by kernel_rfl
theorem Ph (n:Nat) (dr:Int) (lc:Nat) (zc:Nat→Int) (lb:Nat) (zb:Nat→Int) (H:aa) (m:Nat) (z:Nat→Int) (w:Int) (e:Int):bu Tryd.prog (cd (n+2)) 100000 12 Tryd.f12 (KtG.kt 12) (il (tX (l6 aV 15 Hm) 23 [cM dr lc zc lb zb] (.int .i64 e)) n 2) bc ba [(cM dr lc zc lb zb,none),(bF m z false,none),(.int .u8 w,none)] H =
 (fun (Z0:List AV)=>Tr.ite (cY (Int.ofNat 15) (Int.ofNat lc)) (Tr.reqP True (Tr.ok ((AV.bool true,none),H))) (Tr.ite (bz (cY (Int.ofNat 60) (Int.ofNat lb))) (Tr.reqP (Z0=Z0) (Tr.ite (bz (cK e (Int.ofNat 0))) (Tr.reqP True (Tr.ok ((AV.bool true,none),H))) (Tr.ite (cY (Int.ofNat 20) (Int.ofNat m)) (Tr.reqP True (Tr.ok ((AV.bool true,none),H))) Tr.bad))) (Tr.reqP True (Tr.ok ((AV.bool true,none),H))))) [AV.agg (Row.G [AV.int .i64 dr,AV.slcT none (Row.M [aq.arr .i64 zc (aw lc 4)]) 4 lc false,AV.slcT none (Row.M [aq.arr .i64 zb (aw lb 2)]) 2 lb false])]:=by kernel_rfl
theorem Pg (n:Nat) (dr:Int) (lc:Nat) (zc:Nat→Int) (lb:Nat) (zb:Nat→Int) (H:aa) (m:Nat) (z:Nat→Int) (w:Int):bu Tryd.prog (cd (n+2)) 100000 12 Tryd.f12 (KtG.kt 12) (il (tN (l6 aV 15 Hm) 23) n 2) bc ba [(cM dr lc zc lb zb,none),(bF m z false,none),(.int .u8 w,none)] H =
 Tr.ite (cY (Int.ofNat 15) (Int.ofNat lc)) (Tr.reqP True (Tr.ok ((AV.bool true,none),H))) (Tr.ite (bz (cY (Int.ofNat 60) (Int.ofNat lb))) Tr.bad (Tr.reqP True (Tr.ok ((AV.bool true,none),H)))):=by kernel_rfl
end Go.Eng
end
section
namespace Go.Eng
open Go.Proofs Go.Eng.Gall
theorem QK:∀ b,(0,b) ∈ aI (aY Tryd.f42)→b=.loop (part Tryd.f42 [1,0,1,0,0]):=eX (by kernel_rfl)
theorem Fu (z:Nat→Int):qe (aX []) 0 z=z:=by rw[nB];funext i;simp
theorem QY (n k:Nat) (y:Nat→Int) (c:Int) (H:aa) (hk:k≤1000):cd (n+1) (.fn 42) [bF k y false,.int .i64 c] H=some (.bool (c5 (fun j=>decide (y j=c)) k),H):=by
 have lp:=fF (n:=n) (f:=42) (nt:=18) (c:=part Tryd.f42 [1,0,1,0,0]) 0 (fun j=>BY k y c (j:Int)) (fun _=>aC::H) k (fun j=>decide (y j=c)) (fun _=>([(4,.bool true)],aC::H)) (BY k y c (Int.ofNat k)++[(9,.bool false)],aC::H) (by omega) (fun j hj=>?_) ?_
 · refine bK (n:=n) Tryd.func42 rfl rfl rfl (Tt n k y c H (c5 (fun j=>decide (y j=c)) k)) (aJ n) (br (ak _ _) QK (fun x hx=>cC hx lp)) (al _ _) ?_
   refine Tr.aj ⟨rfl,rfl⟩ (Tr.ae (fun hc=>Tr.ah ⟨?_,rfl⟩) (fun hc=>Tr.ah ⟨?_,rfl⟩))
   · rw[hc]
   · rw[hc]
 · have T:=t42 n k y c (j:Int) H
   rw[pb,ft (by omega)] at T
   refine aR T (aJ n) (ak _ _) (al _ _) ?_
   refine Tr.ae (fun h0=>?_) (fun h0=>by simp (disch:=omega) only[nV,nW] at h0;omega)
   refine Tr.ag (by simp (disch:=omega) only[nV,nW];omega) (Tr.ag (by simp (disch:=omega) only[nV,nW];omega) (Tr.ae (fun q=>Tr.ah ?_) (fun q=>Tr.ah ?_)))
   all_goals rw[aZ] at q
   · rw[if_pos (by simpa using q)];rfl
   · rw[if_neg (by simpa using q)];exact ⟨rfl,rfl⟩
 · obtain ⟨x,h1,rfl⟩:=aR (Q:=fun x=>x=(.exit 0,BY k y c (Int.ofNat k)++[(9,.bool false)],aC::H)) (t42 n k y c (Int.ofNat k) H) (aJ n) (ak _ _) (al _ _) (by
    refine Tr.ae (fun h0=>by simp (disch:=omega) only[nV,nW] at h0;omega) (fun h0=>Tr.ah rfl))
   exact h1
theorem MS (n:Nat) (c:Int) (H:aa):cd (n+1) (.fn 42) [.nils,.int .i64 c] H=some (.bool false,H):=by
 refine bK (n:=n) Tryd.func42 rfl rfl rfl (Pn n c H) (aJ n) (ak _ _) (al _ _) ?_
 exact Tr.ah ⟨rfl,rfl⟩
section
variable (dr:Int) (lc:Nat) (zc:Nat→Int) (lb:Nat) (zb:Nat→Int)
noncomputable def AT (x:List AV):List Int:=match x with
 | [_,.slcT _ (.M [.arr _ y _]) _ m _]=>if iR lc (dg dr lc zc) lb zb m y=0 then qH (dg dr lc zc) (gJ lb zb) y (m-1) else []
 | _=>[]
noncomputable def FR (x:List AV):Int:=match x with
 | [_,.slcT _ (.M [.arr _ y _]) _ m _]=>iR lc (dg dr lc zc) lb zb m y
 | _=>0
def K8 (x:List AV):Bool:=match x with
 | [.slcT _ (.M [.arr _ y _]) _ k _,.int _ c]=>c5 (fun j=>decide (y j=c)) k
 | _=>false
noncomputable def Fi (x:List AV):Bool:=(AT dr lc zc lb zb x).isEmpty
noncomputable def Kf (x:List AV):Nat:=(AT dr lc zc lb zb x).length
noncomputable def Kn (x:List AV):Nat→Int:=aX (AT dr lc zc lb zb x)
def Ej (m:Nat) (x:List AV):Prop:=∃ y,x=[cM dr lc zc lb zb,bF m y false]
def Qx (x:List AV):Prop:=(∃ k y c,x=[bF k y false,.int .i64 c]∧k≤1000)∨∃ c,x=[.nils,.int .i64 c]
theorem I6 {k:Nat} {t:ml} (ht:t.Ok (cd k)) (m:Nat) (h:∀ y H,cd k (.fn 45) [cM dr lc zc lb zb,bF m y false] H=some (MD dr lc zc lb zb m y,H)):(jA t 45 (Mw (Ej dr lc zc lb zb m) (Fi dr lc zc lb zb) (FR dr lc zc lb zb) (Kf dr lc zc lb zb) (Kn dr lc zc lb zb))).Ok (cd k):=by
 refine qN ht (fun args H x hx=>?_)
 unfold Mw at hx
 obtain ⟨⟨y,rfl⟩,hx⟩:=Tr.fp hx
 rw[h]
 have eL:AT dr lc zc lb zb [cM dr lc zc lb zb,bF m y false]=if iR lc (dg dr lc zc) lb zb m y=0 then qH (dg dr lc zc) (gJ lb zb) y (m-1) else []:=rfl
 have eE:FR dr lc zc lb zb [cM dr lc zc lb zb,bF m y false]=iR lc (dg dr lc zc) lb zb m y:=rfl
 rw[eE] at hx
 unfold Fi Kf Kn at hx
 rw[eL] at hx
 unfold MD
 by_cases hc:iR lc (dg dr lc zc) lb zb m y=0
 · rw[if_pos hc] at hx ⊢
   rw[hc] at hx
   cases hS:qH (dg dr lc zc) (gJ lb zb) y (m-1) with
   | nil =>
     rw[hS] at hx
     rcases Tr.fL hx with ⟨_,hx⟩ | ⟨q,hx⟩
     · rw[← Tr.ab hx];rfl
     · cases q
   | cons a r =>
     rw[hS] at hx
     rcases Tr.fL hx with ⟨q,hx⟩ | ⟨_,hx⟩
     · cases q
     · rw[← Tr.ab hx];rfl
 · rw[if_neg hc] at hx ⊢
   rcases Tr.fL hx with ⟨_,hx⟩ | ⟨q,hx⟩
   · rw[← Tr.ab hx]
   · cases q
end
theorem KB {a b:Bool} (h:bz (Au a b)=true) (e:a=b):False:=by
 subst e;rw[aG,Du] at h;simp at h
theorem tl {α:Type} {Q:α→Prop} {P P2 P3:Prop} {a b1 b2 t:Bool} {F G:α} (hP:P) (hP2:P2) (e1:a=b1) (e2:a=b2) (h3:a=true→P3∧t=true) (hG:Q G) :
 (Tr.reqP P (Tr.reqP P2 (Tr.ite (bz (Au a b1)) (Tr.ok F) (Tr.reqP P (Tr.ite (bz (Au a b2)) (Tr.ok F) (Tr.reqP P (Tr.ite a (Tr.reqP P3 (Tr.ite (bz t) (Tr.ok F) (Tr.reqP True (Tr.ok G)))) (Tr.reqP True (Tr.ok G))))))))).all Q :=
 Tr.aj hP (Tr.aj hP2 (Tr.ae (fun h=>(KB h e1).elim) (fun _=>Tr.aj hP (Tr.ae (fun h=>(KB h e2).elim) (fun _=>Tr.aj hP (Tr.ae (fun h=>Tr.aj (h3 h).1 (Tr.ae (fun q=>by rw[(h3 h).2] at q;simp[aG] at q) (fun _=>Tr.aj trivial (Tr.ah hG)))) (fun _=>Tr.aj trivial (Tr.ah hG))))))))
theorem Jg (L:List Int) (c:Int):c5 (fun j=>decide (aX L j=c)) L.length=decide (c ∈ L):=by
 rw[Bool.eq_iff_iff,cH,decide_eq_true_iff]
 constructor
 · rintro ⟨i,hi,h⟩
   rw[decide_eq_true_iff,mW L i hi] at h
   rw[← h];exact List.getElem_mem hi
 · intro h
   obtain ⟨i,hi,h2⟩:=List.mem_iff_getElem.1 h
   exact ⟨i,hi,by rw[decide_eq_true_iff,mW L i hi];exact h2⟩
theorem ES (W B z:Nat→Int) {k M:Nat} (hk:k<M):decide ((k:Int) ∈ qH W B z M)=tp W B z k:=by
 rw[Bool.eq_iff_iff,decide_eq_true_iff,Bp]
 constructor
 · rintro ⟨j,h1,h2,h3⟩
   have:j=k:=by omega
   subst this;exact h2
 · intro h;exact ⟨k,hk,h,rfl⟩
end Go.Eng
end
section
namespace Go.Eng
open Go.Proofs Go.Eng.Gall
section
variable (dr:Int) (lc:Nat) (zc:Nat→Int) (lb:Nat) (zb:Nat→Int)
theorem xb {m:Nat} {y:Nat→Int} (h:iR lc (dg dr lc zc) lb zb m y=0):AT dr lc zc lb zb [cM dr lc zc lb zb,bF m y false]=qH (dg dr lc zc) (gJ lb zb) y (m-1):=by
 show (if iR lc (dg dr lc zc) lb zb m y=0 then qH (dg dr lc zc) (gJ lb zb) y (m-1) else [])=_
 rw[if_pos h]
theorem DZ {m:Nat} {y:Nat→Int} (h:¬ iR lc (dg dr lc zc) lb zb m y=0):AT dr lc zc lb zb [cM dr lc zc lb zb,bF m y false]=[]:=by
 show (if iR lc (dg dr lc zc) lb zb m y=0 then qH (dg dr lc zc) (gJ lb zb) y (m-1) else [])=_
 rw[if_neg h]
theorem AU (m:Nat) (y:Nat→Int):(AT dr lc zc lb zb [cM dr lc zc lb zb,bF m y false]).length≤m:=by
 by_cases h:iR lc (dg dr lc zc) lb zb m y=0
 · rw[xb dr lc zc lb zb h]
   have:=qI (dg dr lc zc) (gJ lb zb) y (m-1)
   omega
 · rw[DZ dr lc zc lb zb h];exact Nat.zero_le _
theorem Ho (x:List AV) (c:Int):K8 [bF (Kf dr lc zc lb zb x) (Kn dr lc zc lb zb x) false,.int .i64 c]=decide (c ∈ AT dr lc zc lb zb x):=Jg _ c
variable (n:Nat) (H:aa) (m:Nat) (z:Nat→Int) (w:Int)
theorem Br (f:Int) (hb:lb≤1000) (hl:lc≤1000) (hm:m≤1000) (h0:iU dr lc zc lb zb=0) (hf:f=iR lc (dg dr lc zc) lb zb m z) (q:Nat):(l6 (tX (tV (jA (tX (tV (l6 aV 15 Hm) 39 (Ej dr lc zc lb zb m) (fun x=>.int .i64 (FR dr lc zc lb zb x))) 23 [cM dr lc zc lb zb] (.int .i64 (Int.ofNat 0))) 45 (Mw (Ej dr lc zc lb zb m) (Fi dr lc zc lb zb) (FR dr lc zc lb zb) (Kf dr lc zc lb zb) (Kn dr lc zc lb zb))) 42 Qx (fun x=>.bool (K8 x))) 40 [cM dr lc zc lb zb,bF m z false] (.int .i64 f)) 15 Hm).Ok (cd (n+16+q)):=by
 subst hf
 refine Ms (by omega) (eg (HG (I6 dr lc zc lb zb (eg (HG (Ms (by omega) (bx _)) (fun A H hA=>?_)) (fun H=>?_)) m (fun y H=>?_)) (fun A H hA=>?_)) (fun H=>?_))
 · obtain ⟨y,rfl⟩:=hA
   rw[show n+16+q=n+1+q+15 by omega]
   exact Qq (n+1+q) dr lc zc lb zb m y H hb h0 hm
 · rw[show n+16+q=n+13+q+3 by omega]
   have:=MR (n+13+q) dr lc zc lb zb H hl hb
   rw[h0] at this;exact this
 · rw[show n+16+q=n+q+16 by omega]
   exact QZ (n+q) dr lc zc lb zb H m y hb h0 hm
 · rw[show n+16+q=n+15+q+1 by omega]
   rcases hA with ⟨k,y,c,rfl,hk⟩ | ⟨c,rfl⟩
   · exact QY (n+15+q) k y c H hk
   · exact MS (n+15+q) c H
 · rw[show n+16+q=n+12+q+4 by omega]
   exact QX (n+12+q) dr lc zc lb zb H m z hb h0 hm
theorem QU  (hw:0≤w∧w≤255):cd (n+19) (.fn 12) [cM dr lc zc lb zb,bF m z false,.int .u8 w] H=some (.bool true,H):=by
 by_cases hg:lc≤15∧lb≤60
 · obtain ⟨g1,g2⟩:=hg
   by_cases hc:iU dr lc zc lb zb=0∧m≤20
   · obtain ⟨h0,hm⟩:=hc
     obtain ⟨k1,k2,k3,k4,k5,_⟩:=De h0
     have T:=Tn (n+16) dr lc zc lb zb H m z w (iR lc (dg dr lc zc) lb zb m z) (FR dr lc zc lb zb) (Fi dr lc zc lb zb) K8 (Kf dr lc zc lb zb) (Kn dr lc zc lb zb) (Ej dr lc zc lb zb m) (Ej dr lc zc lb zb m) Qx
     have ht:=fun q=>Br dr lc zc lb zb n m z _ (by omega) (by omega) (by omega) h0 rfl q
     have hE:FR dr lc zc lb zb [cM dr lc zc lb zb,bF m z false]=iR lc (dg dr lc zc) lb zb m z:=rfl
     have kE:∀ {e:Int},FR dr lc zc lb zb [cM dr lc zc lb zb,bF m z false]=e→e=iR lc (dg dr lc zc) lb zb m z:=fun h=>h.symm
     by_cases h2:2≤m
     · obtain ⟨M,rfl⟩:∃ M,m=M+1:=⟨m-1,by omega⟩
       have es:bw .i64 (Int.ofNat (M+1)) (Int.ofNat 1)=(M:Int):=by
        rw[dG,show Int.ofNat (M+1)-Int.ofNat 1=(M:Int) by show ((M+1:Nat):Int)-1=_;omega]
        exact gY (by omega) (by omega)
       obtain ⟨k,hk⟩:∃ k:Nat,w % (M:Int)=(k:Int):=⟨(w % (M:Int)).toNat,by have:=Int.emod_nonneg w (show (M:Int)≠0 by omega);omega⟩
       have hkM:k<M:=by have:=Int.emod_lt_of_pos w (show 0<(M:Int) by omega);omega
       have er:dc .i64 (kU .i64 w) (M:Int)=(k:Int):=by
        rw[J8 (by omega) (by omega),qC,Int.tmod_eq_emod_of_nonneg hw.1,hk]
       have e1:bf .i64 (k:Int) (Int.ofNat 1)=((k+1:Nat):Int):=ft (by omega)
       have hx:ju (ju z k (z (k+1))) (k+1) (z k)=uI z k:=by
        rw[kP,kP];funext j;unfold uI Cz;dsimp only
        by_cases q1:j=k
        · subst q1;rw[if_neg (by omega),if_pos rfl,if_pos rfl]
        · by_cases q2:j=k+1
          · subst q2;rw[if_pos rfl,if_neg (by omega),if_pos rfl]
          · rw[if_neg q2,if_neg q1,if_neg q1,if_neg q2]
       rw[es,er,e1,pb,pb,Fu,a6,Nat.zero_add,lV,hx] at T
       refine bK (n:=n+18) Tryd.func12 rfl rfl rfl T (lA _ (n+16) 2 ht) (ak _ _) (al _ _) ?_
       clear T ht
       have hpre:∀ (hz:iR lc (dg dr lc zc) lb zb (M+1) z=0),cK (FR dr lc zc lb zb [cM dr lc zc lb zb,bF (M+1) (uI z k) false]) (Int.ofNat 0)=tp (dg dr lc zc) (gJ lb zb) z k:=fun hz=>by
        have:=x4 (k:=k) k5 k1.2 hz (by omega)
        show cK (iR lc (dg dr lc zc) lb zb (M+1) (uI z k)) (Int.ofNat 0)=_
        rw[aZ,Bool.eq_iff_iff,this,beq_iff_eq];rfl
       refine Tr.ae (fun q=>by exfalso;simp (disch:=omega) only[nV,nW] at q;omega) (fun _=>Tr.ae (fun _=>Tr.aj rfl (Tr.ae (fun q=>by simp[aG,aZ] at q) (fun _=>Tr.ae (fun q=>by exfalso;simp (disch:=omega) only[nV,nW] at q;omega) (fun _=>Tr.aj ⟨z,rfl⟩ (Tr.ae (fun hN=>?_) (fun hN=>?_)))))) (fun q=>by exfalso;simp (disch:=omega) only[nV,nW] at q;omega))
       · refine Tr.aj ⟨z,rfl⟩ (Tr.ae (fun q=>by simp[aG,aZ] at q) (fun _=>Tr.ae (fun q=>Tr.aj rfl (Tr.ae (fun _=>Tr.aj trivial (Tr.ah ⟨rfl,rfl⟩)) (fun q2=>?_))) (fun q=>Tr.ae (fun q2=>by exfalso;simp (disch:=omega) only[nV,nW] at q2;omega) (fun _=>?_))))
         · exfalso
           rw[aZ] at q2
           have q2:(iR lc (dg dr lc zc) lb zb (M+1) z == iR lc (dg dr lc zc) lb zb (M+1) z)=false:=q2
           simp at q2
         · have hz:iR lc (dg dr lc zc) lb zb (M+1) z=0:=by
            rw[aG,aZ] at q
            have q:(!(iR lc (dg dr lc zc) lb zb (M+1) z == Int.ofNat 0))=false:=q
            simpa using q
           have hS:tp (dg dr lc zc) (gJ lb zb) z k=false:=by
            have hN:Fi dr lc zc lb zb [cM dr lc zc lb zb,bF (M+1) z false]=true:=hN
            unfold Fi at hN
            rw[xb dr lc zc lb zb hz,List.isEmpty_iff] at hN
            rw[← ES _ _ z hkM,show M=M+1-1 by omega,hN];simp
           have e1:K8 [.nils,.int .i64 (k:Int)]=cK (FR dr lc zc lb zb [cM dr lc zc lb zb,bF (M+1) (uI z k) false]) (Int.ofNat 0):=by rw[hpre hz,hS];rfl
           repeat' first | (refine Tr.ae (fun hc=>?_) (fun hc=>?_)<;>(try simp (disch:=omega) only[nV,nW] at hc)<;>(try (exfalso;omega))) | (refine Tr.ag ?_ ?_;· ((try simp (disch:=omega) only[nV,nW]);try omega)) | (refine Tr.aj ?_ ?_;· first | exact trivial | rfl | exact ⟨rfl,rfl⟩ | exact ⟨trivial,rfl⟩ | exact ⟨rfl,by assumption⟩ | exact ⟨trivial,by assumption⟩ | exact ⟨rfl,rfl,rfl⟩ | (simp (disch:=omega) only[nV,nW];done) | ((try simp (disch:=omega) only[nV,nW]);omega)) | fail
           refine Tr.aj ⟨_,rfl⟩ (Tr.ae (fun hN2=>?_) (fun hN2=>?_))
           · exact tl (.inr ⟨_,rfl⟩) ⟨_,rfl⟩ e1 e1 (fun h=>by have h:false=true:=h;cases h) ⟨rfl,rfl⟩
           · exact tl (.inr ⟨_,rfl⟩) ⟨_,rfl⟩ e1 e1 (fun h=>by have h:false=true:=h;cases h) ⟨rfl,rfl⟩
       · have hz:iR lc (dg dr lc zc) lb zb (M+1) z=0:=by
          have hN:Fi dr lc zc lb zb [cM dr lc zc lb zb,bF (M+1) z false]=false:=hN
          unfold Fi at hN
          by_cases q:iR lc (dg dr lc zc) lb zb (M+1) z=0
          · exact q
          · rw[DZ dr lc zc lb zb q] at hN;cases hN
         have hI:K8 [bF (Kf dr lc zc lb zb [cM dr lc zc lb zb,bF (M+1) z false]) (Kn dr lc zc lb zb [cM dr lc zc lb zb,bF (M+1) z false]) false,.int .i64 (k:Int)]=tp (dg dr lc zc) (gJ lb zb) z k:=by
          rw[Ho,xb dr lc zc lb zb hz,show M+1-1=M by omega,ES _ _ z hkM]
         have hK:=AU dr lc zc lb zb (M+1) z
         have hK2:=AU dr lc zc lb zb (M+1) (uI z k)
         have e1:=hI.trans (hpre hz).symm
         have hX:tp (dg dr lc zc) (gJ lb zb) z k=true→(k:Int) ∈ AT dr lc zc lb zb [cM dr lc zc lb zb,bF (M+1) (uI z k) false]:=fun h=>by
          have hx0:=(x4 (k:=k) k5 k1.2 hz (by omega)).1 h
          rw[xb dr lc zc lb zb hx0,show M+1-1=M by omega]
          have:=ES (dg dr lc zc) (gJ lb zb) (uI z k) hkM
          rw[GY k5 k1.2 hz (by omega)] at this
          exact of_decide_eq_true this
         refine Tr.aj ⟨z,rfl⟩ (Tr.ae (fun q=>by simp[aG,aZ] at q) (fun _=>Tr.ae (fun q=>?_) (fun q=>Tr.ae (fun q2=>by exfalso;simp (disch:=omega) only[nV,nW] at q2;omega) (fun _=>?_))))
         · exfalso
           rw[aG,aZ] at q
           have q:(!(iR lc (dg dr lc zc) lb zb (M+1) z == Int.ofNat 0))=true:=q
           rw[hz] at q;cases q
         · repeat' first | (refine Tr.ae (fun hc=>?_) (fun hc=>?_)<;>(try simp (disch:=omega) only[nV,nW] at hc)<;>(try (exfalso;omega))) | (refine Tr.ag ?_ ?_;· ((try simp (disch:=omega) only[nV,nW]);try omega)) | (refine Tr.aj ?_ ?_;· first | exact trivial | rfl | exact ⟨rfl,rfl⟩ | exact ⟨trivial,rfl⟩ | exact ⟨rfl,by assumption⟩ | exact ⟨trivial,by assumption⟩ | exact ⟨rfl,rfl,rfl⟩ | (simp (disch:=omega) only[nV,nW];done) | ((try simp (disch:=omega) only[nV,nW]);omega)) | fail
           refine Tr.aj ⟨_,rfl⟩ (Tr.ae (fun hN2=>?_) (fun hN2=>?_))
           · refine tl (.inl ⟨_,_,_,rfl,by show (AT dr lc zc lb zb [cM dr lc zc lb zb,bF (M+1) z false]).length≤1000;omega⟩) ⟨_,rfl⟩ e1 e1 (fun h=>?_) ⟨rfl,rfl⟩
             exfalso
             have h:=hX (hI.symm.trans h)
             have hN2:(AT dr lc zc lb zb [cM dr lc zc lb zb,bF (M+1) (uI z k) false]).isEmpty=true:=hN2
             rw[List.isEmpty_iff] at hN2
             rw[hN2] at h;cases h
           · refine tl (.inl ⟨_,_,_,rfl,by show (AT dr lc zc lb zb [cM dr lc zc lb zb,bF (M+1) z false]).length≤1000;omega⟩) ⟨_,rfl⟩ e1 e1 (fun h=>⟨.inl ⟨_,_,_,rfl,by show (AT dr lc zc lb zb [cM dr lc zc lb zb,bF (M+1) (uI z k) false]).length≤1000;omega⟩,?_⟩) ⟨rfl,rfl⟩
             exact (Ho dr lc zc lb zb [cM dr lc zc lb zb,bF (M+1) (uI z k) false] (k:Int)).trans (decide_eq_true (hX (hI.symm.trans h)))
     · refine bK (n:=n+18) Tryd.func12 rfl rfl rfl T (lA _ (n+16) 2 ht) (ak _ _) (al _ _) ?_
       clear T ht
       have hN1:Fi dr lc zc lb zb [cM dr lc zc lb zb,bF m z false]=true:=by
        unfold Fi
        have hl:(AT dr lc zc lb zb [cM dr lc zc lb zb,bF m z false]).length=0:=by
         by_cases q:iR lc (dg dr lc zc) lb zb m z=0
         · rw[xb dr lc zc lb zb q]
           have:=qI (dg dr lc zc) (gJ lb zb) z (m-1)
           omega
         · rw[DZ dr lc zc lb zb q];rfl
        rw[List.isEmpty_iff];exact List.eq_nil_of_length_eq_zero hl
       refine Tr.ae (fun q=>by exfalso;simp (disch:=omega) only[nV,nW] at q;omega) (fun _=>Tr.ae (fun _=>Tr.aj rfl (Tr.ae (fun q=>by simp[aG,aZ] at q) (fun _=>Tr.ae (fun q=>by exfalso;simp (disch:=omega) only[nV,nW] at q;omega) (fun _=>Tr.aj ⟨z,rfl⟩ (Tr.ae (fun hN=>?_) (fun hN=>?_)))))) (fun q=>by exfalso;simp (disch:=omega) only[nV,nW] at q;omega))
       · refine Tr.aj ⟨z,rfl⟩ (Tr.ae (fun q=>by simp[aG,aZ] at q) (fun _=>Tr.ae (fun q=>Tr.aj rfl (Tr.ae (fun _=>Tr.aj trivial (Tr.ah ⟨rfl,rfl⟩)) (fun q2=>?_))) (fun q=>Tr.ae (fun _=>Tr.ae (fun _=>Tr.aj trivial (Tr.ah ⟨rfl,rfl⟩)) (fun q2=>?_)) (fun q2=>by exfalso;simp (disch:=omega) only[nV,nW] at q2;omega))))
         · exfalso
           rw[aZ] at q2
           have q2:(iR lc (dg dr lc zc) lb zb m z == iR lc (dg dr lc zc) lb zb m z)=false:=q2
           simp at q2
         · exfalso
           rw[aG,aZ] at q
           have q:(!(iR lc (dg dr lc zc) lb zb m z == Int.ofNat 0))=false:=q
           have hz:iR lc (dg dr lc zc) lb zb m z=0:=by simpa using q
           have:=(eK.1 (Dd hz)).1
           simp (disch:=omega) only[nV,nW] at q2;omega
       · exact absurd (hN1.symm.trans hN) (by decide)
   · refine bK (n:=n+18) Tryd.func12 rfl rfl rfl (Ph (n+16) dr lc zc lb zb H m z w (iU dr lc zc lb zb)) (lA _ (n+16) 2 (fun q=>eg (Ms (by omega) (bx _)) (fun H=>by
      rw[show n+16+q=n+13+q+3 by omega]
      exact MR (n+13+q) dr lc zc lb zb H (by omega) (by omega)))) (ak _ _) (al _ _) ?_
     refine Tr.ae (fun _=>Tr.aj trivial (Tr.ah ⟨rfl,rfl⟩)) (fun _=>Tr.ae (fun _=>Tr.aj rfl (Tr.ae (fun _=>Tr.aj trivial (Tr.ah ⟨rfl,rfl⟩)) (fun q=>Tr.ae (fun _=>Tr.aj trivial (Tr.ah ⟨rfl,rfl⟩)) (fun q2=>?_)))) (fun _=>Tr.aj trivial (Tr.ah ⟨rfl,rfl⟩)))
     exfalso
     rw[aG,aZ] at q
     have q:iU dr lc zc lb zb=0:=by simpa using q
     simp (disch:=omega) only[nV,nW] at q2
     omega
 · refine bK (n:=n+18) Tryd.func12 rfl rfl rfl (Pg (n+16) dr lc zc lb zb H m z w) (lA _ (n+16) 2 (fun q=>L3 (Ms (by omega) (bx _)))) (ak _ _) (al _ _) ?_
   refine Tr.ae (fun _=>Tr.aj trivial (Tr.ah ⟨rfl,rfl⟩)) (fun q=>Tr.ae (fun q2=>?_) (fun _=>Tr.aj trivial (Tr.ah ⟨rfl,rfl⟩)))
   exfalso
   simp (disch:=omega) only[nV,nW] at q
   simp (disch:=omega) only[nV,nW] at q2
   omega
end
end Go.Eng
end
section
namespace Go.Proofs.YtgphpjdchnfjlaaDoor
open Go.ChangeShapes Go.WideShapes Go.ChangeAt Go.RowKit
theorem Tryd.own:ownKnob Tryd.prog.godebug=none:=by kernel_rfl
def zX:List (String×DataW Unit):=[("math/bits.deBruijn32tab",Rows.laid_math_bits_deBruijn32tab),("math/bits.deBruijn64tab",Rows.laid_math_bits_deBruijn64tab)]
def t32:List Int:=Go.Lib.deBruijn32tab.map fun n:Nat=>(n:Int)
def t64:List Int:=Go.Lib.deBruijn64tab.map fun n:Nat=>(n:Int)
theorem Mc:(Rows.laid_math_bits_deBruijn64tab:DataW Unit)=Lib.tabData .u8 t64:=by kernel_rfl
set_option maxRecDepth 100000 in
theorem DJ {W:World} (h:laidMetH Tryd.prog zX W):Eng.kX W:=by
 have h':laidMet Tryd.prog zX W:=h
 obtain ⟨ps,hv,_⟩:=h'
 obtain ⟨_,_,_,_,_,_,_,_,_,_,hv,_⟩:=hv
 obtain ⟨g,t,cs,fuel,p,q,h1,h2,h3,h4,_⟩:=hv
 obtain rfl:1=g:=Option.some.inj ((show Tryd.prog.globalNamed "math/bits.deBruijn64tab" = some 1 by kernel_rfl).symm.trans h1)
 obtain rfl:139=t:=Option.some.inj ((show (Tryd.prog.globals[1]?).map (·.type)=some 139 by kernel_rfl).symm.trans h2)
 rw[Mc] at h4
 have hcs:=Lib.cells_of_tab Tryd.underlying139 Tryd.underlying5 (by kernel_rfl) (by kernel_rfl) h4
 intro b o v hg
 unfold Eng.nX at hg
 split at hg
 · rename_i hbo
   obtain ⟨rfl,ho⟩:=hbo
   simp only[Option.some.injEq] at hg
   subst hg
   rw[World.var?_cell h1 h3 o,← Array.getElem?_toList,hcs,List.getElem?_map]
   have hl:Go.Lib.deBruijn64tab.length=64:=by decide
   rw[t64,List.getElem?_map,List.getElem?_eq_getElem (by omega)]
   simp only[Option.map_some,List.getD_eq_getElem?_getD,List.getElem?_eq_getElem (show o<Go.Lib.deBruijn64tab.length by omega),Option.getD_some]
 · cases hg
noncomputable def pj (os:Os):World :=
 let w0:=World.holding Tryd.prog os ⟨#[],#[],[]⟩
 let put (h:Array Obj) (g:Nat) (cs:Array Value):Array Obj:=h.modify g fun
  | .cells _ t frozen=>.cells cs t frozen
  | o=>o
 { w0 with heap:=put (put w0.heap 0 (t32.map fun z=>Value.int .u8 z).toArray) 1 (t64.map fun z=>Value.int .u8 z).toArray }
theorem F4 (os:Os) (args:Array Value):LaidIn Tryd.prog ((pj os).forCall (fun _ _=>0) ⟨#[],args,[]⟩).memory zX [0,1] :=
 LaidIn.of_run [0,1] 8 (by kernel_rfl) (by kernel_rfl) (by kernel_rfl) (by kernel_rfl)
theorem DV (os:Os) (args:Array Value):laidMetH Tryd.prog zX ((pj os).forCall (fun _ _=>0) ⟨#[],args,[]⟩).memory:=(F4 os args).met
end Go.Proofs.YtgphpjdchnfjlaaDoor
end
section
namespace Go.Eng.Gall
open Go.Proofs
def L4:List bW:=[]
theorem Bq:∀ e ∈ L4,ay Tryd.prog e:=Gn
noncomputable def E1:bW:=⟨46,[],.agg (.G [.int .i64 10,.slcT none (.I .i64 [100,110,60,110,90,95,75,100,120,125,80,110,80,80,70,200]) 4 4 true,.slcT none (.I .i64 [3,1]) 2 1 true])⟩
theorem S6:ay Tryd.prog E1:=aS Bq (H':=[⟨true,[]⟩]) (by kernel_rfl) (by kernel_rfl)
noncomputable def L5:List bW:=E1::L4
theorem Bs:∀ e ∈ L5,ay Tryd.prog e:=aP S6 Bq
noncomputable def E2:bW:=⟨47,[],.agg (.G [.int .i64 10,.slcT none (.I .i64 [100,110,90,110,90,95,75,100,120,125,80,110,80,80,70,200]) 4 4 true,.slcT none (.I .i64 [3,1]) 2 1 true])⟩
theorem S7:ay Tryd.prog E2:=aS Bs (H':=[⟨true,[]⟩]) (by kernel_rfl) (by kernel_rfl)
noncomputable def L6:List bW:=E2::L5
theorem Bt:∀ e ∈ L6,ay Tryd.prog e:=aP S7 Bs
noncomputable def E3:bW:=⟨22,[.agg (.G [.int .i64 10,.slcT none (.I .i64 [100,110,60,110,90,95,75,100,120,125,80,110,80,80,70,200]) 4 4 true,.slcT none (.I .i64 [3,1]) 2 1 true])],.int .i64 0⟩
theorem S8:ay Tryd.prog E3:=aS Bt (H':=[⟨true,[]⟩]) (by kernel_rfl) (by kernel_rfl)
noncomputable def L7:List bW:=E3::L6
theorem Bu:∀ e ∈ L7,ay Tryd.prog e:=aP S8 Bt
noncomputable def E4:bW:=⟨16,[.agg (.G [.int .i64 10,.slcT none (.I .i64 [100,110,60,110,90,95,75,100,120,125,80,110,80,80,70,200]) 4 4 true,.slcT none (.I .i64 [3,1]) 2 1 true]),.int .i64 2,.int .i64 2],.tup [.agg (.I .i64 [100,105]),.int .i64 0]⟩
theorem S9:ay Tryd.prog E4:=aS Bu (H':=[⟨true,[]⟩]) (by kernel_rfl) (by kernel_rfl)
noncomputable def L8:List bW:=E4::L7
theorem Bv:∀ e ∈ L8,ay Tryd.prog e:=aP S9 Bu
end Go.Eng.Gall
end
section
namespace Go.Eng.Gall
open Go.Proofs
noncomputable def E5:bW:=⟨18,[.agg (.G [.int .i64 10,.slcT none (.I .i64 [100,110,60,110,90,95,75,100,120,125,80,110,80,80,70,200]) 4 4 true,.slcT none (.I .i64 [3,1]) 2 1 true]),.int .i64 2],.tup [.agg (.I .i64 [2,3]),.int .i64 0]⟩
theorem Ta:ay Tryd.prog E5:=aS Bv (H':=[⟨true,[]⟩]) (by kernel_rfl) (by kernel_rfl)
noncomputable def L9:List bW:=E5::L8
theorem Bw:∀ e ∈ L9,ay Tryd.prog e:=aP Ta Bv
noncomputable def E6:bW:=⟨56,[.ptrT none (.G [.int .i64 10,.slcT none (.I .i64 [100,110,60,110,90,95,75,100,120,125,80,110,80,80,70,200]) 4 4 true,.slcT none (.I .i64 [3,1]) 2 1 true,.int .i64 0,.int .i64 3,.int .i64 0,.int .i64 1,.int .i64 2,.int .i64 3,.int .i64 0,.int .i64 1,.int .i64 0,.int .i64 0,.int .i64 0,.int .i64 0,.int .i64 0,.int .i64 0,.int .i64 0,.int .i64 0,.int .i64 0,.int .i64 0,.int .i64 0,.int .i64 0,.int .u64 0,.int .u64 8,.int .u64 0,.int .u64 0,.int .u64 0,.int .u64 0,.int .u64 0,.int .u64 0,.int .u64 0,.int .u64 0]) 0],.agg (.I .i64 [0,3,1,1,2,3,0,0,0,0,0,0,0,0,0,0,0,0,0,0])⟩
theorem Tb:ay Tryd.prog E6:=aS Bw (H':=[⟨true,[]⟩]) (by kernel_rfl) (by kernel_rfl)
noncomputable def Mb:List bW:=E6::L9
theorem Bx:∀ e ∈ Mb,ay Tryd.prog e:=aP Tb Bw
noncomputable def E7:bW:=⟨20,[.agg (.G [.int .i64 10,.slcT none (.I .i64 [100,110,60,110,90,95,75,100,120,125,80,110,80,80,70,200]) 4 4 true,.slcT none (.I .i64 [3,1]) 2 1 true]),.int .i64 1],.tup [.agg (.I .i64 [1,1]),.int .i64 0]⟩
theorem Tc:ay Tryd.prog E7:=aS Bx (H':=[⟨true,[]⟩]) (by kernel_rfl) (by kernel_rfl)
noncomputable def Md:List bW:=E7::Mb
theorem By:∀ e ∈ Md,ay Tryd.prog e:=aP Tc Bx
noncomputable def E8:bW:=⟨49,[.agg (.G [.int .i64 10,.slcT none (.I .i64 [100,110,60,110,90,95,75,100,120,125,80,110,80,80,70,200]) 4 4 true,.slcT none (.I .i64 [3,1]) 2 1 true]),.nils],.tup [.ptrT none (.G [.int .i64 10,.slcT none (.I .i64 [100,110,60,110,90,95,75,100,120,125,80,110,80,80,70,200]) 4 4 true,.slcT none (.I .i64 [3,1]) 2 1 true,.int .i64 0,.int .i64 3,.int .i64 0,.int .i64 1,.int .i64 2,.int .i64 3,.int .i64 0,.int .i64 1,.int .i64 0,.int .i64 0,.int .i64 0,.int .i64 0,.int .i64 0,.int .i64 0,.int .i64 0,.int .i64 0,.int .i64 0,.int .i64 0,.int .i64 0,.int .i64 0,.int .u64 0,.int .u64 8,.int .u64 0,.int .u64 0,.int .u64 0,.int .u64 0,.int .u64 0,.int .u64 0,.int .u64 0,.int .u64 0]) 0,.int .i64 0]⟩
theorem Td:ay Tryd.prog E8:=aS By (H':=[⟨true,[]⟩]) (by kernel_rfl) (by kernel_rfl)
noncomputable def Me:List bW:=E8::Md
theorem Bz:∀ e ∈ Me,ay Tryd.prog e:=aP Td By
end Go.Eng.Gall
end
section
namespace Go.Eng.Gall
open Go.Proofs
noncomputable def E9:bW:=⟨65,[.ptrT none (.G [.int .i64 10,.slcT none (.I .i64 [100,110,60,110,90,95,75,100,120,125,80,110,80,80,70,200]) 4 4 true,.slcT none (.I .i64 [3,1]) 2 1 true,.int .i64 0,.int .i64 3,.int .i64 0,.int .i64 1,.int .i64 2,.int .i64 3,.int .i64 0,.int .i64 1,.int .i64 0,.int .i64 0,.int .i64 0,.int .i64 0,.int .i64 0,.int .i64 0,.int .i64 0,.int .i64 0,.int .i64 0,.int .i64 0,.int .i64 0,.int .i64 0,.int .u64 0,.int .u64 8,.int .u64 0,.int .u64 0,.int .u64 0,.int .u64 0,.int .u64 0,.int .u64 0,.int .u64 0,.int .u64 0]) 0],.tup [.agg (.G [.int .i64 0,.int .i64 0,.nils]),.bool false]⟩
theorem Te:ay Tryd.prog E9:=aS Bz (H':=[⟨true,[]⟩]) (by kernel_rfl) (by kernel_rfl)
noncomputable def Mf:List bW:=E9::Me
theorem BA:∀ e ∈ Mf,ay Tryd.prog e:=aP Te Bz
noncomputable def PC:bW:=⟨56,[.ptrT none (.G [.int .i64 10,.slcT none (.I .i64 [100,110,60,110,90,95,75,100,120,125,80,110,80,80,70,200]) 4 4 true,.slcT none (.I .i64 [3,1]) 2 1 true,.int .i64 0,.int .i64 0,.int .i64 0,.int .i64 1,.int .i64 2,.int .i64 3,.int .i64 0,.int .i64 1,.int .i64 0,.int .i64 0,.int .i64 0,.int .i64 0,.int .i64 0,.int .i64 0,.int .i64 0,.int .i64 0,.int .i64 0,.int .i64 0,.int .i64 0,.int .i64 0,.int .u64 0,.int .u64 8,.int .u64 0,.int .u64 0,.int .u64 0,.int .u64 0,.int .u64 0,.int .u64 0,.int .u64 0,.int .u64 0]) 0],.agg (.I .i64 [0,0,1,1,2,3,0,0,0,0,0,0,0,0,0,0,0,0,0,0])⟩
theorem Ob:ay Tryd.prog PC:=aS BA (H':=[⟨true,[]⟩]) (by kernel_rfl) (by kernel_rfl)
noncomputable def HH:List bW:=PC::Mf
theorem x5:∀ e ∈ HH,ay Tryd.prog e:=aP Ob BA
noncomputable def PD:bW:=⟨65,[.ptrT none (.G [.int .i64 10,.slcT none (.I .i64 [100,110,60,110,90,95,75,100,120,125,80,110,80,80,70,200]) 4 4 true,.slcT none (.I .i64 [3,1]) 2 1 true,.int .i64 0,.int .i64 0,.int .i64 0,.int .i64 1,.int .i64 2,.int .i64 3,.int .i64 0,.int .i64 1,.int .i64 0,.int .i64 0,.int .i64 0,.int .i64 0,.int .i64 0,.int .i64 0,.int .i64 0,.int .i64 0,.int .i64 0,.int .i64 0,.int .i64 0,.int .i64 0,.int .u64 0,.int .u64 8,.int .u64 0,.int .u64 0,.int .u64 0,.int .u64 0,.int .u64 0,.int .u64 0,.int .u64 0,.int .u64 0]) 0],.tup [.agg (.G [.int .i64 0,.int .i64 0,.slcT none (.I .i64 [0,3]) 1 2 false]),.bool true]⟩
theorem Oc:ay Tryd.prog PD:=aS x5 (H':=[⟨true,[]⟩]) (by kernel_rfl) (by kernel_rfl)
noncomputable def HI:List bW:=PD::HH
theorem x6:∀ e ∈ HI,ay Tryd.prog e:=aP Oc x5
noncomputable def PE:bW:=⟨56,[.ptrT none (.G [.int .i64 10,.slcT none (.I .i64 [100,110,60,110,90,95,75,100,120,125,80,110,80,80,70,200]) 4 4 true,.slcT none (.I .i64 [3,1]) 2 1 true,.int .i64 0,.int .i64 3,.int .i64 0,.int .i64 1,.int .i64 2,.int .i64 3,.int .i64 0,.int .i64 0,.int .i64 0,.int .i64 0,.int .i64 0,.int .i64 0,.int .i64 0,.int .i64 0,.int .i64 0,.int .i64 0,.int .i64 0,.int .i64 0,.int .i64 0,.int .i64 0,.int .u64 0,.int .u64 8,.int .u64 0,.int .u64 0,.int .u64 0,.int .u64 0,.int .u64 0,.int .u64 0,.int .u64 0,.int .u64 0]) 0],.agg (.I .i64 [0,3,1,1,2,3,0,0,0,0,0,0,0,0,0,0,0,0,0,0])⟩
theorem Od:ay Tryd.prog PE:=aS x6 (H':=[⟨true,[]⟩]) (by kernel_rfl) (by kernel_rfl)
noncomputable def Br:List bW:=PE::HI
theorem x7:∀ e ∈ Br,ay Tryd.prog e:=aP Od x6
end Go.Eng.Gall
end
section
namespace Go.Eng.Gall
open Go.Proofs
noncomputable def PF:bW:=⟨65,[.ptrT none (.G [.int .i64 10,.slcT none (.I .i64 [100,110,60,110,90,95,75,100,120,125,80,110,80,80,70,200]) 4 4 true,.slcT none (.I .i64 [3,1]) 2 1 true,.int .i64 0,.int .i64 3,.int .i64 0,.int .i64 1,.int .i64 2,.int .i64 3,.int .i64 0,.int .i64 0,.int .i64 0,.int .i64 0,.int .i64 0,.int .i64 0,.int .i64 0,.int .i64 0,.int .i64 0,.int .i64 0,.int .i64 0,.int .i64 0,.int .i64 0,.int .i64 0,.int .u64 0,.int .u64 8,.int .u64 0,.int .u64 0,.int .u64 0,.int .u64 0,.int .u64 0,.int .u64 0,.int .u64 0,.int .u64 0]) 0],.tup [.agg (.G [.int .i64 0,.int .i64 0,.nils]),.bool false]⟩
theorem Oe:ay Tryd.prog PF:=aS x7 (H':=[⟨true,[]⟩]) (by kernel_rfl) (by kernel_rfl)
noncomputable def HJ:List bW:=PF::Br
theorem x8:∀ e ∈ HJ,ay Tryd.prog e:=aP Oe x7
noncomputable def PG:bW:=⟨56,[.ptrT none (.G [.int .i64 10,.slcT none (.I .i64 [100,110,60,110,90,95,75,100,120,125,80,110,80,80,70,200]) 4 4 true,.slcT none (.I .i64 [3,1]) 2 1 true,.int .i64 1,.int .i64 1,.int .i64 0,.int .i64 1,.int .i64 2,.int .i64 3,.int .i64 0,.int .i64 0,.int .i64 0,.int .i64 0,.int .i64 0,.int .i64 0,.int .i64 0,.int .i64 0,.int .i64 0,.int .i64 0,.int .i64 0,.int .i64 0,.int .i64 0,.int .i64 0,.int .u64 0,.int .u64 8,.int .u64 0,.int .u64 0,.int .u64 0,.int .u64 0,.int .u64 0,.int .u64 0,.int .u64 0,.int .u64 0]) 0],.agg (.I .i64 [1,1,1,1,2,3,0,0,0,0,0,0,0,0,0,0,0,0,0,0])⟩
theorem Of:ay Tryd.prog PG:=aS x8 (H':=[⟨true,[]⟩]) (by kernel_rfl) (by kernel_rfl)
noncomputable def HK:List bW:=PG::HJ
theorem x9:∀ e ∈ HK,ay Tryd.prog e:=aP Of x8
noncomputable def PH:bW:=⟨65,[.ptrT none (.G [.int .i64 10,.slcT none (.I .i64 [100,110,60,110,90,95,75,100,120,125,80,110,80,80,70,200]) 4 4 true,.slcT none (.I .i64 [3,1]) 2 1 true,.int .i64 1,.int .i64 1,.int .i64 0,.int .i64 1,.int .i64 2,.int .i64 3,.int .i64 0,.int .i64 0,.int .i64 0,.int .i64 0,.int .i64 0,.int .i64 0,.int .i64 0,.int .i64 0,.int .i64 0,.int .i64 0,.int .i64 0,.int .i64 0,.int .i64 0,.int .i64 0,.int .u64 0,.int .u64 8,.int .u64 0,.int .u64 0,.int .u64 0,.int .u64 0,.int .u64 0,.int .u64 0,.int .u64 0,.int .u64 0]) 0],.tup [.agg (.G [.int .i64 0,.int .i64 1,.slcT none (.I .i64 [0,1,3]) 1 3 false]),.bool true]⟩
theorem Og:ay Tryd.prog PH:=aS x9 (H':=[⟨true,[]⟩]) (by kernel_rfl) (by kernel_rfl)
noncomputable def HL:List bW:=PH::HK
theorem ya:∀ e ∈ HL,ay Tryd.prog e:=aP Og x9
noncomputable def PI:bW:=⟨56,[.ptrT none (.G [.int .i64 10,.slcT none (.I .i64 [100,110,60,110,90,95,75,100,120,125,80,110,80,80,70,200]) 4 4 true,.slcT none (.I .i64 [3,1]) 2 1 true,.int .i64 0,.int .i64 3,.int .i64 1,.int .i64 1,.int .i64 2,.int .i64 3,.int .i64 0,.int .i64 0,.int .i64 0,.int .i64 0,.int .i64 0,.int .i64 0,.int .i64 0,.int .i64 0,.int .i64 0,.int .i64 0,.int .i64 0,.int .i64 0,.int .i64 0,.int .i64 0,.int .u64 0,.int .u64 8,.int .u64 0,.int .u64 0,.int .u64 0,.int .u64 0,.int .u64 0,.int .u64 0,.int .u64 0,.int .u64 0]) 0],.agg (.I .i64 [0,3,1,1,2,3,0,0,0,0,0,0,0,0,0,0,0,0,0,0])⟩
theorem Oh:ay Tryd.prog PI:=aS ya (H':=[⟨true,[]⟩]) (by kernel_rfl) (by kernel_rfl)
noncomputable def HM:List bW:=PI::HL
theorem yb:∀ e ∈ HM,ay Tryd.prog e:=aP Oh ya
end Go.Eng.Gall
end
