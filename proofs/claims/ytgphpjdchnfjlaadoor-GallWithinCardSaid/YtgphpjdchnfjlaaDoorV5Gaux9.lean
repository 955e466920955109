/- Gall: CheckOrder by the reference: trees. -/
import Derived.Test.YtgphpjdchnfjlaaDoorV5Gp6x4
set_option linter.unusedVariables false
set_option linter.unusedSimpArgs false
set_option maxRecDepth 100000
section
namespace Go.Eng
open Int (ofNat)
open Go.Proofs Go.Eng.Gall
noncomputable def nC (m:Nat) (z:Nat→Int) (i:Int):aD:=[(1,aP m z false),(2,.ptr 0 0 0 0),(5,.int .i64 i)]
noncomputable def yw (m:Nat) (z:Nat→Int) (i j:Int):aD:=[(1,aP m z false),(2,.ptr 0 0 0 0),(5,.int .i64 i),(6,.int .i64 j)]
noncomputable def wX (m:Nat) (z:Nat→Int) (i:Int):aD:=[(1,aP m z false),(2,.ptr 0 0 0 0),(6,.int .i64 i)]
noncomputable def wY (m:Nat) (z:Nat→Int) (i j:Int):aD:=[(1,aP m z false),(2,.ptr 0 0 0 0),(6,.int .i64 i),(7,.int .i64 j)]
theorem YL (n:Nat) (O:Int) (U:Nat) (Z:Nat→Int) (V:Nat) (J:Nat→Int) (H:aa) (m:Nat) (z:Nat→Int) (e:Bool):aZ Tryd.prog (cd n) 100000 77 Tryd.f77 (KtG.kt 77) (il aC n 0) (cE aK 0 (nC m z (ofNat 0)) (bU O U Z V J::H) (.ite e (.ok (.ret,[(4,.bool false,none)],bU O U Z V J::H)) (.ok (.normal,hints (nC m z (ofNat m)++[(16,.bool false)]),bU O U Z V J::H)))) aJ [(bt O U Z V J,none),(aP m z false,none)] H =
 Tr.ite (bf (cq (ofNat m) (ofNat U))) (Tr.ok ((AV.bool false,some 1),H)) (Tr.reqP ([(1,aP m z false),(2,AV.ptr 0 0 0 0),(5,iI 0)]=[(1,aP m z false),(2,AV.ptr 0 0 0 0),(5,iI 0)]∧(bm [(0,dc O U Z V J)])::H=(bm [(0,dc O U Z V J)])::H) (Tr.ite e (Tr.ok ((AV.bool false,none),H)) (Tr.ok ((AV.bool true,some 1),H)))):=by kernel_rfl
theorem TM (n:Nat) (O:Int) (U:Nat) (Z:Nat→Int) (V:Nat) (J:Nat→Int) (H:aa) (m:Nat) (z:Nat→Int) (i:Int) (q:Bool):aF (bJ (n+1) 77 40) (il aC n 1) (cE aK 2 (yw m z i (ofNat 0)) (bU O U Z V J::H) (.ite q (.ok (.ret,[(4,.bool false,none)],bU O U Z V J::H)) (.ok (.normal,hints (yw m z i i++[(28,.bool false)]),bU O U Z V J::H)))) aJ (part Tryd.f77 [1,1,0,1,0,0]) (hints (nC m z i)) (bU O U Z V J::H) =
 (fun (Z0:bC)=>Tr.ite (bF i (ofNat m)) (Tr.req (cu i m) (Tr.req (bX (aq 0 i 1) m) (Tr.ite (di (ofNat 0) (z (aq 0 i 1))) (Tr.ite (bf (bF (z (aq 0 i 1)) (ofNat U))) (Tr.ok (Ex.ret,[(4,AV.bool false,some 1)],Z0::H)) (Tr.reqP ([(1,aP m z false),(2,AV.ptr 0 0 0 0),(5,AV.int .i64 i),(6,iI 0)]=[(1,aP m z false),(2,AV.ptr 0 0 0 0),(5,AV.int .i64 i),(6,iI 0)]∧Z0::H=Z0::H) (Tr.ite q (Tr.ok (Ex.ret,[(4,AV.bool false,none)],Z0::H)) (Tr.ok (Ex.normal,[(1,aP m z false,none),(2,AV.ptr 0 0 0 0,none),(5,AV.int .i64 (bj .i64 i (ofNat 1)),none)],Z0::H))))) (Tr.ok (Ex.ret,[(4,AV.bool false,some 1)],Z0::H))))) (Tr.ok (Ex.exit 0,[(1,aP m z false,none),(2,AV.ptr 0 0 0 0,none),(5,AV.int .i64 i,none),(16,AV.bool false,some 1)],Z0::H))) (bm [(0,dc O U Z V J)]):=by kernel_rfl
theorem Qg (n:Nat) (O:Int) (U:Nat) (Z:Nat→Int) (V:Nat) (J:Nat→Int) (H:aa) (m:Nat) (z:Nat→Int) (i:Int):aF (bJ (n+1) 77 40) (il aC n 1) (eI aK 2) aJ (part Tryd.f77 [1,1,0,1,0,0]) (hints (nC m z i)) (bU O U Z V J::H) =
 Tr.ite (bF i (ofNat m)) (Tr.req (cu i m) (Tr.req (bX (aq 0 i 1) m) (Tr.ite (di (ofNat 0) (z (aq 0 i 1))) (Tr.ite (bf (bF (z (aq 0 i 1)) (ofNat U))) (Tr.ok (Ex.ret,[(4,AV.bool false,some 1)],(bm [(0,dc O U Z V J)])::H)) Tr.bad) (Tr.ok (Ex.ret,[(4,AV.bool false,some 1)],(bm [(0,dc O U Z V J)])::H))))) (Tr.ok (Ex.exit 0,[(1,aP m z false,none),(2,AV.ptr 0 0 0 0,none),(5,AV.int .i64 i,none),(16,AV.bool false,some 1)],(bm [(0,dc O U Z V J)])::H)):=by kernel_rfl
theorem Qf (n:Nat) (O:Int) (U:Nat) (Z:Nat→Int) (V:Nat) (J:Nat→Int) (H:aa) (m:Nat) (z:Nat→Int) (i j:Int):aF (bJ (n+1) 77 40) (il aC n 1) aK aJ (part Tryd.f77 [1,1,0,1,0,0,1,0,0,1,1,0,0]) (hints (yw m z i j)) (bU O U Z V J::H) =
 Tr.ite (bF j i) (Tr.req (cu j m) (Tr.req (bX (aq 0 j 1) m) (Tr.req (cu i m) (Tr.req (bX (aq 0 i 1) m) (Tr.ite (cq (z (aq 0 j 1)) (z (aq 0 i 1))) (Tr.ok (Ex.ret,[(4,AV.bool false,some 1)],(bm [(0,dc O U Z V J)])::H)) (Tr.ok (Ex.normal,[(1,aP m z false,none),(2,AV.ptr 0 0 0 0,none),(5,AV.int .i64 i,none),(6,AV.int .i64 (bj .i64 j (ofNat 1)),none)],(bm [(0,dc O U Z V J)])::H))))))) (Tr.ok (Ex.exit 2,[(1,aP m z false,none),(2,AV.ptr 0 0 0 0,none),(5,AV.int .i64 i,none),(6,AV.int .i64 j,none),(28,AV.bool false,some 1)],(bm [(0,dc O U Z V J)])::H)):=by kernel_rfl
theorem YM (n:Nat) (O:Int) (U:Nat) (Z:Nat→Int) (V:Nat) (J:Nat→Int) (H:aa) (c p:Int):aZ Tryd.prog (cd (n+1)) 100000 78 Tryd.f78 (KtG.kt 78) (il aC n 1) aK aJ [(bt O U Z V J,none),(.int .i64 c,none),(.int .i64 p,none)] H =
 Tr.req (cu c U) (Tr.req (bX (aq 0 c 4) (cr U 4)) (Tr.req (bX (au (aq 0 c 4) 1) (cr U 4)) (Tr.req (cu c U) (Tr.req (bX (aq 0 c 4) (cr U 4)) (Tr.req (bX (au (aq 0 c 4) 1) (cr U 4)) (Tr.req (bX (au (aq 0 c 4) 2) (cr U 4)) (Tr.req (bX (au (aq 0 c 4) 3) (cr U 4)) (Tr.req (bT (dW 0 0) (dW 0 1)) (Tr.req (bT (dW 0 0) (dW 0 1)) (Tr.ite (di (Z (au (aq 0 c 4) 2)) (bL .i64 (Z (aq 0 c 4)) (ly .i64 p O))) (Tr.ok ((AV.bool (di (bL .i64 (Z (au (aq 0 c 4) 1)) (ly .i64 p O)) (Z (au (aq 0 c 4) 3))),none),H)) (Tr.ok ((AV.bool false,some 1),H)))))))))))):=by kernel_rfl
theorem Yx (n:Nat) (O:Int) (U:Nat) (Z:Nat→Int) (V:Nat) (J:Nat→Int) (H:aa) (m:Nat) (z:Nat→Int) (e q r:Bool):aZ Tryd.prog (cd n) 100000 40 Tryd.f40 (KtG.kt 40) (il (tX (tX aC 23 [bt O U Z V J] (.int .i64 (ofNat 0))) 77 [bt O U Z V J,aP m z false] (.bool e)) n 0) (cE (cE aK 0 (nC m z (ofNat 0)) (bU O U Z V J::H) (.ite q (.ok (.ret,[(4,.int .i64 (ofNat 21),none)],bU O U Z V J::H)) (.ok (.normal,hints (nC m z (ofNat m)++[(20,.bool false)]),bU O U Z V J::H)))) 2 (wX m z (ofNat 0)) (bU O U Z V J::H) (.ite r (.ok (.ret,[(4,.int .i64 (ofNat 16),none)],bU O U Z V J::H)) (.ok (.normal,hints (wX m z (ofNat m)++[(34,.bool false)]),bU O U Z V J::H)))) aJ [(bt O U Z V J,none),(aP m z false,none)] H =
 (fun (Z0:bC)=>Tr.reqP ([bt O U Z V J]=[bt O U Z V J]) (Tr.ite (bf (cq (ofNat 0) (ofNat 0))) (Tr.reqP ([bt O U Z V J]=[bt O U Z V J]) (Tr.ok ((iI 0,none),H))) (Tr.reqP ([bt O U Z V J,aP m z false]=[bt O U Z V J,aP m z false]) (Tr.ite (bf e) (Tr.ok ((iI 15,some 1),H)) (Tr.reqP ([(1,aP m z false),(2,AV.ptr 0 0 0 0),(5,iI 0)]=[(1,aP m z false),(2,AV.ptr 0 0 0 0),(5,iI 0)]∧Z0::H=Z0::H) (Tr.ite q (Tr.ok ((iI 21,none),H)) (Tr.reqP ([(1,aP m z false),(2,AV.ptr 0 0 0 0),(6,iI 0)]=[(1,aP m z false),(2,AV.ptr 0 0 0 0),(6,iI 0)]∧Z0::H=Z0::H) (Tr.ite r (Tr.ok ((iI 16,none),H)) (Tr.ok ((iI 0,some 1),H)))))))))) (bm [(0,dc O U Z V J)]):=by kernel_rfl
theorem T5 (n:Nat) (O:Int) (U:Nat) (Z:Nat→Int) (V:Nat) (J:Nat→Int) (H:aa) (m:Nat) (z:Nat→Int) (e:Bool):aZ Tryd.prog (cd n) 100000 40 Tryd.f40 (KtG.kt 40) (il (tX (tX aC 23 [bt O U Z V J] (.int .i64 (ofNat 0))) 77 [bt O U Z V J,aP m z false] (.bool e)) n 0) (eI (eI aK 0) 2) aJ [(bt O U Z V J,none),(aP m z false,none)] H =
 Tr.reqP ([bt O U Z V J]=[bt O U Z V J]) (Tr.ite (bf (cq (ofNat 0) (ofNat 0))) (Tr.reqP ([bt O U Z V J]=[bt O U Z V J]) (Tr.ok ((iI 0,none),H))) (Tr.reqP ([bt O U Z V J,aP m z false]=[bt O U Z V J,aP m z false]) (Tr.ite (bf e) (Tr.ok ((iI 15,some 1),H)) Tr.bad))):=by kernel_rfl
theorem TF (n:Nat) (O:Int) (U:Nat) (Z:Nat→Int) (V:Nat) (J:Nat→Int) (H:aa) (m:Nat) (z:Nat→Int) (i c:Int) (q:Bool):aF (bJ n 40 52) (il (tX aC 78 [bt O U Z V J,.int .i64 c,.int .i64 i] (.bool q)) n 0) aK aJ (part Tryd.f40 [1,1,1,0,1,0,0]) (hints (nC m z i)) (bU O U Z V J::H) =
 Tr.ite (bF i (ofNat m)) (Tr.req (cu i m) (Tr.req (bX (aq 0 i 1) m) (Tr.reqP ([bt O U Z V J,AV.int .i64 (z (aq 0 i 1)),AV.int .i64 i]=[bt O U Z V J,AV.int .i64 c,AV.int .i64 i]) (Tr.ite (bf q) (Tr.ok (Ex.ret,[(4,iI 21,some 1)],(bm [(0,dc O U Z V J)])::H)) (Tr.ok (Ex.normal,[(1,aP m z false,none),(2,AV.ptr 0 0 0 0,none),(5,AV.int .i64 (bj .i64 i (ofNat 1)),none)],(bm [(0,dc O U Z V J)])::H)))))) (Tr.ok (Ex.exit 0,[(1,aP m z false,none),(2,AV.ptr 0 0 0 0,none),(5,AV.int .i64 i,none),(20,AV.bool false,some 1)],(bm [(0,dc O U Z V J)])::H)):=by kernel_rfl
theorem P2 (n:Nat) (O:Int) (U:Nat) (Z:Nat→Int) (V:Nat) (J:Nat→Int) (H:aa) (m:Nat) (z:Nat→Int) (i:Int):aF (bJ n 40 52) (il aC n 0) aK aJ (part Tryd.f40 [1,1,1,0,1,0,0]) (hints (nC m z i)) (bU O U Z V J::H) =
 Tr.ite (bF i (ofNat m)) (Tr.req (cu i m) (Tr.req (bX (aq 0 i 1) m) Tr.bad)) (Tr.ok (Ex.exit 0,[(1,aP m z false,none),(2,AV.ptr 0 0 0 0,none),(5,AV.int .i64 i,none),(20,AV.bool false,some 1)],(bm [(0,dc O U Z V J)])::H)):=by kernel_rfl
theorem TH (n:Nat) (O:Int) (U:Nat) (Z:Nat→Int) (V:Nat) (J:Nat→Int) (H:aa) (m:Nat) (z:Nat→Int) (i:Int) (q:Bool):aF (bJ n 40 52) (il aC n 0) (cE aK 4 (wY m z i (ofNat 0)) (bU O U Z V J::H) (.ite q (.ok (.ret,[(4,.int .i64 (ofNat 16),none)],bU O U Z V J::H)) (.ok (.normal,hints (wY m z i i++[(39,.bool false)]),bU O U Z V J::H)))) aJ (part Tryd.f40 [1,1,1,1,0,1,0,0]) (hints (wX m z i)) (bU O U Z V J::H) =
 (fun (Z0:bC)=>Tr.ite (bF i (ofNat m)) (Tr.reqP ([(1,aP m z false),(2,AV.ptr 0 0 0 0),(6,AV.int .i64 i),(7,iI 0)]=[(1,aP m z false),(2,AV.ptr 0 0 0 0),(6,AV.int .i64 i),(7,iI 0)]∧Z0::H=Z0::H) (Tr.ite q (Tr.ok (Ex.ret,[(4,iI 16,none)],Z0::H)) (Tr.ok (Ex.normal,[(1,aP m z false,none),(2,AV.ptr 0 0 0 0,none),(6,AV.int .i64 (bj .i64 i (ofNat 1)),none)],Z0::H)))) (Tr.ok (Ex.exit 2,[(1,aP m z false,none),(2,AV.ptr 0 0 0 0,none),(6,AV.int .i64 i,none),(34,AV.bool false,some 1)],Z0::H))) (bm [(0,dc O U Z V J)]):=by kernel_rfl
theorem P4 (n:Nat) (O:Int) (U:Nat) (Z:Nat→Int) (V:Nat) (J:Nat→Int) (H:aa) (m:Nat) (z:Nat→Int) (i:Int):aF (bJ n 40 52) (il aC n 0) (eI aK 4) aJ (part Tryd.f40 [1,1,1,1,0,1,0,0]) (hints (wX m z i)) (bU O U Z V J::H) =
 Tr.ite (bF i (ofNat m)) Tr.bad (Tr.ok (Ex.exit 2,[(1,aP m z false,none),(2,AV.ptr 0 0 0 0,none),(6,AV.int .i64 i,none),(34,AV.bool false,some 1)],(bm [(0,dc O U Z V J)])::H)):=by kernel_rfl
theorem TG (n:Nat) (O:Int) (U:Nat) (Z:Nat→Int) (V:Nat) (J:Nat→Int) (H:aa) (m:Nat) (z:Nat→Int) (i j a b:Int) (q:Bool):aF (bJ n 40 52) (il (tX aC 79 [bt O U Z V J,.int .i64 a,.int .i64 b] (.bool q)) n 0) aK aJ (part Tryd.f40 [1,1,1,1,0,1,0,0,1,0,0,1,0,0]) (hints (wY m z i j)) (bU O U Z V J::H) =
 Tr.ite (bF j i) (Tr.req (cu i m) (Tr.req (bX (aq 0 i 1) m) (Tr.req (cu j m) (Tr.req (bX (aq 0 j 1) m) (Tr.reqP ([bt O U Z V J,AV.int .i64 (z (aq 0 i 1)),AV.int .i64 (z (aq 0 j 1))]=[bt O U Z V J,AV.int .i64 a,AV.int .i64 b]) (Tr.ite q (Tr.ok (Ex.ret,[(4,iI 16,some 1)],(bm [(0,dc O U Z V J)])::H)) (Tr.ok (Ex.normal,[(1,aP m z false,none),(2,AV.ptr 0 0 0 0,none),(6,AV.int .i64 i,none),(7,AV.int .i64 (bj .i64 j (ofNat 1)),none)],(bm [(0,dc O U Z V J)])::H)))))))) (Tr.ok (Ex.exit 4,[(1,aP m z false,none),(2,AV.ptr 0 0 0 0,none),(6,AV.int .i64 i,none),(7,AV.int .i64 j,none),(39,AV.bool false,some 1)],(bm [(0,dc O U Z V J)])::H)):=by kernel_rfl
theorem P3 (n:Nat) (O:Int) (U:Nat) (Z:Nat→Int) (V:Nat) (J:Nat→Int) (H:aa) (m:Nat) (z:Nat→Int) (i j:Int):aF (bJ n 40 52) (il aC n 0) aK aJ (part Tryd.f40 [1,1,1,1,0,1,0,0,1,0,0,1,0,0]) (hints (wY m z i j)) (bU O U Z V J::H) =
 Tr.ite (bF j i) (Tr.req (cu i m) (Tr.req (bX (aq 0 i 1) m) (Tr.req (cu j m) (Tr.req (bX (aq 0 j 1) m) Tr.bad)))) (Tr.ok (Ex.exit 4,[(1,aP m z false,none),(2,AV.ptr 0 0 0 0,none),(6,AV.int .i64 i,none),(7,AV.int .i64 j,none),(39,AV.bool false,some 1)],(bm [(0,dc O U Z V J)])::H)):=by kernel_rfl
end Go.Eng
end
section
namespace Go.Eng
open Int (ofNat)
open Go.Proofs Go.Eng.Gall
theorem VK:∀ b,(0,b) ∈ aI (aW Tryd.f77)→b=.loop (part Tryd.f77 [1,1,0,1,0,0]):=dJ (by kernel_rfl)
theorem Q2:∀ b,(2,b) ∈ aI (part Tryd.f77 [1,1,0,1,0,0])→b=.loop (part Tryd.f77 [1,1,0,1,0,0,1,0,0,1,1,0,0]):=dJ (by kernel_rfl)
theorem VG:∀ b,(0,b) ∈ aI (aW Tryd.f40)→b=.loop (part Tryd.f40 [1,1,1,0,1,0,0]):=dJ (by kernel_rfl)
theorem QZ:∀ b,(2,b) ∈ aI (aW Tryd.f40)→b=.loop (part Tryd.f40 [1,1,1,1,0,1,0,0]):=dJ (by kernel_rfl)
theorem QY:∀ b,(4,b) ∈ aI (part Tryd.f40 [1,1,1,1,0,1,0,0])→b=.loop (part Tryd.f40 [1,1,1,1,0,1,0,0,1,0,0,1,0,0]):=dJ (by kernel_rfl)
section
variable (n:Nat) (O:Int) (U:Nat) (Z:Nat→Int) (V:Nat) (J:Nat→Int) (H:aa) (m:Nat) (z:Nat→Int)
theorem Sj (hm:m≤1000) (i:Nat) (hi:i<m):exec (bJ (n+1) 77 40) (.block 2 (.loop (part Tryd.f77 [1,1,0,1,0,0,1,0,0,1,1,0,0]))) (yw m z (i:Int) (ofNat 0)) (bU O U Z V J::H)=some (cond (dk (fun j=>decide (z j=z i)) i) (.ret,[(4,.bool false)],bU O U Z V J::H) (.normal,yw m z (i:Int) (i:Int)++[(28,.bool false)],bU O U Z V J::H)):=by
 refine ff (n:=n+1) (f:=77) (nt:=40) (c:=part Tryd.f77 [1,1,0,1,0,0,1,0,0,1,1,0,0]) 2 (fun j=>yw m z (i:Int) (j:Int)) (fun _=>bU O U Z V J::H) i (fun j=>decide (z j=z i)) (fun _=>([(4,.bool false)],bU O U Z V J::H)) (yw m z (i:Int) (i:Int)++[(28,.bool false)],bU O U Z V J::H) wO (fun j hj=>?_) ?_
 · have T:=Qf n O U Z V J H m z (i:Int) (j:Int);rw[uP,uP,dO wO] at T;refine aA T (dT n 1) (ah _ _) (aj _ _) ?_;refine Tr.ae (fun h0=>?_) wJ;refine Tr.ab wG (Tr.ab wG (Tr.ab wG (Tr.ab wG (Tr.ae (fun q=>Tr.ag ?_) (fun q=>Tr.ag ?_)))));all_goals rw[aQ] at q
   · rw[if_pos (by simpa using q)];rfl
   · rw[if_neg (by simpa using q)];exact ⟨rfl,rfl⟩
 · obtain ⟨x,h1,rfl⟩:=aA (Q:=fun x=>x=(.exit 2,yw m z (i:Int) (i:Int)++[(28,.bool false)],bU O U Z V J::H)) (Qf n O U Z V J H m z (i:Int) (i:Int)) (dT n 1) (ah _ _) (aj _ _) (by
    refine Tr.ae wJ (fun h0=>Tr.ag rfl))
   exact h1
theorem V8 (hm:m≤1000) (hl:U≤1000):cd (n+2) (.fn 77) [bt O U Z V J,aP m z false] H=some (.bool (zG z U m),H):=by
 have lp:=ff (n:=n+1) (f:=77) (nt:=40) (c:=part Tryd.f77 [1,1,0,1,0,0]) 0 (fun j=>nC m z (j:Int)) (fun _=>bU O U Z V J::H) m (fun i=>!(decide (0≤z i) && decide (z i<U)) || dk (fun j=>decide (z j=z i)) i) (fun _=>([(4,.bool false)],bU O U Z V J::H)) (nC m z (ofNat m)++[(16,.bool false)],bU O U Z V J::H) wO (fun j hj=>?_) ?_
 · refine bp (n:=n+1) Tryd.func77 rfl rfl rfl (YL (n+1) O U Z V J H m z (dk (fun i=>!(decide (0≤z i) && decide (z i<U)) || dk (fun j=>decide (z j=z i)) i) m)) (aw _) (aU (ah _ _) VK (fun x hx=>cK hx lp)) (aj _ _) ?_;unfold zG;refine Tr.ae (fun q=>Tr.ag ⟨?_,rfl⟩) (fun q=>Tr.ak ⟨rfl,rfl⟩ (Tr.ae (fun q2=>Tr.ag ⟨?_,rfl⟩) (fun q2=>Tr.ag ⟨?_,rfl⟩)));all_goals rw[av,aQ] at q
   · have:¬ (m:Int)=U:=by simpa using q
     rw[decide_eq_false wO];rfl
   · rw[q2];simp
   · have:(m:Int)=U:=by simpa using q
     rw[q2,decide_eq_true wO];rfl
 · have T:=TM n O U Z V J H m z (j:Int) (dk (fun k=>decide (z k=z j)) j);rw[uP,dO wO] at T;refine aA T (dT n 1) (aU (ah _ _) Q2 (fun x hx=>cK hx (Sj n O U Z V J H m z hm j hj))) (aj _ _) ?_;refine Tr.ae (fun h0=>?_) wJ;refine Tr.ab wG (Tr.ab wG (Tr.ae (fun q=>Tr.ae (fun q2=>Tr.ag ?_) (fun q2=>Tr.ak ⟨rfl,rfl⟩ (Tr.ae (fun q3=>Tr.ag ?_) (fun q3=>Tr.ag ?_)))) (fun q=>Tr.ag ?_)));all_goals rw[bk] at q
   · rw[av,bD] at q2;have:¬ z j<U:=by simpa using q2
     rw[if_pos (by rw[decide_eq_false this];simp)];rfl
   · rw[if_pos (by rw[q3];simp)];rfl
   · rw[av,bD] at q2;have:z j<U:=by simpa using q2
     have q:decide (0≤z j)=true:=q;rw[if_neg (by rw[q3,q,decide_eq_true this];decide)];exact ⟨rfl,rfl⟩
   · have q:decide (0≤z j)=false:=q;rw[if_pos (by rw[q];simp)];rfl
 · obtain ⟨x,h1,rfl⟩:=aA (Q:=fun x=>x=(.exit 0,nC m z (ofNat m)++[(16,.bool false)],bU O U Z V J::H)) (Qg n O U Z V J H m z (ofNat m)) (dT n 1) (b9 (ah _ _) 2) (aj _ _) (by
    refine Tr.ae wJ (fun h0=>Tr.ag rfl))
   exact h1
theorem PS (hd:1≤O) {c:Nat} (hc:c<U) {p:Int} (hp:0≤p∧p<U):oT (bR O U Z) (c:Int) p=(decide (Z (c*4+2)≤Z (c*4)-p*O) && decide (Z (c*4+1)-p*O≤Z (c*4+3))):=by
 unfold oT bR;rw[Int.toNat_natCast,if_pos wO,if_pos wO,if_pos wO,if_neg wO,show 2*c / 2=c by omega,show (2*c+1) / 2=c by omega,Bool.and_comm];have e1:p≤(Z (c*4)-Z (c*4+2)) / O↔p*O≤Z (c*4)-Z (c*4+2):=Int.le_ediv_iff_mul_le wO;have e2:-p≤(Z (c*4+3)-Z (c*4+1)) / O↔-p*O≤Z (c*4+3)-Z (c*4+1):=Int.le_ediv_iff_mul_le wO;rw[Int.neg_mul] at e2;generalize (Z (c*4)-Z (c*4+2)) / O=A at *;generalize (Z (c*4+3)-Z (c*4+1)) / O=D at *;generalize p*O=Q at *;congr 1
 · rw[decide_eq_decide];omega
 · rw[decide_eq_decide];omega
theorem V9 (hd:1≤O∧O≤100) (hl:U≤10) (hv:wH U Z) (c p:Nat) (hc:c<U) (hp:p<U):cd (n+2) (.fn 78) [bt O U Z V J,.int .i64 (c:Int),.int .i64 (p:Int)] H=some (.bool (oT (bR O U Z) (c:Int) (p:Int)),H):=by
 obtain ⟨v1,v2,v3,v4,v5,v6⟩:=H5 hv hc;have hm0:0≤(p:Int)*O:=Int.mul_nonneg wO wO;have hm1:(p:Int)*O≤10*100:=Int.mul_le_mul wO wO wO wO;have em:ly .i64 (p:Int) O=(p:Int)*O:=by rw[lz];exact iB wO wO
 have ei:aq 0 (c:Int) 4=c*4:=by rw[bo];omega
 have T:=YM n O U Z V J H (c:Int) (p:Int);rw[ei,aH,aH,aH,em,Fc wO wO,Fc wO wO] at T;refine bp (n:=n+1) Tryd.func78 rfl rfl rfl T (dT n 1) (ah _ _) (aj _ _) ?_;rw[PS O U Z hd.1 hc ⟨by omega,by omega⟩];refine Tr.ab wG (Tr.ab wG (Tr.ab wG (Tr.ab wG (Tr.ab wG (Tr.ab wG (Tr.ab wG (Tr.ab wG (Tr.ab wG (Tr.ab wG (Tr.ae (fun q=>Tr.ag ⟨?_,rfl⟩) (fun q=>Tr.ag ⟨?_,rfl⟩)))))))))));all_goals rw[bk] at q
 · rw[q,bk,Bool.true_and]
 · rw[q,Bool.false_and]
theorem Sf (hm:m≤1000) (s:Int→Nat→Bool) (h78:∀ j,j<m→∀ H,cd n (.fn 78) [bt O U Z V J,.int .i64 (z j),.int .i64 (j:Int)] H=some (.bool (s (z j) j),H)):exec (bJ n 40 52) (.block 0 (.loop (part Tryd.f40 [1,1,1,0,1,0,0]))) (nC m z (ofNat 0)) (bU O U Z V J::H)=some (cond (dk (fun j=>!s (z j) j) m) (.ret,[(4,.int .i64 (ofNat 21))],bU O U Z V J::H) (.normal,nC m z (ofNat m)++[(20,.bool false)],bU O U Z V J::H)):=by
 refine ff (n:=n) (f:=40) (nt:=52) (c:=part Tryd.f40 [1,1,1,0,1,0,0]) 0 (fun j=>nC m z (j:Int)) (fun _=>bU O U Z V J::H) m (fun j=>!s (z j) j) (fun _=>([(4,.int .i64 (ofNat 21))],bU O U Z V J::H)) (nC m z (ofNat m)++[(20,.bool false)],bU O U Z V J::H) wO (fun j hj=>?_) ?_
 · have T:=TF n O U Z V J H m z (j:Int) (z j) (s (z j) j);rw[uP,dO wO] at T;refine aA T (bw _ _ (bW (aR _) (h78 j hj))) (ah _ _) (aj _ _) ?_;refine Tr.ae (fun h0=>?_) wJ;refine Tr.ab wG (Tr.ab wG (Tr.ak rfl (Tr.ae (fun q=>Tr.ag ?_) (fun q=>Tr.ag ?_))));all_goals rw[av] at q
   · rw[if_pos q];rfl
   · rw[if_neg (by rw[q];decide)];exact ⟨rfl,rfl⟩
 · obtain ⟨x,h1,rfl⟩:=aA (Q:=fun x=>x=(.exit 0,nC m z (ofNat m)++[(20,.bool false)],bU O U Z V J::H)) (P2 n O U Z V J H m z (ofNat m)) (aw n) (ah _ _) (aj _ _) (by
    refine Tr.ae wJ (fun h0=>Tr.ag rfl))
   exact h1
theorem Sg (hm:m≤1000) (hb:V≤1000) (i:Nat) (hi:i<m):exec (bJ (n+1) 40 52) (.block 4 (.loop (part Tryd.f40 [1,1,1,1,0,1,0,0,1,0,0,1,0,0]))) (wY m z (i:Int) (ofNat 0)) (bU O U Z V J::H)=some (cond (dk (fun j=>pI V J (z i) (z j)) i) (.ret,[(4,.int .i64 (ofNat 16))],bU O U Z V J::H) (.normal,wY m z (i:Int) (i:Int)++[(39,.bool false)],bU O U Z V J::H)):=by
 refine ff (n:=n+1) (f:=40) (nt:=52) (c:=part Tryd.f40 [1,1,1,1,0,1,0,0,1,0,0,1,0,0]) 4 (fun j=>wY m z (i:Int) (j:Int)) (fun _=>bU O U Z V J::H) i (fun j=>pI V J (z i) (z j)) (fun _=>([(4,.int .i64 (ofNat 16))],bU O U Z V J::H)) (wY m z (i:Int) (i:Int)++[(39,.bool false)],bU O U Z V J::H) wO (fun j hj=>?_) ?_
 · have T:=TG (n+1) O U Z V J H m z (i:Int) (j:Int) (z i) (z j) (pI V J (z i) (z j));rw[uP,uP,dO wO] at T;refine aA T (bw _ _ (bW (aR _) (fun H=>Vo n O U Z V J H (z i) (z j) hb))) (ah _ _) (aj _ _) ?_;refine Tr.ae (fun h0=>?_) wJ;refine Tr.ab wG (Tr.ab wG (Tr.ab wG (Tr.ab wG (Tr.ak rfl (Tr.ae (fun q=>Tr.ag ?_) (fun q=>Tr.ag ?_))))))
   · rw[if_pos q];rfl
   · rw[if_neg (by rw[q];decide)];exact ⟨rfl,rfl⟩
 · obtain ⟨x,h1,rfl⟩:=aA (Q:=fun x=>x=(.exit 4,wY m z (i:Int) (i:Int)++[(39,.bool false)],bU O U Z V J::H)) (P3 (n+1) O U Z V J H m z (i:Int) (i:Int)) (aw _) (ah _ _) (aj _ _) (by
    refine Tr.ae wJ (fun h0=>Tr.ag rfl))
   exact h1
theorem Sh (hm:m≤1000) (hb:V≤1000):exec (bJ (n+1) 40 52) (.block 2 (.loop (part Tryd.f40 [1,1,1,1,0,1,0,0]))) (wX m z (ofNat 0)) (bU O U Z V J::H)=some (cond (dk (Km V J z) m) (.ret,[(4,.int .i64 (ofNat 16))],bU O U Z V J::H) (.normal,wX m z (ofNat m)++[(34,.bool false)],bU O U Z V J::H)):=by
 refine ff (n:=n+1) (f:=40) (nt:=52) (c:=part Tryd.f40 [1,1,1,1,0,1,0,0]) 2 (fun j=>wX m z (j:Int)) (fun _=>bU O U Z V J::H) m (Km V J z) (fun _=>([(4,.int .i64 (ofNat 16))],bU O U Z V J::H)) (wX m z (ofNat m)++[(34,.bool false)],bU O U Z V J::H) wO (fun j hj=>?_) ?_
 · have T:=TH (n+1) O U Z V J H m z (j:Int) (Km V J z j);rw[dO wO] at T;refine aA T (aw _) (aU (ah _ _) QY (fun x hx=>cK hx (Sg n O U Z V J H m z hm hb j hj))) (aj _ _) ?_;refine Tr.ae (fun h0=>?_) wJ;refine Tr.ak ⟨rfl,rfl⟩ (Tr.ae (fun q=>Tr.ag ?_) (fun q=>Tr.ag ?_))
   · rw[if_pos q];rfl
   · rw[if_neg (by rw[q];decide)];exact ⟨rfl,rfl⟩
 · obtain ⟨x,h1,rfl⟩:=aA (Q:=fun x=>x=(.exit 2,wX m z (ofNat m)++[(34,.bool false)],bU O U Z V J::H)) (P4 (n+1) O U Z V J H m z (ofNat m)) (aw _) (b9 (ah _ _) 4) (aj _ _) (by
    refine Tr.ae wJ (fun h0=>Tr.ag rfl))
   exact h1
theorem Q8 (hb:V≤1000) (h0:dm O U Z V J=0) (hm:m≤1000):cd (n+4) (.fn 40) [bt O U Z V J,aP m z false] H=some (.int .i64 (uY U (bR O U Z) V J m z),H):=by
 obtain ⟨h1,h2,h3,h4,h5,_⟩:=kr h0;have h23:=fun H=>Q7 n O U Z V J H wO hb;rw[h0] at h23;have h77:=fun H=>V8 (n+1) O U Z V J H m z hm wO;unfold uY;by_cases hp:zG z U m=true
 · rw[if_pos hp];rw[hp] at h77;obtain ⟨p1,p2⟩:=gk.1 hp;refine bp (n:=n+3) Tryd.func40 rfl rfl rfl (Yx (n+3) O U Z V J H m z true (dk (fun j=>!oT (bR O U Z) (z j) j) m) (dk (Km V J z) m)) (bw _ _ (bW (bW (aR _) h23) h77)) (aU (aU (ah _ _) VG (fun x hx=>cK hx (Sf (n+3) O U Z V J H m z hm (fun c j=>oT (bR O U Z) c j) (fun j hj H=>by
    have:=(p2 j hj).1;have h:=V9 (n+1) O U Z V J H h3 h1.2 h4 (z j).toNat j wO wO;rw[show ((z j).toNat:Int)=z j by omega] at h;exact h)))) QZ (fun x hx=>cK hx (Sh (n+2) O U Z V J H m z hm hb))) (aj _ _) ?_
   refine Tr.ak rfl (Tr.ae (fun q=>by simp[av,aQ] at q) (fun q=>Tr.ak rfl (Tr.ae (fun q=>by simp[av] at q) (fun q=>Tr.ak ⟨rfl,rfl⟩ (Tr.ae (fun q=>Tr.ag ⟨?_,rfl⟩) (fun q=>Tr.ak ⟨rfl,rfl⟩ (Tr.ae (fun q2=>Tr.ag ⟨?_,rfl⟩) (fun q2=>Tr.ag ⟨?_,rfl⟩))))))))
   · rw[if_pos q];rfl
   · rw[if_neg (by rw[q];decide),if_pos q2];rfl
   · rw[if_neg (by rw[q];decide),if_neg (by rw[q2];decide)];rfl
 · rw[if_neg hp];have hpf:zG z U m=false:=by simpa using hp
   rw[hpf] at h77;refine bp (n:=n+3) Tryd.func40 rfl rfl rfl (T5 (n+3) O U Z V J H m z false) (bw _ _ (bW (bW (aR _) h23) h77)) (b9 (b9 (ah _ _) 0) 2) (aj _ _) ?_;refine Tr.ak rfl (Tr.ae (fun q=>by simp[av,aQ] at q) (fun q=>Tr.ak rfl (Tr.ae (fun q=>Tr.ag ⟨rfl,rfl⟩) (fun q=>by simp[av] at q))))
end
end Go.Eng
end
section
namespace Go.Eng
open Go.Proofs Go.Eng.Gall
end Go.Eng
end
section
namespace Go.Eng
open Go.Proofs Go.Eng.Gall
noncomputable def Yn (W B:Nat→Int) (z:Nat→Int) (k:Nat):Bool:=oT W (z k) ((k:Int)+1) && (oT W (z (k+1)) (k:Int) && cq (mj .u64 (B (z (k+1)).toNat) (eC .u64 (Int.ofNat 1) (z k))) (Int.ofNat 0))
noncomputable def TB (W B:Nat→Int) (z:Nat→Int):Nat→List Int
 | 0=>[]
 | j+1=>if Yn W B z j=true then TB W B z j++[(j:Int)] else TB W B z j
section
variable (n:Nat) (O:Int) (U:Nat) (Z:Nat→Int) (V:Nat) (J:Nat→Int) (H:aa)
variable (m:Nat) (z:Nat→Int) (W B:Nat→Int)
end
end Go.Eng
end
section
namespace Go.Eng
open Go.Proofs Go.Eng.Gall
theorem OC {U:Nat} {W:Nat→Int} {V:Nat} {J:Nat→Int} {m:Nat} {z:Nat→Int}:uY U W V J m z=0↔zG z U m=true∧(∀ j,j<m→oT W (z j) j=true)∧∀ i,i<m→∀ j,j<i→pI V J (z i) (z j)=false:=by
 unfold uY;constructor
 · intro h;split at h
   · rename_i hp;split at h
     · cases h
     · rename_i hs;split at h
       · cases h
       · rename_i hb;rw[Bool.not_eq_true,jZ] at hs hb;refine ⟨hp,fun j hj=>by simpa using hs j hj,fun i hi=>?_⟩;have:=hb i hi;unfold Km at this;exact jZ.1 this
   · cases h
 · rintro ⟨hp,hs,hb⟩;rw[if_pos hp,if_neg,if_neg]
   · rw[Bool.not_eq_true,jZ];intro i hi;unfold Km;exact jZ.2 (hb i hi)
   · rw[Bool.not_eq_true,jZ];intro j hj;rw[hs j hj];rfl
end Go.Eng
end
section
namespace Go.Eng
open Go.Proofs Go.Eng.Gall
noncomputable def Ep (k:Nat) (y:Nat→Int) (c j:Int):aD:=[(0,aP k y false),(1,.int .i64 c),(5,.int .i64 j)]
theorem t42 (n k:Nat) (y:Nat→Int) (c j:Int) (G:aa):aF (bJ n 42 18) (il aC n 0) aK aJ (part Tryd.f42 [1,0,1,0,0]) (hints (Ep k y c j)) (ao::G) =
 Tr.ite (bF j (Int.ofNat k)) (Tr.req (cu j k) (Tr.req (bX (aq 0 j 1) k) (Tr.ite (cq (y (aq 0 j 1)) c) (Tr.ok (Ex.ret,[(4,AV.bool true,some 1)],ao::G)) (Tr.ok (Ex.normal,[(0,aP k y false,none),(1,AV.int .i64 c,none),(5,AV.int .i64 (bj .i64 j (Int.ofNat 1)),none)],ao::G))))) (Tr.ok (Ex.exit 0,[(0,aP k y false,none),(1,AV.int .i64 c,none),(5,AV.int .i64 j,none),(9,AV.bool false,some 1)],ao::G)):=by kernel_rfl
theorem Yy (n k:Nat) (y:Nat→Int) (c:Int) (G:aa) (q:Bool):aZ Tryd.prog (cd n) 100000 42 Tryd.f42 (KtG.kt 42) (il aC n 0) (cE aK 0 (Ep k y c (Int.ofNat 0)) (ao::G) (.ite q (.ok (.ret,[(4,.bool true,none)],ao::G)) (.ok (.normal,hints (Ep k y c (Int.ofNat k)++[(9,.bool false)]),ao::G)))) aJ [(aP k y false,none),(.int .i64 c,none)] G =
 Tr.reqP ([(0,aP k y false),(1,AV.int .i64 c),(5,iI 0)]=[(0,aP k y false),(1,AV.int .i64 c),(5,iI 0)]∧ao::G=ao::G) (Tr.ite q (Tr.ok ((AV.bool true,none),G)) (Tr.ok ((AV.bool false,some 1),G))):=by kernel_rfl
end Go.Eng
end
section
namespace Go.Eng
open Go.Proofs Go.Eng.Gall
theorem VH:∀ b,(0,b) ∈ aI (aW Tryd.f42)→b=.loop (part Tryd.f42 [1,0,1,0,0]):=dJ (by kernel_rfl)
theorem VZ (n k:Nat) (y:Nat→Int) (c:Int) (H:aa) (hk:k≤1000):cd (n+1) (.fn 42) [aP k y false,.int .i64 c] H=some (.bool (dk (fun j=>decide (y j=c)) k),H):=by
 have lp:=ff (n:=n) (f:=42) (nt:=18) (c:=part Tryd.f42 [1,0,1,0,0]) 0 (fun j=>Ep k y c (j:Int)) (fun _=>ao::H) k (fun j=>decide (y j=c)) (fun _=>([(4,.bool true)],ao::H)) (Ep k y c (Int.ofNat k)++[(9,.bool false)],ao::H) wO (fun j hj=>?_) ?_
 · refine bp (n:=n) Tryd.func42 rfl rfl rfl (Yy n k y c H (dk (fun j=>decide (y j=c)) k)) (aw n) (aU (ah _ _) VH (fun x hx=>cK hx lp)) (aj _ _) ?_;refine Tr.ak ⟨rfl,rfl⟩ (Tr.ae (fun hc=>Tr.ag ⟨?_,rfl⟩) (fun hc=>Tr.ag ⟨?_,rfl⟩))
   · rw[hc]
   · rw[hc]
 · have T:=t42 n k y c (j:Int) H;rw[uP,dO wO] at T;refine aA T (aw n) (ah _ _) (aj _ _) ?_;refine Tr.ae (fun h0=>?_) wJ;refine Tr.ab wG (Tr.ab wG (Tr.ae (fun q=>Tr.ag ?_) (fun q=>Tr.ag ?_)));all_goals rw[aQ] at q
   · rw[if_pos (by simpa using q)];rfl
   · rw[if_neg (by simpa using q)];exact ⟨rfl,rfl⟩
 · obtain ⟨x,h1,rfl⟩:=aA (Q:=fun x=>x=(.exit 0,Ep k y c (Int.ofNat k)++[(9,.bool false)],ao::H)) (t42 n k y c (Int.ofNat k) H) (aw n) (ah _ _) (aj _ _) (by
    refine Tr.ae wJ (fun h0=>Tr.ag rfl))
   exact h1
section
variable (O:Int) (U:Nat) (Z:Nat→Int) (V:Nat) (J:Nat→Int)
noncomputable def Y7 (x:List AV):List Int:=match x with
 | [_,.slcT _ (.M [.arr _ y _]) _ m _]=>if uY U (bR O U Z) V J m y=0 then TB (bR O U Z) (gv V J) y (m-1) else []
 | _=>[]
noncomputable def Md (x:List AV):Int:=match x with
 | [_,.slcT _ (.M [.arr _ y _]) _ m _]=>uY U (bR O U Z) V J m y
 | _=>0
end
end Go.Eng
end
section
namespace Go.Eng
open Go.Proofs Go.Eng.Gall
section
variable (O:Int) (U:Nat) (Z:Nat→Int) (V:Nat) (J:Nat→Int)
variable (n:Nat) (H:aa) (m:Nat) (z:Nat→Int) (w:Int)
end
end Go.Eng
end
section
namespace Go.Eng
open Int (ofNat)
open Go.Proofs Go.Eng.Gall
noncomputable def lg (R:Row) (u:Bool) (U:Nat) (i:Int):aD:=[(0,.ptrT none R 0),(2,.ptr 0 0 0 0),(4,.ptr 0 1 0 0),(5,.ptr 0 2 0 0),(6,.bool u),(19,.int .i64 (ofNat U)),(20,.int .i64 i)]
noncomputable def iE (R:Row) (u:Bool) (U:Nat) (i k:Int):aD:=[(0,.ptrT none R 0),(2,.ptr 0 0 0 0),(4,.ptr 0 1 0 0),(5,.ptr 0 2 0 0),(6,.bool u),(7,.int .i64 i),(19,.int .i64 (ofNat U)),(20,.int .i64 i),(28,.int .i64 (ofNat U)),(29,.int .i64 k)]
noncomputable def gp (R:Row) (u:Bool) (U:Nat) (i k c:Int):aD:=[(0,.ptrT none R 0),(2,.ptr 0 0 0 0),(4,.ptr 0 1 0 0),(5,.ptr 0 2 0 0),(6,.bool u),(7,.int .i64 i),(9,.ptr 0 3 0 0),(19,.int .i64 (ofNat U)),(20,.int .i64 i),(28,.int .i64 (ofNat U)),(29,.int .i64 k),(46,.int .i64 (ofNat U)),(47,.int .i64 c)]
noncomputable def L1 (q:Nat→Int) (f t:Int) (A:AV):List (Nat×al):=[(0,.row (.G [.int .i64 (ofNat 0),.int .i64 (ofNat 0),.nils])),(0,.row (.M [.arr .i64 q 20])),(0,.row (.G [.int .i64 f,.int .i64 t,A]))]
noncomputable def fj (q:Nat→Int) (f t:Int) (A:AV):bC:=⟨false,L1 q f t A⟩
noncomputable def zh (q:Nat→Int) (f t:Int) (A:AV) (F T:Int):bC:=⟨false,L1 q f t A++[(0,.row (.G [.int .i64 F,.int .i64 T,.nils]))]⟩
noncomputable def BP (q:Nat→Int) (f t:Int) (A:AV) (F T:Int) (c:Nat) (y:Nat→Int):bC:=⟨false,L1 q f t A++[(0,.row (.G [.int .i64 F,.int .i64 T,.slc 0 4 0 0 1 c none])),(0,.row (.M [.arr .i64 y c]))]⟩
theorem KO (n:Nat) (H:aa) (q:Nat→Int) (R:Row) (u:Bool) (f t:Int) (m:Nat) (y:Nat→Int) (U:Nat) (i k c F T:Int):aF (bJ n 65 128) (il aC n 0) aK aJ (part Tryd.f65 [1,0,1,1,1,1,0,1,0,0,1,1,0,0,1,1,0,0,1,1,0,0,1,1,0,1,0,0]) (hints (gp R u U i k c)) (zh q f t .nils F T::H) =
 (fun (Z0:aT)=>((fun (Z1:bC)=>Tr.ite (bF c (ofNat U)) (Tr.req (cu c 10) (Tr.req (cH 0 0) (Tr.req (bX (aq 0 c 2) 20) (Tr.ite (di F (q (aq 0 c 2))) (Tr.req (cu c 10) (Tr.req (cH 0 0) (Tr.req (bX (au (aq 0 c 2) 1) 20) (Tr.ite (di (q (au (aq 0 c 2) 1)) T) (Tr.req (kT (ofNat 0) 0) (Tr.req (kT (ofNat 0) (b8 (ofNat 0))) (Tr.req (iv 0 1 8) (Tr.req (cH 0 0) (Tr.req (dW 1 1) (Tr.ok (Ex.normal,Z0,(bm [(0,al.row (Row.G [iI 0,iI 0,AV.nils])),(0,al.row (rM q 20)),(0,al.row (Row.G [AV.int .i64 f,AV.int .i64 t,AV.nils])),(0,al.row (Row.G [AV.int .i64 F,AV.int .i64 T,AV.slc 0 5 0 0 1 1 none])),(0,al.row (Row.I .i64 [c])),(0,al.row (rM (az [c]) 1))])::H))))))) (Tr.ok (Ex.normal,Z0,Z1::H)))))) (Tr.ok (Ex.normal,Z0,Z1::H)))))) (Tr.ok (Ex.exit 4,[(0,AV.ptrT none R 0,none),(2,AV.ptr 0 0 0 0,none),(4,AV.ptr 0 1 0 0,none),(5,AV.ptr 0 2 0 0,none),(6,AV.bool u,none),(7,AV.int .i64 i,none),(9,AV.ptr 0 3 0 0,none),(19,iI U,none),(20,AV.int .i64 i,none),(28,iI U,none),(29,AV.int .i64 k,none),(46,iI U,none),(47,AV.int .i64 c,none),(48,AV.bool false,some 1)],Z1::H))) (bm [(0,al.row (Row.G [iI 0,iI 0,AV.nils])),(0,al.row (rM q 20)),(0,al.row (Row.G [AV.int .i64 f,AV.int .i64 t,AV.nils])),(0,al.row (Row.G [AV.int .i64 F,AV.int .i64 T,AV.nils]))]))) [(0,AV.ptrT none R 0,none),(2,AV.ptr 0 0 0 0,none),(4,AV.ptr 0 1 0 0,none),(5,AV.ptr 0 2 0 0,none),(6,AV.bool u,none),(7,AV.int .i64 i,none),(9,AV.ptr 0 3 0 0,none),(19,iI U,none),(20,AV.int .i64 i,none),(28,iI U,none),(29,AV.int .i64 k,none),(46,iI U,none),(47,AV.int .i64 (bj .i64 c (ofNat 1)),none)]:=by kernel_rfl
theorem KP (n:Nat) (H:aa) (q:Nat→Int) (R:Row) (u:Bool) (f t:Int) (m:Nat) (y:Nat→Int) (U:Nat) (i k c F T:Int) (g:Nat) (x:Nat→Int):aF (bJ n 65 128) (il aC n 0) aK aJ (part Tryd.f65 [1,0,1,1,1,1,0,1,0,0,1,1,0,0,1,1,0,0,1,1,0,0,1,1,0,1,0,0]) (hints (gp R u U i k c)) (BP q f t .nils F T g x::H) =
 (fun (Z0:aT)=>((fun (Z1:bC)=>Tr.ite (bF c (ofNat U)) (Tr.req (cu c 10) (Tr.req (cH 0 0) (Tr.req (bX (aq 0 c 2) 20) (Tr.ite (di F (q (aq 0 c 2))) (Tr.req (cu c 10) (Tr.req (cH 0 0) (Tr.req (bX (au (aq 0 c 2) 1) 20) (Tr.ite (di (q (au (aq 0 c 2) 1)) T) (Tr.req (kT (ofNat g) g) (Tr.req (kT (ofNat g) (b8 (ofNat g))) (Tr.req (iv (b8 (ofNat g)) 1 8) (Tr.req (cH 0 0) (Tr.req (dW 1 1) (Tr.ite (bX (b8 (ofNat g)) (au (b8 (ofNat g)) 1)) (Tr.req (cH 0 0) (Tr.req (dW (b8 (ofNat g)) (b8 (ofNat g))) (Tr.req (dP 0 (b8 (ofNat g)) 0 g) (Tr.ok (Ex.normal,Z0,(bm [(0,al.row (Row.G [iI 0,iI 0,AV.nils])),(0,al.row (rM q 20)),(0,al.row (Row.G [AV.int .i64 f,AV.int .i64 t,AV.nils])),(0,al.row (Row.G [AV.int .i64 F,AV.int .i64 T,AV.slc 0 6 0 0 1 (au (b8 (ofNat g)) 1) none])),(0,al.row (rM x g)),(0,al.row (Row.I .i64 [c])),(0,al.row (rM (qb (qO x 0) (b8 (ofNat g)) (az [c])) (au (b8 (ofNat g)) 1)))])::H))))) (Tr.req (cH 0 0) (Tr.req (bX (au 0 (b8 (ofNat g))) g) (Tr.ok (Ex.normal,Z0,(bm [(0,al.row (Row.G [iI 0,iI 0,AV.nils])),(0,al.row (rM q 20)),(0,al.row (Row.G [AV.int .i64 f,AV.int .i64 t,AV.nils])),(0,al.row (Row.G [AV.int .i64 F,AV.int .i64 T,AV.slc 0 4 0 0 1 (au (b8 (ofNat g)) 1) (some (b8 (ofNat g)))])),(0,al.row (rM (dh x (au 0 (b8 (ofNat g))) c) g)),(0,al.row (Row.I .i64 [c]))])::H)))))))))) (Tr.ok (Ex.normal,Z0,Z1::H)))))) (Tr.ok (Ex.normal,Z0,Z1::H)))))) (Tr.ok (Ex.exit 4,[(0,AV.ptrT none R 0,none),(2,AV.ptr 0 0 0 0,none),(4,AV.ptr 0 1 0 0,none),(5,AV.ptr 0 2 0 0,none),(6,AV.bool u,none),(7,AV.int .i64 i,none),(9,AV.ptr 0 3 0 0,none),(19,iI U,none),(20,AV.int .i64 i,none),(28,iI U,none),(29,AV.int .i64 k,none),(46,iI U,none),(47,AV.int .i64 c,none),(48,AV.bool false,some 1)],Z1::H))) (bm [(0,al.row (Row.G [iI 0,iI 0,AV.nils])),(0,al.row (rM q 20)),(0,al.row (Row.G [AV.int .i64 f,AV.int .i64 t,AV.nils])),(0,al.row (Row.G [AV.int .i64 F,AV.int .i64 T,AV.slc 0 4 0 0 1 g none])),(0,al.row (rM x g))]))) [(0,AV.ptrT none R 0,none),(2,AV.ptr 0 0 0 0,none),(4,AV.ptr 0 1 0 0,none),(5,AV.ptr 0 2 0 0,none),(6,AV.bool u,none),(7,AV.int .i64 i,none),(9,AV.ptr 0 3 0 0,none),(19,iI U,none),(20,AV.int .i64 i,none),(28,iI U,none),(29,AV.int .i64 k,none),(46,iI U,none),(47,AV.int .i64 (bj .i64 c (ofNat 1)),none)]:=by kernel_rfl
theorem KQ (n:Nat) (H:aa) (q:Nat→Int) (R:Row) (u:Bool) (f t:Int) (m:Nat) (y:Nat→Int) (U:Nat) (i k c F T:Int):aF (bJ n 65 128) (il aC n 0) aK aJ (part Tryd.f65 [1,0,1,1,1,1,0,1,0,0,1,1,0,0,1,1,0,0,1,1,0,0,1,1,0,1,0,0]) (hints (gp R u U i k c)) (zh q f t (aP m y false) F T::H) =
 (fun (Z0:aT)=>((fun (Z1:bC)=>Tr.ite (bF c (ofNat U)) (Tr.req (cu c 10) (Tr.req (cH 0 0) (Tr.req (bX (aq 0 c 2) 20) (Tr.ite (di F (q (aq 0 c 2))) (Tr.req (cu c 10) (Tr.req (cH 0 0) (Tr.req (bX (au (aq 0 c 2) 1) 20) (Tr.ite (di (q (au (aq 0 c 2) 1)) T) (Tr.req (kT (ofNat 0) 0) (Tr.req (kT (ofNat 0) (b8 (ofNat 0))) (Tr.req (iv 0 1 8) (Tr.req (cH 0 0) (Tr.req (dW 1 1) (Tr.ok (Ex.normal,Z0,(bm [(0,al.row (Row.G [iI 0,iI 0,AV.nils])),(0,al.row (rM q 20)),(0,al.row (Row.G [AV.int .i64 f,AV.int .i64 t,aP m y false])),(0,al.row (Row.G [AV.int .i64 F,AV.int .i64 T,AV.slc 0 5 0 0 1 1 none])),(0,al.row (Row.I .i64 [c])),(0,al.row (rM (az [c]) 1))])::H))))))) (Tr.ok (Ex.normal,Z0,Z1::H)))))) (Tr.ok (Ex.normal,Z0,Z1::H)))))) (Tr.ok (Ex.exit 4,[(0,AV.ptrT none R 0,none),(2,AV.ptr 0 0 0 0,none),(4,AV.ptr 0 1 0 0,none),(5,AV.ptr 0 2 0 0,none),(6,AV.bool u,none),(7,AV.int .i64 i,none),(9,AV.ptr 0 3 0 0,none),(19,iI U,none),(20,AV.int .i64 i,none),(28,iI U,none),(29,AV.int .i64 k,none),(46,iI U,none),(47,AV.int .i64 c,none),(48,AV.bool false,some 1)],Z1::H))) (bm [(0,al.row (Row.G [iI 0,iI 0,AV.nils])),(0,al.row (rM q 20)),(0,al.row (Row.G [AV.int .i64 f,AV.int .i64 t,aP m y false])),(0,al.row (Row.G [AV.int .i64 F,AV.int .i64 T,AV.nils]))]))) [(0,AV.ptrT none R 0,none),(2,AV.ptr 0 0 0 0,none),(4,AV.ptr 0 1 0 0,none),(5,AV.ptr 0 2 0 0,none),(6,AV.bool u,none),(7,AV.int .i64 i,none),(9,AV.ptr 0 3 0 0,none),(19,iI U,none),(20,AV.int .i64 i,none),(28,iI U,none),(29,AV.int .i64 k,none),(46,iI U,none),(47,AV.int .i64 (bj .i64 c (ofNat 1)),none)]:=by kernel_rfl
theorem KR (n:Nat) (H:aa) (q:Nat→Int) (R:Row) (u:Bool) (f t:Int) (m:Nat) (y:Nat→Int) (U:Nat) (i k c F T:Int) (g:Nat) (x:Nat→Int):aF (bJ n 65 128) (il aC n 0) aK aJ (part Tryd.f65 [1,0,1,1,1,1,0,1,0,0,1,1,0,0,1,1,0,0,1,1,0,0,1,1,0,1,0,0]) (hints (gp R u U i k c)) (BP q f t (aP m y false) F T g x::H) =
 (fun (Z0:aT)=>((fun (Z1:bC)=>Tr.ite (bF c (ofNat U)) (Tr.req (cu c 10) (Tr.req (cH 0 0) (Tr.req (bX (aq 0 c 2) 20) (Tr.ite (di F (q (aq 0 c 2))) (Tr.req (cu c 10) (Tr.req (cH 0 0) (Tr.req (bX (au (aq 0 c 2) 1) 20) (Tr.ite (di (q (au (aq 0 c 2) 1)) T) (Tr.req (kT (ofNat g) g) (Tr.req (kT (ofNat g) (b8 (ofNat g))) (Tr.req (iv (b8 (ofNat g)) 1 8) (Tr.req (cH 0 0) (Tr.req (dW 1 1) (Tr.ite (bX (b8 (ofNat g)) (au (b8 (ofNat g)) 1)) (Tr.req (cH 0 0) (Tr.req (dW (b8 (ofNat g)) (b8 (ofNat g))) (Tr.req (dP 0 (b8 (ofNat g)) 0 g) (Tr.ok (Ex.normal,Z0,(bm [(0,al.row (Row.G [iI 0,iI 0,AV.nils])),(0,al.row (rM q 20)),(0,al.row (Row.G [AV.int .i64 f,AV.int .i64 t,aP m y false])),(0,al.row (Row.G [AV.int .i64 F,AV.int .i64 T,AV.slc 0 6 0 0 1 (au (b8 (ofNat g)) 1) none])),(0,al.row (rM x g)),(0,al.row (Row.I .i64 [c])),(0,al.row (rM (qb (qO x 0) (b8 (ofNat g)) (az [c])) (au (b8 (ofNat g)) 1)))])::H))))) (Tr.req (cH 0 0) (Tr.req (bX (au 0 (b8 (ofNat g))) g) (Tr.ok (Ex.normal,Z0,(bm [(0,al.row (Row.G [iI 0,iI 0,AV.nils])),(0,al.row (rM q 20)),(0,al.row (Row.G [AV.int .i64 f,AV.int .i64 t,aP m y false])),(0,al.row (Row.G [AV.int .i64 F,AV.int .i64 T,AV.slc 0 4 0 0 1 (au (b8 (ofNat g)) 1) (some (b8 (ofNat g)))])),(0,al.row (rM (dh x (au 0 (b8 (ofNat g))) c) g)),(0,al.row (Row.I .i64 [c]))])::H)))))))))) (Tr.ok (Ex.normal,Z0,Z1::H)))))) (Tr.ok (Ex.normal,Z0,Z1::H)))))) (Tr.ok (Ex.exit 4,[(0,AV.ptrT none R 0,none),(2,AV.ptr 0 0 0 0,none),(4,AV.ptr 0 1 0 0,none),(5,AV.ptr 0 2 0 0,none),(6,AV.bool u,none),(7,AV.int .i64 i,none),(9,AV.ptr 0 3 0 0,none),(19,iI U,none),(20,AV.int .i64 i,none),(28,iI U,none),(29,AV.int .i64 k,none),(46,iI U,none),(47,AV.int .i64 c,none),(48,AV.bool false,some 1)],Z1::H))) (bm [(0,al.row (Row.G [iI 0,iI 0,AV.nils])),(0,al.row (rM q 20)),(0,al.row (Row.G [AV.int .i64 f,AV.int .i64 t,aP m y false])),(0,al.row (Row.G [AV.int .i64 F,AV.int .i64 T,AV.slc 0 4 0 0 1 g none])),(0,al.row (rM x g))]))) [(0,AV.ptrT none R 0,none),(2,AV.ptr 0 0 0 0,none),(4,AV.ptr 0 1 0 0,none),(5,AV.ptr 0 2 0 0,none),(6,AV.bool u,none),(7,AV.int .i64 i,none),(9,AV.ptr 0 3 0 0,none),(19,iI U,none),(20,AV.int .i64 i,none),(28,iI U,none),(29,AV.int .i64 k,none),(46,iI U,none),(47,AV.int .i64 (bj .i64 c (ofNat 1)),none)]:=by kernel_rfl
end Go.Eng
end
