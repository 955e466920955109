/- Gall: back, by the reference: whole. -/
import Derived.Test.YtgphpjdchnfjlaaDoorV5Ga8x4
import Derived.Test.YtgphpjdchnfjlaaDoorV5EngRoSx4
set_option linter.unusedVariables false
set_option linter.unusedSimpArgs false
set_option maxRecDepth 100000
section
namespace Go.Eng
open Int (ofNat)
open Go.Proofs Go.Eng.Gall
theorem Me (p:Nat→Bool) (n:Nat):dk p n=(List.range n).any p:=by
 rw[Bool.eq_iff_iff,cQ,List.any_eq_true];constructor
 · rintro ⟨i,h1,h2⟩;exact ⟨i,List.mem_range.2 h1,h2⟩
 · rintro ⟨i,h1,h2⟩;exact ⟨i,List.mem_range.1 h1,h2⟩
section
variable (n:Nat) (O:Int) (U:Nat) (Z:Nat→Int) (V:Nat) (J:Nat→Int) (b:Nat→Nat) (H:aa)
theorem XZ:dE (fun c=>decide (c<0))=fun _=>ofNat 0:=by funext j;unfold dE;simp
theorem Jj (j:Nat):dh (dE (fun c=>decide (c<j))) j (ofNat 1)=dE (fun c=>decide (c<j+1)):=by
 rw[hJ];funext c;unfold dE;by_cases e:c=j
 · subst e;rw[if_pos rfl,if_pos (by simp)];rfl
 · rw[if_neg e];by_cases h:c<j
   · rw[if_pos (decide_eq_true h),if_pos (decide_eq_true wO)]
   · rw[if_neg (by simpa using h),if_neg (by simp;omega)]
theorem Sm (hl:U≤10):exec (bJ (n+1) 64 66) (.block 0 (.loop (part Tryd.f64 [1,1,1,0,1,0,0]))) (nB 1 U (LL U) 5 (ofNat 0)) (fb O U Z V J [cP (LL U) (dE (fun c=>decide (c<0)))]::H) =
 some (.normal,nB 1 U (LL U) 5 (ofNat U)++[(18,.bool false)],fb O U Z V J [cP (LL U) (dE (fun c=>decide (c<U)))]::H):=by
 have eL:=Cv U
 refine jh (n:=n+1) (f:=64) (nt:=66) (c:=part Tryd.f64 [1,1,1,0,1,0,0]) 0 (fun j=>nB 1 U (LL U) 5 (j:Int)) (fun j=>fb O U Z V J [cP (LL U) (dE (fun c=>decide (c<j)))]::H) U (_,_) wO (fun j hj=>?_) ?_
 · have ej:bj .i64 (j:Int) (ofNat 1)=((j+1:Nat):Int):=dO wO
   have T:=P8 (n+1) O U (LL U) Z V J H (dE (fun c=>decide (c<j))) (j:Int)
   rw[uP,ej,Jj] at T
   refine aA T (aw _) (ah _ _) (aj _ _) ?_
   refine Tr.ae (fun h0=>?_) wJ
   exact Tr.ab (by rw[eL];simp (disch:=omega) only[nV,nW];omega) (Tr.ab wG (Tr.ab (by rw[eL];simp (disch:=omega) only[nV,nW];omega) (Tr.ag ⟨rfl,rfl⟩)))
 · obtain ⟨x,h1,rfl⟩:=aA (Q:=fun x=>x=(.exit 0,nB 1 U (LL U) 5 (ofNat U)++[(18,.bool false)],fb O U Z V J [cP (LL U) (dE (fun c=>decide (c<U)))]::H)) (P8 (n+1) O U (LL U) Z V J H (dE (fun c=>decide (c<U))) (ofNat U)) (aw _) (ah _ _) (aj _ _) (by
    refine Tr.ae wJ (fun h0=>Tr.ag rfl))
   exact h1
noncomputable def Vr (U:Nat):Nat→aD
 | 0=>nB 1 U (LL U) 6 (ofNat 0)
 | t+1=>nB 2 U (LL U) 6 ((t+1:Nat):Int)
noncomputable def OX:Nat→aa
 | 0=>fb O U Z V J [cP (LL U) (dE (bP U b 0))]::H
 | t+1=>fb O U Z V J [cP (LL U) (dE (bP U b 0)),cP (LL U) (dE (bP U b (t+1)))]::H
theorem Sk (hl:U≤10) (h1:1≤U) (hb:V≤1000) (hB:b=fun c=>dq J c V) (hp:iL U V J):exec (bJ (n+1) 64 66) (.block 2 (.loop (part Tryd.f64 [1,1,1,1,0,1,0,0]))) (Vr U 0) (OX O U Z V J b H 0) =
 some (.normal,nB 2 U (LL U) 6 (ofNat U)++[(26,.bool false)],OX O U Z V J b H U):=by
 have mk8:Dl (ofNat U) (ofNat U) 8=true:=by simp (disch:=omega) only[nV,nW];omega
 refine jh (n:=n+1) (f:=64) (nt:=66) (c:=part Tryd.f64 [1,1,1,1,0,1,0,0]) 2 (Vr U) (OX O U Z V J b H) U (_,_) wO (fun t ht=>?_) ?_
 · have ec:bj .i64 (t:Int) (ofNat 1)=((t+1:Nat):Int):=dO wO
   cases t with
   | zero =>
     have hx:=XS n O U Z V J b H 0 hl hb (((0:Nat)):Int)
     rw[KI,G3 U V J hB hp] at hx
     have T:=Qc (n+1) O U Z V J H (dE (bP U b 0)) (dE (bP U b (0+1))) (((0:Nat)):Int)
     rw[ec] at T
     refine aA T (aw _) (aU (ah _ _) Ki (fun x h=>by rw[← Tr.af h];simp only[ev.st,aN];exact hx)) (aj _ _) ?_
     exact Tr.ae (fun h0=>Tr.ab mk8 (Tr.ak ⟨rfl,rfl⟩ (Tr.ag ⟨rfl,rfl⟩))) wJ
   | succ t =>
     have hx:=XT n O U Z V J b H (dE (bP U b 0)) (t+1) hl hb (((t+1:Nat)):Int)
     rw[KI,G3 U V J hB hp] at hx
     have T:=Qd (n+1) O U Z V J H (dE (bP U b 0)) (dE (bP U b (t+1))) (dE (bP U b (t+1+1))) (((t+1:Nat)):Int)
     rw[ec] at T
     refine aA T (aw _) (aU (ah _ _) Ki (fun x h=>by rw[← Tr.af h];simp only[ev.st,aN];exact hx)) (aj _ _) ?_
     exact Tr.ae (fun h0=>Tr.ab mk8 (Tr.ak ⟨rfl,rfl⟩ (Tr.ag ⟨rfl,rfl⟩))) wJ
 · obtain ⟨m,rfl⟩:∃ m,U=m+1:=⟨U-1,by omega⟩
   obtain ⟨x,h1,rfl⟩:=aA (Q:=fun x=>x=(.exit 2,nB 2 (m+1) (LL (m+1)) 6 (ofNat (m+1))++[(26,.bool false)],OX O (m+1) Z V J b H (m+1))) (NF (n+1) O (m+1) (LL (m+1)) Z V J H (dE (bP (m+1) b 0)) (dE (bP (m+1) b (m+1))) (ofNat (m+1))) (aw _) (b9 (ah _ _) 4) (aj _ _) (by
    refine Tr.ae wJ (fun h0=>Tr.ag rfl))
   exact h1
theorem Sl (hl:U≤10) (g:Nat→Int) (p:Nat→Bool):exec (bJ (n+1) 64 66) (.block 8 (.loop (part Tryd.f64 [1,1,1,1,1,0,1,0,0]))) (By U (LL U) (ofNat 0)) (fb O U Z V J [cP (LL U) g,cP (LL U) (dE p)]::H) =
 some (cond (dk p U) (.ret,[(2,.bool true)],fb O U Z V J [cP (LL U) g,cP (LL U) (dE p)]::H) (.normal,By U (LL U) (ofNat U)++[(58,.bool false)],fb O U Z V J [cP (LL U) g,cP (LL U) (dE p)]::H)):=by
 have eL:=Cv U
 refine ff (n:=n+1) (f:=64) (nt:=66) (c:=part Tryd.f64 [1,1,1,1,1,0,1,0,0]) 8 (fun j=>By U (LL U) (j:Int)) (fun _=>fb O U Z V J [cP (LL U) g,cP (LL U) (dE p)]::H) U p (fun j=>([(2,.bool true)],fb O U Z V J [cP (LL U) g,cP (LL U) (dE p)]::H)) (_,_) wO (fun j hj=>?_) ?_
 · have ej:bj .i64 (j:Int) (ofNat 1)=((j+1:Nat):Int):=dO wO
   have T:=Qb (n+1) O U (LL U) Z V J H g (dE p) (j:Int)
   rw[uP,ej,BR] at T
   refine aA T (aw _) (ah _ _) (aj _ _) ?_
   refine Tr.ae (fun h0=>?_) wJ
   refine Tr.ab (by rw[eL];simp (disch:=omega) only[nV,nW];omega) (Tr.ab wG (Tr.ab (by rw[eL];simp (disch:=omega) only[nV,nW];omega) (Tr.ae (fun q=>Tr.ag ?_) (fun q=>Tr.ag ?_))))
   · rw[if_pos q];rfl
   · rw[if_neg (by rw[q];decide)];exact ⟨rfl,rfl⟩
 · obtain ⟨x,h1,rfl⟩:=aA (Q:=fun x=>x=(.exit 8,By U (LL U) (ofNat U)++[(58,.bool false)],fb O U Z V J [cP (LL U) g,cP (LL U) (dE p)]::H)) (Qb (n+1) O U (LL U) Z V J H g (dE p) (ofNat U)) (aw _) (ah _ _) (aj _ _) (by
    refine Tr.ae wJ (fun h0=>Tr.ag rfl))
   exact h1
theorem V4 (hl:U≤10) (h1:1≤U) (hb:V≤1000) (hp:iL U V J):cd (n+2) (.fn 64) [bt O U Z V J] H=some (.bool (ma U (fun c=>dq J c V)),H):=by
 have e1:=Sm n O U Z V J H hl;rw[XZ] at e1;have e2:=Sk n O U Z V J (fun c=>dq J c V) H hl h1 hb rfl hp;have e3:=Sl n O U Z V J H hl (dE (bP U (fun c=>dq J c V) 0)) (bP U (fun c=>dq J c V) U);have hT:OX O U Z V J (fun c=>dq J c V) H U=fb O U Z V J [cP (LL U) (dE (bP U (fun c=>dq J c V) 0)),cP (LL U) (dE (bP U (fun c=>dq J c V) U))]::H:=by
  obtain ⟨m,rfl⟩:∃ m,U=m+1:=⟨U-1,by omega⟩
  rfl
 rw[hT] at e2;refine bp (n:=n+1) Tryd.func64 rfl rfl rfl (u64 (n+1) O U Z V J H (dE (bP U (fun c=>dq J c V) 0)) (dE (bP U (fun c=>dq J c V) 0)) (dE (bP U (fun c=>dq J c V) U)) (dk (bP U (fun c=>dq J c V) U) U)) (aw _) (aU (aU (aU (ah _ _) Oe (fun x h=>by rw[← Tr.af h];simp only[ev.st,aN];exact e1)) Of (fun x h=>by rw[← Tr.af h];simp only[ev.st,aN];exact e2)) Og (fun x h=>cK h e3)) (aj _ _) ?_;have mk8:Dl (ofNat U) (ofNat U) 8=true:=by simp (disch:=omega) only[nV,nW];omega
 have eb:dk (bP U (fun c=>dq J c V) U) U=ma U (fun c=>dq J c V):=Me _ _;rw[eb];refine Tr.ab mk8 (Tr.ak ⟨rfl,rfl⟩ (Tr.ak ⟨rfl,rfl⟩ (Tr.ak ⟨rfl,rfl⟩ (Tr.ae (fun q=>Tr.ag ⟨?_,rfl⟩) (fun q=>Tr.ag ⟨?_,rfl⟩)))))
 · rw[q]
 · rw[q]
end
end Go.Eng
end
section
namespace Go.Eng
open Int (ofNat)
open Go.Proofs
noncomputable def og (s:Nat) (j:Int):aD:=[(1,.ptr 0 0 0 0),(s,.int .i64 j)]
noncomputable def Br (j k:Int):aD:=[(1,.ptr 0 0 0 0),(5,.int .i64 j),(6,.ptr 0 1 0 0),(7,.int .i64 k)]
noncomputable def Fb (a b:Int):Nat×al:=(0,.row (.I .i64 [a,b]))
theorem PV (n:Nat) (O:Int) (U:Nat) (Z:Nat→Int) (V:Nat) (J:Nat→Int) (H:aa) (j:Int):aF (bJ n 23 125) (il aC n 0) aK aJ (part Tryd.f23 [1,1,1,0,1,0,0]) (hints (og 3 j)) (bU O U Z V J::H) =
 (fun (Z0:bC)=>Tr.ite (bF j (ofNat U)) (Tr.req (cu j U) (Tr.req (bX (aq 0 j 4) (cr U 4)) (Tr.req (bX (au (aq 0 j 4) 1) (cr U 4)) (Tr.req (bX (au (aq 0 j 4) 2) (cr U 4)) (Tr.req (bX (au (aq 0 j 4) 3) (cr U 4)) (Tr.ite (bF (Z (aq 0 j 4)) (ofNat 0)) (Tr.ok (Ex.ret,[(2,iI 3,some 1)],Z0::H)) (Tr.ite (bF (Z (au (aq 0 j 4) 1)) (Z (aq 0 j 4))) (Tr.ok (Ex.ret,[(2,iI 3,some 1)],Z0::H)) (Tr.ite (bF (ofNat 1000) (Z (au (aq 0 j 4) 1))) (Tr.ok (Ex.ret,[(2,iI 3,some 1)],Z0::H)) (Tr.ite (bF (Z (au (aq 0 j 4) 2)) (ofNat 0)) (Tr.ok (Ex.ret,[(2,iI 3,some 1)],Z0::H)) (Tr.ite (bF (Z (au (aq 0 j 4) 3)) (Z (au (aq 0 j 4) 2))) (Tr.ok (Ex.ret,[(2,iI 3,some 1)],Z0::H)) (Tr.ite (bF (ofNat 1000) (Z (au (aq 0 j 4) 3))) (Tr.ok (Ex.ret,[(2,iI 3,some 1)],Z0::H)) (Tr.ok (Ex.normal,[(1,AV.ptr 0 0 0 0,none),(3,AV.int .i64 (bj .i64 j (ofNat 1)),none)],Z0::H))))))))))))) (Tr.ok (Ex.exit 0,[(1,AV.ptr 0 0 0 0,none),(3,AV.int .i64 j,none),(36,AV.bool false,some 1)],(bm [(0,dc O U Z V J)])::H))) (bm [(0,dc O U Z V J),(0,al.row (Row.I .i64 [Z (aq 0 j 4),Z (au (aq 0 j 4) 1),Z (au (aq 0 j 4) 2),Z (au (aq 0 j 4) 3)]))]):=by kernel_rfl
theorem PX (n:Nat) (O:Int) (U:Nat) (Z:Nat→Int) (V:Nat) (J:Nat→Int) (H:aa) (a b j k:Int):aF (bJ n 23 125) (il aC n 0) aK aJ (part Tryd.f23 [1,1,1,1,0,1,0,0,1,0,0,1,1,1,0,0]) (hints (Br j k)) (fb O U Z V J [Fb a b]::H) =
 (fun (Z0:bC)=>Tr.ite (bF k j) (Tr.req (cu k V) (Tr.req (bX (aq 0 k 2) (cr V 2)) (Tr.req (bX (au (aq 0 k 2) 1) (cr V 2)) (Tr.ite (bT (cq (J (aq 0 k 2)) a) (cq (J (au (aq 0 k 2) 1)) b)) (Tr.ok (Ex.ret,[(2,iI 2,some 1)],Z0::H)) (Tr.ok (Ex.normal,[(1,AV.ptr 0 0 0 0,none),(5,AV.int .i64 j,none),(6,AV.ptr 0 1 0 0,none),(7,AV.int .i64 (bj .i64 k (ofNat 1)),none)],Z0::H)))))) (Tr.ok (Ex.exit 4,[(1,AV.ptr 0 0 0 0,none),(5,AV.int .i64 j,none),(6,AV.ptr 0 1 0 0,none),(7,AV.int .i64 k,none),(113,AV.bool false,some 1)],Z0::H))) (bm [(0,dc O U Z V J),(0,al.row (Row.I .i64 [a,b]))]):=by kernel_rfl
theorem TC (n:Nat) (O:Int) (U:Nat) (Z:Nat→Int) (V:Nat) (J:Nat→Int) (H:aa) (j:Int) (e:Bool):aF (bJ (n+1) 23 125) (il aC n 1) (cE aK 4 (Br j (ofNat 0)) (fb O U Z V J [Fb (J (aq 0 j 2)) (J (au (aq 0 j 2) 1))]::H) (.ite e (.ok (.ret,[(2,.int .i64 2,none)],fb O U Z V J [Fb (J (aq 0 j 2)) (J (au (aq 0 j 2) 1))]::H)) (.ok (.normal,hints (Br j j++[(113,.bool false)]),fb O U Z V J [Fb (J (aq 0 j 2)) (J (au (aq 0 j 2) 1))]::H)))) aJ (part Tryd.f23 [1,1,1,1,0,1,0,0]) (hints (og 5 j)) (bU O U Z V J::H) =
 (fun (Z0:bC)=>Tr.ite (bF j (ofNat V)) (Tr.req (cu j V) (Tr.req (bX (aq 0 j 2) (cr V 2)) (Tr.req (bX (au (aq 0 j 2) 1) (cr V 2)) (Tr.req (cu (ofNat 0) 2) (Tr.ite (di (ofNat 0) (J (aq 0 j 2))) (Tr.ite (bf (bF (J (aq 0 j 2)) (ofNat U))) (Tr.ok (Ex.ret,[(2,iI 2,some 1)],Z0::H)) (Tr.req (cu (ofNat 1) 2) (Tr.ite (di (ofNat 0) (J (au (aq 0 j 2) 1))) (Tr.ite (bf (bF (J (au (aq 0 j 2) 1)) (ofNat U))) (Tr.ok (Ex.ret,[(2,iI 2,some 1)],Z0::H)) (Tr.req (cu (ofNat 0) 2) (Tr.req (cu (ofNat 1) 2) (Tr.ite (cq (J (aq 0 j 2)) (J (au (aq 0 j 2) 1))) (Tr.ok (Ex.ret,[(2,iI 2,some 1)],Z0::H)) (Tr.reqP ([(1,AV.ptr 0 0 0 0),(5,AV.int .i64 j),(6,AV.ptr 0 1 0 0),(7,iI 0)]=[(1,AV.ptr 0 0 0 0),(5,AV.int .i64 j),(6,AV.ptr 0 1 0 0),(7,iI 0)]∧Z0::H=Z0::H) (Tr.ite e (Tr.ok (Ex.ret,[(2,iI 2,none)],Z0::H)) (Tr.ok (Ex.normal,[(1,AV.ptr 0 0 0 0,none),(5,AV.int .i64 (bj .i64 j (ofNat 1)),none)],Z0::H)))))))) (Tr.ok (Ex.ret,[(2,iI 2,some 1)],Z0::H))))) (Tr.ok (Ex.ret,[(2,iI 2,some 1)],Z0::H))))))) (Tr.ok (Ex.exit 2,[(1,AV.ptr 0 0 0 0,none),(5,AV.int .i64 j,none),(84,AV.bool false,some 1)],(bm [(0,dc O U Z V J)])::H))) (bm [(0,dc O U Z V J),(0,al.row (Row.I .i64 [J (aq 0 j 2),J (au (aq 0 j 2) 1)]))]):=by kernel_rfl
theorem PW (n:Nat) (O:Int) (U:Nat) (Z:Nat→Int) (V:Nat) (J:Nat→Int) (H:aa) (j:Int):aF (bJ (n+1) 23 125) (il aC n 1) (eI aK 4) aJ (part Tryd.f23 [1,1,1,1,0,1,0,0]) (hints (og 5 j)) (bU O U Z V J::H) =
 (fun (Z0:bC)=>Tr.ite (bF j (ofNat V)) (Tr.req (cu j V) (Tr.req (bX (aq 0 j 2) (cr V 2)) (Tr.req (bX (au (aq 0 j 2) 1) (cr V 2)) (Tr.req (cu (ofNat 0) 2) (Tr.ite (di (ofNat 0) (J (aq 0 j 2))) (Tr.ite (bf (bF (J (aq 0 j 2)) (ofNat U))) (Tr.ok (Ex.ret,[(2,iI 2,some 1)],Z0::H)) (Tr.req (cu (ofNat 1) 2) (Tr.ite (di (ofNat 0) (J (au (aq 0 j 2) 1))) (Tr.ite (bf (bF (J (au (aq 0 j 2) 1)) (ofNat U))) (Tr.ok (Ex.ret,[(2,iI 2,some 1)],Z0::H)) (Tr.req (cu (ofNat 0) 2) (Tr.req (cu (ofNat 1) 2) (Tr.ite (cq (J (aq 0 j 2)) (J (au (aq 0 j 2) 1))) (Tr.ok (Ex.ret,[(2,iI 2,some 1)],Z0::H)) Tr.bad)))) (Tr.ok (Ex.ret,[(2,iI 2,some 1)],Z0::H))))) (Tr.ok (Ex.ret,[(2,iI 2,some 1)],Z0::H))))))) (Tr.ok (Ex.exit 2,[(1,AV.ptr 0 0 0 0,none),(5,AV.int .i64 j,none),(84,AV.bool false,some 1)],(bm [(0,dc O U Z V J)])::H))) (bm [(0,dc O U Z V J),(0,al.row (Row.I .i64 [J (aq 0 j 2),J (au (aq 0 j 2) 1)]))]):=by kernel_rfl
theorem Yu (n:Nat) (O:Int) (U:Nat) (Z:Nat→Int) (V:Nat) (J:Nat→Int) (H:aa) (e1 e2 e3:Bool) (l1 l2:bC) (C:List AV→Prop):aZ Tryd.prog (cd n) 100000 23 Tryd.f23 (KtG.kt 23) (il (mc aC 64 (gB e3 C)) n 0) (cE (cE aK 0 (og 3 (ofNat 0)) (bU O U Z V J::H) (.ite e1 (.ok (.ret,[(2,.int .i64 3,none)],l1::H)) (.ok (.normal,hints (og 3 (ofNat U)++[(36,.bool false)]),bU O U Z V J::H)))) 2 (og 5 (ofNat 0)) (bU O U Z V J::H) (.ite e2 (.ok (.ret,[(2,.int .i64 2,none)],l2::H)) (.ok (.normal,hints (og 5 (ofNat V)++[(84,.bool false)]),bU O U Z V J::H)))) aJ [(bt O U Z V J,none)] H =
 (fun (Z0:bC)=>Tr.ite (bF (ofNat U) (ofNat 1)) (Tr.ok ((iI 6,some 1),H)) (Tr.ite (bF (ofNat 10) (ofNat U)) (Tr.ok ((iI 6,some 1),H)) (Tr.ite (bF (ofNat 40) (ofNat V)) (Tr.ok ((iI 6,some 1),H)) (Tr.ite (bF O (ofNat 1)) (Tr.ok ((iI 3,some 1),H)) (Tr.ite (bF (ofNat 100) O) (Tr.ok ((iI 3,some 1),H)) (Tr.reqP ([(1,AV.ptr 0 0 0 0),(3,iI 0)]=[(1,AV.ptr 0 0 0 0),(3,iI 0)]∧Z0::H=Z0::H) (Tr.ite e1 (Tr.ok ((iI 3,none),H)) (Tr.reqP ([(1,AV.ptr 0 0 0 0),(5,iI 0)]=[(1,AV.ptr 0 0 0 0),(5,iI 0)]∧Z0::H=Z0::H) (Tr.ite e2 (Tr.ok ((iI 2,none),H)) (Tr.reqP (C [bt O U Z V J]) (Tr.ite e3 (Tr.ok ((iI 16,some 1),H)) (Tr.ok ((iI 0,some 1),H))))))))))))) (bm [(0,dc O U Z V J)]):=by kernel_rfl
theorem TY (n:Nat) (O:Int) (U:Nat) (Z:Nat→Int) (V:Nat) (J:Nat→Int) (H:aa):aZ Tryd.prog (cd n) 100000 23 Tryd.f23 (KtG.kt 23) (il aC n 0) (eI aK 0) aJ [(bt O U Z V J,none)] H =
 Tr.ite (bF (ofNat U) (ofNat 1)) (Tr.ok ((iI 6,some 1),H)) (Tr.ite (bF (ofNat 10) (ofNat U)) (Tr.ok ((iI 6,some 1),H)) (Tr.ite (bF (ofNat 40) (ofNat V)) (Tr.ok ((iI 6,some 1),H)) (Tr.ite (bF O (ofNat 1)) (Tr.ok ((iI 3,some 1),H)) (Tr.ite (bF (ofNat 100) O) (Tr.ok ((iI 3,some 1),H)) Tr.bad)))):=by kernel_rfl
end Go.Eng
end
section
namespace Go.Eng
open Int (ofNat)
open Go.Proofs Go.Eng.Gall
theorem N8:∀ b,(0,b) ∈ aI (aW Tryd.f23)→b=.loop (part Tryd.f23 [1,1,1,0,1,0,0]):=dJ (by kernel_rfl)
theorem N9:∀ b,(2,b) ∈ aI (aW Tryd.f23)→b=.loop (part Tryd.f23 [1,1,1,1,0,1,0,0]):=dJ (by kernel_rfl)
theorem Oa:∀ b,(4,b) ∈ aI (part Tryd.f23 [1,1,1,1,0,1,0,0])→b=.loop (part Tryd.f23 [1,1,1,1,0,1,0,0,1,0,0,1,1,1,0,0]):=dJ (by kernel_rfl)
section
variable (n:Nat) (O:Int) (U:Nat) (Z:Nat→Int) (V:Nat) (J:Nat→Int) (H:aa)
noncomputable def ML (j:Nat):bC:=fb O U Z V J [(0,.row (.I .i64 [Z (j*4),Z (j*4+1),Z (j*4+2),Z (j*4+3)]))]
theorem Sn (hl:U≤1000):exec (bJ n 23 125) (.block 0 (.loop (part Tryd.f23 [1,1,1,0,1,0,0]))) (og 3 (ofNat 0)) (bU O U Z V J::H) =
 some (cond (dk (jC Z) U) (.ret,[(2,.int .i64 3)],ML O U Z V J (fN (jC Z) U 0)::H) (.normal,og 3 (ofNat U)++[(36,.bool false)],bU O U Z V J::H)):=by
 refine ff (n:=n) (f:=23) (nt:=125) (c:=part Tryd.f23 [1,1,1,0,1,0,0]) 0 (fun j=>og 3 (j:Int)) (fun _=>bU O U Z V J::H) U (jC Z) (fun j=>([(2,.int .i64 3)],ML O U Z V J j::H)) (_,_) wO (fun j hj=>?_) ?_
 · have ej:bj .i64 (j:Int) (ofNat 1)=((j+1:Nat):Int):=dO wO
   have ei:aq 0 (j:Int) 4=j*4:=by rw[bo];omega
   have hs:jC Z j=!(decide (0≤Z (j*4)) && (decide (Z (j*4)≤Z (j*4+1)) && (decide (Z (j*4+1)≤1000) && (decide (0≤Z (j*4+2)) && (decide (Z (j*4+2)≤Z (j*4+3)) && decide (Z (j*4+3)≤1000)))))):=rfl
   have T:=PV n O U Z V J H (j:Int)
   rw[ei,aH,aH,aH,ej] at T
   refine aA T (aw _) (ah _ _) (aj _ _) ?_
   refine Tr.ae (fun h0=>?_) wJ
   refine Tr.ab wG (Tr.ab wG (Tr.ab wG (Tr.ab wG (Tr.ab wG ?_))))
   have yes:(¬ (0≤Z (j*4)∧Z (j*4)≤Z (j*4+1)∧Z (j*4+1)≤1000∧0≤Z (j*4+2)∧Z (j*4+2)≤Z (j*4+3)∧Z (j*4+3)≤1000))→jC Z j=true:=fun h=>by rw[hs];simp;omega
   refine Tr.ae (fun q1=>Tr.ag ?_) (fun q1=>Tr.ae (fun q2=>Tr.ag ?_) (fun q2=>Tr.ae (fun q3=>Tr.ag ?_) (fun q3=>Tr.ae (fun q4=>Tr.ag ?_) (fun q4=>Tr.ae (fun q5=>Tr.ag ?_) (fun q5=>Tr.ae (fun q6=>Tr.ag ?_) (fun q6=>Tr.ag ?_))))))
   · rw[bD,decide_eq_true_iff] at q1
     rw[if_pos (yes (by have:Z (j*4)<0:=q1;omega))];rfl
   · rw[bD,decide_eq_true_iff] at q2
     rw[if_pos (yes wO)];rfl
   · rw[bD,decide_eq_true_iff] at q3
     rw[if_pos (yes (by have:1000<Z (j*4+1):=q3;omega))];rfl
   · rw[bD,decide_eq_true_iff] at q4
     rw[if_pos (yes (by have:Z (j*4+2)<0:=q4;omega))];rfl
   · rw[bD,decide_eq_true_iff] at q5
     rw[if_pos (yes wO)];rfl
   · rw[bD,decide_eq_true_iff] at q6
     rw[if_pos (yes (by have:1000<Z (j*4+3):=q6;omega))];rfl
   · rw[bD,decide_eq_false_iff_not] at q1 q2 q3 q4 q5 q6
     have q1:¬ Z (j*4)<0:=q1
     have q3:¬ 1000<Z (j*4+1):=q3
     have q4:¬ Z (j*4+2)<0:=q4
     have q6:¬ 1000<Z (j*4+3):=q6
     rw[if_neg (by rw[hs];simp;omega)]
     exact ⟨rfl,rfl⟩
 · obtain ⟨x,h1,rfl⟩:=aA (Q:=fun x=>x=(.exit 0,og 3 (ofNat U)++[(36,.bool false)],bU O U Z V J::H)) (PV n O U Z V J H (ofNat U)) (aw _) (ah _ _) (aj _ _) (by
    refine Tr.ae wJ (fun h0=>Tr.ag rfl))
   exact h1
theorem Sr (a b:Int) (j:Nat) (hj:j≤V) (hb:V≤1000):exec (bJ n 23 125) (.block 4 (.loop (part Tryd.f23 [1,1,1,1,0,1,0,0,1,0,0,1,1,1,0,0]))) (Br (j:Int) (ofNat 0)) (fb O U Z V J [Fb a b]::H) =
 some (cond (dk (iC J a b) j) (.ret,[(2,.int .i64 2)],fb O U Z V J [Fb a b]::H) (.normal,Br (j:Int) (j:Int)++[(113,.bool false)],fb O U Z V J [Fb a b]::H)):=by
 refine ff (n:=n) (f:=23) (nt:=125) (c:=part Tryd.f23 [1,1,1,1,0,1,0,0,1,0,0,1,1,1,0,0]) 4 (fun k=>Br (j:Int) (k:Int)) (fun _=>fb O U Z V J [Fb a b]::H) j (iC J a b) (fun k=>([(2,.int .i64 2)],fb O U Z V J [Fb a b]::H)) (_,_) wO (fun k hk=>?_) ?_
 · have ek:bj .i64 (k:Int) (ofNat 1)=((k+1:Nat):Int):=dO wO
   have ei:aq 0 (k:Int) 2=k*2:=by rw[bo];omega
   have hp:bT (cq (J (k*2)) a) (cq (J (k*2+1)) b)=iC J a b k:=by
    rw[ct,aQ,aQ];unfold iC;rw[Bool.eq_iff_iff];simp;constructor<;>(rintro ⟨h1,h2⟩;exact ⟨h1.symm,h2.symm⟩)
   have T:=PX n O U Z V J H a b (j:Int) (k:Int)
   rw[ei,aH,ek,hp] at T
   refine aA T (aw _) (ah _ _) (aj _ _) ?_
   refine Tr.ae (fun h0=>?_) wJ
   refine Tr.ab wG (Tr.ab wG (Tr.ab wG (Tr.ae (fun q=>Tr.ag ?_) (fun q=>Tr.ag ?_))))
   · rw[if_pos q];rfl
   · rw[if_neg (by rw[q];decide)];exact ⟨rfl,rfl⟩
 · obtain ⟨x,h1,rfl⟩:=aA (Q:=fun x=>x=(.exit 4,Br (j:Int) (j:Int)++[(113,.bool false)],fb O U Z V J [Fb a b]::H)) (PX n O U Z V J H a b (j:Int) (j:Int)) (aw _) (ah _ _) (aj _ _) (by
    refine Tr.ae wJ (fun h0=>Tr.ag rfl))
   exact h1
theorem Sp   (hl:U≤1000) (hb:V≤1000):exec (bJ (n+1) 23 125) (.block 2 (.loop (part Tryd.f23 [1,1,1,1,0,1,0,0]))) (og 5 (ofNat 0)) (bU O U Z V J::H) =
 some (cond (dk (gI U J) V) (.ret,[(2,.int .i64 2)],fb O U Z V J [Fb (J (fN (gI U J) V 0*2)) (J (fN (gI U J) V 0*2+1))]::H) (.normal,og 5 (ofNat V)++[(84,.bool false)],bU O U Z V J::H)):=by
 refine ff (n:=n+1) (f:=23) (nt:=125) (c:=part Tryd.f23 [1,1,1,1,0,1,0,0]) 2 (fun j=>og 5 (j:Int)) (fun _=>bU O U Z V J::H) V (gI U J) (fun j=>([(2,.int .i64 2)],fb O U Z V J [Fb (J (j*2)) (J (j*2+1))]::H)) (_,_) wO (fun j hj=>?_) ?_
 · have ej : bj .i64 (j:Int) (ofNat 1)=((j+1:Nat):Int):=dO wO
   have ei:aq 0 (j:Int) 2=j*2:=by rw[bo];omega
   have T:=TC n O U Z V J H (j:Int) (dk (iC J (J (j*2)) (J (j*2+1))) j)
   rw[ei,aH,ej] at T
   refine aA T (dT n 1) (aU (ah _ _) Oa (fun x h=>cK h (Sr (n+1) O U Z V J H _ _ j wO hb))) (aj _ _) ?_
   refine Tr.ae (fun h0=>?_) wJ
   refine Tr.ab wG (Tr.ab wG (Tr.ab wG (Tr.ab wG ?_)))
   have yes:(J (j*2)=J (j*2+1)∨¬ (0≤J (j*2)∧J (j*2)<U)∨¬ (0≤J (j*2+1)∧J (j*2+1)<U))→gI U J j=true:=fun h=>by
    unfold gI;rcases h with h | h | h
    · rw[decide_eq_true h];rfl
    · rw[decide_eq_false h];simp
    · rw[decide_eq_false h];simp
   refine Tr.ae (fun q1=>?_) (fun q1=>Tr.ag ?_)
   · rw[bk,decide_eq_true_iff] at q1
     have q1:0≤J (j*2):=q1
     refine Tr.ae (fun q2=>Tr.ag ?_) (fun q2=>?_)
     · rw[av,bD] at q2
       have q2:¬ J (j*2)<(U:Int):=by simpa using q2
       rw[if_pos (yes (.inr (.inl wO)))];rfl
     · rw[av,bD] at q2
       have q2:J (j*2)<(U:Int):=by simpa using q2
       refine Tr.ab wG (Tr.ae (fun q3=>?_) (fun q3=>Tr.ag ?_))
       · rw[bk,decide_eq_true_iff] at q3
         have q3:0≤J (j*2+1):=q3
         refine Tr.ae (fun q4=>Tr.ag ?_) (fun q4=>?_)
         · rw[av,bD] at q4
           have q4:¬ J (j*2+1)<(U:Int):=by simpa using q4
           rw[if_pos (yes (.inr (.inr wO)))];rfl
         · rw[av,bD] at q4
           have q4:J (j*2+1)<(U:Int):=by simpa using q4
           refine Tr.ab wG (Tr.ab wG (Tr.ae (fun q5=>Tr.ag ?_) (fun q5=>?_)))
           · rw[aQ,beq_iff_eq] at q5
             rw[if_pos (yes (.inl q5))];rfl
           · rw[aQ,beq_eq_false_iff_ne] at q5
             refine Tr.ak ⟨rfl,rfl⟩ (Tr.ae (fun q6=>Tr.ag ?_) (fun q6=>Tr.ag ?_))
             · rw[if_pos (by unfold gI;rw[q6];simp)];rfl
             · rw[if_neg (by unfold gI;rw[q6,decide_eq_false q5,decide_eq_true ⟨q1,q2⟩,decide_eq_true ⟨q3,q4⟩];decide)]
               exact ⟨rfl,rfl⟩
       · rw[bk,decide_eq_false_iff_not] at q3
         have q3:¬ 0≤J (j*2+1):=q3
         rw[if_pos (yes (.inr (.inr wO)))];rfl
   · rw[bk,decide_eq_false_iff_not] at q1
     have q1:¬ 0≤J (j*2):=q1
     rw[if_pos (yes (.inr (.inl wO)))];rfl
 · obtain ⟨x,h1,rfl⟩:=aA (Q:=fun x=>x=(.exit 2,og 5 (ofNat V)++[(84,.bool false)],bU O U Z V J::H)) (PW n O U Z V J H (ofNat V)) (dT n 1) (b9 (ah _ _) 4) (aj _ _) (by
    refine Tr.ae wJ (fun h0=>Tr.ag rfl))
   exact h1
theorem Q7 (hl:U≤1000) (hb:V≤1000):cd (n+3) (.fn 23) [bt O U Z V J] H=some (.int .i64 (dm O U Z V J),H):=by
 by_cases k0:1≤U∧U≤10∧V≤40
 · obtain ⟨k1,k2,k3⟩:=k0;have ht:(mc aC 64 (gB (ma U (fun c=>dq J c V)) (fun A=>A=[bt O U Z V J]∧iL U V J))).Ok (cd (n+2)):=yC (aR _) (fun A H hA=>by
    obtain ⟨rfl,hp⟩:=hA;exact V4 n O U Z V J H k2 k1 hb hp)
   refine bp (n:=n+2) Tryd.func23 rfl rfl rfl (Yu (n+2) O U Z V J H (dk (jC Z) U) (dk (gI U J) V) (ma U (fun c=>dq J c V)) (ML O U Z V J (fN (jC Z) U 0)) (fb O U Z V J [Fb (J (fN (gI U J) V 0*2)) (J (fN (gI U J) V 0*2+1))]) (fun A=>A=[bt O U Z V J]∧iL U V J)) (bw _ _ ht) (aU (aU (ah _ _) N8 (fun y h=>cK h (Sn (n+2) O U Z V J H hl))) N9 (fun y h=>cK h (Sp (n+1) O U Z V J H hl hb))) (aj _ _) ?_;have hG:dm O U Z V J=if O<1∨100<O∨dk (jC Z) U=true then 3 else if dk (gI U J) V=true then 2 else if ma U (fun c=>dq J c V)=true then 16 else 0:=by unfold dm;rw[if_neg wO]
   rw[hG];refine Tr.ae wJ (fun _=>Tr.ae wJ (fun _=>Tr.ae wJ (fun _=>?_)));refine Tr.ae (fun q=>?_) (fun q=>Tr.ae (fun q'=>?_) (fun q'=>?_))
   · rw[bD,decide_eq_true_iff] at q;rw[if_pos (.inl q)];exact Tr.ag ⟨rfl,rfl⟩
   · rw[bD,decide_eq_true_iff] at q';rw[if_pos (.inr (.inl q'))];exact Tr.ag ⟨rfl,rfl⟩
   · rw[bD,decide_eq_false_iff_not] at q q';have q:¬ O<1:=q;have q':¬ 100<O:=q';refine Tr.ak ⟨rfl,rfl⟩ (Tr.ae (fun r=>?_) (fun r=>?_))
     · rw[if_pos (.inr (.inr r))];exact Tr.ag ⟨rfl,rfl⟩
     · rw[if_neg (by rintro (h | h | h);omega;omega;rw[r] at h;cases h)];refine Tr.ak ⟨rfl,rfl⟩ (Tr.ae (fun u=>?_) (fun u=>?_))
       · rw[if_pos u];exact Tr.ag ⟨rfl,rfl⟩
       · rw[if_neg (by rw[u];decide)];refine Tr.ak ⟨rfl,pW u⟩ (Tr.ae (fun w=>?_) (fun w=>?_))
         · rw[if_pos w];exact Tr.ag ⟨rfl,rfl⟩
         · rw[if_neg (by rw[w];decide)];exact Tr.ag ⟨rfl,rfl⟩
 · refine bp (n:=n+2) Tryd.func23 rfl rfl rfl (TY (n+2) O U Z V J H) (aw _) (b9 (ah _ _) 0) (aj _ _) ?_;have hG:dm O U Z V J=6:=by unfold dm;rw[if_pos wO]
   rw[hG];refine Tr.ae (fun q=>Tr.ag ⟨rfl,rfl⟩) (fun q=>Tr.ae (fun q2=>Tr.ag ⟨rfl,rfl⟩) (fun q2=>Tr.ae (fun q3=>Tr.ag ⟨rfl,rfl⟩) (fun q3=>?_)));exfalso;simp (disch:=omega) only[nV,nW] at q;simp (disch:=omega) only[nV,nW] at q2;simp (disch:=omega) only[nV,nW] at q3;omega
end
end Go.Eng
end
section
namespace Go.Eng
open Int (ofNat)
open Go.Proofs
noncomputable def dj (r:Nat→Int):Nat×al:=(0,.row (.M [.arr .i64 r 20]))
noncomputable def fE (bs:List (Nat×al)):bC:=⟨false,dj (fun _=>ofNat 0)::bs⟩
noncomputable def nA (A:AV) (U:Nat) (t:Int):aD:=[(0,A),(2,.ptr 0 0 0 0),(3,.ptr 0 1 0 0),(17,.int .i64 (ofNat U)),(18,.int .i64 t)]
noncomputable def yA (A:AV) (U:Nat) (t:Int) (B:Nat→Int) (c:Int):aD:=[(0,A),(2,.ptr 0 0 0 0),(3,.ptr 0 1 0 0),(4,.ptr 0 2 0 0),(17,.int .i64 (ofNat U)),(18,.int .i64 t),(24,.agg (.M [.arr .u64 B 10])),(25,.int .i64 c)]
noncomputable def Bs (A:AV) (U:Nat) (t:Int) (B:Nat→Int) (c x:Int):aD:=[(0,A),(2,.ptr 0 0 0 0),(3,.ptr 0 1 0 0),(4,.ptr 0 2 0 0),(5,.int .i64 c),(6,.int .u64 x),(17,.int .i64 (ofNat U)),(18,.int .i64 t),(24,.agg (.M [.arr .u64 B 10])),(25,.int .i64 c)]
noncomputable def Rp (cz:Int→Int):List AV→Option (Prop×AV)
 | [.int .u64 x]=>some (0≤x∧x<18446744073709551616,.int .i64 (cz x))
 | _=>none
theorem P7 (n:Nat) (O:Int) (U:Nat) (Z:Nat→Int) (V:Nat) (J:Nat→Int) (W B:Nat→Int) (H:aa) (cz:Int→Int) (r q:Nat→Int) (t c x:Int):aF (bJ n 56 69) (il (mc aC 82 (Rp cz)) n 0) aK aJ (part Tryd.f56 [1,1,0,1,0,0,1,1,0,0,1,0,1,0,0,1,1,0,0,1,0,0]) (hints (Bs (shV O U Z V J W B) U t B c x)) (fE [dj r,dj q]::H) =
 Tr.ite (bf (cq x (ofNat 0))) (Tr.reqP (Int.NonNeg (x-0)∧Int.NonNeg (18446744073709551616-(x+1))) (Tr.req (cu c 10) (Tr.req (cH 0 0) (Tr.req (bX (aq 0 c 2) 20) (Tr.req (cu (cz x) 10) (Tr.req (cH 0 0) (Tr.req (bX (aq 0 (cz x) 2) 20) (Tr.req (cu c 10) (Tr.req (cH 0 0) (Tr.req (bX (aq 0 c 2) 20) (Tr.req (bT (dW 0 0) (dW 0 1)) (Tr.req (cu (cz x) 10) (Tr.req (cH 0 0) (Tr.req (bX (au (aq 0 (cz x) 2) 1) 20) (Tr.req (cu c 10) (Tr.req (cH 0 0) (Tr.req (bX (au (aq 0 c 2) 1) 20) (Tr.req (cu (cz x) 10) (Tr.req (cH 0 0) (Tr.req (bX (au (aq 0 (cz x) 2) 1) 20) (Tr.req (bT (dW 0 0) (dW 0 1)) (Tr.ok (Ex.normal,[(0,shV O U Z V J W B,none),(2,AV.ptr 0 0 0 0,none),(3,AV.ptr 0 1 0 0,none),(4,AV.ptr 0 2 0 0,none),(5,AV.int .i64 c,none),(6,AV.int IntKind.u64 (mj IntKind.u64 x (bL IntKind.u64 x (ofNat 1))),none),(17,iI U,none),(18,AV.int .i64 t,none),(24,AV.agg (Row.M [da.arr IntKind.u64 B 10]),none),(25,AV.int .i64 c,none)],(bm [(0,al.row (rM (fun x=>ofNat 0) 20)),(0,al.row (rM (dh (dh r (aq 0 c 2) (vp (r (aq 0 c 2)) (bj .i64 (r (aq 0 (cz x) 2)) (ofNat 1)))) (au (aq 0 (cz x) 2) 1) (zp (dh r (aq 0 c 2) (vp (r (aq 0 c 2)) (bj .i64 (r (aq 0 (cz x) 2)) (ofNat 1))) (au (aq 0 (cz x) 2) 1)) (bL .i64 (dh r (aq 0 c 2) (vp (r (aq 0 c 2)) (bj .i64 (r (aq 0 (cz x) 2)) (ofNat 1))) (au (aq 0 c 2) 1)) (ofNat 1)))) 20)),(0,al.row (rM q 20))])::H))))))))))))))))))))))) (Tr.ok (Ex.exit 4,[(0,shV O U Z V J W B,none),(2,AV.ptr 0 0 0 0,none),(3,AV.ptr 0 1 0 0,none),(4,AV.ptr 0 2 0 0,none),(5,AV.int .i64 c,none),(6,AV.int IntKind.u64 x,none),(17,iI U,none),(18,AV.int .i64 t,none),(24,AV.agg (Row.M [da.arr IntKind.u64 B 10]),none),(25,AV.int .i64 c,none),(30,AV.bool false,some 1)],(bm [(0,al.row (rM (fun x=>ofNat 0) 20)),(0,al.row (rM r 20)),(0,al.row (rM q 20))])::H)):=by kernel_rfl
theorem TJ (n:Nat) (O:Int) (U:Nat) (Z:Nat→Int) (V:Nat) (J:Nat→Int) (W B:Nat→Int) (H:aa) (r q r':Nat→Int) (t c x:Int):aF (bJ n 56 69) (il aC n 0) (cE aK 4 (Bs (shV O U Z V J W B) U t B c (B (aq 0 c 1))) (fE [dj r,dj q]::H) (.ok (.normal,hints (Bs (shV O U Z V J W B) U t B c x++[(30,.bool false)]),fE [dj r',dj q]::H))) aJ (part Tryd.f56 [1,1,0,1,0,0,1,1,0,0,1,0,1,0,0]) (hints (yA (shV O U Z V J W B) U t B c)) (fE [dj r,dj q]::H) =
 (fun (Z0:aD)=>((fun (Z1:bC)=>Tr.ite (bF c (ofNat 10)) (Tr.req (cu c 10) (Tr.req (bX (aq 0 c 1) 10) (Tr.reqP (Z0=Z0∧Z1::H=Z1::H) (Tr.ok (Ex.normal,[(0,shV O U Z V J W B,none),(2,AV.ptr 0 0 0 0,none),(3,AV.ptr 0 1 0 0,none),(4,AV.ptr 0 2 0 0,none),(17,iI U,none),(18,AV.int .i64 t,none),(24,AV.agg (Row.M [da.arr IntKind.u64 B 10]),none),(25,AV.int .i64 (bj .i64 c (ofNat 1)),none)],(bm [(0,al.row (rM (fun x=>ofNat 0) 20)),(0,al.row (rM r' 20)),(0,al.row (rM q 20))])::H))))) (Tr.ok (Ex.exit 2,[(0,shV O U Z V J W B,none),(2,AV.ptr 0 0 0 0,none),(3,AV.ptr 0 1 0 0,none),(4,AV.ptr 0 2 0 0,none),(17,iI U,none),(18,AV.int .i64 t,none),(24,AV.agg (Row.M [da.arr IntKind.u64 B 10]),none),(25,AV.int .i64 c,none),(26,AV.bool false,some 1)],Z1::H))) (bm [(0,al.row (rM (fun x=>ofNat 0) 20)),(0,al.row (rM r 20)),(0,al.row (rM q 20))]))) [(0,shV O U Z V J W B),(2,AV.ptr 0 0 0 0),(3,AV.ptr 0 1 0 0),(4,AV.ptr 0 2 0 0),(5,AV.int .i64 c),(6,AV.int IntKind.u64 (B (aq 0 c 1))),(17,iI U),(18,AV.int .i64 t),(24,AV.agg (Row.M [da.arr IntKind.u64 B 10])),(25,AV.int .i64 c)]:=by kernel_rfl
theorem P6 (n:Nat) (O:Int) (U:Nat) (Z:Nat→Int) (V:Nat) (J:Nat→Int) (W B:Nat→Int) (H:aa) (r q:Nat→Int) (t:Int):aF (bJ n 56 69) (il aC n 0) (eI aK 4) aJ (part Tryd.f56 [1,1,0,1,0,0,1,1,0,0,1,0,1,0,0]) (hints (yA (shV O U Z V J W B) U t B 10)) (fE [dj r,dj q]::H) =
 Tr.ite (bF (ofNat 10) (ofNat 10)) (Tr.req (cu (ofNat 10) 10) (Tr.req (bX (aq 0 (ofNat 10) 1) 10) Tr.bad)) (Tr.ok (Ex.exit 2,[(0,shV O U Z V J W B,none),(2,AV.ptr 0 0 0 0,none),(3,AV.ptr 0 1 0 0,none),(4,AV.ptr 0 2 0 0,none),(17,iI U,none),(18,AV.int .i64 t,none),(24,AV.agg (Row.M [da.arr IntKind.u64 B 10]),none),(25,iI 10,none),(26,AV.bool false,some 1)],(bm [(0,al.row (rM (fun x=>ofNat 0) 20)),(0,al.row (rM r 20)),(0,al.row (rM q 20))])::H)):=by kernel_rfl
theorem TI (n:Nat) (O:Int) (U:Nat) (Z:Nat→Int) (V:Nat) (J:Nat→Int) (W B:Nat→Int) (H:aa) (r r':Nat→Int) (t:Int):aF (bJ n 56 69) (il aC n 0) (cE aK 2 (yA (shV O U Z V J W B) U t B (ofNat 0)) (fE [dj r,dj r]::H) (.ok (.normal,hints (yA (shV O U Z V J W B) U t B (ofNat 10)++[(26,.bool false)]),fE [dj r',dj r]::H))) aJ (part Tryd.f56 [1,1,0,1,0,0]) (hints (nA (shV O U Z V J W B) U t)) (fE [dj r]::H) =
 (fun (Z0:aD)=>((fun (Z1:Nat×al)=>Tr.ite (bF t (ofNat U)) (Tr.req (dP 0 20 0 20) (Tr.reqP (Z0=Z0∧(bm [Z1,(0,al.row (rM r 20)),(0,al.row (rM (nz (fun x=>ofNat 0) 0 r 20) 20))])::H=(bm [Z1,(0,al.row (rM r 20)),(0,al.row (rM r 20))])::H) (Tr.ite (mi r' r 20) (Tr.ok (Ex.exit 0,[(0,shV O U Z V J W B,none),(2,AV.ptr 0 0 0 0,none),(3,AV.ptr 0 1 0 0,none),(17,iI U,none),(18,AV.int .i64 t,none),(66,AV.bool true,some 1)],(bm [Z1,(0,al.row (rM r' 20)),(0,al.row (rM r 20))])::H)) (Tr.ok (Ex.normal,[(0,shV O U Z V J W B,none),(2,AV.ptr 0 0 0 0,none),(3,AV.ptr 0 1 0 0,none),(17,iI U,none),(18,AV.int .i64 (bj .i64 t (ofNat 1)),none)],(bm [Z1,(0,al.row (rM r' 20)),(0,al.row (rM r 20))])::H))))) (Tr.ok (Ex.exit 0,[(0,shV O U Z V J W B,none),(2,AV.ptr 0 0 0 0,none),(3,AV.ptr 0 1 0 0,none),(17,iI U,none),(18,AV.int .i64 t,none),(19,AV.bool false,some 1)],(bm [Z1,(0,al.row (rM r 20))])::H))) (0,al.row (rM (fun x=>ofNat 0) 20)))) [(0,shV O U Z V J W B),(2,AV.ptr 0 0 0 0),(3,AV.ptr 0 1 0 0),(4,AV.ptr 0 2 0 0),(17,iI U),(18,AV.int .i64 t),(24,AV.agg (Row.M [da.arr IntKind.u64 B 10])),(25,iI 0)]:=by kernel_rfl
theorem P5 (n:Nat) (O:Int) (U:Nat) (Z:Nat→Int) (V:Nat) (J:Nat→Int) (W B:Nat→Int) (H:aa) (r:Nat→Int) (t:Int):aF (bJ n 56 69) (il aC n 0) (eI aK 2) aJ (part Tryd.f56 [1,1,0,1,0,0]) (hints (nA (shV O U Z V J W B) U t)) (fE [dj r]::H) =
 Tr.ite (bF t (ofNat U)) (Tr.req (dP 0 20 0 20) Tr.bad) (Tr.ok (Ex.exit 0,[(0,shV O U Z V J W B,none),(2,AV.ptr 0 0 0 0,none),(3,AV.ptr 0 1 0 0,none),(17,iI U,none),(18,AV.int .i64 t,none),(19,AV.bool false,some 1)],(bm [(0,al.row (rM (fun x=>ofNat 0) 20)),(0,al.row (rM r 20))])::H)):=by kernel_rfl
theorem T8 (n:Nat) (O:Int) (U:Nat) (Z:Nat→Int) (V:Nat) (J:Nat→Int) (W B:Nat→Int) (H:aa) (r:Nat→Int):aZ Tryd.prog (cd n) 100000 56 Tryd.f56 (KtG.kt 56) (il aC n 0) (cE aK 0 (nA (shV O U Z V J W B) U (ofNat 0)) (fE [dj W]::H) (.ok (.normal,hints (nA (shV O U Z V J W B) U (ofNat U)++[(19,.bool false)]),fE [dj r]::H))) aJ [(shV O U Z V J W B,none)] H =
 (fun (Z0:aD)=>Tr.req (dP 0 20 0 20) (Tr.reqP (Z0=Z0∧(bm [(0,al.row (rM (fun x=>ofNat 0) 20)),(0,al.row (rM (nz (fun x=>ofNat 0) 0 W 20) 20))])::H=(bm [(0,al.row (rM (fun x=>ofNat 0) 20)),(0,al.row (rM W 20))])::H) (Tr.req (dP 0 20 0 20) (Tr.ok ((AV.agg (rM (nz (fun x=>ofNat 0) 0 r 20) 20),none),H))))) [(0,shV O U Z V J W B),(2,AV.ptr 0 0 0 0),(3,AV.ptr 0 1 0 0),(17,iI U),(18,iI 0)]:=by kernel_rfl
theorem T9 (n:Nat) (O:Int) (U:Nat) (Z:Nat→Int) (V:Nat) (J:Nat→Int) (W B:Nat→Int) (H:aa) (r q:Nat→Int) (t:Int):aZ Tryd.prog (cd n) 100000 56 Tryd.f56 (KtG.kt 56) (il aC n 0) (cE aK 0 (nA (shV O U Z V J W B) U (ofNat 0)) (fE [dj W]::H) (.ok (.normal,hints (nA (shV O U Z V J W B) U t++[(66,.bool true)]),fE [dj r,dj q]::H))) aJ [(shV O U Z V J W B,none)] H =
 (fun (Z0:aD)=>Tr.req (dP 0 20 0 20) (Tr.reqP (Z0=Z0∧(bm [(0,al.row (rM (fun x=>ofNat 0) 20)),(0,al.row (rM (nz (fun x=>ofNat 0) 0 W 20) 20))])::H=(bm [(0,al.row (rM (fun x=>ofNat 0) 20)),(0,al.row (rM W 20))])::H) (Tr.req (dP 0 20 0 20) (Tr.ok ((AV.agg (rM (nz (fun x=>ofNat 0) 0 r 20) 20),none),H))))) [(0,shV O U Z V J W B),(2,AV.ptr 0 0 0 0),(3,AV.ptr 0 1 0 0),(17,iI U),(18,iI 0)]:=by kernel_rfl
end Go.Eng
end
section
namespace Go.Eng
open Int (ofNat)
open Go.Proofs Go.Eng.Gall
theorem Gu {c:Nat} (hc:0<c):(mc aC 82 (Rp (fun x=>ofNat (mM x.toNat)))).Ok (cd c):=by
 obtain ⟨m,rfl⟩:∃ m,c=m+1:=⟨c-1,by omega⟩
 refine my (aR _) (fun args p v hg hp H=>?_);unfold Rp at hg;split at hg
 · rename_i x;simp only[nP] at hg;obtain ⟨rfl,rfl⟩:=hg;refine oZ ?_;show (match Gall.vu (cd m) 82 [.int .u64 x] H with
    | some x=>some x
    | none=>_)=_
   have e:Gall.vu (cd m) 82 [.int .u64 x] H=some (.int .i64 (Go.Lib.ctz 64 x.toNat),H):=by
    show F7 [.int .u64 x] H=_;unfold F7;exact if_pos hp
   rw[e];rfl
 · cases hg
theorem sI {W:Nat→Int} (h:∀ j,20≤j→W j=0):nz (fun _=>ofNat 0) 0 W 20=W:=by
 rw[rL];funext j;unfold wR;by_cases e:j<20
 · simp[e]
 · rw[h j wO];simp[e]
section
variable {n:Nat} {b:Nat→Nat} {w:Nat→Int}
theorem Pg {K:Int} (hw:∀ i,w i≤K) (t c:Nat):fC n b w t c≤K+t:=by
 induction t generalizing c with
 | zero=>have:=hw (2*c);show w (2*c)≤K+((0:Nat):Int);omega
 | succ t ih =>
   rcases js (fC n b w t c) (fun a=>fC n b w t a+1) (fun a=>(b c).testBit a) n with e | ⟨a,h1,h2,h3⟩
   · have:fC n b w (t+1) c=fC n b w t c:=e;have:=ih c;omega
   · have:fC n b w (t+1) c=fC n b w t a+1:=h3;have:=ih a;omega
theorem OV {K:Int} (hw:∀ i,-K≤w i) (t c:Nat):fA n b w t c≤K+t:=by
 induction t generalizing c with
 | zero=>have:=hw (2*c+1);show -w (2*c+1)≤K+((0:Nat):Int);omega
 | succ t ih =>
   rcases js (fA n b w t c) (fun a=>fA n b w t a+1) (fun a=>(b a).testBit c) n with e | ⟨a,h1,h2,h3⟩
   · have:fA n b w (t+1) c=fA n b w t c:=e;have:=ih c;omega
   · have:fA n b w (t+1) c=fA n b w t a+1:=h3;have:=ih a;omega
theorem Ba {K:Int} (hK:0≤K) (hw:∀ i,-K≤w i∧w i≤K) {t:Nat} {r:Nat→Int} (hr:Bd n b w t r) (c:Nat) (hc:c<n):(-K≤r (2*c)∧r (2*c)≤K+n)∧-K-n≤r (2*c+1)∧r (2*c+1)≤K:=by
 have h1:=hr.lo c hc;have h2:=hr.hi c hc;have h3:=Pg (n:=n) (b:=b) (fun i=>(hw i).2) n c;have h4:=OV (n:=n) (b:=b) (fun i=>(hw i).1) n c;have h5:fC n b w 0 c≤fC n b w t c:=by have:=lo_le (n:=n) (b:=b) (w:=w) 0 t c;rwa [Nat.zero_add] at this
 have h6:fA n b w 0 c≤fA n b w t c:=by have:=yK (n:=n) (b:=b) (w:=w) 0 t c;rwa [Nat.zero_add] at this
 have h7:fC n b w 0 c=w (2*c):=rfl;have h8:fA n b w 0 c=-w (2*c+1):=rfl;have h9:=hw (2*c);have h10:=hw (2*c+1);omega
end
structure eN (U:Nat) (W:Nat→Int) (b:Nat→Nat):Prop where
 len:U≤10
 win:∀ j,-100000≤W j∧W j≤100000
 zer:∀ j,20≤j→W j=0
 bef:∀ c,c<U→b c<2 ^ U
 off:∀ c,U≤c→b c=0
 nob:ma U b=false
theorem eN.lt {U:Nat} {W:Nat→Int} {b:Nat→Nat} (h:eN U W b) (c:Nat):b c<2 ^ 10:=by
 by_cases hc:c<U
 · exact Nat.lt_of_lt_of_le (h.bef c hc) (Nat.pow_le_pow_right (by decide) h.len)
 · rw[h.off c wO];decide
theorem eN.bit {U:Nat} {W:Nat→Int} {b:Nat→Nat} (h:eN U W b) {c a:Nat} (hb:(b c).testBit a=true):c<U∧a<U:=by
 have hc:c<U:=by
  apply Classical.byContradiction;intro hn;rw[h.off c wO] at hb;simp at hb
 refine ⟨hc,?_⟩;apply Classical.byContradiction;intro hn;have:=Nat.testBit_lt_two_pow (Nat.lt_of_lt_of_le (h.bef c hc) (Nat.pow_le_pow_right (by decide) (show U≤a by omega)));rw[hb] at this;cases this
theorem eN.all {U:Nat} {W:Nat→Int} {b:Nat→Nat} (h:eN U W b):Il U b (me b 10):=fun a c=>by
 rw[DF b 10 (fun c _=>h.lt c)];constructor
 · rintro ⟨_,h2⟩;obtain ⟨h3,h4⟩:=h.bit h2;exact ⟨h4,h3,h2⟩
 · rintro ⟨_,h1,h2⟩;exact ⟨by have:=h.len;omega,h2⟩
theorem Kh:∀ b,(0,b) ∈ aI (aW Tryd.f56)→b=.loop (part Tryd.f56 [1,1,0,1,0,0]):=dJ (by kernel_rfl)
theorem Oc:∀ b,(2,b) ∈ aI (part Tryd.f56 [1,1,0,1,0,0])→b=.loop (part Tryd.f56 [1,1,0,1,0,0,1,1,0,0,1,0,1,0,0]):=dJ (by kernel_rfl)
theorem Od:∀ b,(4,b) ∈ aI (part Tryd.f56 [1,1,0,1,0,0,1,1,0,0,1,0,1,0,0])→b=.loop (part Tryd.f56 [1,1,0,1,0,0,1,1,0,0,1,0,1,0,0,1,1,0,0,1,0,0]):=dJ (by kernel_rfl)
theorem H4 (r:Nat→Int) (i:Nat) (x:Int):dh r i x=Fz r i x:=by rw[hJ];rfl
section
variable (n:Nat) (O:Int) (U:Nat) (Z:Nat→Int) (V:Nat) (J:Nat→Int) (W:Nat→Int) (b:Nat→Nat) (H:aa)
theorem Ss (hS:eN U W b) (q r:Nat→Int) (t':Nat) (hr:Bd U b W t' r) (t:Int) (c:Nat) (hc:c<10):exec (bJ (n+1) 56 69) (.block 4 (.loop (part Tryd.f56 [1,1,0,1,0,0,1,1,0,0,1,0,1,0,0,1,1,0,0,1,0,0]))) (Bs (shV O U Z V J W (bI b)) U t (bI b) (c:Int) (bI b c)) (fE [dj r,dj q]::H) =
 some (.normal,Bs (shV O U Z V J W (bI b)) U t (bI b) (c:Int) 0++[(30,.bool false)],fE [dj (oK r ((m8 10 (b c)).map fun a=>(a,c))),dj q]::H):=by
 have hlt:=hS.lt c
 obtain ⟨m1,m2,m3⟩:=wL 10 (b c) (Nat.lt_of_lt_of_le hlt (by decide)) (fun i hi=>⟨by omega,by have:=(hS.bit hi).2;have:=hS.len;omega⟩)
 have hlen:(m8 10 (b c)).length≤10:=by
  have:∀ f x,(m8 f x).length≤f:=by
   intro f;induction f with
   | zero=>intro x;exact Nat.le_refl _
   | succ f ih =>
     intro x;show (if x=0 then [] else mM x::m8 f (x &&& (x-1))).length≤f+1;split
     · exact Nat.zero_le _
     · rw[List.length_cons];have:=ih (x &&& (x-1));omega
  exact this 10 (b c)
 have hst:∀ k,k≤(m8 10 (b c)).length→Bd U b W t' (oK r (((m8 10 (b c)).take k).map fun a=>(a,c))):=fun k hk =>
  (rK hS.nob _ hr (fun p hp=>by
    obtain ⟨a,ha,rfl⟩:=List.mem_map.1 hp;have hb:=(m1 a).1 (List.mem_of_mem_take ha);obtain ⟨h1,h2⟩:=hS.bit hb;exact ⟨h2,h1,hb⟩)).1
 have hN:oK r ((m8 10 (b c)).map fun a=>(a,c))=oK r (((m8 10 (b c)).take (m8 10 (b c)).length).map fun a=>(a,c)):=by rw[List.take_length]
 rw[hN]
 have hl:=hS.len
 refine jh (n:=n+1) (f:=56) (nt:=69) (c:=part Tryd.f56 [1,1,0,1,0,0,1,1,0,0,1,0,1,0,0,1,1,0,0,1,0,0]) 4 (fun k=>Bs (shV O U Z V J W (bI b)) U t (bI b) (c:Int) (ke (b c) k:Nat)) (fun k=>fE [dj (oK r (((m8 10 (b c)).take k).map fun a=>(a,c))),dj q]::H) (m8 10 (b c)).length (_,_) wO (fun k hk=>?_) ?_
 · obtain ⟨z0,z1⟩:=m2 k hk
   have hs:=hst k wO
   have hmem:=(m1 _).1 (List.getElem_mem hk)
   obtain ⟨hcl,hal⟩:=hS.bit hmem
   have htake:(m8 10 (b c)).take (k+1)=(m8 10 (b c)).take k++[(m8 10 (b c))[k]]:=by rw[List.take_add_one,List.getElem?_eq_getElem hk];rfl
   have hlw:mM (ke (b c) k)=(m8 10 (b c))[k]:=z1.symm
   generalize hR:oK r (((m8 10 (b c)).take k).map fun a=>(a,c))=R at *
   have bc:=Ba (K:=100000) wO hS.win hs c hcl
   have ba:=Ba (K:=100000) wO hS.win hs (mM (ke (b c) k)) (by rw[hlw];exact hal)
   have hrl:=Ni (b c) k (Nat.lt_of_lt_of_le hlt (by decide))
   have T:=P7 (n+1) O U Z V J W (bI b) H (fun x=>ofNat (mM x.toNat)) R q t (c:Int) ((ke (b c) k:Nat):Int)
   have e1:aq 0 (c:Int) 2=2*c:=by rw[bo];omega
   have e2:aq 0 (ofNat (mM ((ke (b c) k:Nat):Int).toNat)) 2=2*mM (ke (b c) k):=by rw[bo,Int.toNat_natCast];show 0+mM (ke (b c) k)*2=_;omega
   have e3:mj .u64 ((ke (b c) k:Nat):Int) (bL .u64 ((ke (b c) k:Nat):Int) (ofNat 1))=((ke (b c) (k+1):Nat):Int):=by
    rw[eJ];show mj .u64 _ (IntKind.u64.wrap (((ke (b c) k:Nat):Int)-1))=_;rw[show ((ke (b c) k:Nat):Int)-1=((ke (b c) k-1:Nat):Int) by omega,Q.jT wO,Q.LS wO wO];rfl
   rw[e1,e2,aH,aH,e3,H4,H4] at T
   have e4:bj .i64 (R (2*mM (ke (b c) k))) (ofNat 1)=R (2*mM (ke (b c) k))+1:=N4 (by show _≤R (2*mM (ke (b c) k))+1;omega) (by show R (2*mM (ke (b c) k))+1≤_;omega)
   rw[e4] at T
   have e5:vp (R (2*c)) (R (2*mM (ke (b c) k))+1)=max (R (2*c)) (R (2*mM (ke (b c) k))+1):=by rw[r7];omega
   rw[e5] at T
   have e6:Fz R (2*c) (max (R (2*c)) (R (2*mM (ke (b c) k))+1)) (2*c+1)=R (2*c+1):=by unfold Fz;rw[if_neg wO]
   have e7:bL .i64 (Fz R (2*c) (max (R (2*c)) (R (2*mM (ke (b c) k))+1)) (2*c+1)) (ofNat 1)=Fz R (2*c) (max (R (2*c)) (R (2*mM (ke (b c) k))+1)) (2*c+1)-1:=by
    rw[e6];exact Fc (by show _≤R (2*c+1)-1;omega) (by show R (2*c+1)-1≤_;omega)
   rw[e7] at T
   have e8:∀ x y:Int,zp x y=min x y:=fun x y=>by rw[r8];omega
   rw[e8] at T
   have e9:oK r (((m8 10 (b c)).take (k+1)).map fun a=>(a,c))=Ce R (mM (ke (b c) k)) c:=by
    rw[htake,List.map_append,DL,hR,hlw];rfl
   refine aA T (bw _ _ (Gu wO)) (ah _ _) (aj _ _) ?_
   have hi1:cu (c:Int) 10=true:=by simp (disch:=omega) only[nV,nW];omega
   have hi2:cu (ofNat (mM ((ke (b c) k:Nat):Int).toNat)) 10=true:=by
    rw[Int.toNat_natCast];simp (disch:=omega) only[nV,nW];rw[hlw];omega
   have h00:cH 0 0=true:=by simp (disch:=omega) only[nV,nW]
   have hl1:bX (2*c) 20=true:=by simp (disch:=omega) only[nV,nW];omega
   have hl2:bX (2*mM (ke (b c) k)) 20=true:=by simp (disch:=omega) only[nV,nW];rw[hlw];omega
   have hl3:bX (2*mM (ke (b c) k)+1) 20=true:=by simp (disch:=omega) only[nV,nW];rw[hlw];omega
   have hl4:bX (2*c+1) 20=true:=by simp (disch:=omega) only[nV,nW];omega
   have hle:bT (dW 0 0) (dW 0 1)=true:=by simp (disch:=omega) only[nV,nW];omega
   refine Tr.ae (fun h0=>?_) (fun h0=>?_)
   · refine Tr.ak ⟨show (0:Int)≤((ke (b c) k:Nat):Int) by omega,show ((ke (b c) k:Nat):Int)<18446744073709551616 by omega⟩ ?_
     refine Tr.ab hi1 (Tr.ab h00 (Tr.ab hl1 (Tr.ab hi2 (Tr.ab h00 (Tr.ab hl2 (Tr.ab hi1 (Tr.ab h00 (Tr.ab hl1 (Tr.ab hle (Tr.ab hi2 (Tr.ab h00 (Tr.ab hl3 (Tr.ab hi1 (Tr.ab h00 (Tr.ab hl4 (Tr.ab hi2 (Tr.ab h00 (Tr.ab hl3 (Tr.ab hle ?_)))))))))))))))))))
     refine Tr.ag ⟨rfl,?_⟩
     rw[e9];rfl
   · rw[av,aQ] at h0
     exfalso
     have:(((ke (b c) k:Nat):Int) == 0)=true:=by simpa using h0
     rw[beq_iff_eq] at this
     omega
 · obtain ⟨x,h1,rfl⟩:=aA (Q:=fun x=>x=(.exit 4,Bs (shV O U Z V J W (bI b)) U t (bI b) (c:Int) 0++[(30,.bool false)],fE [dj (oK r (((m8 10 (b c)).take (m8 10 (b c)).length).map fun a=>(a,c))),dj q]::H)) (P7 (n+1) O U Z V J W (bI b) H (fun x=>ofNat (mM x.toNat)) (oK r (((m8 10 (b c)).take (m8 10 (b c)).length).map fun a=>(a,c))) q t (c:Int) ((ke (b c) (m8 10 (b c)).length:Nat):Int)) (bw _ _ (Gu wO)) (ah _ _) (aj _ _) (by
    rw[m3];refine Tr.ae (fun h0=>?_) (fun h0=>Tr.ag rfl);rw[av,aQ] at h0;exact absurd h0 (by decide))
   exact h1
end
end Go.Eng
end
