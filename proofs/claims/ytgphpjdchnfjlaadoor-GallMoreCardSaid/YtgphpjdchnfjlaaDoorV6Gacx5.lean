/- Gall: back, by the reference: whole. -/
import Derived.Test.YtgphpjdchnfjlaaDoorV6Ga8x4
import Derived.Test.YtgphpjdchnfjlaaDoorV6EngRoSx4
set_option linter.unusedVariables false
set_option linter.unusedSimpArgs false
set_option maxRecDepth 100000
section
namespace Go.Eng
open Int (ofNat)
open Go.Proofs Go.Eng.Gall
theorem LR (p:Nat→Bool) (n:Nat):dH p n=(List.range n).any p:=by
 rw[Bool.eq_iff_iff,cP,List.any_eq_true];constructor
 · rintro ⟨i,h1,h2⟩;exact ⟨i,List.mem_range.2 h1,h2⟩
 · rintro ⟨i,h1,h2⟩;exact ⟨i,List.mem_range.1 h1,h2⟩
section
variable (n:Nat) (O:Int) (U:Nat) (Z:Nat→Int) (V:Nat) (J:Nat→Int) (b:Nat→Nat) (H:aa)
theorem Wu:dw (fun c=>decide (c<0))=fun _=>ofNat 0:=by funext j;unfold dw;simp
theorem IU (j:Nat):cu (dw (fun c=>decide (c<j))) j (ofNat 1)=dw (fun c=>decide (c<j+1)):=by
 rw[iP];funext c;unfold dw;by_cases e:c=j
 · subst e;rw[if_pos rfl,if_pos (by simp)];rfl
 · rw[if_neg e];by_cases h:c<j
   · rw[if_pos (decide_eq_true h),if_pos (decide_eq_true wO)]
   · rw[if_neg (by simpa using h),if_neg (by simp;omega)]
theorem Rm (hl:U≤10):exec (bP (n+1) 64 66) (.block 0 (.loop (part Tryd.f64 [1,1,1,0,1,0,0]))) (nB 1 U (LL U) 5 (ofNat 0)) (eS O U Z V J [cJ (LL U) (dw (fun c=>decide (c<0)))]::H) =
 some (.normal,nB 1 U (LL U) 5 (ofNat U)++[(18,.bool false)],eS O U Z V J [cJ (LL U) (dw (fun c=>decide (c<U)))]::H):=by
 have eL:=B5 U
 refine jY (n:=n+1) (f:=64) (nt:=66) (c:=part Tryd.f64 [1,1,1,0,1,0,0]) 0 (fun j=>nB 1 U (LL U) 5 (j:Int)) (fun j=>eS O U Z V J [cJ (LL U) (dw (fun c=>decide (c<j)))]::H) U (_,_) wO (fun j hj=>?_) ?_
 · have ej:bh .i64 (j:Int) (ofNat 1)=((j+1:Nat):Int):=fI wO
   have T:=Pq (n+1) O U (LL U) Z V J H (dw (fun c=>decide (c<j))) (j:Int)
   rw[Be,ej,IU] at T
   refine aI T (aA _) (aj _ _) (ak _ _) ?_
   refine Tr.af (fun h0=>?_) wJ
   exact Tr.ae (by rw[eL];simp (disch:=omega) only[nV,nW];omega) (Tr.ae wG (Tr.ae (by rw[eL];simp (disch:=omega) only[nV,nW];omega) (Tr.ai ⟨rfl,rfl⟩)))
 · obtain ⟨x,h1,rfl⟩:=aI (Q:=fun x=>x=(.exit 0,nB 1 U (LL U) 5 (ofNat U)++[(18,.bool false)],eS O U Z V J [cJ (LL U) (dw (fun c=>decide (c<U)))]::H)) (Pq (n+1) O U (LL U) Z V J H (dw (fun c=>decide (c<U))) (ofNat U)) (aA _) (aj _ _) (ak _ _) (by
    refine Tr.af wJ (fun h0=>Tr.ai rfl))
   exact h1
noncomputable def T2 (U:Nat):Nat→aE
 | 0=>nB 1 U (LL U) 6 (ofNat 0)
 | t+1=>nB 2 U (LL U) 6 ((t+1:Nat):Int)
noncomputable def Om:Nat→aa
 | 0=>eS O U Z V J [cJ (LL U) (dw (bS U b 0))]::H
 | t+1=>eS O U Z V J [cJ (LL U) (dw (bS U b 0)),cJ (LL U) (dw (bS U b (t+1)))]::H
theorem Rk (hl:U≤10) (h1:1≤U) (hb:V≤1000) (hB:b=fun c=>gf J c V) (hp:fB U V J):exec (bP (n+1) 64 66) (.block 2 (.loop (part Tryd.f64 [1,1,1,1,0,1,0,0]))) (T2 U 0) (Om O U Z V J b H 0) =
 some (.normal,nB 2 U (LL U) 6 (ofNat U)++[(26,.bool false)],Om O U Z V J b H U):=by
 have mk8:CV (ofNat U) (ofNat U) 8=true:=by simp (disch:=omega) only[nV,nW];omega
 refine jY (n:=n+1) (f:=64) (nt:=66) (c:=part Tryd.f64 [1,1,1,1,0,1,0,0]) 2 (T2 U) (Om O U Z V J b H) U (_,_) wO (fun t ht=>?_) ?_
 · have ec:bh .i64 (t:Int) (ofNat 1)=((t+1:Nat):Int):=fI wO
   cases t with
   | zero =>
     have hx:=Wo n O U Z V J b H 0 hl hb (((0:Nat)):Int)
     rw[Ki,GC U V J hB hp] at hx
     have T:=Pu (n+1) O U Z V J H (dw (bS U b 0)) (dw (bS U b (0+1))) (((0:Nat)):Int)
     rw[ec] at T
     refine aI T (aA _) (bf (aj _ _) JX (fun x h=>by rw[← Tr.ab h];simp only[eD.st,aP];exact hx)) (ak _ _) ?_
     exact Tr.af (fun h0=>Tr.ae mk8 (Tr.an ⟨rfl,rfl⟩ (Tr.ai ⟨rfl,rfl⟩))) wJ
   | succ t =>
     have hx:=Wp n O U Z V J b H (dw (bS U b 0)) (t+1) hl hb (((t+1:Nat)):Int)
     rw[Ki,GC U V J hB hp] at hx
     have T:=Pv (n+1) O U Z V J H (dw (bS U b 0)) (dw (bS U b (t+1))) (dw (bS U b (t+1+1))) (((t+1:Nat)):Int)
     rw[ec] at T
     refine aI T (aA _) (bf (aj _ _) JX (fun x h=>by rw[← Tr.ab h];simp only[eD.st,aP];exact hx)) (ak _ _) ?_
     exact Tr.af (fun h0=>Tr.ae mk8 (Tr.an ⟨rfl,rfl⟩ (Tr.ai ⟨rfl,rfl⟩))) wJ
 · obtain ⟨m,rfl⟩:∃ m,U=m+1:=⟨U-1,by omega⟩
   obtain ⟨x,h1,rfl⟩:=aI (Q:=fun x=>x=(.exit 2,nB 2 (m+1) (LL (m+1)) 6 (ofNat (m+1))++[(26,.bool false)],Om O (m+1) Z V J b H (m+1))) (Na (n+1) O (m+1) (LL (m+1)) Z V J H (dw (bS (m+1) b 0)) (dw (bS (m+1) b (m+1))) (ofNat (m+1))) (aA _) (cY (aj _ _) 4) (ak _ _) (by
    refine Tr.af wJ (fun h0=>Tr.ai rfl))
   exact h1
theorem Rl (hl:U≤10) (g:Nat→Int) (p:Nat→Bool):exec (bP (n+1) 64 66) (.block 8 (.loop (part Tryd.f64 [1,1,1,1,1,0,1,0,0]))) (A4 U (LL U) (ofNat 0)) (eS O U Z V J [cJ (LL U) g,cJ (LL U) (dw p)]::H) =
 some (cond (dH p U) (.ret,[(2,.bool true)],eS O U Z V J [cJ (LL U) g,cJ (LL U) (dw p)]::H) (.normal,A4 U (LL U) (ofNat U)++[(58,.bool false)],eS O U Z V J [cJ (LL U) g,cJ (LL U) (dw p)]::H)):=by
 have eL:=B5 U
 refine jE (n:=n+1) (f:=64) (nt:=66) (c:=part Tryd.f64 [1,1,1,1,1,0,1,0,0]) 8 (fun j=>A4 U (LL U) (j:Int)) (fun _=>eS O U Z V J [cJ (LL U) g,cJ (LL U) (dw p)]::H) U p (fun j=>([(2,.bool true)],eS O U Z V J [cJ (LL U) g,cJ (LL U) (dw p)]::H)) (_,_) wO (fun j hj=>?_) ?_
 · have ej:bh .i64 (j:Int) (ofNat 1)=((j+1:Nat):Int):=fI wO
   have T:=Pt (n+1) O U (LL U) Z V J H g (dw p) (j:Int)
   rw[Be,ej,Br] at T
   refine aI T (aA _) (aj _ _) (ak _ _) ?_
   refine Tr.af (fun h0=>?_) wJ
   refine Tr.ae (by rw[eL];simp (disch:=omega) only[nV,nW];omega) (Tr.ae wG (Tr.ae (by rw[eL];simp (disch:=omega) only[nV,nW];omega) (Tr.af (fun q=>Tr.ai ?_) (fun q=>Tr.ai ?_))))
   · rw[if_pos q];rfl
   · rw[if_neg (by rw[q];decide)];exact ⟨rfl,rfl⟩
 · obtain ⟨x,h1,rfl⟩:=aI (Q:=fun x=>x=(.exit 8,A4 U (LL U) (ofNat U)++[(58,.bool false)],eS O U Z V J [cJ (LL U) g,cJ (LL U) (dw p)]::H)) (Pt (n+1) O U (LL U) Z V J H g (dw p) (ofNat U)) (aA _) (aj _ _) (ak _ _) (by
    refine Tr.af wJ (fun h0=>Tr.ai rfl))
   exact h1
theorem Uy (hl:U≤10) (h1:1≤U) (hb:V≤1000) (hp:fB U V J):cd (n+2) (.fn 64) [bX O U Z V J] H=some (.bool (l6 U (fun c=>gf J c V)),H):=by
 have e1:=Rm n O U Z V J H hl;rw[Wu] at e1;have e2:=Rk n O U Z V J (fun c=>gf J c V) H hl h1 hb rfl hp;have e3:=Rl n O U Z V J H hl (dw (bS U (fun c=>gf J c V) 0)) (bS U (fun c=>gf J c V) U);have hT:Om O U Z V J (fun c=>gf J c V) H U=eS O U Z V J [cJ (LL U) (dw (bS U (fun c=>gf J c V) 0)),cJ (LL U) (dw (bS U (fun c=>gf J c V) U))]::H:=by
  obtain ⟨m,rfl⟩:∃ m,U=m+1:=⟨U-1,by omega⟩
  rfl
 rw[hT] at e2;refine bU (n:=n+1) Tryd.func64 rfl rfl rfl (u64 (n+1) O U Z V J H (dw (bS U (fun c=>gf J c V) 0)) (dw (bS U (fun c=>gf J c V) 0)) (dw (bS U (fun c=>gf J c V) U)) (dH (bS U (fun c=>gf J c V) U) U)) (aA _) (bf (bf (bf (aj _ _) NH (fun x h=>by rw[← Tr.ab h];simp only[eD.st,aP];exact e1)) NI (fun x h=>by rw[← Tr.ab h];simp only[eD.st,aP];exact e2)) NJ (fun x h=>dQ h e3)) (ak _ _) ?_;have mk8:CV (ofNat U) (ofNat U) 8=true:=by simp (disch:=omega) only[nV,nW];omega
 have eb:dH (bS U (fun c=>gf J c V) U) U=l6 U (fun c=>gf J c V):=LR _ _;rw[eb];refine Tr.ae mk8 (Tr.an ⟨rfl,rfl⟩ (Tr.an ⟨rfl,rfl⟩ (Tr.an ⟨rfl,rfl⟩ (Tr.af (fun q=>Tr.ai ⟨?_,rfl⟩) (fun q=>Tr.ai ⟨?_,rfl⟩)))))
 · rw[q]
 · rw[q]
end
end Go.Eng
end
section
namespace Go.Eng
open Int (ofNat)
open Go.Proofs
noncomputable def og (s:Nat) (j:Int):aE:=[(1,.ptr 0 0 0 0),(s,.int .i64 j)]
noncomputable def AY (j k:Int):aE:=[(1,.ptr 0 0 0 0),(5,.int .i64 j),(6,.ptr 0 1 0 0),(7,.int .i64 k)]
noncomputable def ED (a b:Int):Nat×ao:=(0,.row (.I .i64 [a,b]))
theorem Pg (n:Nat) (O:Int) (U:Nat) (Z:Nat→Int) (V:Nat) (J:Nat→Int) (H:aa) (j:Int):aJ (bP n 23 125) (il aM n 0) aV aR (part Tryd.f23 [1,1,1,0,1,0,0]) (hints (og 3 j)) (mG O U Z V J::H) =
 (fun (Z0:bK)=>Tr.ite (bQ j (ofNat U)) (Tr.req (bL j U) (Tr.req (bt (au 0 j 4) (aC U 4)) (Tr.req (bt (ah (au 0 j 4) 1) (aC U 4)) (Tr.req (bt (ah (au 0 j 4) 2) (aC U 4)) (Tr.req (bt (ah (au 0 j 4) 3) (aC U 4)) (Tr.ite (bQ (Z (au 0 j 4)) (ofNat 0)) (Tr.ok (Ex.ret,[(2,iI 3,some 1)],Z0::H)) (Tr.ite (bQ (Z (ah (au 0 j 4) 1)) (Z (au 0 j 4))) (Tr.ok (Ex.ret,[(2,iI 3,some 1)],Z0::H)) (Tr.ite (bQ (ofNat 1000) (Z (ah (au 0 j 4) 1))) (Tr.ok (Ex.ret,[(2,iI 3,some 1)],Z0::H)) (Tr.ite (bQ (Z (ah (au 0 j 4) 2)) (ofNat 0)) (Tr.ok (Ex.ret,[(2,iI 3,some 1)],Z0::H)) (Tr.ite (bQ (Z (ah (au 0 j 4) 3)) (Z (ah (au 0 j 4) 2))) (Tr.ok (Ex.ret,[(2,iI 3,some 1)],Z0::H)) (Tr.ite (bQ (ofNat 1000) (Z (ah (au 0 j 4) 3))) (Tr.ok (Ex.ret,[(2,iI 3,some 1)],Z0::H)) (Tr.ok (Ex.normal,[(1,AV.ptr 0 0 0 0,none),(3,AV.int .i64 (bh .i64 j (ofNat 1)),none)],Z0::H))))))))))))) (Tr.ok (Ex.exit 0,[(1,AV.ptr 0 0 0 0,none),(3,AV.int .i64 j,none),(36,AV.bool false,some 1)],(bO [(0,fT O U Z V J)])::H))) (bO [(0,fT O U Z V J),(0,ao.row (Row.I .i64 [Z (au 0 j 4),Z (ah (au 0 j 4) 1),Z (ah (au 0 j 4) 2),Z (ah (au 0 j 4) 3)]))]):=by kernel_rfl
theorem Pj (n:Nat) (O:Int) (U:Nat) (Z:Nat→Int) (V:Nat) (J:Nat→Int) (H:aa) (a b j k:Int):aJ (bP n 23 125) (il aM n 0) aV aR (part Tryd.f23 [1,1,1,1,0,1,0,0,1,0,0,1,1,1,0,0]) (hints (AY j k)) (eS O U Z V J [ED a b]::H) =
 (fun (Z0:bK)=>Tr.ite (bQ k j) (Tr.req (bL k V) (Tr.req (bt (au 0 k 2) (aC V 2)) (Tr.req (bt (ah (au 0 k 2) 1) (aC V 2)) (Tr.ite (bC (c7 (J (au 0 k 2)) a) (c7 (J (ah (au 0 k 2) 1)) b)) (Tr.ok (Ex.ret,[(2,iI 2,some 1)],Z0::H)) (Tr.ok (Ex.normal,[(1,AV.ptr 0 0 0 0,none),(5,AV.int .i64 j,none),(6,AV.ptr 0 1 0 0,none),(7,AV.int .i64 (bh .i64 k (ofNat 1)),none)],Z0::H)))))) (Tr.ok (Ex.exit 4,[(1,AV.ptr 0 0 0 0,none),(5,AV.int .i64 j,none),(6,AV.ptr 0 1 0 0,none),(7,AV.int .i64 k,none),(113,AV.bool false,some 1)],Z0::H))) (bO [(0,fT O U Z V J),(0,ao.row (Row.I .i64 [a,b]))]):=by kernel_rfl
theorem Sx (n:Nat) (O:Int) (U:Nat) (Z:Nat→Int) (V:Nat) (J:Nat→Int) (H:aa) (j:Int) (e:Bool):aJ (bP (n+1) 23 125) (il aM n 1) (c9 aV 4 (AY j (ofNat 0)) (eS O U Z V J [ED (J (au 0 j 2)) (J (ah (au 0 j 2) 1))]::H) (.ite e (.ok (.ret,[(2,.int .i64 2,none)],eS O U Z V J [ED (J (au 0 j 2)) (J (ah (au 0 j 2) 1))]::H)) (.ok (.normal,hints (AY j j++[(113,.bool false)]),eS O U Z V J [ED (J (au 0 j 2)) (J (ah (au 0 j 2) 1))]::H)))) aR (part Tryd.f23 [1,1,1,1,0,1,0,0]) (hints (og 5 j)) (mG O U Z V J::H) =
 (fun (Z0:bK)=>Tr.ite (bQ j (ofNat V)) (Tr.req (bL j V) (Tr.req (bt (au 0 j 2) (aC V 2)) (Tr.req (bt (ah (au 0 j 2) 1) (aC V 2)) (Tr.req (bL (ofNat 0) 2) (Tr.ite (dS (ofNat 0) (J (au 0 j 2))) (Tr.ite (bD (bQ (J (au 0 j 2)) (ofNat U))) (Tr.ok (Ex.ret,[(2,iI 2,some 1)],Z0::H)) (Tr.req (bL (ofNat 1) 2) (Tr.ite (dS (ofNat 0) (J (ah (au 0 j 2) 1))) (Tr.ite (bD (bQ (J (ah (au 0 j 2) 1)) (ofNat U))) (Tr.ok (Ex.ret,[(2,iI 2,some 1)],Z0::H)) (Tr.req (bL (ofNat 0) 2) (Tr.req (bL (ofNat 1) 2) (Tr.ite (c7 (J (au 0 j 2)) (J (ah (au 0 j 2) 1))) (Tr.ok (Ex.ret,[(2,iI 2,some 1)],Z0::H)) (Tr.reqP ([(1,AV.ptr 0 0 0 0),(5,AV.int .i64 j),(6,AV.ptr 0 1 0 0),(7,iI 0)]=[(1,AV.ptr 0 0 0 0),(5,AV.int .i64 j),(6,AV.ptr 0 1 0 0),(7,iI 0)]∧Z0::H=Z0::H) (Tr.ite e (Tr.ok (Ex.ret,[(2,iI 2,none)],Z0::H)) (Tr.ok (Ex.normal,[(1,AV.ptr 0 0 0 0,none),(5,AV.int .i64 (bh .i64 j (ofNat 1)),none)],Z0::H)))))))) (Tr.ok (Ex.ret,[(2,iI 2,some 1)],Z0::H))))) (Tr.ok (Ex.ret,[(2,iI 2,some 1)],Z0::H))))))) (Tr.ok (Ex.exit 2,[(1,AV.ptr 0 0 0 0,none),(5,AV.int .i64 j,none),(84,AV.bool false,some 1)],(bO [(0,fT O U Z V J)])::H))) (bO [(0,fT O U Z V J),(0,ao.row (Row.I .i64 [J (au 0 j 2),J (ah (au 0 j 2) 1)]))]):=by kernel_rfl
theorem Ph (n:Nat) (O:Int) (U:Nat) (Z:Nat→Int) (V:Nat) (J:Nat→Int) (H:aa) (j:Int):aJ (bP (n+1) 23 125) (il aM n 1) (gb aV 4) aR (part Tryd.f23 [1,1,1,1,0,1,0,0]) (hints (og 5 j)) (mG O U Z V J::H) =
 (fun (Z0:bK)=>Tr.ite (bQ j (ofNat V)) (Tr.req (bL j V) (Tr.req (bt (au 0 j 2) (aC V 2)) (Tr.req (bt (ah (au 0 j 2) 1) (aC V 2)) (Tr.req (bL (ofNat 0) 2) (Tr.ite (dS (ofNat 0) (J (au 0 j 2))) (Tr.ite (bD (bQ (J (au 0 j 2)) (ofNat U))) (Tr.ok (Ex.ret,[(2,iI 2,some 1)],Z0::H)) (Tr.req (bL (ofNat 1) 2) (Tr.ite (dS (ofNat 0) (J (ah (au 0 j 2) 1))) (Tr.ite (bD (bQ (J (ah (au 0 j 2) 1)) (ofNat U))) (Tr.ok (Ex.ret,[(2,iI 2,some 1)],Z0::H)) (Tr.req (bL (ofNat 0) 2) (Tr.req (bL (ofNat 1) 2) (Tr.ite (c7 (J (au 0 j 2)) (J (ah (au 0 j 2) 1))) (Tr.ok (Ex.ret,[(2,iI 2,some 1)],Z0::H)) Tr.bad)))) (Tr.ok (Ex.ret,[(2,iI 2,some 1)],Z0::H))))) (Tr.ok (Ex.ret,[(2,iI 2,some 1)],Z0::H))))))) (Tr.ok (Ex.exit 2,[(1,AV.ptr 0 0 0 0,none),(5,AV.int .i64 j,none),(84,AV.bool false,some 1)],(bO [(0,fT O U Z V J)])::H))) (bO [(0,fT O U Z V J),(0,ao.row (Row.I .i64 [J (au 0 j 2),J (ah (au 0 j 2) 1)]))]):=by kernel_rfl
theorem WZ (n:Nat) (O:Int) (U:Nat) (Z:Nat→Int) (V:Nat) (J:Nat→Int) (H:aa) (e1 e2 e3:Bool) (l1 l2:bK) (C:List AV→Prop):bz Tryd.prog (cd n) 100000 23 Tryd.f23 (KtG.kt 23) (il (iz aM 64 (gB e3 C)) n 0) (c9 (c9 aV 0 (og 3 (ofNat 0)) (mG O U Z V J::H) (.ite e1 (.ok (.ret,[(2,.int .i64 3,none)],l1::H)) (.ok (.normal,hints (og 3 (ofNat U)++[(36,.bool false)]),mG O U Z V J::H)))) 2 (og 5 (ofNat 0)) (mG O U Z V J::H) (.ite e2 (.ok (.ret,[(2,.int .i64 2,none)],l2::H)) (.ok (.normal,hints (og 5 (ofNat V)++[(84,.bool false)]),mG O U Z V J::H)))) aR [(bX O U Z V J,none)] H =
 (fun (Z0:bK)=>Tr.ite (bQ (ofNat U) (ofNat 1)) (Tr.ok ((iI 6,some 1),H)) (Tr.ite (bQ (ofNat 10) (ofNat U)) (Tr.ok ((iI 6,some 1),H)) (Tr.ite (bQ (ofNat 40) (ofNat V)) (Tr.ok ((iI 6,some 1),H)) (Tr.ite (bQ O (ofNat 1)) (Tr.ok ((iI 3,some 1),H)) (Tr.ite (bQ (ofNat 100) O) (Tr.ok ((iI 3,some 1),H)) (Tr.reqP ([(1,AV.ptr 0 0 0 0),(3,iI 0)]=[(1,AV.ptr 0 0 0 0),(3,iI 0)]∧Z0::H=Z0::H) (Tr.ite e1 (Tr.ok ((iI 3,none),H)) (Tr.reqP ([(1,AV.ptr 0 0 0 0),(5,iI 0)]=[(1,AV.ptr 0 0 0 0),(5,iI 0)]∧Z0::H=Z0::H) (Tr.ite e2 (Tr.ok ((iI 2,none),H)) (Tr.reqP (C [bX O U Z V J]) (Tr.ite e3 (Tr.ok ((iI 16,some 1),H)) (Tr.ok ((iI 0,some 1),H))))))))))))) (bO [(0,fT O U Z V J)]):=by kernel_rfl
theorem SP (n:Nat) (O:Int) (U:Nat) (Z:Nat→Int) (V:Nat) (J:Nat→Int) (H:aa):bz Tryd.prog (cd n) 100000 23 Tryd.f23 (KtG.kt 23) (il aM n 0) (gb aV 0) aR [(bX O U Z V J,none)] H =
 Tr.ite (bQ (ofNat U) (ofNat 1)) (Tr.ok ((iI 6,some 1),H)) (Tr.ite (bQ (ofNat 10) (ofNat U)) (Tr.ok ((iI 6,some 1),H)) (Tr.ite (bQ (ofNat 40) (ofNat V)) (Tr.ok ((iI 6,some 1),H)) (Tr.ite (bQ O (ofNat 1)) (Tr.ok ((iI 3,some 1),H)) (Tr.ite (bQ (ofNat 100) O) (Tr.ok ((iI 3,some 1),H)) Tr.bad)))):=by kernel_rfl
end Go.Eng
end
section
namespace Go.Eng
open Int (ofNat)
open Go.Proofs Go.Eng.Gall
theorem NA:∀ b,(0,b) ∈ aO (a7 Tryd.f23)→b=.loop (part Tryd.f23 [1,1,1,0,1,0,0]):=eP (by kernel_rfl)
theorem NB:∀ b,(2,b) ∈ aO (a7 Tryd.f23)→b=.loop (part Tryd.f23 [1,1,1,1,0,1,0,0]):=eP (by kernel_rfl)
theorem NC:∀ b,(4,b) ∈ aO (part Tryd.f23 [1,1,1,1,0,1,0,0])→b=.loop (part Tryd.f23 [1,1,1,1,0,1,0,0,1,0,0,1,1,1,0,0]):=eP (by kernel_rfl)
section
variable (n:Nat) (O:Int) (U:Nat) (Z:Nat→Int) (V:Nat) (J:Nat→Int) (H:aa)
noncomputable def Mm (j:Nat):bK:=eS O U Z V J [(0,.row (.I .i64 [Z (j*4),Z (j*4+1),Z (j*4+2),Z (j*4+3)]))]
theorem Rn (hl:U≤1000):exec (bP n 23 125) (.block 0 (.loop (part Tryd.f23 [1,1,1,0,1,0,0]))) (og 3 (ofNat 0)) (mG O U Z V J::H) =
 some (cond (dH (jA Z) U) (.ret,[(2,.int .i64 3)],Mm O U Z V J (fN (jA Z) U 0)::H) (.normal,og 3 (ofNat U)++[(36,.bool false)],mG O U Z V J::H)):=by
 refine jE (n:=n) (f:=23) (nt:=125) (c:=part Tryd.f23 [1,1,1,0,1,0,0]) 0 (fun j=>og 3 (j:Int)) (fun _=>mG O U Z V J::H) U (jA Z) (fun j=>([(2,.int .i64 3)],Mm O U Z V J j::H)) (_,_) wO (fun j hj=>?_) ?_
 · have ej:bh .i64 (j:Int) (ofNat 1)=((j+1:Nat):Int):=fI wO
   have ei:au 0 (j:Int) 4=j*4:=by rw[bN];omega
   have hs:jA Z j=!(decide (0≤Z (j*4)) && (decide (Z (j*4)≤Z (j*4+1)) && (decide (Z (j*4+1)≤1000) && (decide (0≤Z (j*4+2)) && (decide (Z (j*4+2)≤Z (j*4+3)) && decide (Z (j*4+3)≤1000)))))):=rfl
   have T:=Pg n O U Z V J H (j:Int)
   rw[ei,aF,aF,aF,ej] at T
   refine aI T (aA _) (aj _ _) (ak _ _) ?_
   refine Tr.af (fun h0=>?_) wJ
   refine Tr.ae wG (Tr.ae wG (Tr.ae wG (Tr.ae wG (Tr.ae wG ?_))))
   have yes:(¬ (0≤Z (j*4)∧Z (j*4)≤Z (j*4+1)∧Z (j*4+1)≤1000∧0≤Z (j*4+2)∧Z (j*4+2)≤Z (j*4+3)∧Z (j*4+3)≤1000))→jA Z j=true:=fun h=>by rw[hs];simp;omega
   refine Tr.af (fun q1=>Tr.ai ?_) (fun q1=>Tr.af (fun q2=>Tr.ai ?_) (fun q2=>Tr.af (fun q3=>Tr.ai ?_) (fun q3=>Tr.af (fun q4=>Tr.ai ?_) (fun q4=>Tr.af (fun q5=>Tr.ai ?_) (fun q5=>Tr.af (fun q6=>Tr.ai ?_) (fun q6=>Tr.ai ?_))))))
   · rw[bY,decide_eq_true_iff] at q1
     rw[if_pos (yes (by have:Z (j*4)<0:=q1;omega))];rfl
   · rw[bY,decide_eq_true_iff] at q2
     rw[if_pos (yes wO)];rfl
   · rw[bY,decide_eq_true_iff] at q3
     rw[if_pos (yes (by have:1000<Z (j*4+1):=q3;omega))];rfl
   · rw[bY,decide_eq_true_iff] at q4
     rw[if_pos (yes (by have:Z (j*4+2)<0:=q4;omega))];rfl
   · rw[bY,decide_eq_true_iff] at q5
     rw[if_pos (yes wO)];rfl
   · rw[bY,decide_eq_true_iff] at q6
     rw[if_pos (yes (by have:1000<Z (j*4+3):=q6;omega))];rfl
   · rw[bY,decide_eq_false_iff_not] at q1 q2 q3 q4 q5 q6
     have q1:¬ Z (j*4)<0:=q1
     have q3:¬ 1000<Z (j*4+1):=q3
     have q4:¬ Z (j*4+2)<0:=q4
     have q6:¬ 1000<Z (j*4+3):=q6
     rw[if_neg (by rw[hs];simp;omega)]
     exact ⟨rfl,rfl⟩
 · obtain ⟨x,h1,rfl⟩:=aI (Q:=fun x=>x=(.exit 0,og 3 (ofNat U)++[(36,.bool false)],mG O U Z V J::H)) (Pg n O U Z V J H (ofNat U)) (aA _) (aj _ _) (ak _ _) (by
    refine Tr.af wJ (fun h0=>Tr.ai rfl))
   exact h1
theorem Rq (a b:Int) (j:Nat) (hj:j≤V) (hb:V≤1000):exec (bP n 23 125) (.block 4 (.loop (part Tryd.f23 [1,1,1,1,0,1,0,0,1,0,0,1,1,1,0,0]))) (AY (j:Int) (ofNat 0)) (eS O U Z V J [ED a b]::H) =
 some (cond (dH (gT J a b) j) (.ret,[(2,.int .i64 2)],eS O U Z V J [ED a b]::H) (.normal,AY (j:Int) (j:Int)++[(113,.bool false)],eS O U Z V J [ED a b]::H)):=by
 refine jE (n:=n) (f:=23) (nt:=125) (c:=part Tryd.f23 [1,1,1,1,0,1,0,0,1,0,0,1,1,1,0,0]) 4 (fun k=>AY (j:Int) (k:Int)) (fun _=>eS O U Z V J [ED a b]::H) j (gT J a b) (fun k=>([(2,.int .i64 2)],eS O U Z V J [ED a b]::H)) (_,_) wO (fun k hk=>?_) ?_
 · have ek:bh .i64 (k:Int) (ofNat 1)=((k+1:Nat):Int):=fI wO
   have ei:au 0 (k:Int) 2=k*2:=by rw[bN];omega
   have hp:bC (c7 (J (k*2)) a) (c7 (J (k*2+1)) b)=gT J a b k:=by
    rw[cD,bA,bA];unfold gT;rw[Bool.eq_iff_iff];simp;constructor<;>(rintro ⟨h1,h2⟩;exact ⟨h1.symm,h2.symm⟩)
   have T:=Pj n O U Z V J H a b (j:Int) (k:Int)
   rw[ei,aF,ek,hp] at T
   refine aI T (aA _) (aj _ _) (ak _ _) ?_
   refine Tr.af (fun h0=>?_) wJ
   refine Tr.ae wG (Tr.ae wG (Tr.ae wG (Tr.af (fun q=>Tr.ai ?_) (fun q=>Tr.ai ?_))))
   · rw[if_pos q];rfl
   · rw[if_neg (by rw[q];decide)];exact ⟨rfl,rfl⟩
 · obtain ⟨x,h1,rfl⟩:=aI (Q:=fun x=>x=(.exit 4,AY (j:Int) (j:Int)++[(113,.bool false)],eS O U Z V J [ED a b]::H)) (Pj n O U Z V J H a b (j:Int) (j:Int)) (aA _) (aj _ _) (ak _ _) (by
    refine Tr.af wJ (fun h0=>Tr.ai rfl))
   exact h1
theorem Ro   (hl:U≤1000) (hb:V≤1000):exec (bP (n+1) 23 125) (.block 2 (.loop (part Tryd.f23 [1,1,1,1,0,1,0,0]))) (og 5 (ofNat 0)) (mG O U Z V J::H) =
 some (cond (dH (gu U J) V) (.ret,[(2,.int .i64 2)],eS O U Z V J [ED (J (fN (gu U J) V 0*2)) (J (fN (gu U J) V 0*2+1))]::H) (.normal,og 5 (ofNat V)++[(84,.bool false)],mG O U Z V J::H)):=by
 refine jE (n:=n+1) (f:=23) (nt:=125) (c:=part Tryd.f23 [1,1,1,1,0,1,0,0]) 2 (fun j=>og 5 (j:Int)) (fun _=>mG O U Z V J::H) V (gu U J) (fun j=>([(2,.int .i64 2)],eS O U Z V J [ED (J (j*2)) (J (j*2+1))]::H)) (_,_) wO (fun j hj=>?_) ?_
 · have ej : bh .i64 (j:Int) (ofNat 1)=((j+1:Nat):Int):=fI wO
   have ei:au 0 (j:Int) 2=j*2:=by rw[bN];omega
   have T:=Sx n O U Z V J H (j:Int) (dH (gT J (J (j*2)) (J (j*2+1))) j)
   rw[ei,aF,ej] at T
   refine aI T (iA n 1) (bf (aj _ _) NC (fun x h=>dQ h (Rq (n+1) O U Z V J H _ _ j wO hb))) (ak _ _) ?_
   refine Tr.af (fun h0=>?_) wJ
   refine Tr.ae wG (Tr.ae wG (Tr.ae wG (Tr.ae wG ?_)))
   have yes:(J (j*2)=J (j*2+1)∨¬ (0≤J (j*2)∧J (j*2)<U)∨¬ (0≤J (j*2+1)∧J (j*2+1)<U))→gu U J j=true:=fun h=>by
    unfold gu;rcases h with h | h | h
    · rw[decide_eq_true h];rfl
    · rw[decide_eq_false h];simp
    · rw[decide_eq_false h];simp
   refine Tr.af (fun q1=>?_) (fun q1=>Tr.ai ?_)
   · rw[br,decide_eq_true_iff] at q1
     have q1:0≤J (j*2):=q1
     refine Tr.af (fun q2=>Tr.ai ?_) (fun q2=>?_)
     · rw[aW,bY] at q2
       have q2:¬ J (j*2)<(U:Int):=by simpa using q2
       rw[if_pos (yes (.inr (.inl wO)))];rfl
     · rw[aW,bY] at q2
       have q2:J (j*2)<(U:Int):=by simpa using q2
       refine Tr.ae wG (Tr.af (fun q3=>?_) (fun q3=>Tr.ai ?_))
       · rw[br,decide_eq_true_iff] at q3
         have q3:0≤J (j*2+1):=q3
         refine Tr.af (fun q4=>Tr.ai ?_) (fun q4=>?_)
         · rw[aW,bY] at q4
           have q4:¬ J (j*2+1)<(U:Int):=by simpa using q4
           rw[if_pos (yes (.inr (.inr wO)))];rfl
         · rw[aW,bY] at q4
           have q4:J (j*2+1)<(U:Int):=by simpa using q4
           refine Tr.ae wG (Tr.ae wG (Tr.af (fun q5=>Tr.ai ?_) (fun q5=>?_)))
           · rw[bA,beq_iff_eq] at q5
             rw[if_pos (yes (.inl q5))];rfl
           · rw[bA,beq_eq_false_iff_ne] at q5
             refine Tr.an ⟨rfl,rfl⟩ (Tr.af (fun q6=>Tr.ai ?_) (fun q6=>Tr.ai ?_))
             · rw[if_pos (by unfold gu;rw[q6];simp)];rfl
             · rw[if_neg (by unfold gu;rw[q6,decide_eq_false q5,decide_eq_true ⟨q1,q2⟩,decide_eq_true ⟨q3,q4⟩];decide)]
               exact ⟨rfl,rfl⟩
       · rw[br,decide_eq_false_iff_not] at q3
         have q3:¬ 0≤J (j*2+1):=q3
         rw[if_pos (yes (.inr (.inr wO)))];rfl
   · rw[br,decide_eq_false_iff_not] at q1
     have q1:¬ 0≤J (j*2):=q1
     rw[if_pos (yes (.inr (.inl wO)))];rfl
 · obtain ⟨x,h1,rfl⟩:=aI (Q:=fun x=>x=(.exit 2,og 5 (ofNat V)++[(84,.bool false)],mG O U Z V J::H)) (Ph n O U Z V J H (ofNat V)) (iA n 1) (cY (aj _ _) 4) (ak _ _) (by
    refine Tr.af wJ (fun h0=>Tr.ai rfl))
   exact h1
theorem PV (hl:U≤1000) (hb:V≤1000):cd (n+3) (.fn 23) [bX O U Z V J] H=some (.int .i64 (cr O U Z V J),H):=by
 by_cases k0:1≤U∧U≤10∧V≤40
 · obtain ⟨k1,k2,k3⟩:=k0;have ht:(iz aM 64 (gB (l6 U (fun c=>gf J c V)) (fun A=>A=[bX O U Z V J]∧fB U V J))).Ok (cd (n+2)):=yf (bo _) (fun A H hA=>by
    obtain ⟨rfl,hp⟩:=hA;exact Uy n O U Z V J H k2 k1 hb hp)
   refine bU (n:=n+2) Tryd.func23 rfl rfl rfl (WZ (n+2) O U Z V J H (dH (jA Z) U) (dH (gu U J) V) (l6 U (fun c=>gf J c V)) (Mm O U Z V J (fN (jA Z) U 0)) (eS O U Z V J [ED (J (fN (gu U J) V 0*2)) (J (fN (gu U J) V 0*2+1))]) (fun A=>A=[bX O U Z V J]∧fB U V J)) (bV _ _ ht) (bf (bf (aj _ _) NA (fun y h=>dQ h (Rn (n+2) O U Z V J H hl))) NB (fun y h=>dQ h (Ro (n+1) O U Z V J H hl hb))) (ak _ _) ?_;have hG:cr O U Z V J=if O<1∨100<O∨dH (jA Z) U=true then 3 else if dH (gu U J) V=true then 2 else if l6 U (fun c=>gf J c V)=true then 16 else 0:=by unfold cr;rw[if_neg wO]
   rw[hG];refine Tr.af wJ (fun _=>Tr.af wJ (fun _=>Tr.af wJ (fun _=>?_)));refine Tr.af (fun q=>?_) (fun q=>Tr.af (fun q'=>?_) (fun q'=>?_))
   · rw[bY,decide_eq_true_iff] at q;rw[if_pos (.inl q)];exact Tr.ai ⟨rfl,rfl⟩
   · rw[bY,decide_eq_true_iff] at q';rw[if_pos (.inr (.inl q'))];exact Tr.ai ⟨rfl,rfl⟩
   · rw[bY,decide_eq_false_iff_not] at q q';have q:¬ O<1:=q;have q':¬ 100<O:=q';refine Tr.an ⟨rfl,rfl⟩ (Tr.af (fun r=>?_) (fun r=>?_))
     · rw[if_pos (.inr (.inr r))];exact Tr.ai ⟨rfl,rfl⟩
     · rw[if_neg (by rintro (h | h | h);omega;omega;rw[r] at h;cases h)];refine Tr.an ⟨rfl,rfl⟩ (Tr.af (fun u=>?_) (fun u=>?_))
       · rw[if_pos u];exact Tr.ai ⟨rfl,rfl⟩
       · rw[if_neg (by rw[u];decide)];refine Tr.an ⟨rfl,pV u⟩ (Tr.af (fun w=>?_) (fun w=>?_))
         · rw[if_pos w];exact Tr.ai ⟨rfl,rfl⟩
         · rw[if_neg (by rw[w];decide)];exact Tr.ai ⟨rfl,rfl⟩
 · refine bU (n:=n+2) Tryd.func23 rfl rfl rfl (SP (n+2) O U Z V J H) (aA _) (cY (aj _ _) 0) (ak _ _) ?_;have hG:cr O U Z V J=6:=by unfold cr;rw[if_pos wO]
   rw[hG];refine Tr.af (fun q=>Tr.ai ⟨rfl,rfl⟩) (fun q=>Tr.af (fun q2=>Tr.ai ⟨rfl,rfl⟩) (fun q2=>Tr.af (fun q3=>Tr.ai ⟨rfl,rfl⟩) (fun q3=>?_)));exfalso;simp (disch:=omega) only[nV,nW] at q;simp (disch:=omega) only[nV,nW] at q2;simp (disch:=omega) only[nV,nW] at q3;omega
end
end Go.Eng
end
section
namespace Go.Eng
open Int (ofNat)
open Go.Proofs
noncomputable def db (r:Nat→Int):Nat×ao:=(0,.row (.M [.arr .i64 r 20]))
noncomputable def fw (bs:List (Nat×ao)):bK:=⟨false,db (fun _=>ofNat 0)::bs⟩
noncomputable def nA (A:AV) (U:Nat) (t:Int):aE:=[(0,A),(2,.ptr 0 0 0 0),(3,.ptr 0 1 0 0),(17,.int .i64 (ofNat U)),(18,.int .i64 t)]
noncomputable def yd (A:AV) (U:Nat) (t:Int) (B:Nat→Int) (c:Int):aE:=[(0,A),(2,.ptr 0 0 0 0),(3,.ptr 0 1 0 0),(4,.ptr 0 2 0 0),(17,.int .i64 (ofNat U)),(18,.int .i64 t),(24,.agg (.M [.arr .u64 B 10])),(25,.int .i64 c)]
noncomputable def AZ (A:AV) (U:Nat) (t:Int) (B:Nat→Int) (c x:Int):aE:=[(0,A),(2,.ptr 0 0 0 0),(3,.ptr 0 1 0 0),(4,.ptr 0 2 0 0),(5,.int .i64 c),(6,.int .u64 x),(17,.int .i64 (ofNat U)),(18,.int .i64 t),(24,.agg (.M [.arr .u64 B 10])),(25,.int .i64 c)]
noncomputable def Qu (cz:Int→Int):List AV→Option (Prop×AV)
 | [.int .u64 x]=>some (0≤x∧x<18446744073709551616,.int .i64 (cz x))
 | _=>none
theorem Pp (n:Nat) (O:Int) (U:Nat) (Z:Nat→Int) (V:Nat) (J:Nat→Int) (W B:Nat→Int) (H:aa) (cz:Int→Int) (r q:Nat→Int) (t c x:Int):aJ (bP n 56 69) (il (iz aM 82 (Qu cz)) n 0) aV aR (part Tryd.f56 [1,1,0,1,0,0,1,1,0,0,1,0,1,0,0,1,1,0,0,1,0,0]) (hints (AZ (shV O U Z V J W B) U t B c x)) (fw [db r,db q]::H) =
 Tr.ite (bD (c7 x (ofNat 0))) (Tr.reqP (Int.NonNeg (x-0)∧Int.NonNeg (18446744073709551616-(x+1))) (Tr.req (bL c 10) (Tr.req (aU 0 0) (Tr.req (bt (au 0 c 2) 20) (Tr.req (bL (cz x) 10) (Tr.req (aU 0 0) (Tr.req (bt (au 0 (cz x) 2) 20) (Tr.req (bL c 10) (Tr.req (aU 0 0) (Tr.req (bt (au 0 c 2) 20) (Tr.req (bC (bH 0 0) (bH 0 1)) (Tr.req (bL (cz x) 10) (Tr.req (aU 0 0) (Tr.req (bt (ah (au 0 (cz x) 2) 1) 20) (Tr.req (bL c 10) (Tr.req (aU 0 0) (Tr.req (bt (ah (au 0 c 2) 1) 20) (Tr.req (bL (cz x) 10) (Tr.req (aU 0 0) (Tr.req (bt (ah (au 0 (cz x) 2) 1) 20) (Tr.req (bC (bH 0 0) (bH 0 1)) (Tr.ok (Ex.normal,[(0,shV O U Z V J W B,none),(2,AV.ptr 0 0 0 0,none),(3,AV.ptr 0 1 0 0,none),(4,AV.ptr 0 2 0 0,none),(5,AV.int .i64 c,none),(6,AV.int IntKind.u64 (ny IntKind.u64 x (cq IntKind.u64 x (ofNat 1))),none),(17,iI U,none),(18,AV.int .i64 t,none),(24,AV.agg (Row.M [dh.arr IntKind.u64 B 10]),none),(25,AV.int .i64 c,none)],(bO [(0,ao.row (rM (fun x=>ofNat 0) 20)),(0,ao.row (rM (cu (cu r (au 0 c 2) (mL (r (au 0 c 2)) (bh .i64 (r (au 0 (cz x) 2)) (ofNat 1)))) (ah (au 0 (cz x) 2) 1) (fY (cu r (au 0 c 2) (mL (r (au 0 c 2)) (bh .i64 (r (au 0 (cz x) 2)) (ofNat 1))) (ah (au 0 (cz x) 2) 1)) (cq .i64 (cu r (au 0 c 2) (mL (r (au 0 c 2)) (bh .i64 (r (au 0 (cz x) 2)) (ofNat 1))) (ah (au 0 c 2) 1)) (ofNat 1)))) 20)),(0,ao.row (rM q 20))])::H))))))))))))))))))))))) (Tr.ok (Ex.exit 4,[(0,shV O U Z V J W B,none),(2,AV.ptr 0 0 0 0,none),(3,AV.ptr 0 1 0 0,none),(4,AV.ptr 0 2 0 0,none),(5,AV.int .i64 c,none),(6,AV.int IntKind.u64 x,none),(17,iI U,none),(18,AV.int .i64 t,none),(24,AV.agg (Row.M [dh.arr IntKind.u64 B 10]),none),(25,AV.int .i64 c,none),(30,AV.bool false,some 1)],(bO [(0,ao.row (rM (fun x=>ofNat 0) 20)),(0,ao.row (rM r 20)),(0,ao.row (rM q 20))])::H)):=by kernel_rfl
theorem SA (n:Nat) (O:Int) (U:Nat) (Z:Nat→Int) (V:Nat) (J:Nat→Int) (W B:Nat→Int) (H:aa) (r q r':Nat→Int) (t c x:Int):aJ (bP n 56 69) (il aM n 0) (c9 aV 4 (AZ (shV O U Z V J W B) U t B c (B (au 0 c 1))) (fw [db r,db q]::H) (.ok (.normal,hints (AZ (shV O U Z V J W B) U t B c x++[(30,.bool false)]),fw [db r',db q]::H))) aR (part Tryd.f56 [1,1,0,1,0,0,1,1,0,0,1,0,1,0,0]) (hints (yd (shV O U Z V J W B) U t B c)) (fw [db r,db q]::H) =
 (fun (Z0:aE)=>((fun (Z1:bK)=>Tr.ite (bQ c (ofNat 10)) (Tr.req (bL c 10) (Tr.req (bt (au 0 c 1) 10) (Tr.reqP (Z0=Z0∧Z1::H=Z1::H) (Tr.ok (Ex.normal,[(0,shV O U Z V J W B,none),(2,AV.ptr 0 0 0 0,none),(3,AV.ptr 0 1 0 0,none),(4,AV.ptr 0 2 0 0,none),(17,iI U,none),(18,AV.int .i64 t,none),(24,AV.agg (Row.M [dh.arr IntKind.u64 B 10]),none),(25,AV.int .i64 (bh .i64 c (ofNat 1)),none)],(bO [(0,ao.row (rM (fun x=>ofNat 0) 20)),(0,ao.row (rM r' 20)),(0,ao.row (rM q 20))])::H))))) (Tr.ok (Ex.exit 2,[(0,shV O U Z V J W B,none),(2,AV.ptr 0 0 0 0,none),(3,AV.ptr 0 1 0 0,none),(4,AV.ptr 0 2 0 0,none),(17,iI U,none),(18,AV.int .i64 t,none),(24,AV.agg (Row.M [dh.arr IntKind.u64 B 10]),none),(25,AV.int .i64 c,none),(26,AV.bool false,some 1)],Z1::H))) (bO [(0,ao.row (rM (fun x=>ofNat 0) 20)),(0,ao.row (rM r 20)),(0,ao.row (rM q 20))]))) [(0,shV O U Z V J W B),(2,AV.ptr 0 0 0 0),(3,AV.ptr 0 1 0 0),(4,AV.ptr 0 2 0 0),(5,AV.int .i64 c),(6,AV.int IntKind.u64 (B (au 0 c 1))),(17,iI U),(18,AV.int .i64 t),(24,AV.agg (Row.M [dh.arr IntKind.u64 B 10])),(25,AV.int .i64 c)]:=by kernel_rfl
theorem Po (n:Nat) (O:Int) (U:Nat) (Z:Nat→Int) (V:Nat) (J:Nat→Int) (W B:Nat→Int) (H:aa) (r q:Nat→Int) (t:Int):aJ (bP n 56 69) (il aM n 0) (gb aV 4) aR (part Tryd.f56 [1,1,0,1,0,0,1,1,0,0,1,0,1,0,0]) (hints (yd (shV O U Z V J W B) U t B 10)) (fw [db r,db q]::H) =
 Tr.ite (bQ (ofNat 10) (ofNat 10)) (Tr.req (bL (ofNat 10) 10) (Tr.req (bt (au 0 (ofNat 10) 1) 10) Tr.bad)) (Tr.ok (Ex.exit 2,[(0,shV O U Z V J W B,none),(2,AV.ptr 0 0 0 0,none),(3,AV.ptr 0 1 0 0,none),(4,AV.ptr 0 2 0 0,none),(17,iI U,none),(18,AV.int .i64 t,none),(24,AV.agg (Row.M [dh.arr IntKind.u64 B 10]),none),(25,iI 10,none),(26,AV.bool false,some 1)],(bO [(0,ao.row (rM (fun x=>ofNat 0) 20)),(0,ao.row (rM r 20)),(0,ao.row (rM q 20))])::H)):=by kernel_rfl
theorem Sz (n:Nat) (O:Int) (U:Nat) (Z:Nat→Int) (V:Nat) (J:Nat→Int) (W B:Nat→Int) (H:aa) (r r':Nat→Int) (t:Int):aJ (bP n 56 69) (il aM n 0) (c9 aV 2 (yd (shV O U Z V J W B) U t B (ofNat 0)) (fw [db r,db r]::H) (.ok (.normal,hints (yd (shV O U Z V J W B) U t B (ofNat 10)++[(26,.bool false)]),fw [db r',db r]::H))) aR (part Tryd.f56 [1,1,0,1,0,0]) (hints (nA (shV O U Z V J W B) U t)) (fw [db r]::H) =
 (fun (Z0:aE)=>((fun (Z1:Nat×ao)=>Tr.ite (bQ t (ofNat U)) (Tr.req (dX 0 20 0 20) (Tr.reqP (Z0=Z0∧(bO [Z1,(0,ao.row (rM r 20)),(0,ao.row (rM (nz (fun x=>ofNat 0) 0 r 20) 20))])::H=(bO [Z1,(0,ao.row (rM r 20)),(0,ao.row (rM r 20))])::H) (Tr.ite (mc r' r 20) (Tr.ok (Ex.exit 0,[(0,shV O U Z V J W B,none),(2,AV.ptr 0 0 0 0,none),(3,AV.ptr 0 1 0 0,none),(17,iI U,none),(18,AV.int .i64 t,none),(66,AV.bool true,some 1)],(bO [Z1,(0,ao.row (rM r' 20)),(0,ao.row (rM r 20))])::H)) (Tr.ok (Ex.normal,[(0,shV O U Z V J W B,none),(2,AV.ptr 0 0 0 0,none),(3,AV.ptr 0 1 0 0,none),(17,iI U,none),(18,AV.int .i64 (bh .i64 t (ofNat 1)),none)],(bO [Z1,(0,ao.row (rM r' 20)),(0,ao.row (rM r 20))])::H))))) (Tr.ok (Ex.exit 0,[(0,shV O U Z V J W B,none),(2,AV.ptr 0 0 0 0,none),(3,AV.ptr 0 1 0 0,none),(17,iI U,none),(18,AV.int .i64 t,none),(19,AV.bool false,some 1)],(bO [Z1,(0,ao.row (rM r 20))])::H))) (0,ao.row (rM (fun x=>ofNat 0) 20)))) [(0,shV O U Z V J W B),(2,AV.ptr 0 0 0 0),(3,AV.ptr 0 1 0 0),(4,AV.ptr 0 2 0 0),(17,iI U),(18,AV.int .i64 t),(24,AV.agg (Row.M [dh.arr IntKind.u64 B 10])),(25,iI 0)]:=by kernel_rfl
theorem Pn (n:Nat) (O:Int) (U:Nat) (Z:Nat→Int) (V:Nat) (J:Nat→Int) (W B:Nat→Int) (H:aa) (r:Nat→Int) (t:Int):aJ (bP n 56 69) (il aM n 0) (gb aV 2) aR (part Tryd.f56 [1,1,0,1,0,0]) (hints (nA (shV O U Z V J W B) U t)) (fw [db r]::H) =
 Tr.ite (bQ t (ofNat U)) (Tr.req (dX 0 20 0 20) Tr.bad) (Tr.ok (Ex.exit 0,[(0,shV O U Z V J W B,none),(2,AV.ptr 0 0 0 0,none),(3,AV.ptr 0 1 0 0,none),(17,iI U,none),(18,AV.int .i64 t,none),(19,AV.bool false,some 1)],(bO [(0,ao.row (rM (fun x=>ofNat 0) 20)),(0,ao.row (rM r 20))])::H)):=by kernel_rfl
theorem SW (n:Nat) (O:Int) (U:Nat) (Z:Nat→Int) (V:Nat) (J:Nat→Int) (W B:Nat→Int) (H:aa) (r:Nat→Int):bz Tryd.prog (cd n) 100000 56 Tryd.f56 (KtG.kt 56) (il aM n 0) (c9 aV 0 (nA (shV O U Z V J W B) U (ofNat 0)) (fw [db W]::H) (.ok (.normal,hints (nA (shV O U Z V J W B) U (ofNat U)++[(19,.bool false)]),fw [db r]::H))) aR [(shV O U Z V J W B,none)] H =
 (fun (Z0:aE)=>Tr.req (dX 0 20 0 20) (Tr.reqP (Z0=Z0∧(bO [(0,ao.row (rM (fun x=>ofNat 0) 20)),(0,ao.row (rM (nz (fun x=>ofNat 0) 0 W 20) 20))])::H=(bO [(0,ao.row (rM (fun x=>ofNat 0) 20)),(0,ao.row (rM W 20))])::H) (Tr.req (dX 0 20 0 20) (Tr.ok ((AV.agg (rM (nz (fun x=>ofNat 0) 0 r 20) 20),none),H))))) [(0,shV O U Z V J W B),(2,AV.ptr 0 0 0 0),(3,AV.ptr 0 1 0 0),(17,iI U),(18,iI 0)]:=by kernel_rfl
theorem SX (n:Nat) (O:Int) (U:Nat) (Z:Nat→Int) (V:Nat) (J:Nat→Int) (W B:Nat→Int) (H:aa) (r q:Nat→Int) (t:Int):bz Tryd.prog (cd n) 100000 56 Tryd.f56 (KtG.kt 56) (il aM n 0) (c9 aV 0 (nA (shV O U Z V J W B) U (ofNat 0)) (fw [db W]::H) (.ok (.normal,hints (nA (shV O U Z V J W B) U t++[(66,.bool true)]),fw [db r,db q]::H))) aR [(shV O U Z V J W B,none)] H =
 (fun (Z0:aE)=>Tr.req (dX 0 20 0 20) (Tr.reqP (Z0=Z0∧(bO [(0,ao.row (rM (fun x=>ofNat 0) 20)),(0,ao.row (rM (nz (fun x=>ofNat 0) 0 W 20) 20))])::H=(bO [(0,ao.row (rM (fun x=>ofNat 0) 20)),(0,ao.row (rM W 20))])::H) (Tr.req (dX 0 20 0 20) (Tr.ok ((AV.agg (rM (nz (fun x=>ofNat 0) 0 r 20) 20),none),H))))) [(0,shV O U Z V J W B),(2,AV.ptr 0 0 0 0),(3,AV.ptr 0 1 0 0),(17,iI U),(18,iI 0)]:=by kernel_rfl
end Go.Eng
end
section
namespace Go.Eng
open Int (ofNat)
open Go.Proofs Go.Eng.Gall
theorem F3 {c:Nat} (hc:0<c):(iz aM 82 (Qu (fun x=>ofNat (mH x.toNat)))).Ok (cd c):=by
 obtain ⟨m,rfl⟩:∃ m,c=m+1:=⟨c-1,by omega⟩
 refine ml (bo _) (fun args p v hg hp H=>?_);unfold Qu at hg;split at hg
 · rename_i x;simp only[nP] at hg;obtain ⟨rfl,rfl⟩:=hg;refine oZ ?_;show (match Gall.vh (cd m) 82 [.int .u64 x] H with
    | some x=>some x
    | none=>_)=_
   have e:Gall.vh (cd m) 82 [.int .u64 x] H=some (.int .i64 (Go.Lib.ctz 64 x.toNat),H):=by
    show FG [.int .u64 x] H=_;unfold FG;exact if_pos hp
   rw[e];rfl
 · cases hg
theorem sC {W:Nat→Int} (h:∀ j,20≤j→W j=0):nz (fun _=>ofNat 0) 0 W 20=W:=by
 rw[rG];funext j;unfold wy;by_cases e:j<20
 · simp[e]
 · rw[h j wO];simp[e]
section
variable {n:Nat} {b:Nat→Nat} {w:Nat→Int}
theorem OI {K:Int} (hw:∀ i,w i≤K) (t c:Nat):fv n b w t c≤K+t:=by
 induction t generalizing c with
 | zero=>have:=hw (2*c);show w (2*c)≤K+((0:Nat):Int);omega
 | succ t ih =>
   rcases jm (fv n b w t c) (fun a=>fv n b w t a+1) (fun a=>(b c).testBit a) n with e | ⟨a,h1,h2,h3⟩
   · have:fv n b w (t+1) c=fv n b w t c:=e;have:=ih c;omega
   · have:fv n b w (t+1) c=fv n b w t a+1:=h3;have:=ih a;omega
theorem Oj {K:Int} (hw:∀ i,-K≤w i) (t c:Nat):ft n b w t c≤K+t:=by
 induction t generalizing c with
 | zero=>have:=hw (2*c+1);show -w (2*c+1)≤K+((0:Nat):Int);omega
 | succ t ih =>
   rcases jm (ft n b w t c) (fun a=>ft n b w t a+1) (fun a=>(b a).testBit c) n with e | ⟨a,h1,h2,h3⟩
   · have:ft n b w (t+1) c=ft n b w t c:=e;have:=ih c;omega
   · have:ft n b w (t+1) c=ft n b w t a+1:=h3;have:=ih a;omega
theorem AJ {K:Int} (hK:0≤K) (hw:∀ i,-K≤w i∧w i≤K) {t:Nat} {r:Nat→Int} (hr:Bd n b w t r) (c:Nat) (hc:c<n):(-K≤r (2*c)∧r (2*c)≤K+n)∧-K-n≤r (2*c+1)∧r (2*c+1)≤K:=by
 have h1:=hr.lo c hc;have h2:=hr.hi c hc;have h3:=OI (n:=n) (b:=b) (fun i=>(hw i).2) n c;have h4:=Oj (n:=n) (b:=b) (fun i=>(hw i).1) n c;have h5:fv n b w 0 c≤fv n b w t c:=by have:=lo_le (n:=n) (b:=b) (w:=w) 0 t c;rwa [Nat.zero_add] at this
 have h6:ft n b w 0 c≤ft n b w t c:=by have:=CC (n:=n) (b:=b) (w:=w) 0 t c;rwa [Nat.zero_add] at this
 have h7:fv n b w 0 c=w (2*c):=rfl;have h8:ft n b w 0 c=-w (2*c+1):=rfl;have h9:=hw (2*c);have h10:=hw (2*c+1);omega
end
structure gm (U:Nat) (W:Nat→Int) (b:Nat→Nat):Prop where
 len:U≤10
 win:∀ j,-100000≤W j∧W j≤100000
 zer:∀ j,20≤j→W j=0
 bef:∀ c,c<U→b c<2 ^ U
 off:∀ c,U≤c→b c=0
 nob:l6 U b=false
theorem gm.lt {U:Nat} {W:Nat→Int} {b:Nat→Nat} (h:gm U W b) (c:Nat):b c<2 ^ 10:=by
 by_cases hc:c<U
 · exact Nat.lt_of_lt_of_le (h.bef c hc) (Nat.pow_le_pow_right (by decide) h.len)
 · rw[h.off c wO];decide
theorem gm.bit {U:Nat} {W:Nat→Int} {b:Nat→Nat} (h:gm U W b) {c a:Nat} (hb:(b c).testBit a=true):c<U∧a<U:=by
 have hc:c<U:=by
  apply Classical.byContradiction;intro hn;rw[h.off c wO] at hb;simp at hb
 refine ⟨hc,?_⟩;apply Classical.byContradiction;intro hn;have:=Nat.testBit_lt_two_pow (Nat.lt_of_lt_of_le (h.bef c hc) (Nat.pow_le_pow_right (by decide) (show U≤a by omega)));rw[hb] at this;cases this
theorem gm.all {U:Nat} {W:Nat→Int} {b:Nat→Nat} (h:gm U W b):HO U b (l7 b 10):=fun a c=>by
 rw[Dg b 10 (fun c _=>h.lt c)];constructor
 · rintro ⟨_,h2⟩;obtain ⟨h3,h4⟩:=h.bit h2;exact ⟨h4,h3,h2⟩
 · rintro ⟨_,h1,h2⟩;exact ⟨by have:=h.len;omega,h2⟩
theorem JW:∀ b,(0,b) ∈ aO (a7 Tryd.f56)→b=.loop (part Tryd.f56 [1,1,0,1,0,0]):=eP (by kernel_rfl)
theorem NF:∀ b,(2,b) ∈ aO (part Tryd.f56 [1,1,0,1,0,0])→b=.loop (part Tryd.f56 [1,1,0,1,0,0,1,1,0,0,1,0,1,0,0]):=eP (by kernel_rfl)
theorem NG:∀ b,(4,b) ∈ aO (part Tryd.f56 [1,1,0,1,0,0,1,1,0,0,1,0,1,0,0])→b=.loop (part Tryd.f56 [1,1,0,1,0,0,1,1,0,0,1,0,1,0,0,1,1,0,0,1,0,0]):=eP (by kernel_rfl)
theorem Hu (r:Nat→Int) (i:Nat) (x:Int):cu r i x=EX r i x:=by rw[iP];rfl
section
variable (n:Nat) (O:Int) (U:Nat) (Z:Nat→Int) (V:Nat) (J:Nat→Int) (W:Nat→Int) (b:Nat→Nat) (H:aa)
theorem Rr (hS:gm U W b) (q r:Nat→Int) (t':Nat) (hr:Bd U b W t' r) (t:Int) (c:Nat) (hc:c<10):exec (bP (n+1) 56 69) (.block 4 (.loop (part Tryd.f56 [1,1,0,1,0,0,1,1,0,0,1,0,1,0,0,1,1,0,0,1,0,0]))) (AZ (shV O U Z V J W (bI b)) U t (bI b) (c:Int) (bI b c)) (fw [db r,db q]::H) =
 some (.normal,AZ (shV O U Z V J W (bI b)) U t (bI b) (c:Int) 0++[(30,.bool false)],fw [db (oK r ((m5 10 (b c)).map fun a=>(a,c))),db q]::H):=by
 have hlt:=hS.lt c
 obtain ⟨m1,m2,m3⟩:=wu 10 (b c) (Nat.lt_of_lt_of_le hlt (by decide)) (fun i hi=>⟨by omega,by have:=(hS.bit hi).2;have:=hS.len;omega⟩)
 have hlen:(m5 10 (b c)).length≤10:=by
  have:∀ f x,(m5 f x).length≤f:=by
   intro f;induction f with
   | zero=>intro x;exact Nat.le_refl _
   | succ f ih =>
     intro x;show (if x=0 then [] else mH x::m5 f (x &&& (x-1))).length≤f+1;split
     · exact Nat.zero_le _
     · rw[List.length_cons];have:=ih (x &&& (x-1));omega
  exact this 10 (b c)
 have hst:∀ k,k≤(m5 10 (b c)).length→Bd U b W t' (oK r (((m5 10 (b c)).take k).map fun a=>(a,c))):=fun k hk =>
  (rF hS.nob _ hr (fun p hp=>by
    obtain ⟨a,ha,rfl⟩:=List.mem_map.1 hp;have hb:=(m1 a).1 (List.mem_of_mem_take ha);obtain ⟨h1,h2⟩:=hS.bit hb;exact ⟨h2,h1,hb⟩)).1
 have hN:oK r ((m5 10 (b c)).map fun a=>(a,c))=oK r (((m5 10 (b c)).take (m5 10 (b c)).length).map fun a=>(a,c)):=by rw[List.take_length]
 rw[hN]
 have hl:=hS.len
 refine jY (n:=n+1) (f:=56) (nt:=69) (c:=part Tryd.f56 [1,1,0,1,0,0,1,1,0,0,1,0,1,0,0,1,1,0,0,1,0,0]) 4 (fun k=>AZ (shV O U Z V J W (bI b)) U t (bI b) (c:Int) (kb (b c) k:Nat)) (fun k=>fw [db (oK r (((m5 10 (b c)).take k).map fun a=>(a,c))),db q]::H) (m5 10 (b c)).length (_,_) wO (fun k hk=>?_) ?_
 · obtain ⟨z0,z1⟩:=m2 k hk
   have hs:=hst k wO
   have hmem:=(m1 _).1 (List.getElem_mem hk)
   obtain ⟨hcl,hal⟩:=hS.bit hmem
   have htake:(m5 10 (b c)).take (k+1)=(m5 10 (b c)).take k++[(m5 10 (b c))[k]]:=by rw[List.take_add_one,List.getElem?_eq_getElem hk];rfl
   have hlw:mH (kb (b c) k)=(m5 10 (b c))[k]:=z1.symm
   generalize hR:oK r (((m5 10 (b c)).take k).map fun a=>(a,c))=R at *
   have bc:=AJ (K:=100000) wO hS.win hs c hcl
   have ba:=AJ (K:=100000) wO hS.win hs (mH (kb (b c) k)) (by rw[hlw];exact hal)
   have hrl:=MH (b c) k (Nat.lt_of_lt_of_le hlt (by decide))
   have T:=Pp (n+1) O U Z V J W (bI b) H (fun x=>ofNat (mH x.toNat)) R q t (c:Int) ((kb (b c) k:Nat):Int)
   have e1:au 0 (c:Int) 2=2*c:=by rw[bN];omega
   have e2:au 0 (ofNat (mH ((kb (b c) k:Nat):Int).toNat)) 2=2*mH (kb (b c) k):=by rw[bN,Int.toNat_natCast];show 0+mH (kb (b c) k)*2=_;omega
   have e3:ny .u64 ((kb (b c) k:Nat):Int) (cq .u64 ((kb (b c) k:Nat):Int) (ofNat 1))=((kb (b c) (k+1):Nat):Int):=by
    rw[eB];show ny .u64 _ (IntKind.u64.wrap (((kb (b c) k:Nat):Int)-1))=_;rw[show ((kb (b c) k:Nat):Int)-1=((kb (b c) k-1:Nat):Int) by omega,Q.jR wO,Q.Ls wO wO];rfl
   rw[e1,e2,aF,aF,e3,Hu,Hu] at T
   have e4:bh .i64 (R (2*mH (kb (b c) k))) (ofNat 1)=R (2*mH (kb (b c) k))+1:=Lm (by show _≤R (2*mH (kb (b c) k))+1;omega) (by show R (2*mH (kb (b c) k))+1≤_;omega)
   rw[e4] at T
   have e5:mL (R (2*c)) (R (2*mH (kb (b c) k))+1)=max (R (2*c)) (R (2*mH (kb (b c) k))+1):=by rw[pE];omega
   rw[e5] at T
   have e6:EX R (2*c) (max (R (2*c)) (R (2*mH (kb (b c) k))+1)) (2*c+1)=R (2*c+1):=by unfold EX;rw[if_neg wO]
   have e7:cq .i64 (EX R (2*c) (max (R (2*c)) (R (2*mH (kb (b c) k))+1)) (2*c+1)) (ofNat 1)=EX R (2*c) (max (R (2*c)) (R (2*mH (kb (b c) k))+1)) (2*c+1)-1:=by
    rw[e6];exact MO (by show _≤R (2*c+1)-1;omega) (by show R (2*c+1)-1≤_;omega)
   rw[e7] at T
   have e8:∀ x y:Int,fY x y=min x y:=fun x y=>by rw[pF];omega
   rw[e8] at T
   have e9:oK r (((m5 10 (b c)).take (k+1)).map fun a=>(a,c))=BN R (mH (kb (b c) k)) c:=by
    rw[htake,List.map_append,Dm,hR,hlw];rfl
   refine aI T (bV _ _ (F3 wO)) (aj _ _) (ak _ _) ?_
   have hi1:bL (c:Int) 10=true:=by simp (disch:=omega) only[nV,nW];omega
   have hi2:bL (ofNat (mH ((kb (b c) k:Nat):Int).toNat)) 10=true:=by
    rw[Int.toNat_natCast];simp (disch:=omega) only[nV,nW];rw[hlw];omega
   have h00:aU 0 0=true:=by simp (disch:=omega) only[nV,nW]
   have hl1:bt (2*c) 20=true:=by simp (disch:=omega) only[nV,nW];omega
   have hl2:bt (2*mH (kb (b c) k)) 20=true:=by simp (disch:=omega) only[nV,nW];rw[hlw];omega
   have hl3:bt (2*mH (kb (b c) k)+1) 20=true:=by simp (disch:=omega) only[nV,nW];rw[hlw];omega
   have hl4:bt (2*c+1) 20=true:=by simp (disch:=omega) only[nV,nW];omega
   have hle:bC (bH 0 0) (bH 0 1)=true:=by simp (disch:=omega) only[nV,nW];omega
   refine Tr.af (fun h0=>?_) (fun h0=>?_)
   · refine Tr.an ⟨show (0:Int)≤((kb (b c) k:Nat):Int) by omega,show ((kb (b c) k:Nat):Int)<18446744073709551616 by omega⟩ ?_
     refine Tr.ae hi1 (Tr.ae h00 (Tr.ae hl1 (Tr.ae hi2 (Tr.ae h00 (Tr.ae hl2 (Tr.ae hi1 (Tr.ae h00 (Tr.ae hl1 (Tr.ae hle (Tr.ae hi2 (Tr.ae h00 (Tr.ae hl3 (Tr.ae hi1 (Tr.ae h00 (Tr.ae hl4 (Tr.ae hi2 (Tr.ae h00 (Tr.ae hl3 (Tr.ae hle ?_)))))))))))))))))))
     refine Tr.ai ⟨rfl,?_⟩
     rw[e9];rfl
   · rw[aW,bA] at h0
     exfalso
     have:(((kb (b c) k:Nat):Int) == 0)=true:=by simpa using h0
     rw[beq_iff_eq] at this
     omega
 · obtain ⟨x,h1,rfl⟩:=aI (Q:=fun x=>x=(.exit 4,AZ (shV O U Z V J W (bI b)) U t (bI b) (c:Int) 0++[(30,.bool false)],fw [db (oK r (((m5 10 (b c)).take (m5 10 (b c)).length).map fun a=>(a,c))),db q]::H)) (Pp (n+1) O U Z V J W (bI b) H (fun x=>ofNat (mH x.toNat)) (oK r (((m5 10 (b c)).take (m5 10 (b c)).length).map fun a=>(a,c))) q t (c:Int) ((kb (b c) (m5 10 (b c)).length:Nat):Int)) (bV _ _ (F3 wO)) (aj _ _) (ak _ _) (by
    rw[m3];refine Tr.af (fun h0=>?_) (fun h0=>Tr.ai rfl);rw[aW,bA] at h0;exact absurd h0 (by decide))
   exact h1
end
end Go.Eng
end
