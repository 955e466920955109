/- Gall: back, by the reference: whole. -/
import Derived.Test.YtgphpjdchnfjlaaDoorV6Ga8x4
import Derived.Test.YtgphpjdchnfjlaaDoorV6EngRoSx4
set_option linter.unusedVariables false
set_option linter.unusedSimpArgs false
set_option maxRecDepth 100000
section
namespace Go.Eng
open Int (ofNat)
open Go.Proofs Go.Eng.Gall
theorem LM (p:Nat→Bool) (n:Nat):eH p n=(List.range n).any p:=by
 rw[Bool.eq_iff_iff,dJ,List.any_eq_true];constructor
 · rintro ⟨i,h1,h2⟩;exact ⟨i,List.mem_range.2 h1,h2⟩
 · rintro ⟨i,h1,h2⟩;exact ⟨i,List.mem_range.1 h1,h2⟩
section
variable (n:Nat) (O:Int) (U:Nat) (Z:Nat→Int) (V:Nat) (J:Nat→Int) (b:Nat→Nat) (H:ab)
theorem WT:dy (fun c=>decide (c<0))=fun _=>ofNat 0:=by funext j;unfold dy;simp
theorem IP (j:Nat):dc (dy (fun c=>decide (c<j))) j (ofNat 1)=dy (fun c=>decide (c<j+1)):=by
 rw[gh];funext c;unfold dy;by_cases e:c=j
 · subst e;rw[if_pos rfl,if_pos (by simp)];rfl
 · rw[if_neg e];by_cases h:c<j
   · rw[if_pos (decide_eq_true h),if_pos (decide_eq_true wO)]
   · rw[if_neg (by simpa using h),if_neg (by simp;omega)]
theorem Rt (hl:U≤10):exec (bQ (n+1) 64 66) (.block 0 (.loop (part Tryd.f64 [1,1,1,0,1,0,0]))) (m7 1 U (LL U) 5 (ofNat 0)) (eR O U Z V J [cH (LL U) (dy (fun c=>decide (c<0)))]::H) =
 some (.normal,m7 1 U (LL U) 5 (ofNat U)++[(18,.bool false)],eR O U Z V J [cH (LL U) (dy (fun c=>decide (c<U)))]::H):=by
 have eL:=BZ U
 refine ig (n:=n+1) (f:=64) (nt:=66) (c:=part Tryd.f64 [1,1,1,0,1,0,0]) 0 (fun j=>m7 1 U (LL U) 5 (j:Int)) (fun j=>eR O U Z V J [cH (LL U) (dy (fun c=>decide (c<j)))]::H) U (_,_) wO (fun j hj=>?_) ?_
 · have ej:bm .i64 (j:Int) (ofNat 1)=((j+1:Nat):Int):=eX wO
   have T:=Pj (n+1) O U (LL U) Z V J H (dy (fun c=>decide (c<j))) (j:Int)
   rw[yf,ej,IP] at T
   refine aB T (ay _) (aj _ _) (ak _ _) ?_
   refine Tr.af (fun h0=>?_) wJ
   exact Tr.aa (by rw[eL];simp (disch:=omega) only[nV,nW];omega) (Tr.aa wG (Tr.aa (by rw[eL];simp (disch:=omega) only[nV,nW];omega) (Tr.ag ⟨rfl,rfl⟩)))
 · obtain ⟨x,h1,rfl⟩:=aB (Q:=fun x=>x=(.exit 0,m7 1 U (LL U) 5 (ofNat U)++[(18,.bool false)],eR O U Z V J [cH (LL U) (dy (fun c=>decide (c<U)))]::H)) (Pj (n+1) O U (LL U) Z V J H (dy (fun c=>decide (c<U))) (ofNat U)) (ay _) (aj _ _) (ak _ _) (by
    refine Tr.af wJ (fun h0=>Tr.ag rfl))
   exact h1
noncomputable def Uo (U:Nat):Nat→aC
 | 0=>m7 1 U (LL U) 6 (ofNat 0)
 | t+1=>m7 2 U (LL U) 6 ((t+1:Nat):Int)
noncomputable def Oe:Nat→ab
 | 0=>eR O U Z V J [cH (LL U) (dy (bL U b 0))]::H
 | t+1=>eR O U Z V J [cH (LL U) (dy (bL U b 0)),cH (LL U) (dy (bL U b (t+1)))]::H
theorem Rr (hl:U≤10) (h1:1≤U) (hb:V≤1000) (hB:b=fun c=>cZ J c V) (hp:gI U V J):exec (bQ (n+1) 64 66) (.block 2 (.loop (part Tryd.f64 [1,1,1,1,0,1,0,0]))) (Uo U 0) (Oe O U Z V J b H 0) =
 some (.normal,m7 2 U (LL U) 6 (ofNat U)++[(26,.bool false)],Oe O U Z V J b H U):=by
 have mk8:Ec (ofNat U) (ofNat U) 8=true:=by simp (disch:=omega) only[nV,nW];omega
 refine ig (n:=n+1) (f:=64) (nt:=66) (c:=part Tryd.f64 [1,1,1,1,0,1,0,0]) 2 (Uo U) (Oe O U Z V J b H) U (_,_) wO (fun t ht=>?_) ?_
 · have ec:bm .i64 (t:Int) (ofNat 1)=((t+1:Nat):Int):=eX wO
   cases t with
   | zero =>
     have hx:=WM n O U Z V J b H 0 hl hb (((0:Nat)):Int)
     rw[Kf,Gy U V J hB hp] at hx
     have T:=Pn (n+1) O U Z V J H (dy (bL U b 0)) (dy (bL U b (0+1))) (((0:Nat)):Int)
     rw[ec] at T
     refine aB T (ay _) (aZ (aj _ _) JV (fun x h=>by rw[← Tr.ae h];simp only[eB.st,aL];exact hx)) (ak _ _) ?_
     exact Tr.af (fun h0=>Tr.aa mk8 (Tr.ai ⟨rfl,rfl⟩ (Tr.ag ⟨rfl,rfl⟩))) wJ
   | succ t =>
     have hx:=WN n O U Z V J b H (dy (bL U b 0)) (t+1) hl hb (((t+1:Nat)):Int)
     rw[Kf,Gy U V J hB hp] at hx
     have T:=Po (n+1) O U Z V J H (dy (bL U b 0)) (dy (bL U b (t+1))) (dy (bL U b (t+1+1))) (((t+1:Nat)):Int)
     rw[ec] at T
     refine aB T (ay _) (aZ (aj _ _) JV (fun x h=>by rw[← Tr.ae h];simp only[eB.st,aL];exact hx)) (ak _ _) ?_
     exact Tr.af (fun h0=>Tr.aa mk8 (Tr.ai ⟨rfl,rfl⟩ (Tr.ag ⟨rfl,rfl⟩))) wJ
 · obtain ⟨m,rfl⟩:∃ m,U=m+1:=⟨U-1,by omega⟩
   obtain ⟨x,h1,rfl⟩:=aB (Q:=fun x=>x=(.exit 2,m7 2 (m+1) (LL (m+1)) 6 (ofNat (m+1))++[(26,.bool false)],Oe O (m+1) Z V J b H (m+1))) (MW (n+1) O (m+1) (LL (m+1)) Z V J H (dy (bL (m+1) b 0)) (dy (bL (m+1) b (m+1))) (ofNat (m+1))) (ay _) (cY (aj _ _) 4) (ak _ _) (by
    refine Tr.af wJ (fun h0=>Tr.ag rfl))
   exact h1
theorem Rs (hl:U≤10) (g:Nat→Int) (p:Nat→Bool):exec (bQ (n+1) 64 66) (.block 8 (.loop (part Tryd.f64 [1,1,1,1,1,0,1,0,0]))) (AY U (LL U) (ofNat 0)) (eR O U Z V J [cH (LL U) g,cH (LL U) (dy p)]::H) =
 some (cond (eH p U) (.ret,[(2,.bool true)],eR O U Z V J [cH (LL U) g,cH (LL U) (dy p)]::H) (.normal,AY U (LL U) (ofNat U)++[(58,.bool false)],eR O U Z V J [cH (LL U) g,cH (LL U) (dy p)]::H)):=by
 have eL:=BZ U
 refine kb (n:=n+1) (f:=64) (nt:=66) (c:=part Tryd.f64 [1,1,1,1,1,0,1,0,0]) 8 (fun j=>AY U (LL U) (j:Int)) (fun _=>eR O U Z V J [cH (LL U) g,cH (LL U) (dy p)]::H) U p (fun j=>([(2,.bool true)],eR O U Z V J [cH (LL U) g,cH (LL U) (dy p)]::H)) (_,_) wO (fun j hj=>?_) ?_
 · have ej:bm .i64 (j:Int) (ofNat 1)=((j+1:Nat):Int):=eX wO
   have T:=Pm (n+1) O U (LL U) Z V J H g (dy p) (j:Int)
   rw[yf,ej,Bk] at T
   refine aB T (ay _) (aj _ _) (ak _ _) ?_
   refine Tr.af (fun h0=>?_) wJ
   refine Tr.aa (by rw[eL];simp (disch:=omega) only[nV,nW];omega) (Tr.aa wG (Tr.aa (by rw[eL];simp (disch:=omega) only[nV,nW];omega) (Tr.af (fun q=>Tr.ag ?_) (fun q=>Tr.ag ?_))))
   · rw[if_pos q];rfl
   · rw[if_neg (by rw[q];decide)];exact ⟨rfl,rfl⟩
 · obtain ⟨x,h1,rfl⟩:=aB (Q:=fun x=>x=(.exit 8,AY U (LL U) (ofNat U)++[(58,.bool false)],eR O U Z V J [cH (LL U) g,cH (LL U) (dy p)]::H)) (Pm (n+1) O U (LL U) Z V J H g (dy p) (ofNat U)) (ay _) (aj _ _) (ak _ _) (by
    refine Tr.af wJ (fun h0=>Tr.ag rfl))
   exact h1
theorem U2 (hl:U≤10) (h1:1≤U) (hb:V≤1000) (hp:gI U V J):cd (n+2) (.fn 64) [a8 O U Z V J] H=some (.bool (iK U (fun c=>cZ J c V)),H):=by
 have e1:=Rt n O U Z V J H hl;rw[WT] at e1;have e2:=Rr n O U Z V J (fun c=>cZ J c V) H hl h1 hb rfl hp;have e3:=Rs n O U Z V J H hl (dy (bL U (fun c=>cZ J c V) 0)) (bL U (fun c=>cZ J c V) U);have hT:Oe O U Z V J (fun c=>cZ J c V) H U=eR O U Z V J [cH (LL U) (dy (bL U (fun c=>cZ J c V) 0)),cH (LL U) (dy (bL U (fun c=>cZ J c V) U))]::H:=by
  obtain ⟨m,rfl⟩:∃ m,U=m+1:=⟨U-1,by omega⟩
  rfl
 rw[hT] at e2;refine bj (n:=n+1) Tryd.func64 rfl rfl rfl (u64 (n+1) O U Z V J H (dy (bL U (fun c=>cZ J c V) 0)) (dy (bL U (fun c=>cZ J c V) 0)) (dy (bL U (fun c=>cZ J c V) U)) (eH (bL U (fun c=>cZ J c V) U) U)) (ay _) (aZ (aZ (aZ (aj _ _) Nz (fun x h=>by rw[← Tr.ae h];simp only[eB.st,aL];exact e1)) NA (fun x h=>by rw[← Tr.ae h];simp only[eB.st,aL];exact e2)) NB (fun x h=>eO h e3)) (ak _ _) ?_;have mk8:Ec (ofNat U) (ofNat U) 8=true:=by simp (disch:=omega) only[nV,nW];omega
 have eb:eH (bL U (fun c=>cZ J c V) U) U=iK U (fun c=>cZ J c V):=LM _ _;rw[eb];refine Tr.aa mk8 (Tr.ai ⟨rfl,rfl⟩ (Tr.ai ⟨rfl,rfl⟩ (Tr.ai ⟨rfl,rfl⟩ (Tr.af (fun q=>Tr.ag ⟨?_,rfl⟩) (fun q=>Tr.ag ⟨?_,rfl⟩)))))
 · rw[q]
 · rw[q]
end
end Go.Eng
end
section
namespace Go.Eng
open Int (ofNat)
open Go.Proofs
noncomputable def nC (s:Nat) (j:Int):aC:=[(1,.ptr 0 0 0 0),(s,.int .i64 j)]
noncomputable def AS (j k:Int):aC:=[(1,.ptr 0 0 0 0),(5,.int .i64 j),(6,.ptr 0 1 0 0),(7,.int .i64 k)]
noncomputable def Eu (a b:Int):Nat×an:=(0,.row (.I .i64 [a,b]))
theorem O9 (n:Nat) (O:Int) (U:Nat) (Z:Nat→Int) (V:Nat) (J:Nat→Int) (H:ab) (j:Int):aS (bQ n 23 125) (il aF n 0) aR aQ (part Tryd.f23 [1,1,1,0,1,0,0]) (hints (nC 3 j)) (dz O U Z V J::H) =
 (fun (Z0:bG)=>Tr.ite (bM j (ofNat U)) (Tr.req (c6 j U) (Tr.req (cK (aw 0 j 4) (cG U 4)) (Tr.req (cK (au (aw 0 j 4) 1) (cG U 4)) (Tr.req (cK (au (aw 0 j 4) 2) (cG U 4)) (Tr.req (cK (au (aw 0 j 4) 3) (cG U 4)) (Tr.ite (bM (Z (aw 0 j 4)) (ofNat 0)) (Tr.ok (Ex.ret,[(2,iI 3,some 1)],Z0::H)) (Tr.ite (bM (Z (au (aw 0 j 4) 1)) (Z (aw 0 j 4))) (Tr.ok (Ex.ret,[(2,iI 3,some 1)],Z0::H)) (Tr.ite (bM (ofNat 1000) (Z (au (aw 0 j 4) 1))) (Tr.ok (Ex.ret,[(2,iI 3,some 1)],Z0::H)) (Tr.ite (bM (Z (au (aw 0 j 4) 2)) (ofNat 0)) (Tr.ok (Ex.ret,[(2,iI 3,some 1)],Z0::H)) (Tr.ite (bM (Z (au (aw 0 j 4) 3)) (Z (au (aw 0 j 4) 2))) (Tr.ok (Ex.ret,[(2,iI 3,some 1)],Z0::H)) (Tr.ite (bM (ofNat 1000) (Z (au (aw 0 j 4) 3))) (Tr.ok (Ex.ret,[(2,iI 3,some 1)],Z0::H)) (Tr.ok (Ex.normal,[(1,AV.ptr 0 0 0 0,none),(3,AV.int .i64 (bm .i64 j (ofNat 1)),none)],Z0::H))))))))))))) (Tr.ok (Ex.exit 0,[(1,AV.ptr 0 0 0 0,none),(3,AV.int .i64 j,none),(36,AV.bool false,some 1)],(bz [(0,dk O U Z V J)])::H))) (bz [(0,dk O U Z V J),(0,an.row (Row.I .i64 [Z (aw 0 j 4),Z (au (aw 0 j 4) 1),Z (au (aw 0 j 4) 2),Z (au (aw 0 j 4) 3)]))]):=by kernel_rfl
theorem Pb (n:Nat) (O:Int) (U:Nat) (Z:Nat→Int) (V:Nat) (J:Nat→Int) (H:ab) (a b j k:Int):aS (bQ n 23 125) (il aF n 0) aR aQ (part Tryd.f23 [1,1,1,1,0,1,0,0,1,0,0,1,1,1,0,0]) (hints (AS j k)) (eR O U Z V J [Eu a b]::H) =
 (fun (Z0:bG)=>Tr.ite (bM k j) (Tr.req (c6 k V) (Tr.req (cK (aw 0 k 2) (cG V 2)) (Tr.req (cK (au (aw 0 k 2) 1) (cG V 2)) (Tr.ite (bV (b9 (J (aw 0 k 2)) a) (b9 (J (au (aw 0 k 2) 1)) b)) (Tr.ok (Ex.ret,[(2,iI 2,some 1)],Z0::H)) (Tr.ok (Ex.normal,[(1,AV.ptr 0 0 0 0,none),(5,AV.int .i64 j,none),(6,AV.ptr 0 1 0 0,none),(7,AV.int .i64 (bm .i64 k (ofNat 1)),none)],Z0::H)))))) (Tr.ok (Ex.exit 4,[(1,AV.ptr 0 0 0 0,none),(5,AV.int .i64 j,none),(6,AV.ptr 0 1 0 0,none),(7,AV.int .i64 k,none),(113,AV.bool false,some 1)],Z0::H))) (bz [(0,dk O U Z V J),(0,an.row (Row.I .i64 [a,b]))]):=by kernel_rfl
theorem SG (n:Nat) (O:Int) (U:Nat) (Z:Nat→Int) (V:Nat) (J:Nat→Int) (H:ab) (j:Int) (e:Bool):aS (bQ (n+1) 23 125) (il aF n 1) (cV aR 4 (AS j (ofNat 0)) (eR O U Z V J [Eu (J (aw 0 j 2)) (J (au (aw 0 j 2) 1))]::H) (.ite e (.ok (.ret,[(2,.int .i64 2,none)],eR O U Z V J [Eu (J (aw 0 j 2)) (J (au (aw 0 j 2) 1))]::H)) (.ok (.normal,hints (AS j j++[(113,.bool false)]),eR O U Z V J [Eu (J (aw 0 j 2)) (J (au (aw 0 j 2) 1))]::H)))) aQ (part Tryd.f23 [1,1,1,1,0,1,0,0]) (hints (nC 5 j)) (dz O U Z V J::H) =
 (fun (Z0:bG)=>Tr.ite (bM j (ofNat V)) (Tr.req (c6 j V) (Tr.req (cK (aw 0 j 2) (cG V 2)) (Tr.req (cK (au (aw 0 j 2) 1) (cG V 2)) (Tr.req (c6 (ofNat 0) 2) (Tr.ite (dp (ofNat 0) (J (aw 0 j 2))) (Tr.ite (bF (bM (J (aw 0 j 2)) (ofNat U))) (Tr.ok (Ex.ret,[(2,iI 2,some 1)],Z0::H)) (Tr.req (c6 (ofNat 1) 2) (Tr.ite (dp (ofNat 0) (J (au (aw 0 j 2) 1))) (Tr.ite (bF (bM (J (au (aw 0 j 2) 1)) (ofNat U))) (Tr.ok (Ex.ret,[(2,iI 2,some 1)],Z0::H)) (Tr.req (c6 (ofNat 0) 2) (Tr.req (c6 (ofNat 1) 2) (Tr.ite (b9 (J (aw 0 j 2)) (J (au (aw 0 j 2) 1))) (Tr.ok (Ex.ret,[(2,iI 2,some 1)],Z0::H)) (Tr.reqP ([(1,AV.ptr 0 0 0 0),(5,AV.int .i64 j),(6,AV.ptr 0 1 0 0),(7,iI 0)]=[(1,AV.ptr 0 0 0 0),(5,AV.int .i64 j),(6,AV.ptr 0 1 0 0),(7,iI 0)]∧Z0::H=Z0::H) (Tr.ite e (Tr.ok (Ex.ret,[(2,iI 2,none)],Z0::H)) (Tr.ok (Ex.normal,[(1,AV.ptr 0 0 0 0,none),(5,AV.int .i64 (bm .i64 j (ofNat 1)),none)],Z0::H)))))))) (Tr.ok (Ex.ret,[(2,iI 2,some 1)],Z0::H))))) (Tr.ok (Ex.ret,[(2,iI 2,some 1)],Z0::H))))))) (Tr.ok (Ex.exit 2,[(1,AV.ptr 0 0 0 0,none),(5,AV.int .i64 j,none),(84,AV.bool false,some 1)],(bz [(0,dk O U Z V J)])::H))) (bz [(0,dk O U Z V J),(0,an.row (Row.I .i64 [J (aw 0 j 2),J (au (aw 0 j 2) 1)]))]):=by kernel_rfl
theorem Pa (n:Nat) (O:Int) (U:Nat) (Z:Nat→Int) (V:Nat) (J:Nat→Int) (H:ab) (j:Int):aS (bQ (n+1) 23 125) (il aF n 1) (gf aR 4) aQ (part Tryd.f23 [1,1,1,1,0,1,0,0]) (hints (nC 5 j)) (dz O U Z V J::H) =
 (fun (Z0:bG)=>Tr.ite (bM j (ofNat V)) (Tr.req (c6 j V) (Tr.req (cK (aw 0 j 2) (cG V 2)) (Tr.req (cK (au (aw 0 j 2) 1) (cG V 2)) (Tr.req (c6 (ofNat 0) 2) (Tr.ite (dp (ofNat 0) (J (aw 0 j 2))) (Tr.ite (bF (bM (J (aw 0 j 2)) (ofNat U))) (Tr.ok (Ex.ret,[(2,iI 2,some 1)],Z0::H)) (Tr.req (c6 (ofNat 1) 2) (Tr.ite (dp (ofNat 0) (J (au (aw 0 j 2) 1))) (Tr.ite (bF (bM (J (au (aw 0 j 2) 1)) (ofNat U))) (Tr.ok (Ex.ret,[(2,iI 2,some 1)],Z0::H)) (Tr.req (c6 (ofNat 0) 2) (Tr.req (c6 (ofNat 1) 2) (Tr.ite (b9 (J (aw 0 j 2)) (J (au (aw 0 j 2) 1))) (Tr.ok (Ex.ret,[(2,iI 2,some 1)],Z0::H)) Tr.bad)))) (Tr.ok (Ex.ret,[(2,iI 2,some 1)],Z0::H))))) (Tr.ok (Ex.ret,[(2,iI 2,some 1)],Z0::H))))))) (Tr.ok (Ex.exit 2,[(1,AV.ptr 0 0 0 0,none),(5,AV.int .i64 j,none),(84,AV.bool false,some 1)],(bz [(0,dk O U Z V J)])::H))) (bz [(0,dk O U Z V J),(0,an.row (Row.I .i64 [J (aw 0 j 2),J (au (aw 0 j 2) 1)]))]):=by kernel_rfl
theorem Xj (n:Nat) (O:Int) (U:Nat) (Z:Nat→Int) (V:Nat) (J:Nat→Int) (H:ab) (e1 e2 e3:Bool) (l1 l2:bG) (C:List AV→Prop):bg Tryd.prog (cd n) 100000 23 Tryd.f23 (KtG.kt 23) (il (lW aF 64 (gB e3 C)) n 0) (cV (cV aR 0 (nC 3 (ofNat 0)) (dz O U Z V J::H) (.ite e1 (.ok (.ret,[(2,.int .i64 3,none)],l1::H)) (.ok (.normal,hints (nC 3 (ofNat U)++[(36,.bool false)]),dz O U Z V J::H)))) 2 (nC 5 (ofNat 0)) (dz O U Z V J::H) (.ite e2 (.ok (.ret,[(2,.int .i64 2,none)],l2::H)) (.ok (.normal,hints (nC 5 (ofNat V)++[(84,.bool false)]),dz O U Z V J::H)))) aQ [(a8 O U Z V J,none)] H =
 (fun (Z0:bG)=>Tr.ite (bM (ofNat U) (ofNat 1)) (Tr.ok ((iI 6,some 1),H)) (Tr.ite (bM (ofNat 10) (ofNat U)) (Tr.ok ((iI 6,some 1),H)) (Tr.ite (bM (ofNat 40) (ofNat V)) (Tr.ok ((iI 6,some 1),H)) (Tr.ite (bM O (ofNat 1)) (Tr.ok ((iI 3,some 1),H)) (Tr.ite (bM (ofNat 100) O) (Tr.ok ((iI 3,some 1),H)) (Tr.reqP ([(1,AV.ptr 0 0 0 0),(3,iI 0)]=[(1,AV.ptr 0 0 0 0),(3,iI 0)]∧Z0::H=Z0::H) (Tr.ite e1 (Tr.ok ((iI 3,none),H)) (Tr.reqP ([(1,AV.ptr 0 0 0 0),(5,iI 0)]=[(1,AV.ptr 0 0 0 0),(5,iI 0)]∧Z0::H=Z0::H) (Tr.ite e2 (Tr.ok ((iI 2,none),H)) (Tr.reqP (C [a8 O U Z V J]) (Tr.ite e3 (Tr.ok ((iI 16,some 1),H)) (Tr.ok ((iI 0,some 1),H))))))))))))) (bz [(0,dk O U Z V J)]):=by kernel_rfl
theorem SR (n:Nat) (O:Int) (U:Nat) (Z:Nat→Int) (V:Nat) (J:Nat→Int) (H:ab):bg Tryd.prog (cd n) 100000 23 Tryd.f23 (KtG.kt 23) (il aF n 0) (gf aR 0) aQ [(a8 O U Z V J,none)] H =
 Tr.ite (bM (ofNat U) (ofNat 1)) (Tr.ok ((iI 6,some 1),H)) (Tr.ite (bM (ofNat 10) (ofNat U)) (Tr.ok ((iI 6,some 1),H)) (Tr.ite (bM (ofNat 40) (ofNat V)) (Tr.ok ((iI 6,some 1),H)) (Tr.ite (bM O (ofNat 1)) (Tr.ok ((iI 3,some 1),H)) (Tr.ite (bM (ofNat 100) O) (Tr.ok ((iI 3,some 1),H)) Tr.bad)))):=by kernel_rfl
end Go.Eng
end
section
namespace Go.Eng
open Int (ofNat)
open Go.Proofs Go.Eng.Gall
theorem Nu:∀ b,(0,b) ∈ aP (bA Tryd.f23)→b=.loop (part Tryd.f23 [1,1,1,0,1,0,0]):=eN (by kernel_rfl)
theorem Nv:∀ b,(2,b) ∈ aP (bA Tryd.f23)→b=.loop (part Tryd.f23 [1,1,1,1,0,1,0,0]):=eN (by kernel_rfl)
theorem Nw:∀ b,(4,b) ∈ aP (part Tryd.f23 [1,1,1,1,0,1,0,0])→b=.loop (part Tryd.f23 [1,1,1,1,0,1,0,0,1,0,0,1,1,1,0,0]):=eN (by kernel_rfl)
section
variable (n:Nat) (O:Int) (U:Nat) (Z:Nat→Int) (V:Nat) (J:Nat→Int) (H:ab)
noncomputable def Mf (j:Nat):bG:=eR O U Z V J [(0,.row (.I .i64 [Z (j*4),Z (j*4+1),Z (j*4+2),Z (j*4+3)]))]
theorem Ru (hl:U≤1000):exec (bQ n 23 125) (.block 0 (.loop (part Tryd.f23 [1,1,1,0,1,0,0]))) (nC 3 (ofNat 0)) (dz O U Z V J::H) =
 some (cond (eH (js Z) U) (.ret,[(2,.int .i64 3)],Mf O U Z V J (fN (js Z) U 0)::H) (.normal,nC 3 (ofNat U)++[(36,.bool false)],dz O U Z V J::H)):=by
 refine kb (n:=n) (f:=23) (nt:=125) (c:=part Tryd.f23 [1,1,1,0,1,0,0]) 0 (fun j=>nC 3 (j:Int)) (fun _=>dz O U Z V J::H) U (js Z) (fun j=>([(2,.int .i64 3)],Mf O U Z V J j::H)) (_,_) wO (fun j hj=>?_) ?_
 · have ej:bm .i64 (j:Int) (ofNat 1)=((j+1:Nat):Int):=eX wO
   have ei:aw 0 (j:Int) 4=j*4:=by rw[bJ];omega
   have hs:js Z j=!(decide (0≤Z (j*4)) && (decide (Z (j*4)≤Z (j*4+1)) && (decide (Z (j*4+1)≤1000) && (decide (0≤Z (j*4+2)) && (decide (Z (j*4+2)≤Z (j*4+3)) && decide (Z (j*4+3)≤1000)))))):=rfl
   have T:=O9 n O U Z V J H (j:Int)
   rw[ei,aM,aM,aM,ej] at T
   refine aB T (ay _) (aj _ _) (ak _ _) ?_
   refine Tr.af (fun h0=>?_) wJ
   refine Tr.aa wG (Tr.aa wG (Tr.aa wG (Tr.aa wG (Tr.aa wG ?_))))
   have yes:(¬ (0≤Z (j*4)∧Z (j*4)≤Z (j*4+1)∧Z (j*4+1)≤1000∧0≤Z (j*4+2)∧Z (j*4+2)≤Z (j*4+3)∧Z (j*4+3)≤1000))→js Z j=true:=fun h=>by rw[hs];simp;omega
   refine Tr.af (fun q1=>Tr.ag ?_) (fun q1=>Tr.af (fun q2=>Tr.ag ?_) (fun q2=>Tr.af (fun q3=>Tr.ag ?_) (fun q3=>Tr.af (fun q4=>Tr.ag ?_) (fun q4=>Tr.af (fun q5=>Tr.ag ?_) (fun q5=>Tr.af (fun q6=>Tr.ag ?_) (fun q6=>Tr.ag ?_))))))
   · rw[bx,decide_eq_true_iff] at q1
     rw[if_pos (yes (by have:Z (j*4)<0:=q1;omega))];rfl
   · rw[bx,decide_eq_true_iff] at q2
     rw[if_pos (yes wO)];rfl
   · rw[bx,decide_eq_true_iff] at q3
     rw[if_pos (yes (by have:1000<Z (j*4+1):=q3;omega))];rfl
   · rw[bx,decide_eq_true_iff] at q4
     rw[if_pos (yes (by have:Z (j*4+2)<0:=q4;omega))];rfl
   · rw[bx,decide_eq_true_iff] at q5
     rw[if_pos (yes wO)];rfl
   · rw[bx,decide_eq_true_iff] at q6
     rw[if_pos (yes (by have:1000<Z (j*4+3):=q6;omega))];rfl
   · rw[bx,decide_eq_false_iff_not] at q1 q2 q3 q4 q5 q6
     have q1:¬ Z (j*4)<0:=q1
     have q3:¬ 1000<Z (j*4+1):=q3
     have q4:¬ Z (j*4+2)<0:=q4
     have q6:¬ 1000<Z (j*4+3):=q6
     rw[if_neg (by rw[hs];simp;omega)]
     exact ⟨rfl,rfl⟩
 · obtain ⟨x,h1,rfl⟩:=aB (Q:=fun x=>x=(.exit 0,nC 3 (ofNat U)++[(36,.bool false)],dz O U Z V J::H)) (O9 n O U Z V J H (ofNat U)) (ay _) (aj _ _) (ak _ _) (by
    refine Tr.af wJ (fun h0=>Tr.ag rfl))
   exact h1
theorem Rx (a b:Int) (j:Nat) (hj:j≤V) (hb:V≤1000):exec (bQ n 23 125) (.block 4 (.loop (part Tryd.f23 [1,1,1,1,0,1,0,0,1,0,0,1,1,1,0,0]))) (AS (j:Int) (ofNat 0)) (eR O U Z V J [Eu a b]::H) =
 some (cond (eH (iz J a b) j) (.ret,[(2,.int .i64 2)],eR O U Z V J [Eu a b]::H) (.normal,AS (j:Int) (j:Int)++[(113,.bool false)],eR O U Z V J [Eu a b]::H)):=by
 refine kb (n:=n) (f:=23) (nt:=125) (c:=part Tryd.f23 [1,1,1,1,0,1,0,0,1,0,0,1,1,1,0,0]) 4 (fun k=>AS (j:Int) (k:Int)) (fun _=>eR O U Z V J [Eu a b]::H) j (iz J a b) (fun k=>([(2,.int .i64 2)],eR O U Z V J [Eu a b]::H)) (_,_) wO (fun k hk=>?_) ?_
 · have ek:bm .i64 (k:Int) (ofNat 1)=((k+1:Nat):Int):=eX wO
   have ei:aw 0 (k:Int) 2=k*2:=by rw[bJ];omega
   have hp:bV (b9 (J (k*2)) a) (b9 (J (k*2+1)) b)=iz J a b k:=by
    rw[bZ,aE,aE];unfold iz;rw[Bool.eq_iff_iff];simp;constructor<;>(rintro ⟨h1,h2⟩;exact ⟨h1.symm,h2.symm⟩)
   have T:=Pb n O U Z V J H a b (j:Int) (k:Int)
   rw[ei,aM,ek,hp] at T
   refine aB T (ay _) (aj _ _) (ak _ _) ?_
   refine Tr.af (fun h0=>?_) wJ
   refine Tr.aa wG (Tr.aa wG (Tr.aa wG (Tr.af (fun q=>Tr.ag ?_) (fun q=>Tr.ag ?_))))
   · rw[if_pos q];rfl
   · rw[if_neg (by rw[q];decide)];exact ⟨rfl,rfl⟩
 · obtain ⟨x,h1,rfl⟩:=aB (Q:=fun x=>x=(.exit 4,AS (j:Int) (j:Int)++[(113,.bool false)],eR O U Z V J [Eu a b]::H)) (Pb n O U Z V J H a b (j:Int) (j:Int)) (ay _) (aj _ _) (ak _ _) (by
    refine Tr.af wJ (fun h0=>Tr.ag rfl))
   exact h1
theorem Rv   (hl:U≤1000) (hb:V≤1000):exec (bQ (n+1) 23 125) (.block 2 (.loop (part Tryd.f23 [1,1,1,1,0,1,0,0]))) (nC 5 (ofNat 0)) (dz O U Z V J::H) =
 some (cond (eH (iq U J) V) (.ret,[(2,.int .i64 2)],eR O U Z V J [Eu (J (fN (iq U J) V 0*2)) (J (fN (iq U J) V 0*2+1))]::H) (.normal,nC 5 (ofNat V)++[(84,.bool false)],dz O U Z V J::H)):=by
 refine kb (n:=n+1) (f:=23) (nt:=125) (c:=part Tryd.f23 [1,1,1,1,0,1,0,0]) 2 (fun j=>nC 5 (j:Int)) (fun _=>dz O U Z V J::H) V (iq U J) (fun j=>([(2,.int .i64 2)],eR O U Z V J [Eu (J (j*2)) (J (j*2+1))]::H)) (_,_) wO (fun j hj=>?_) ?_
 · have ej : bm .i64 (j:Int) (ofNat 1)=((j+1:Nat):Int):=eX wO
   have ei:aw 0 (j:Int) 2=j*2:=by rw[bJ];omega
   have T:=SG n O U Z V J H (j:Int) (eH (iz J (J (j*2)) (J (j*2+1))) j)
   rw[ei,aM,ej] at T
   refine aB T (ff n 1) (aZ (aj _ _) Nw (fun x h=>eO h (Rx (n+1) O U Z V J H _ _ j wO hb))) (ak _ _) ?_
   refine Tr.af (fun h0=>?_) wJ
   refine Tr.aa wG (Tr.aa wG (Tr.aa wG (Tr.aa wG ?_)))
   have yes:(J (j*2)=J (j*2+1)∨¬ (0≤J (j*2)∧J (j*2)<U)∨¬ (0≤J (j*2+1)∧J (j*2+1)<U))→iq U J j=true:=fun h=>by
    unfold iq;rcases h with h | h | h
    · rw[decide_eq_true h];rfl
    · rw[decide_eq_false h];simp
    · rw[decide_eq_false h];simp
   refine Tr.af (fun q1=>?_) (fun q1=>Tr.ag ?_)
   · rw[bh,decide_eq_true_iff] at q1
     have q1:0≤J (j*2):=q1
     refine Tr.af (fun q2=>Tr.ag ?_) (fun q2=>?_)
     · rw[ar,bx] at q2
       have q2:¬ J (j*2)<(U:Int):=by simpa using q2
       rw[if_pos (yes (.inr (.inl wO)))];rfl
     · rw[ar,bx] at q2
       have q2:J (j*2)<(U:Int):=by simpa using q2
       refine Tr.aa wG (Tr.af (fun q3=>?_) (fun q3=>Tr.ag ?_))
       · rw[bh,decide_eq_true_iff] at q3
         have q3:0≤J (j*2+1):=q3
         refine Tr.af (fun q4=>Tr.ag ?_) (fun q4=>?_)
         · rw[ar,bx] at q4
           have q4:¬ J (j*2+1)<(U:Int):=by simpa using q4
           rw[if_pos (yes (.inr (.inr wO)))];rfl
         · rw[ar,bx] at q4
           have q4:J (j*2+1)<(U:Int):=by simpa using q4
           refine Tr.aa wG (Tr.aa wG (Tr.af (fun q5=>Tr.ag ?_) (fun q5=>?_)))
           · rw[aE,beq_iff_eq] at q5
             rw[if_pos (yes (.inl q5))];rfl
           · rw[aE,beq_eq_false_iff_ne] at q5
             refine Tr.ai ⟨rfl,rfl⟩ (Tr.af (fun q6=>Tr.ag ?_) (fun q6=>Tr.ag ?_))
             · rw[if_pos (by unfold iq;rw[q6];simp)];rfl
             · rw[if_neg (by unfold iq;rw[q6,decide_eq_false q5,decide_eq_true ⟨q1,q2⟩,decide_eq_true ⟨q3,q4⟩];decide)]
               exact ⟨rfl,rfl⟩
       · rw[bh,decide_eq_false_iff_not] at q3
         have q3:¬ 0≤J (j*2+1):=q3
         rw[if_pos (yes (.inr (.inr wO)))];rfl
   · rw[bh,decide_eq_false_iff_not] at q1
     have q1:¬ 0≤J (j*2):=q1
     rw[if_pos (yes (.inr (.inl wO)))];rfl
 · obtain ⟨x,h1,rfl⟩:=aB (Q:=fun x=>x=(.exit 2,nC 5 (ofNat V)++[(84,.bool false)],dz O U Z V J::H)) (Pa n O U Z V J H (ofNat V)) (ff n 1) (cY (aj _ _) 4) (ak _ _) (by
    refine Tr.af wJ (fun h0=>Tr.ag rfl))
   exact h1
theorem Qa (hl:U≤1000) (hb:V≤1000):cd (n+3) (.fn 23) [a8 O U Z V J] H=some (.int .i64 (cu O U Z V J),H):=by
 by_cases k0:1≤U∧U≤10∧V≤40
 · obtain ⟨k1,k2,k3⟩:=k0;have ht:(lW aF 64 (gB (iK U (fun c=>cZ J c V)) (fun A=>A=[a8 O U Z V J]∧gI U V J))).Ok (cd (n+2)):=x4 (aN _) (fun A H hA=>by
    obtain ⟨rfl,hp⟩:=hA;exact U2 n O U Z V J H k2 k1 hb hp)
   refine bj (n:=n+2) Tryd.func23 rfl rfl rfl (Xj (n+2) O U Z V J H (eH (js Z) U) (eH (iq U J) V) (iK U (fun c=>cZ J c V)) (Mf O U Z V J (fN (js Z) U 0)) (eR O U Z V J [Eu (J (fN (iq U J) V 0*2)) (J (fN (iq U J) V 0*2+1))]) (fun A=>A=[a8 O U Z V J]∧gI U V J)) (bo _ _ ht) (aZ (aZ (aj _ _) Nu (fun y h=>eO h (Ru (n+2) O U Z V J H hl))) Nv (fun y h=>eO h (Rv (n+1) O U Z V J H hl hb))) (ak _ _) ?_;have hG:cu O U Z V J=if O<1∨100<O∨eH (js Z) U=true then 3 else if eH (iq U J) V=true then 2 else if iK U (fun c=>cZ J c V)=true then 16 else 0:=by unfold cu;rw[if_neg wO]
   rw[hG];refine Tr.af wJ (fun _=>Tr.af wJ (fun _=>Tr.af wJ (fun _=>?_)));refine Tr.af (fun q=>?_) (fun q=>Tr.af (fun q'=>?_) (fun q'=>?_))
   · rw[bx,decide_eq_true_iff] at q;rw[if_pos (.inl q)];exact Tr.ag ⟨rfl,rfl⟩
   · rw[bx,decide_eq_true_iff] at q';rw[if_pos (.inr (.inl q'))];exact Tr.ag ⟨rfl,rfl⟩
   · rw[bx,decide_eq_false_iff_not] at q q';have q:¬ O<1:=q;have q':¬ 100<O:=q';refine Tr.ai ⟨rfl,rfl⟩ (Tr.af (fun r=>?_) (fun r=>?_))
     · rw[if_pos (.inr (.inr r))];exact Tr.ag ⟨rfl,rfl⟩
     · rw[if_neg (by rintro (h | h | h);omega;omega;rw[r] at h;cases h)];refine Tr.ai ⟨rfl,rfl⟩ (Tr.af (fun u=>?_) (fun u=>?_))
       · rw[if_pos u];exact Tr.ag ⟨rfl,rfl⟩
       · rw[if_neg (by rw[u];decide)];refine Tr.ai ⟨rfl,px u⟩ (Tr.af (fun w=>?_) (fun w=>?_))
         · rw[if_pos w];exact Tr.ag ⟨rfl,rfl⟩
         · rw[if_neg (by rw[w];decide)];exact Tr.ag ⟨rfl,rfl⟩
 · refine bj (n:=n+2) Tryd.func23 rfl rfl rfl (SR (n+2) O U Z V J H) (ay _) (cY (aj _ _) 0) (ak _ _) ?_;have hG:cu O U Z V J=6:=by unfold cu;rw[if_pos wO]
   rw[hG];refine Tr.af (fun q=>Tr.ag ⟨rfl,rfl⟩) (fun q=>Tr.af (fun q2=>Tr.ag ⟨rfl,rfl⟩) (fun q2=>Tr.af (fun q3=>Tr.ag ⟨rfl,rfl⟩) (fun q3=>?_)));exfalso;simp (disch:=omega) only[nV,nW] at q;simp (disch:=omega) only[nV,nW] at q2;simp (disch:=omega) only[nV,nW] at q3;omega
end
end Go.Eng
end
section
namespace Go.Eng
open Int (ofNat)
open Go.Proofs
noncomputable def db (r:Nat→Int):Nat×an:=(0,.row (.M [.arr .i64 r 20]))
noncomputable def fx (bs:List (Nat×an)):bG:=⟨false,db (fun _=>ofNat 0)::bs⟩
noncomputable def m6 (A:AV) (U:Nat) (t:Int):aC:=[(0,A),(2,.ptr 0 0 0 0),(3,.ptr 0 1 0 0),(17,.int .i64 (ofNat U)),(18,.int .i64 t)]
noncomputable def xZ (A:AV) (U:Nat) (t:Int) (B:Nat→Int) (c:Int):aC:=[(0,A),(2,.ptr 0 0 0 0),(3,.ptr 0 1 0 0),(4,.ptr 0 2 0 0),(17,.int .i64 (ofNat U)),(18,.int .i64 t),(24,.agg (.M [.arr .u64 B 10])),(25,.int .i64 c)]
noncomputable def AT (A:AV) (U:Nat) (t:Int) (B:Nat→Int) (c x:Int):aC:=[(0,A),(2,.ptr 0 0 0 0),(3,.ptr 0 1 0 0),(4,.ptr 0 2 0 0),(5,.int .i64 c),(6,.int .u64 x),(17,.int .i64 (ofNat U)),(18,.int .i64 t),(24,.agg (.M [.arr .u64 B 10])),(25,.int .i64 c)]
noncomputable def QC (cz:Int→Int):List AV→Option (Prop×AV)
 | [.int .u64 x]=>some (0≤x∧x<18446744073709551616,.int .i64 (cz x))
 | _=>none
theorem Ph (n:Nat) (O:Int) (U:Nat) (Z:Nat→Int) (V:Nat) (J:Nat→Int) (W B:Nat→Int) (H:ab) (cz:Int→Int) (r q:Nat→Int) (t c x:Int):aS (bQ n 56 69) (il (lW aF 82 (QC cz)) n 0) aR aQ (part Tryd.f56 [1,1,0,1,0,0,1,1,0,0,1,0,1,0,0,1,1,0,0,1,0,0]) (hints (AT (shV O U Z V J W B) U t B c x)) (fx [db r,db q]::H) =
 Tr.ite (bF (b9 x (ofNat 0))) (Tr.reqP (Int.NonNeg (x-0)∧Int.NonNeg (18446744073709551616-(x+1))) (Tr.req (c6 c 10) (Tr.req (cg 0 0) (Tr.req (cK (aw 0 c 2) 20) (Tr.req (c6 (cz x) 10) (Tr.req (cg 0 0) (Tr.req (cK (aw 0 (cz x) 2) 20) (Tr.req (c6 c 10) (Tr.req (cg 0 0) (Tr.req (cK (aw 0 c 2) 20) (Tr.req (bV (fp 0 0) (fp 0 1)) (Tr.req (c6 (cz x) 10) (Tr.req (cg 0 0) (Tr.req (cK (au (aw 0 (cz x) 2) 1) 20) (Tr.req (c6 c 10) (Tr.req (cg 0 0) (Tr.req (cK (au (aw 0 c 2) 1) 20) (Tr.req (c6 (cz x) 10) (Tr.req (cg 0 0) (Tr.req (cK (au (aw 0 (cz x) 2) 1) 20) (Tr.req (bV (fp 0 0) (fp 0 1)) (Tr.ok (Ex.normal,[(0,shV O U Z V J W B,none),(2,AV.ptr 0 0 0 0,none),(3,AV.ptr 0 1 0 0,none),(4,AV.ptr 0 2 0 0,none),(5,AV.int .i64 c,none),(6,AV.int IntKind.u64 (lQ IntKind.u64 x (bX IntKind.u64 x (ofNat 1))),none),(17,iI U,none),(18,AV.int .i64 t,none),(24,AV.agg (Row.M [dj.arr IntKind.u64 B 10]),none),(25,AV.int .i64 c,none)],(bz [(0,an.row (rM (fun x=>ofNat 0) 20)),(0,an.row (rM (dc (dc r (aw 0 c 2) (uM (r (aw 0 c 2)) (bm .i64 (r (aw 0 (cz x) 2)) (ofNat 1)))) (au (aw 0 (cz x) 2) 1) (yD (dc r (aw 0 c 2) (uM (r (aw 0 c 2)) (bm .i64 (r (aw 0 (cz x) 2)) (ofNat 1))) (au (aw 0 (cz x) 2) 1)) (bX .i64 (dc r (aw 0 c 2) (uM (r (aw 0 c 2)) (bm .i64 (r (aw 0 (cz x) 2)) (ofNat 1))) (au (aw 0 c 2) 1)) (ofNat 1)))) 20)),(0,an.row (rM q 20))])::H))))))))))))))))))))))) (Tr.ok (Ex.exit 4,[(0,shV O U Z V J W B,none),(2,AV.ptr 0 0 0 0,none),(3,AV.ptr 0 1 0 0,none),(4,AV.ptr 0 2 0 0,none),(5,AV.int .i64 c,none),(6,AV.int IntKind.u64 x,none),(17,iI U,none),(18,AV.int .i64 t,none),(24,AV.agg (Row.M [dj.arr IntKind.u64 B 10]),none),(25,AV.int .i64 c,none),(30,AV.bool false,some 1)],(bz [(0,an.row (rM (fun x=>ofNat 0) 20)),(0,an.row (rM r 20)),(0,an.row (rM q 20))])::H)):=by kernel_rfl
theorem SL (n:Nat) (O:Int) (U:Nat) (Z:Nat→Int) (V:Nat) (J:Nat→Int) (W B:Nat→Int) (H:ab) (r q r':Nat→Int) (t c x:Int):aS (bQ n 56 69) (il aF n 0) (cV aR 4 (AT (shV O U Z V J W B) U t B c (B (aw 0 c 1))) (fx [db r,db q]::H) (.ok (.normal,hints (AT (shV O U Z V J W B) U t B c x++[(30,.bool false)]),fx [db r',db q]::H))) aQ (part Tryd.f56 [1,1,0,1,0,0,1,1,0,0,1,0,1,0,0]) (hints (xZ (shV O U Z V J W B) U t B c)) (fx [db r,db q]::H) =
 (fun (Z0:aC)=>((fun (Z1:bG)=>Tr.ite (bM c (ofNat 10)) (Tr.req (c6 c 10) (Tr.req (cK (aw 0 c 1) 10) (Tr.reqP (Z0=Z0∧Z1::H=Z1::H) (Tr.ok (Ex.normal,[(0,shV O U Z V J W B,none),(2,AV.ptr 0 0 0 0,none),(3,AV.ptr 0 1 0 0,none),(4,AV.ptr 0 2 0 0,none),(17,iI U,none),(18,AV.int .i64 t,none),(24,AV.agg (Row.M [dj.arr IntKind.u64 B 10]),none),(25,AV.int .i64 (bm .i64 c (ofNat 1)),none)],(bz [(0,an.row (rM (fun x=>ofNat 0) 20)),(0,an.row (rM r' 20)),(0,an.row (rM q 20))])::H))))) (Tr.ok (Ex.exit 2,[(0,shV O U Z V J W B,none),(2,AV.ptr 0 0 0 0,none),(3,AV.ptr 0 1 0 0,none),(4,AV.ptr 0 2 0 0,none),(17,iI U,none),(18,AV.int .i64 t,none),(24,AV.agg (Row.M [dj.arr IntKind.u64 B 10]),none),(25,AV.int .i64 c,none),(26,AV.bool false,some 1)],Z1::H))) (bz [(0,an.row (rM (fun x=>ofNat 0) 20)),(0,an.row (rM r 20)),(0,an.row (rM q 20))]))) [(0,shV O U Z V J W B),(2,AV.ptr 0 0 0 0),(3,AV.ptr 0 1 0 0),(4,AV.ptr 0 2 0 0),(5,AV.int .i64 c),(6,AV.int IntKind.u64 (B (aw 0 c 1))),(17,iI U),(18,AV.int .i64 t),(24,AV.agg (Row.M [dj.arr IntKind.u64 B 10])),(25,AV.int .i64 c)]:=by kernel_rfl
theorem Pg (n:Nat) (O:Int) (U:Nat) (Z:Nat→Int) (V:Nat) (J:Nat→Int) (W B:Nat→Int) (H:ab) (r q:Nat→Int) (t:Int):aS (bQ n 56 69) (il aF n 0) (gf aR 4) aQ (part Tryd.f56 [1,1,0,1,0,0,1,1,0,0,1,0,1,0,0]) (hints (xZ (shV O U Z V J W B) U t B 10)) (fx [db r,db q]::H) =
 Tr.ite (bM (ofNat 10) (ofNat 10)) (Tr.req (c6 (ofNat 10) 10) (Tr.req (cK (aw 0 (ofNat 10) 1) 10) Tr.bad)) (Tr.ok (Ex.exit 2,[(0,shV O U Z V J W B,none),(2,AV.ptr 0 0 0 0,none),(3,AV.ptr 0 1 0 0,none),(4,AV.ptr 0 2 0 0,none),(17,iI U,none),(18,AV.int .i64 t,none),(24,AV.agg (Row.M [dj.arr IntKind.u64 B 10]),none),(25,iI 10,none),(26,AV.bool false,some 1)],(bz [(0,an.row (rM (fun x=>ofNat 0) 20)),(0,an.row (rM r 20)),(0,an.row (rM q 20))])::H)):=by kernel_rfl
theorem SK (n:Nat) (O:Int) (U:Nat) (Z:Nat→Int) (V:Nat) (J:Nat→Int) (W B:Nat→Int) (H:ab) (r r':Nat→Int) (t:Int):aS (bQ n 56 69) (il aF n 0) (cV aR 2 (xZ (shV O U Z V J W B) U t B (ofNat 0)) (fx [db r,db r]::H) (.ok (.normal,hints (xZ (shV O U Z V J W B) U t B (ofNat 10)++[(26,.bool false)]),fx [db r',db r]::H))) aQ (part Tryd.f56 [1,1,0,1,0,0]) (hints (m6 (shV O U Z V J W B) U t)) (fx [db r]::H) =
 (fun (Z0:aC)=>((fun (Z1:Nat×an)=>Tr.ite (bM t (ofNat U)) (Tr.req (eD 0 20 0 20) (Tr.reqP (Z0=Z0∧(bz [Z1,(0,an.row (rM r 20)),(0,an.row (rM (oE (fun x=>ofNat 0) 0 r 20) 20))])::H=(bz [Z1,(0,an.row (rM r 20)),(0,an.row (rM r 20))])::H) (Tr.ite (lP r' r 20) (Tr.ok (Ex.exit 0,[(0,shV O U Z V J W B,none),(2,AV.ptr 0 0 0 0,none),(3,AV.ptr 0 1 0 0,none),(17,iI U,none),(18,AV.int .i64 t,none),(66,AV.bool true,some 1)],(bz [Z1,(0,an.row (rM r' 20)),(0,an.row (rM r 20))])::H)) (Tr.ok (Ex.normal,[(0,shV O U Z V J W B,none),(2,AV.ptr 0 0 0 0,none),(3,AV.ptr 0 1 0 0,none),(17,iI U,none),(18,AV.int .i64 (bm .i64 t (ofNat 1)),none)],(bz [Z1,(0,an.row (rM r' 20)),(0,an.row (rM r 20))])::H))))) (Tr.ok (Ex.exit 0,[(0,shV O U Z V J W B,none),(2,AV.ptr 0 0 0 0,none),(3,AV.ptr 0 1 0 0,none),(17,iI U,none),(18,AV.int .i64 t,none),(19,AV.bool false,some 1)],(bz [Z1,(0,an.row (rM r 20))])::H))) (0,an.row (rM (fun x=>ofNat 0) 20)))) [(0,shV O U Z V J W B),(2,AV.ptr 0 0 0 0),(3,AV.ptr 0 1 0 0),(4,AV.ptr 0 2 0 0),(17,iI U),(18,AV.int .i64 t),(24,AV.agg (Row.M [dj.arr IntKind.u64 B 10])),(25,iI 0)]:=by kernel_rfl
theorem Pf (n:Nat) (O:Int) (U:Nat) (Z:Nat→Int) (V:Nat) (J:Nat→Int) (W B:Nat→Int) (H:ab) (r:Nat→Int) (t:Int):aS (bQ n 56 69) (il aF n 0) (gf aR 2) aQ (part Tryd.f56 [1,1,0,1,0,0]) (hints (m6 (shV O U Z V J W B) U t)) (fx [db r]::H) =
 Tr.ite (bM t (ofNat U)) (Tr.req (eD 0 20 0 20) Tr.bad) (Tr.ok (Ex.exit 0,[(0,shV O U Z V J W B,none),(2,AV.ptr 0 0 0 0,none),(3,AV.ptr 0 1 0 0,none),(17,iI U,none),(18,AV.int .i64 t,none),(19,AV.bool false,some 1)],(bz [(0,an.row (rM (fun x=>ofNat 0) 20)),(0,an.row (rM r 20))])::H)):=by kernel_rfl
theorem Tb (n:Nat) (O:Int) (U:Nat) (Z:Nat→Int) (V:Nat) (J:Nat→Int) (W B:Nat→Int) (H:ab) (r:Nat→Int):bg Tryd.prog (cd n) 100000 56 Tryd.f56 (KtG.kt 56) (il aF n 0) (cV aR 0 (m6 (shV O U Z V J W B) U (ofNat 0)) (fx [db W]::H) (.ok (.normal,hints (m6 (shV O U Z V J W B) U (ofNat U)++[(19,.bool false)]),fx [db r]::H))) aQ [(shV O U Z V J W B,none)] H =
 (fun (Z0:aC)=>Tr.req (eD 0 20 0 20) (Tr.reqP (Z0=Z0∧(bz [(0,an.row (rM (fun x=>ofNat 0) 20)),(0,an.row (rM (oE (fun x=>ofNat 0) 0 W 20) 20))])::H=(bz [(0,an.row (rM (fun x=>ofNat 0) 20)),(0,an.row (rM W 20))])::H) (Tr.req (eD 0 20 0 20) (Tr.ok ((AV.agg (rM (oE (fun x=>ofNat 0) 0 r 20) 20),none),H))))) [(0,shV O U Z V J W B),(2,AV.ptr 0 0 0 0),(3,AV.ptr 0 1 0 0),(17,iI U),(18,iI 0)]:=by kernel_rfl
theorem Tc (n:Nat) (O:Int) (U:Nat) (Z:Nat→Int) (V:Nat) (J:Nat→Int) (W B:Nat→Int) (H:ab) (r q:Nat→Int) (t:Int):bg Tryd.prog (cd n) 100000 56 Tryd.f56 (KtG.kt 56) (il aF n 0) (cV aR 0 (m6 (shV O U Z V J W B) U (ofNat 0)) (fx [db W]::H) (.ok (.normal,hints (m6 (shV O U Z V J W B) U t++[(66,.bool true)]),fx [db r,db q]::H))) aQ [(shV O U Z V J W B,none)] H =
 (fun (Z0:aC)=>Tr.req (eD 0 20 0 20) (Tr.reqP (Z0=Z0∧(bz [(0,an.row (rM (fun x=>ofNat 0) 20)),(0,an.row (rM (oE (fun x=>ofNat 0) 0 W 20) 20))])::H=(bz [(0,an.row (rM (fun x=>ofNat 0) 20)),(0,an.row (rM W 20))])::H) (Tr.req (eD 0 20 0 20) (Tr.ok ((AV.agg (rM (oE (fun x=>ofNat 0) 0 r 20) 20),none),H))))) [(0,shV O U Z V J W B),(2,AV.ptr 0 0 0 0),(3,AV.ptr 0 1 0 0),(17,iI U),(18,iI 0)]:=by kernel_rfl
end Go.Eng
end
section
namespace Go.Eng
open Int (ofNat)
open Go.Proofs Go.Eng.Gall
theorem FY {c:Nat} (hc:0<c):(lW aF 82 (QC (fun x=>ofNat (mg x.toNat)))).Ok (cd c):=by
 obtain ⟨m,rfl⟩:∃ m,c=m+1:=⟨c-1,by omega⟩
 refine nw (aN _) (fun args p v hg hp H=>?_);unfold QC at hg;split at hg
 · rename_i x;simp only[nP] at hg;obtain ⟨rfl,rfl⟩:=hg;refine nh ?_;show (match Gall.uQ (cd m) 82 [.int .u64 x] H with
    | some x=>some x
    | none=>_)=_
   have e:Gall.uQ (cd m) 82 [.int .u64 x] H=some (.int .i64 (Go.Lib.ctz 64 x.toNat),H):=by
    show FG [.int .u64 x] H=_;unfold FG;exact if_pos hp
   rw[e];rfl
 · cases hg
theorem sg {W:Nat→Int} (h:∀ j,20≤j→W j=0):oE (fun _=>ofNat 0) 0 W 20=W:=by
 rw[v7];funext j;unfold xK;by_cases e:j<20
 · simp[e]
 · rw[h j wO];simp[e]
section
variable {n:Nat} {b:Nat→Nat} {w:Nat→Int}
theorem OA {K:Int} (hw:∀ i,w i≤K) (t c:Nat):fw n b w t c≤K+t:=by
 induction t generalizing c with
 | zero=>have:=hw (2*c);show w (2*c)≤K+((0:Nat):Int);omega
 | succ t ih =>
   rcases jd (fw n b w t c) (fun a=>fw n b w t a+1) (fun a=>(b c).testBit a) n with e | ⟨a,h1,h2,h3⟩
   · have:fw n b w (t+1) c=fw n b w t c:=e;have:=ih c;omega
   · have:fw n b w (t+1) c=fw n b w t a+1:=h3;have:=ih a;omega
theorem Oc {K:Int} (hw:∀ i,-K≤w i) (t c:Nat):fv n b w t c≤K+t:=by
 induction t generalizing c with
 | zero=>have:=hw (2*c+1);show -w (2*c+1)≤K+((0:Nat):Int);omega
 | succ t ih =>
   rcases jd (fv n b w t c) (fun a=>fv n b w t a+1) (fun a=>(b a).testBit c) n with e | ⟨a,h1,h2,h3⟩
   · have:fv n b w (t+1) c=fv n b w t c:=e;have:=ih c;omega
   · have:fv n b w (t+1) c=fv n b w t a+1:=h3;have:=ih a;omega
theorem AE {K:Int} (hK:0≤K) (hw:∀ i,-K≤w i∧w i≤K) {t:Nat} {r:Nat→Int} (hr:Bd n b w t r) (c:Nat) (hc:c<n):(-K≤r (2*c)∧r (2*c)≤K+n)∧-K-n≤r (2*c+1)∧r (2*c+1)≤K:=by
 have h1:=hr.lo c hc;have h2:=hr.hi c hc;have h3:=OA (n:=n) (b:=b) (fun i=>(hw i).2) n c;have h4:=Oc (n:=n) (b:=b) (fun i=>(hw i).1) n c;have h5:fw n b w 0 c≤fw n b w t c:=by have:=lo_le (n:=n) (b:=b) (w:=w) 0 t c;rwa [Nat.zero_add] at this
 have h6:fv n b w 0 c≤fv n b w t c:=by have:=Cy (n:=n) (b:=b) (w:=w) 0 t c;rwa [Nat.zero_add] at this
 have h7:fw n b w 0 c=w (2*c):=rfl;have h8:fv n b w 0 c=-w (2*c+1):=rfl;have h9:=hw (2*c);have h10:=hw (2*c+1);omega
end
structure gH (U:Nat) (W:Nat→Int) (b:Nat→Nat):Prop where
 len:U≤10
 win:∀ j,-100000≤W j∧W j≤100000
 zer:∀ j,20≤j→W j=0
 bef:∀ c,c<U→b c<2 ^ U
 off:∀ c,U≤c→b c=0
 nob:iK U b=false
theorem gH.lt {U:Nat} {W:Nat→Int} {b:Nat→Nat} (h:gH U W b) (c:Nat):b c<2 ^ 10:=by
 by_cases hc:c<U
 · exact Nat.lt_of_lt_of_le (h.bef c hc) (Nat.pow_le_pow_right (by decide) h.len)
 · rw[h.off c wO];decide
theorem gH.bit {U:Nat} {W:Nat→Int} {b:Nat→Nat} (h:gH U W b) {c a:Nat} (hb:(b c).testBit a=true):c<U∧a<U:=by
 have hc:c<U:=by
  apply Classical.byContradiction;intro hn;rw[h.off c wO] at hb;simp at hb
 refine ⟨hc,?_⟩;apply Classical.byContradiction;intro hn;have:=Nat.testBit_lt_two_pow (Nat.lt_of_lt_of_le (h.bef c hc) (Nat.pow_le_pow_right (by decide) (show U≤a by omega)));rw[hb] at this;cases this
theorem gH.all {U:Nat} {W:Nat→Int} {b:Nat→Nat} (h:gH U W b):HF U b (lL b 10):=fun a c=>by
 rw[Df b 10 (fun c _=>h.lt c)];constructor
 · rintro ⟨_,h2⟩;obtain ⟨h3,h4⟩:=h.bit h2;exact ⟨h4,h3,h2⟩
 · rintro ⟨_,h1,h2⟩;exact ⟨by have:=h.len;omega,h2⟩
theorem JU:∀ b,(0,b) ∈ aP (bA Tryd.f56)→b=.loop (part Tryd.f56 [1,1,0,1,0,0]):=eN (by kernel_rfl)
theorem Nx:∀ b,(2,b) ∈ aP (part Tryd.f56 [1,1,0,1,0,0])→b=.loop (part Tryd.f56 [1,1,0,1,0,0,1,1,0,0,1,0,1,0,0]):=eN (by kernel_rfl)
theorem Ny:∀ b,(4,b) ∈ aP (part Tryd.f56 [1,1,0,1,0,0,1,1,0,0,1,0,1,0,0])→b=.loop (part Tryd.f56 [1,1,0,1,0,0,1,1,0,0,1,0,1,0,0,1,1,0,0,1,0,0]):=eN (by kernel_rfl)
theorem Hq (r:Nat→Int) (i:Nat) (x:Int):dc r i x=EP r i x:=by rw[gh];rfl
section
variable (n:Nat) (O:Int) (U:Nat) (Z:Nat→Int) (V:Nat) (J:Nat→Int) (W:Nat→Int) (b:Nat→Nat) (H:ab)
theorem Ry (hS:gH U W b) (q r:Nat→Int) (t':Nat) (hr:Bd U b W t' r) (t:Int) (c:Nat) (hc:c<10):exec (bQ (n+1) 56 69) (.block 4 (.loop (part Tryd.f56 [1,1,0,1,0,0,1,1,0,0,1,0,1,0,0,1,1,0,0,1,0,0]))) (AT (shV O U Z V J W (bI b)) U t (bI b) (c:Int) (bI b c)) (fx [db r,db q]::H) =
 some (.normal,AT (shV O U Z V J W (bI b)) U t (bI b) (c:Int) 0++[(30,.bool false)],fx [db (oc r ((mK 10 (b c)).map fun a=>(a,c))),db q]::H):=by
 have hlt:=hS.lt c
 obtain ⟨m1,m2,m3⟩:=vW 10 (b c) (Nat.lt_of_lt_of_le hlt (by decide)) (fun i hi=>⟨by omega,by have:=(hS.bit hi).2;have:=hS.len;omega⟩)
 have hlen:(mK 10 (b c)).length≤10:=by
  have:∀ f x,(mK f x).length≤f:=by
   intro f;induction f with
   | zero=>intro x;exact Nat.le_refl _
   | succ f ih =>
     intro x;show (if x=0 then [] else mg x::mK f (x &&& (x-1))).length≤f+1;split
     · exact Nat.zero_le _
     · rw[List.length_cons];have:=ih (x &&& (x-1));omega
  exact this 10 (b c)
 have hst:∀ k,k≤(mK 10 (b c)).length→Bd U b W t' (oc r (((mK 10 (b c)).take k).map fun a=>(a,c))):=fun k hk =>
  (rb hS.nob _ hr (fun p hp=>by
    obtain ⟨a,ha,rfl⟩:=List.mem_map.1 hp;have hb:=(m1 a).1 (List.mem_of_mem_take ha);obtain ⟨h1,h2⟩:=hS.bit hb;exact ⟨h2,h1,hb⟩)).1
 have hN:oc r ((mK 10 (b c)).map fun a=>(a,c))=oc r (((mK 10 (b c)).take (mK 10 (b c)).length).map fun a=>(a,c)):=by rw[List.take_length]
 rw[hN]
 have hl:=hS.len
 refine ig (n:=n+1) (f:=56) (nt:=69) (c:=part Tryd.f56 [1,1,0,1,0,0,1,1,0,0,1,0,1,0,0,1,1,0,0,1,0,0]) 4 (fun k=>AT (shV O U Z V J W (bI b)) U t (bI b) (c:Int) (jX (b c) k:Nat)) (fun k=>fx [db (oc r (((mK 10 (b c)).take k).map fun a=>(a,c))),db q]::H) (mK 10 (b c)).length (_,_) wO (fun k hk=>?_) ?_
 · obtain ⟨z0,z1⟩:=m2 k hk
   have hs:=hst k wO
   have hmem:=(m1 _).1 (List.getElem_mem hk)
   obtain ⟨hcl,hal⟩:=hS.bit hmem
   have htake:(mK 10 (b c)).take (k+1)=(mK 10 (b c)).take k++[(mK 10 (b c))[k]]:=by rw[List.take_add_one,List.getElem?_eq_getElem hk];rfl
   have hlw:mg (jX (b c) k)=(mK 10 (b c))[k]:=z1.symm
   generalize hR:oc r (((mK 10 (b c)).take k).map fun a=>(a,c))=R at *
   have bc:=AE (K:=100000) wO hS.win hs c hcl
   have ba:=AE (K:=100000) wO hS.win hs (mg (jX (b c) k)) (by rw[hlw];exact hal)
   have hrl:=ME (b c) k (Nat.lt_of_lt_of_le hlt (by decide))
   have T:=Ph (n+1) O U Z V J W (bI b) H (fun x=>ofNat (mg x.toNat)) R q t (c:Int) ((jX (b c) k:Nat):Int)
   have e1:aw 0 (c:Int) 2=2*c:=by rw[bJ];omega
   have e2:aw 0 (ofNat (mg ((jX (b c) k:Nat):Int).toNat)) 2=2*mg (jX (b c) k):=by rw[bJ,Int.toNat_natCast];show 0+mg (jX (b c) k)*2=_;omega
   have e3:lQ .u64 ((jX (b c) k:Nat):Int) (bX .u64 ((jX (b c) k:Nat):Int) (ofNat 1))=((jX (b c) (k+1):Nat):Int):=by
    rw[ep];show lQ .u64 _ (IntKind.u64.wrap (((jX (b c) k:Nat):Int)-1))=_;rw[show ((jX (b c) k:Nat):Int)-1=((jX (b c) k-1:Nat):Int) by omega,Q.jI wO,Q.Lq wO wO];rfl
   rw[e1,e2,aM,aM,e3,Hq,Hq] at T
   have e4:bm .i64 (R (2*mg (jX (b c) k))) (ofNat 1)=R (2*mg (jX (b c) k))+1:=ET (by show _≤R (2*mg (jX (b c) k))+1;omega) (by show R (2*mg (jX (b c) k))+1≤_;omega)
   rw[e4] at T
   have e5:uM (R (2*c)) (R (2*mg (jX (b c) k))+1)=max (R (2*c)) (R (2*mg (jX (b c) k))+1):=by rw[ry];omega
   rw[e5] at T
   have e6:EP R (2*c) (max (R (2*c)) (R (2*mg (jX (b c) k))+1)) (2*c+1)=R (2*c+1):=by unfold EP;rw[if_neg wO]
   have e7:bX .i64 (EP R (2*c) (max (R (2*c)) (R (2*mg (jX (b c) k))+1)) (2*c+1)) (ofNat 1)=EP R (2*c) (max (R (2*c)) (R (2*mg (jX (b c) k))+1)) (2*c+1)-1:=by
    rw[e6];exact BB (by show _≤R (2*c+1)-1;omega) (by show R (2*c+1)-1≤_;omega)
   rw[e7] at T
   have e8:∀ x y:Int,yD x y=min x y:=fun x y=>by rw[rz];omega
   rw[e8] at T
   have e9:oc r (((mK 10 (b c)).take (k+1)).map fun a=>(a,c))=BL R (mg (jX (b c) k)) c:=by
    rw[htake,List.map_append,Dj,hR,hlw];rfl
   refine aB T (bo _ _ (FY wO)) (aj _ _) (ak _ _) ?_
   have hi1:c6 (c:Int) 10=true:=by simp (disch:=omega) only[nV,nW];omega
   have hi2:c6 (ofNat (mg ((jX (b c) k:Nat):Int).toNat)) 10=true:=by
    rw[Int.toNat_natCast];simp (disch:=omega) only[nV,nW];rw[hlw];omega
   have h00:cg 0 0=true:=by simp (disch:=omega) only[nV,nW]
   have hl1:cK (2*c) 20=true:=by simp (disch:=omega) only[nV,nW];omega
   have hl2:cK (2*mg (jX (b c) k)) 20=true:=by simp (disch:=omega) only[nV,nW];rw[hlw];omega
   have hl3:cK (2*mg (jX (b c) k)+1) 20=true:=by simp (disch:=omega) only[nV,nW];rw[hlw];omega
   have hl4:cK (2*c+1) 20=true:=by simp (disch:=omega) only[nV,nW];omega
   have hle:bV (fp 0 0) (fp 0 1)=true:=by simp (disch:=omega) only[nV,nW];omega
   refine Tr.af (fun h0=>?_) (fun h0=>?_)
   · refine Tr.ai ⟨show (0:Int)≤((jX (b c) k:Nat):Int) by omega,show ((jX (b c) k:Nat):Int)<18446744073709551616 by omega⟩ ?_
     refine Tr.aa hi1 (Tr.aa h00 (Tr.aa hl1 (Tr.aa hi2 (Tr.aa h00 (Tr.aa hl2 (Tr.aa hi1 (Tr.aa h00 (Tr.aa hl1 (Tr.aa hle (Tr.aa hi2 (Tr.aa h00 (Tr.aa hl3 (Tr.aa hi1 (Tr.aa h00 (Tr.aa hl4 (Tr.aa hi2 (Tr.aa h00 (Tr.aa hl3 (Tr.aa hle ?_)))))))))))))))))))
     refine Tr.ag ⟨rfl,?_⟩
     rw[e9];rfl
   · rw[ar,aE] at h0
     exfalso
     have:(((jX (b c) k:Nat):Int) == 0)=true:=by simpa using h0
     rw[beq_iff_eq] at this
     omega
 · obtain ⟨x,h1,rfl⟩:=aB (Q:=fun x=>x=(.exit 4,AT (shV O U Z V J W (bI b)) U t (bI b) (c:Int) 0++[(30,.bool false)],fx [db (oc r (((mK 10 (b c)).take (mK 10 (b c)).length).map fun a=>(a,c))),db q]::H)) (Ph (n+1) O U Z V J W (bI b) H (fun x=>ofNat (mg x.toNat)) (oc r (((mK 10 (b c)).take (mK 10 (b c)).length).map fun a=>(a,c))) q t (c:Int) ((jX (b c) (mK 10 (b c)).length:Nat):Int)) (bo _ _ (FY wO)) (aj _ _) (ak _ _) (by
    rw[m3];refine Tr.af (fun h0=>?_) (fun h0=>Tr.ag rfl);rw[ar,aE] at h0;exact absurd h0 (by decide))
   exact h1
end
end Go.Eng
end
