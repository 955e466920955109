/- Gall: back, by the reference: whole. -/
import Derived.Test.YtgphpjdchnfjlaaDoorV6Ga8x4
import Derived.Test.YtgphpjdchnfjlaaDoorV6EngRoSx4
set_option linter.unusedVariables false
set_option linter.unusedSimpArgs false
set_option maxRecDepth 100000
section
namespace Go.Eng
open Int (ofNat)
open Go.Proofs Go.Eng.Gall
theorem Lx (p:Nat→Bool) (n:Nat):dz p n=(List.range n).any p:=by
 rw[Bool.eq_iff_iff,dI,List.any_eq_true];constructor
 · rintro ⟨i,h1,h2⟩;exact ⟨i,List.mem_range.2 h1,h2⟩
 · rintro ⟨i,h1,h2⟩;exact ⟨i,List.mem_range.1 h1,h2⟩
section
variable (n:Nat) (O:Int) (U:Nat) (Z:Nat→Int) (V:Nat) (J:Nat→Int) (b:Nat→Nat) (H:ab)
theorem WI:dq (fun c=>decide (c<0))=fun _=>ofNat 0:=by funext j;unfold dq;simp
theorem IB (j:Nat):ft (dq (fun c=>decide (c<j))) j (ofNat 1)=dq (fun c=>decide (c<j+1)):=by
 rw[jB];funext c;unfold dq;by_cases e:c=j
 · subst e;rw[if_pos rfl,if_pos (by simp)];rfl
 · rw[if_neg e];by_cases h:c<j
   · rw[if_pos (decide_eq_true h),if_pos (decide_eq_true wO)]
   · rw[if_neg (by simpa using h),if_neg (by simp;omega)]
theorem Rp (hl:U≤10):exec (bO (n+1) 64 66) (.block 0 (.loop (part Tryd.f64 [1,1,1,0,1,0,0]))) (m5 1 U (LL U) 5 (ofNat 0)) (dA O U Z V J [cI (LL U) (dq (fun c=>decide (c<0)))]::H) =
 some (.normal,m5 1 U (LL U) 5 (ofNat U)++[(18,.bool false)],dA O U Z V J [cI (LL U) (dq (fun c=>decide (c<U)))]::H):=by
 have eL:=BW U
 refine fZ (n:=n+1) (f:=64) (nt:=66) (c:=part Tryd.f64 [1,1,1,0,1,0,0]) 0 (fun j=>m5 1 U (LL U) 5 (j:Int)) (fun j=>dA O U Z V J [cI (LL U) (dq (fun c=>decide (c<j)))]::H) U (_,_) wO (fun j hj=>?_) ?_
 · have ej:aQ .i64 (j:Int) (ofNat 1)=((j+1:Nat):Int):=eg wO
   have T:=Ph (n+1) O U (LL U) Z V J H (dq (fun c=>decide (c<j))) (j:Int)
   rw[vu,ej,IB] at T
   refine av T (aw _) (aj _ _) (ai _ _) ?_
   refine Tr.ae (fun h0=>?_) wJ
   exact Tr.aa (by rw[eL];simp (disch:=omega) only[nV,nW];omega) (Tr.aa wG (Tr.aa (by rw[eL];simp (disch:=omega) only[nV,nW];omega) (Tr.ag ⟨rfl,rfl⟩)))
 · obtain ⟨x,h1,rfl⟩:=av (Q:=fun x=>x=(.exit 0,m5 1 U (LL U) 5 (ofNat U)++[(18,.bool false)],dA O U Z V J [cI (LL U) (dq (fun c=>decide (c<U)))]::H)) (Ph (n+1) O U (LL U) Z V J H (dq (fun c=>decide (c<U))) (ofNat U)) (aw _) (aj _ _) (ai _ _) (by
    refine Tr.ae wJ (fun h0=>Tr.ag rfl))
   exact h1
noncomputable def Ua (U:Nat):Nat→aA
 | 0=>m5 1 U (LL U) 6 (ofNat 0)
 | t+1=>m5 2 U (LL U) 6 ((t+1:Nat):Int)
noncomputable def N9:Nat→ab
 | 0=>dA O U Z V J [cI (LL U) (dq (bS U b 0))]::H
 | t+1=>dA O U Z V J [cI (LL U) (dq (bS U b 0)),cI (LL U) (dq (bS U b (t+1)))]::H
theorem Rn (hl:U≤10) (h1:1≤U) (hb:V≤1000) (hB:b=fun c=>cZ J c V) (hp:fv U V J):exec (bO (n+1) 64 66) (.block 2 (.loop (part Tryd.f64 [1,1,1,1,0,1,0,0]))) (Ua U 0) (N9 O U Z V J b H 0) =
 some (.normal,m5 2 U (LL U) 6 (ofNat U)++[(26,.bool false)],N9 O U Z V J b H U):=by
 have mk8:Ec (ofNat U) (ofNat U) 8=true:=by simp (disch:=omega) only[nV,nW];omega
 refine fZ (n:=n+1) (f:=64) (nt:=66) (c:=part Tryd.f64 [1,1,1,1,0,1,0,0]) 2 (Ua U) (N9 O U Z V J b H) U (_,_) wO (fun t ht=>?_) ?_
 · have ec:aQ .i64 (t:Int) (ofNat 1)=((t+1:Nat):Int):=eg wO
   cases t with
   | zero =>
     have hx:=WB n O U Z V J b H 0 hl hb (((0:Nat)):Int)
     rw[JW,Gm U V J hB hp] at hx
     have T:=Pm (n+1) O U Z V J H (dq (bS U b 0)) (dq (bS U b (0+1))) (((0:Nat)):Int)
     rw[ec] at T
     refine av T (aw _) (aM (aj _ _) JD (fun x h=>by rw[← Tr.af h];simp only[dY.st,aG];exact hx)) (ai _ _) ?_
     exact Tr.ae (fun h0=>Tr.aa mk8 (Tr.ak ⟨rfl,rfl⟩ (Tr.ag ⟨rfl,rfl⟩))) wJ
   | succ t =>
     have hx:=WC n O U Z V J b H (dq (bS U b 0)) (t+1) hl hb (((t+1:Nat)):Int)
     rw[JW,Gm U V J hB hp] at hx
     have T:=Pn (n+1) O U Z V J H (dq (bS U b 0)) (dq (bS U b (t+1))) (dq (bS U b (t+1+1))) (((t+1:Nat)):Int)
     rw[ec] at T
     refine av T (aw _) (aM (aj _ _) JD (fun x h=>by rw[← Tr.af h];simp only[dY.st,aG];exact hx)) (ai _ _) ?_
     exact Tr.ae (fun h0=>Tr.aa mk8 (Tr.ak ⟨rfl,rfl⟩ (Tr.ag ⟨rfl,rfl⟩))) wJ
 · obtain ⟨m,rfl⟩:∃ m,U=m+1:=⟨U-1,by omega⟩
   obtain ⟨x,h1,rfl⟩:=av (Q:=fun x=>x=(.exit 2,m5 2 (m+1) (LL (m+1)) 6 (ofNat (m+1))++[(26,.bool false)],N9 O (m+1) Z V J b H (m+1))) (MP (n+1) O (m+1) (LL (m+1)) Z V J H (dq (bS (m+1) b 0)) (dq (bS (m+1) b (m+1))) (ofNat (m+1))) (aw _) (bN (aj _ _) 4) (ai _ _) (by
    refine Tr.ae wJ (fun h0=>Tr.ag rfl))
   exact h1
theorem Ro (hl:U≤10) (g:Nat→Int) (p:Nat→Bool):exec (bO (n+1) 64 66) (.block 8 (.loop (part Tryd.f64 [1,1,1,1,1,0,1,0,0]))) (A2 U (LL U) (ofNat 0)) (dA O U Z V J [cI (LL U) g,cI (LL U) (dq p)]::H) =
 some (cond (dz p U) (.ret,[(2,.bool true)],dA O U Z V J [cI (LL U) g,cI (LL U) (dq p)]::H) (.normal,A2 U (LL U) (ofNat U)++[(58,.bool false)],dA O U Z V J [cI (LL U) g,cI (LL U) (dq p)]::H)):=by
 have eL:=BW U
 refine iH (n:=n+1) (f:=64) (nt:=66) (c:=part Tryd.f64 [1,1,1,1,1,0,1,0,0]) 8 (fun j=>A2 U (LL U) (j:Int)) (fun _=>dA O U Z V J [cI (LL U) g,cI (LL U) (dq p)]::H) U p (fun j=>([(2,.bool true)],dA O U Z V J [cI (LL U) g,cI (LL U) (dq p)]::H)) (_,_) wO (fun j hj=>?_) ?_
 · have ej:aQ .i64 (j:Int) (ofNat 1)=((j+1:Nat):Int):=eg wO
   have T:=Pl (n+1) O U (LL U) Z V J H g (dq p) (j:Int)
   rw[vu,ej,Bo] at T
   refine av T (aw _) (aj _ _) (ai _ _) ?_
   refine Tr.ae (fun h0=>?_) wJ
   refine Tr.aa (by rw[eL];simp (disch:=omega) only[nV,nW];omega) (Tr.aa wG (Tr.aa (by rw[eL];simp (disch:=omega) only[nV,nW];omega) (Tr.ae (fun q=>Tr.ag ?_) (fun q=>Tr.ag ?_))))
   · rw[if_pos q];rfl
   · rw[if_neg (by rw[q];decide)];exact ⟨rfl,rfl⟩
 · obtain ⟨x,h1,rfl⟩:=av (Q:=fun x=>x=(.exit 8,A2 U (LL U) (ofNat U)++[(58,.bool false)],dA O U Z V J [cI (LL U) g,cI (LL U) (dq p)]::H)) (Pl (n+1) O U (LL U) Z V J H g (dq p) (ofNat U)) (aw _) (aj _ _) (ai _ _) (by
    refine Tr.ae wJ (fun h0=>Tr.ag rfl))
   exact h1
theorem UN (hl:U≤10) (h1:1≤U) (hb:V≤1000) (hp:fv U V J):cd (n+2) (.fn 64) [bk O U Z V J] H=some (.bool (ll U (fun c=>cZ J c V)),H):=by
 have e1:=Rp n O U Z V J H hl;rw[WI] at e1;have e2:=Rn n O U Z V J (fun c=>cZ J c V) H hl h1 hb rfl hp;have e3:=Ro n O U Z V J H hl (dq (bS U (fun c=>cZ J c V) 0)) (bS U (fun c=>cZ J c V) U);have hT:N9 O U Z V J (fun c=>cZ J c V) H U=dA O U Z V J [cI (LL U) (dq (bS U (fun c=>cZ J c V) 0)),cI (LL U) (dq (bS U (fun c=>cZ J c V) U))]::H:=by
  obtain ⟨m,rfl⟩:∃ m,U=m+1:=⟨U-1,by omega⟩
  rfl
 rw[hT] at e2;refine bB (n:=n+1) Tryd.func64 rfl rfl rfl (u64 (n+1) O U Z V J H (dq (bS U (fun c=>cZ J c V) 0)) (dq (bS U (fun c=>cZ J c V) 0)) (dq (bS U (fun c=>cZ J c V) U)) (dz (bS U (fun c=>cZ J c V) U) U)) (aw _) (aM (aM (aM (aj _ _) Nt (fun x h=>by rw[← Tr.af h];simp only[dY.st,aG];exact e1)) Nu (fun x h=>by rw[← Tr.af h];simp only[dY.st,aG];exact e2)) Nv (fun x h=>dy h e3)) (ai _ _) ?_;have mk8:Ec (ofNat U) (ofNat U) 8=true:=by simp (disch:=omega) only[nV,nW];omega
 have eb:dz (bS U (fun c=>cZ J c V) U) U=ll U (fun c=>cZ J c V):=Lx _ _;rw[eb];refine Tr.aa mk8 (Tr.ak ⟨rfl,rfl⟩ (Tr.ak ⟨rfl,rfl⟩ (Tr.ak ⟨rfl,rfl⟩ (Tr.ae (fun q=>Tr.ag ⟨?_,rfl⟩) (fun q=>Tr.ag ⟨?_,rfl⟩)))))
 · rw[q]
 · rw[q]
end
end Go.Eng
end
section
namespace Go.Eng
open Int (ofNat)
open Go.Proofs
noncomputable def nE (s:Nat) (j:Int):aA:=[(1,.ptr 0 0 0 0),(s,.int .i64 j)]
noncomputable def AW (j k:Int):aA:=[(1,.ptr 0 0 0 0),(5,.int .i64 j),(6,.ptr 0 1 0 0),(7,.int .i64 k)]
noncomputable def Et (a b:Int):Nat×an:=(0,.row (.I .i64 [a,b]))
theorem O6 (n:Nat) (O:Int) (U:Nat) (Z:Nat→Int) (V:Nat) (J:Nat→Int) (H:ab) (j:Int):aH (bO n 23 125) (il aJ n 0) aS aR (part Tryd.f23 [1,1,1,0,1,0,0]) (hints (nE 3 j)) (qH O U Z V J::H) =
 (fun (Z0:bJ)=>Tr.ite (bw j (ofNat U)) (Tr.req (b8 j U) (Tr.req (bR (aq 0 j 4) (bD U 4)) (Tr.req (bR (ar (aq 0 j 4) 1) (bD U 4)) (Tr.req (bR (ar (aq 0 j 4) 2) (bD U 4)) (Tr.req (bR (ar (aq 0 j 4) 3) (bD U 4)) (Tr.ite (bw (Z (aq 0 j 4)) (ofNat 0)) (Tr.ok (Ex.ret,[(2,iI 3,some 1)],Z0::H)) (Tr.ite (bw (Z (ar (aq 0 j 4) 1)) (Z (aq 0 j 4))) (Tr.ok (Ex.ret,[(2,iI 3,some 1)],Z0::H)) (Tr.ite (bw (ofNat 1000) (Z (ar (aq 0 j 4) 1))) (Tr.ok (Ex.ret,[(2,iI 3,some 1)],Z0::H)) (Tr.ite (bw (Z (ar (aq 0 j 4) 2)) (ofNat 0)) (Tr.ok (Ex.ret,[(2,iI 3,some 1)],Z0::H)) (Tr.ite (bw (Z (ar (aq 0 j 4) 3)) (Z (ar (aq 0 j 4) 2))) (Tr.ok (Ex.ret,[(2,iI 3,some 1)],Z0::H)) (Tr.ite (bw (ofNat 1000) (Z (ar (aq 0 j 4) 3))) (Tr.ok (Ex.ret,[(2,iI 3,some 1)],Z0::H)) (Tr.ok (Ex.normal,[(1,AV.ptr 0 0 0 0,none),(3,AV.int .i64 (aQ .i64 j (ofNat 1)),none)],Z0::H))))))))))))) (Tr.ok (Ex.exit 0,[(1,AV.ptr 0 0 0 0,none),(3,AV.int .i64 j,none),(36,AV.bool false,some 1)],(bK [(0,cW O U Z V J)])::H))) (bK [(0,cW O U Z V J),(0,an.row (Row.I .i64 [Z (aq 0 j 4),Z (ar (aq 0 j 4) 1),Z (ar (aq 0 j 4) 2),Z (ar (aq 0 j 4) 3)]))]):=by kernel_rfl
theorem O8 (n:Nat) (O:Int) (U:Nat) (Z:Nat→Int) (V:Nat) (J:Nat→Int) (H:ab) (a b j k:Int):aH (bO n 23 125) (il aJ n 0) aS aR (part Tryd.f23 [1,1,1,1,0,1,0,0,1,0,0,1,1,1,0,0]) (hints (AW j k)) (dA O U Z V J [Et a b]::H) =
 (fun (Z0:bJ)=>Tr.ite (bw k j) (Tr.req (b8 k V) (Tr.req (bR (aq 0 k 2) (bD V 2)) (Tr.req (bR (ar (aq 0 k 2) 1) (bD V 2)) (Tr.ite (bL (cK (J (aq 0 k 2)) a) (cK (J (ar (aq 0 k 2) 1)) b)) (Tr.ok (Ex.ret,[(2,iI 2,some 1)],Z0::H)) (Tr.ok (Ex.normal,[(1,AV.ptr 0 0 0 0,none),(5,AV.int .i64 j,none),(6,AV.ptr 0 1 0 0,none),(7,AV.int .i64 (aQ .i64 k (ofNat 1)),none)],Z0::H)))))) (Tr.ok (Ex.exit 4,[(1,AV.ptr 0 0 0 0,none),(5,AV.int .i64 j,none),(6,AV.ptr 0 1 0 0,none),(7,AV.int .i64 k,none),(113,AV.bool false,some 1)],Z0::H))) (bK [(0,cW O U Z V J),(0,an.row (Row.I .i64 [a,b]))]):=by kernel_rfl
theorem SD (n:Nat) (O:Int) (U:Nat) (Z:Nat→Int) (V:Nat) (J:Nat→Int) (H:ab) (j:Int) (e:Bool):aH (bO (n+1) 23 125) (il aJ n 1) (cw aS 4 (AW j (ofNat 0)) (dA O U Z V J [Et (J (aq 0 j 2)) (J (ar (aq 0 j 2) 1))]::H) (.ite e (.ok (.ret,[(2,.int .i64 2,none)],dA O U Z V J [Et (J (aq 0 j 2)) (J (ar (aq 0 j 2) 1))]::H)) (.ok (.normal,hints (AW j j++[(113,.bool false)]),dA O U Z V J [Et (J (aq 0 j 2)) (J (ar (aq 0 j 2) 1))]::H)))) aR (part Tryd.f23 [1,1,1,1,0,1,0,0]) (hints (nE 5 j)) (qH O U Z V J::H) =
 (fun (Z0:bJ)=>Tr.ite (bw j (ofNat V)) (Tr.req (b8 j V) (Tr.req (bR (aq 0 j 2) (bD V 2)) (Tr.req (bR (ar (aq 0 j 2) 1) (bD V 2)) (Tr.req (b8 (ofNat 0) 2) (Tr.ite (cU (ofNat 0) (J (aq 0 j 2))) (Tr.ite (bU (bw (J (aq 0 j 2)) (ofNat U))) (Tr.ok (Ex.ret,[(2,iI 2,some 1)],Z0::H)) (Tr.req (b8 (ofNat 1) 2) (Tr.ite (cU (ofNat 0) (J (ar (aq 0 j 2) 1))) (Tr.ite (bU (bw (J (ar (aq 0 j 2) 1)) (ofNat U))) (Tr.ok (Ex.ret,[(2,iI 2,some 1)],Z0::H)) (Tr.req (b8 (ofNat 0) 2) (Tr.req (b8 (ofNat 1) 2) (Tr.ite (cK (J (aq 0 j 2)) (J (ar (aq 0 j 2) 1))) (Tr.ok (Ex.ret,[(2,iI 2,some 1)],Z0::H)) (Tr.reqP ([(1,AV.ptr 0 0 0 0),(5,AV.int .i64 j),(6,AV.ptr 0 1 0 0),(7,iI 0)]=[(1,AV.ptr 0 0 0 0),(5,AV.int .i64 j),(6,AV.ptr 0 1 0 0),(7,iI 0)]∧Z0::H=Z0::H) (Tr.ite e (Tr.ok (Ex.ret,[(2,iI 2,none)],Z0::H)) (Tr.ok (Ex.normal,[(1,AV.ptr 0 0 0 0,none),(5,AV.int .i64 (aQ .i64 j (ofNat 1)),none)],Z0::H)))))))) (Tr.ok (Ex.ret,[(2,iI 2,some 1)],Z0::H))))) (Tr.ok (Ex.ret,[(2,iI 2,some 1)],Z0::H))))))) (Tr.ok (Ex.exit 2,[(1,AV.ptr 0 0 0 0,none),(5,AV.int .i64 j,none),(84,AV.bool false,some 1)],(bK [(0,cW O U Z V J)])::H))) (bK [(0,cW O U Z V J),(0,an.row (Row.I .i64 [J (aq 0 j 2),J (ar (aq 0 j 2) 1)]))]):=by kernel_rfl
theorem O7 (n:Nat) (O:Int) (U:Nat) (Z:Nat→Int) (V:Nat) (J:Nat→Int) (H:ab) (j:Int):aH (bO (n+1) 23 125) (il aJ n 1) (dC aS 4) aR (part Tryd.f23 [1,1,1,1,0,1,0,0]) (hints (nE 5 j)) (qH O U Z V J::H) =
 (fun (Z0:bJ)=>Tr.ite (bw j (ofNat V)) (Tr.req (b8 j V) (Tr.req (bR (aq 0 j 2) (bD V 2)) (Tr.req (bR (ar (aq 0 j 2) 1) (bD V 2)) (Tr.req (b8 (ofNat 0) 2) (Tr.ite (cU (ofNat 0) (J (aq 0 j 2))) (Tr.ite (bU (bw (J (aq 0 j 2)) (ofNat U))) (Tr.ok (Ex.ret,[(2,iI 2,some 1)],Z0::H)) (Tr.req (b8 (ofNat 1) 2) (Tr.ite (cU (ofNat 0) (J (ar (aq 0 j 2) 1))) (Tr.ite (bU (bw (J (ar (aq 0 j 2) 1)) (ofNat U))) (Tr.ok (Ex.ret,[(2,iI 2,some 1)],Z0::H)) (Tr.req (b8 (ofNat 0) 2) (Tr.req (b8 (ofNat 1) 2) (Tr.ite (cK (J (aq 0 j 2)) (J (ar (aq 0 j 2) 1))) (Tr.ok (Ex.ret,[(2,iI 2,some 1)],Z0::H)) Tr.bad)))) (Tr.ok (Ex.ret,[(2,iI 2,some 1)],Z0::H))))) (Tr.ok (Ex.ret,[(2,iI 2,some 1)],Z0::H))))))) (Tr.ok (Ex.exit 2,[(1,AV.ptr 0 0 0 0,none),(5,AV.int .i64 j,none),(84,AV.bool false,some 1)],(bK [(0,cW O U Z V J)])::H))) (bK [(0,cW O U Z V J),(0,an.row (Row.I .i64 [J (aq 0 j 2),J (ar (aq 0 j 2) 1)]))]):=by kernel_rfl
theorem W9 (n:Nat) (O:Int) (U:Nat) (Z:Nat→Int) (V:Nat) (J:Nat→Int) (H:ab) (e1 e2 e3:Bool) (l1 l2:bJ) (C:List AV→Prop):bu Tryd.prog (cd n) 100000 23 Tryd.f23 (KtG.kt 23) (il (ng aJ 64 (gB e3 C)) n 0) (cw (cw aS 0 (nE 3 (ofNat 0)) (qH O U Z V J::H) (.ite e1 (.ok (.ret,[(2,.int .i64 3,none)],l1::H)) (.ok (.normal,hints (nE 3 (ofNat U)++[(36,.bool false)]),qH O U Z V J::H)))) 2 (nE 5 (ofNat 0)) (qH O U Z V J::H) (.ite e2 (.ok (.ret,[(2,.int .i64 2,none)],l2::H)) (.ok (.normal,hints (nE 5 (ofNat V)++[(84,.bool false)]),qH O U Z V J::H)))) aR [(bk O U Z V J,none)] H =
 (fun (Z0:bJ)=>Tr.ite (bw (ofNat U) (ofNat 1)) (Tr.ok ((iI 6,some 1),H)) (Tr.ite (bw (ofNat 10) (ofNat U)) (Tr.ok ((iI 6,some 1),H)) (Tr.ite (bw (ofNat 40) (ofNat V)) (Tr.ok ((iI 6,some 1),H)) (Tr.ite (bw O (ofNat 1)) (Tr.ok ((iI 3,some 1),H)) (Tr.ite (bw (ofNat 100) O) (Tr.ok ((iI 3,some 1),H)) (Tr.reqP ([(1,AV.ptr 0 0 0 0),(3,iI 0)]=[(1,AV.ptr 0 0 0 0),(3,iI 0)]∧Z0::H=Z0::H) (Tr.ite e1 (Tr.ok ((iI 3,none),H)) (Tr.reqP ([(1,AV.ptr 0 0 0 0),(5,iI 0)]=[(1,AV.ptr 0 0 0 0),(5,iI 0)]∧Z0::H=Z0::H) (Tr.ite e2 (Tr.ok ((iI 2,none),H)) (Tr.reqP (C [bk O U Z V J]) (Tr.ite e3 (Tr.ok ((iI 16,some 1),H)) (Tr.ok ((iI 0,some 1),H))))))))))))) (bK [(0,cW O U Z V J)]):=by kernel_rfl
theorem SO (n:Nat) (O:Int) (U:Nat) (Z:Nat→Int) (V:Nat) (J:Nat→Int) (H:ab):bu Tryd.prog (cd n) 100000 23 Tryd.f23 (KtG.kt 23) (il aJ n 0) (dC aS 0) aR [(bk O U Z V J,none)] H =
 Tr.ite (bw (ofNat U) (ofNat 1)) (Tr.ok ((iI 6,some 1),H)) (Tr.ite (bw (ofNat 10) (ofNat U)) (Tr.ok ((iI 6,some 1),H)) (Tr.ite (bw (ofNat 40) (ofNat V)) (Tr.ok ((iI 6,some 1),H)) (Tr.ite (bw O (ofNat 1)) (Tr.ok ((iI 3,some 1),H)) (Tr.ite (bw (ofNat 100) O) (Tr.ok ((iI 3,some 1),H)) Tr.bad)))):=by kernel_rfl
end Go.Eng
end
section
namespace Go.Eng
open Int (ofNat)
open Go.Proofs Go.Eng.Gall
theorem Nl:∀ b,(0,b) ∈ aE (bx Tryd.f23)→b=.loop (part Tryd.f23 [1,1,1,0,1,0,0]):=dK (by kernel_rfl)
theorem Nm:∀ b,(2,b) ∈ aE (bx Tryd.f23)→b=.loop (part Tryd.f23 [1,1,1,1,0,1,0,0]):=dK (by kernel_rfl)
theorem Nn:∀ b,(4,b) ∈ aE (part Tryd.f23 [1,1,1,1,0,1,0,0])→b=.loop (part Tryd.f23 [1,1,1,1,0,1,0,0,1,0,0,1,1,1,0,0]):=dK (by kernel_rfl)
section
variable (n:Nat) (O:Int) (U:Nat) (Z:Nat→Int) (V:Nat) (J:Nat→Int) (H:ab)
noncomputable def L6 (j:Nat):bJ:=dA O U Z V J [(0,.row (.I .i64 [Z (j*4),Z (j*4+1),Z (j*4+2),Z (j*4+3)]))]
theorem Rq (hl:U≤1000):exec (bO n 23 125) (.block 0 (.loop (part Tryd.f23 [1,1,1,0,1,0,0]))) (nE 3 (ofNat 0)) (qH O U Z V J::H) =
 some (cond (dz (jg Z) U) (.ret,[(2,.int .i64 3)],L6 O U Z V J (fN (jg Z) U 0)::H) (.normal,nE 3 (ofNat U)++[(36,.bool false)],qH O U Z V J::H)):=by
 refine iH (n:=n) (f:=23) (nt:=125) (c:=part Tryd.f23 [1,1,1,0,1,0,0]) 0 (fun j=>nE 3 (j:Int)) (fun _=>qH O U Z V J::H) U (jg Z) (fun j=>([(2,.int .i64 3)],L6 O U Z V J j::H)) (_,_) wO (fun j hj=>?_) ?_
 · have ej:aQ .i64 (j:Int) (ofNat 1)=((j+1:Nat):Int):=eg wO
   have ei:aq 0 (j:Int) 4=j*4:=by rw[bP];omega
   have hs:jg Z j=!(decide (0≤Z (j*4)) && (decide (Z (j*4)≤Z (j*4+1)) && (decide (Z (j*4+1)≤1000) && (decide (0≤Z (j*4+2)) && (decide (Z (j*4+2)≤Z (j*4+3)) && decide (Z (j*4+3)≤1000)))))):=rfl
   have T:=O6 n O U Z V J H (j:Int)
   rw[ei,aC,aC,aC,ej] at T
   refine av T (aw _) (aj _ _) (ai _ _) ?_
   refine Tr.ae (fun h0=>?_) wJ
   refine Tr.aa wG (Tr.aa wG (Tr.aa wG (Tr.aa wG (Tr.aa wG ?_))))
   have yes:(¬ (0≤Z (j*4)∧Z (j*4)≤Z (j*4+1)∧Z (j*4+1)≤1000∧0≤Z (j*4+2)∧Z (j*4+2)≤Z (j*4+3)∧Z (j*4+3)≤1000))→jg Z j=true:=fun h=>by rw[hs];simp;omega
   refine Tr.ae (fun q1=>Tr.ag ?_) (fun q1=>Tr.ae (fun q2=>Tr.ag ?_) (fun q2=>Tr.ae (fun q3=>Tr.ag ?_) (fun q3=>Tr.ae (fun q4=>Tr.ag ?_) (fun q4=>Tr.ae (fun q5=>Tr.ag ?_) (fun q5=>Tr.ae (fun q6=>Tr.ag ?_) (fun q6=>Tr.ag ?_))))))
   · rw[bn,decide_eq_true_iff] at q1
     rw[if_pos (yes (by have:Z (j*4)<0:=q1;omega))];rfl
   · rw[bn,decide_eq_true_iff] at q2
     rw[if_pos (yes wO)];rfl
   · rw[bn,decide_eq_true_iff] at q3
     rw[if_pos (yes (by have:1000<Z (j*4+1):=q3;omega))];rfl
   · rw[bn,decide_eq_true_iff] at q4
     rw[if_pos (yes (by have:Z (j*4+2)<0:=q4;omega))];rfl
   · rw[bn,decide_eq_true_iff] at q5
     rw[if_pos (yes wO)];rfl
   · rw[bn,decide_eq_true_iff] at q6
     rw[if_pos (yes (by have:1000<Z (j*4+3):=q6;omega))];rfl
   · rw[bn,decide_eq_false_iff_not] at q1 q2 q3 q4 q5 q6
     have q1:¬ Z (j*4)<0:=q1
     have q3:¬ 1000<Z (j*4+1):=q3
     have q4:¬ Z (j*4+2)<0:=q4
     have q6:¬ 1000<Z (j*4+3):=q6
     rw[if_neg (by rw[hs];simp;omega)]
     exact ⟨rfl,rfl⟩
 · obtain ⟨x,h1,rfl⟩:=av (Q:=fun x=>x=(.exit 0,nE 3 (ofNat U)++[(36,.bool false)],qH O U Z V J::H)) (O6 n O U Z V J H (ofNat U)) (aw _) (aj _ _) (ai _ _) (by
    refine Tr.ae wJ (fun h0=>Tr.ag rfl))
   exact h1
theorem Ru (a b:Int) (j:Nat) (hj:j≤V) (hb:V≤1000):exec (bO n 23 125) (.block 4 (.loop (part Tryd.f23 [1,1,1,1,0,1,0,0,1,0,0,1,1,1,0,0]))) (AW (j:Int) (ofNat 0)) (dA O U Z V J [Et a b]::H) =
 some (cond (dz (ij J a b) j) (.ret,[(2,.int .i64 2)],dA O U Z V J [Et a b]::H) (.normal,AW (j:Int) (j:Int)++[(113,.bool false)],dA O U Z V J [Et a b]::H)):=by
 refine iH (n:=n) (f:=23) (nt:=125) (c:=part Tryd.f23 [1,1,1,1,0,1,0,0,1,0,0,1,1,1,0,0]) 4 (fun k=>AW (j:Int) (k:Int)) (fun _=>dA O U Z V J [Et a b]::H) j (ij J a b) (fun k=>([(2,.int .i64 2)],dA O U Z V J [Et a b]::H)) (_,_) wO (fun k hk=>?_) ?_
 · have ek:aQ .i64 (k:Int) (ofNat 1)=((k+1:Nat):Int):=eg wO
   have ei:aq 0 (k:Int) 2=k*2:=by rw[bP];omega
   have hp:bL (cK (J (k*2)) a) (cK (J (k*2+1)) b)=ij J a b k:=by
    rw[bW,bf,bf];unfold ij;rw[Bool.eq_iff_iff];simp;constructor<;>(rintro ⟨h1,h2⟩;exact ⟨h1.symm,h2.symm⟩)
   have T:=O8 n O U Z V J H a b (j:Int) (k:Int)
   rw[ei,aC,ek,hp] at T
   refine av T (aw _) (aj _ _) (ai _ _) ?_
   refine Tr.ae (fun h0=>?_) wJ
   refine Tr.aa wG (Tr.aa wG (Tr.aa wG (Tr.ae (fun q=>Tr.ag ?_) (fun q=>Tr.ag ?_))))
   · rw[if_pos q];rfl
   · rw[if_neg (by rw[q];decide)];exact ⟨rfl,rfl⟩
 · obtain ⟨x,h1,rfl⟩:=av (Q:=fun x=>x=(.exit 4,AW (j:Int) (j:Int)++[(113,.bool false)],dA O U Z V J [Et a b]::H)) (O8 n O U Z V J H a b (j:Int) (j:Int)) (aw _) (aj _ _) (ai _ _) (by
    refine Tr.ae wJ (fun h0=>Tr.ag rfl))
   exact h1
theorem Rs   (hl:U≤1000) (hb:V≤1000):exec (bO (n+1) 23 125) (.block 2 (.loop (part Tryd.f23 [1,1,1,1,0,1,0,0]))) (nE 5 (ofNat 0)) (qH O U Z V J::H) =
 some (cond (dz (gZ U J) V) (.ret,[(2,.int .i64 2)],dA O U Z V J [Et (J (fN (gZ U J) V 0*2)) (J (fN (gZ U J) V 0*2+1))]::H) (.normal,nE 5 (ofNat V)++[(84,.bool false)],qH O U Z V J::H)):=by
 refine iH (n:=n+1) (f:=23) (nt:=125) (c:=part Tryd.f23 [1,1,1,1,0,1,0,0]) 2 (fun j=>nE 5 (j:Int)) (fun _=>qH O U Z V J::H) V (gZ U J) (fun j=>([(2,.int .i64 2)],dA O U Z V J [Et (J (j*2)) (J (j*2+1))]::H)) (_,_) wO (fun j hj=>?_) ?_
 · have ej : aQ .i64 (j:Int) (ofNat 1)=((j+1:Nat):Int):=eg wO
   have ei:aq 0 (j:Int) 2=j*2:=by rw[bP];omega
   have T:=SD n O U Z V J H (j:Int) (dz (ij J (J (j*2)) (J (j*2+1))) j)
   rw[ei,aC,ej] at T
   refine av T (gI n 1) (aM (aj _ _) Nn (fun x h=>dy h (Ru (n+1) O U Z V J H _ _ j wO hb))) (ai _ _) ?_
   refine Tr.ae (fun h0=>?_) wJ
   refine Tr.aa wG (Tr.aa wG (Tr.aa wG (Tr.aa wG ?_)))
   have yes:(J (j*2)=J (j*2+1)∨¬ (0≤J (j*2)∧J (j*2)<U)∨¬ (0≤J (j*2+1)∧J (j*2+1)<U))→gZ U J j=true:=fun h=>by
    unfold gZ;rcases h with h | h | h
    · rw[decide_eq_true h];rfl
    · rw[decide_eq_false h];simp
    · rw[decide_eq_false h];simp
   refine Tr.ae (fun q1=>?_) (fun q1=>Tr.ag ?_)
   · rw[a7,decide_eq_true_iff] at q1
     have q1:0≤J (j*2):=q1
     refine Tr.ae (fun q2=>Tr.ag ?_) (fun q2=>?_)
     · rw[aO,bn] at q2
       have q2:¬ J (j*2)<(U:Int):=by simpa using q2
       rw[if_pos (yes (.inr (.inl wO)))];rfl
     · rw[aO,bn] at q2
       have q2:J (j*2)<(U:Int):=by simpa using q2
       refine Tr.aa wG (Tr.ae (fun q3=>?_) (fun q3=>Tr.ag ?_))
       · rw[a7,decide_eq_true_iff] at q3
         have q3:0≤J (j*2+1):=q3
         refine Tr.ae (fun q4=>Tr.ag ?_) (fun q4=>?_)
         · rw[aO,bn] at q4
           have q4:¬ J (j*2+1)<(U:Int):=by simpa using q4
           rw[if_pos (yes (.inr (.inr wO)))];rfl
         · rw[aO,bn] at q4
           have q4:J (j*2+1)<(U:Int):=by simpa using q4
           refine Tr.aa wG (Tr.aa wG (Tr.ae (fun q5=>Tr.ag ?_) (fun q5=>?_)))
           · rw[bf,beq_iff_eq] at q5
             rw[if_pos (yes (.inl q5))];rfl
           · rw[bf,beq_eq_false_iff_ne] at q5
             refine Tr.ak ⟨rfl,rfl⟩ (Tr.ae (fun q6=>Tr.ag ?_) (fun q6=>Tr.ag ?_))
             · rw[if_pos (by unfold gZ;rw[q6];simp)];rfl
             · rw[if_neg (by unfold gZ;rw[q6,decide_eq_false q5,decide_eq_true ⟨q1,q2⟩,decide_eq_true ⟨q3,q4⟩];decide)]
               exact ⟨rfl,rfl⟩
       · rw[a7,decide_eq_false_iff_not] at q3
         have q3:¬ 0≤J (j*2+1):=q3
         rw[if_pos (yes (.inr (.inr wO)))];rfl
   · rw[a7,decide_eq_false_iff_not] at q1
     have q1:¬ 0≤J (j*2):=q1
     rw[if_pos (yes (.inr (.inl wO)))];rfl
 · obtain ⟨x,h1,rfl⟩:=av (Q:=fun x=>x=(.exit 2,nE 5 (ofNat V)++[(84,.bool false)],qH O U Z V J::H)) (O7 n O U Z V J H (ofNat V)) (gI n 1) (bN (aj _ _) 4) (ai _ _) (by
    refine Tr.ae wJ (fun h0=>Tr.ag rfl))
   exact h1
theorem NA (hl:U≤1000) (hb:V≤1000):cd (n+3) (.fn 23) [bk O U Z V J] H=some (.int .i64 (c7 O U Z V J),H):=by
 by_cases k0:1≤U∧U≤10∧V≤40
 · obtain ⟨k1,k2,k3⟩:=k0;have ht:(ng aJ 64 (gB (ll U (fun c=>cZ J c V)) (fun A=>A=[bk O U Z V J]∧fv U V J))).Ok (cd (n+2)):=yc (bh _) (fun A H hA=>by
    obtain ⟨rfl,hp⟩:=hA;exact UN n O U Z V J H k2 k1 hb hp)
   refine bB (n:=n+2) Tryd.func23 rfl rfl rfl (W9 (n+2) O U Z V J H (dz (jg Z) U) (dz (gZ U J) V) (ll U (fun c=>cZ J c V)) (L6 O U Z V J (fN (jg Z) U 0)) (dA O U Z V J [Et (J (fN (gZ U J) V 0*2)) (J (fN (gZ U J) V 0*2+1))]) (fun A=>A=[bk O U Z V J]∧fv U V J)) (bC _ _ ht) (aM (aM (aj _ _) Nl (fun y h=>dy h (Rq (n+2) O U Z V J H hl))) Nm (fun y h=>dy h (Rs (n+1) O U Z V J H hl hb))) (ai _ _) ?_;have hG:c7 O U Z V J=if O<1∨100<O∨dz (jg Z) U=true then 3 else if dz (gZ U J) V=true then 2 else if ll U (fun c=>cZ J c V)=true then 16 else 0:=by unfold c7;rw[if_neg wO]
   rw[hG];refine Tr.ae wJ (fun _=>Tr.ae wJ (fun _=>Tr.ae wJ (fun _=>?_)));refine Tr.ae (fun q=>?_) (fun q=>Tr.ae (fun q'=>?_) (fun q'=>?_))
   · rw[bn,decide_eq_true_iff] at q;rw[if_pos (.inl q)];exact Tr.ag ⟨rfl,rfl⟩
   · rw[bn,decide_eq_true_iff] at q';rw[if_pos (.inr (.inl q'))];exact Tr.ag ⟨rfl,rfl⟩
   · rw[bn,decide_eq_false_iff_not] at q q';have q:¬ O<1:=q;have q':¬ 100<O:=q';refine Tr.ak ⟨rfl,rfl⟩ (Tr.ae (fun r=>?_) (fun r=>?_))
     · rw[if_pos (.inr (.inr r))];exact Tr.ag ⟨rfl,rfl⟩
     · rw[if_neg (by rintro (h | h | h);omega;omega;rw[r] at h;cases h)];refine Tr.ak ⟨rfl,rfl⟩ (Tr.ae (fun u=>?_) (fun u=>?_))
       · rw[if_pos u];exact Tr.ag ⟨rfl,rfl⟩
       · rw[if_neg (by rw[u];decide)];refine Tr.ak ⟨rfl,px u⟩ (Tr.ae (fun w=>?_) (fun w=>?_))
         · rw[if_pos w];exact Tr.ag ⟨rfl,rfl⟩
         · rw[if_neg (by rw[w];decide)];exact Tr.ag ⟨rfl,rfl⟩
 · refine bB (n:=n+2) Tryd.func23 rfl rfl rfl (SO (n+2) O U Z V J H) (aw _) (bN (aj _ _) 0) (ai _ _) ?_;have hG:c7 O U Z V J=6:=by unfold c7;rw[if_pos wO]
   rw[hG];refine Tr.ae (fun q=>Tr.ag ⟨rfl,rfl⟩) (fun q=>Tr.ae (fun q2=>Tr.ag ⟨rfl,rfl⟩) (fun q2=>Tr.ae (fun q3=>Tr.ag ⟨rfl,rfl⟩) (fun q3=>?_)));exfalso;simp (disch:=omega) only[nV,nW] at q;simp (disch:=omega) only[nV,nW] at q2;simp (disch:=omega) only[nV,nW] at q3;omega
end
end Go.Eng
end
section
namespace Go.Eng
open Int (ofNat)
open Go.Proofs
noncomputable def c5 (r:Nat→Int):Nat×an:=(0,.row (.M [.arr .i64 r 20]))
noncomputable def fj (bs:List (Nat×an)):bJ:=⟨false,c5 (fun _=>ofNat 0)::bs⟩
noncomputable def m4 (A:AV) (U:Nat) (t:Int):aA:=[(0,A),(2,.ptr 0 0 0 0),(3,.ptr 0 1 0 0),(17,.int .i64 (ofNat U)),(18,.int .i64 t)]
noncomputable def x9 (A:AV) (U:Nat) (t:Int) (B:Nat→Int) (c:Int):aA:=[(0,A),(2,.ptr 0 0 0 0),(3,.ptr 0 1 0 0),(4,.ptr 0 2 0 0),(17,.int .i64 (ofNat U)),(18,.int .i64 t),(24,.agg (.M [.arr .u64 B 10])),(25,.int .i64 c)]
noncomputable def AX (A:AV) (U:Nat) (t:Int) (B:Nat→Int) (c x:Int):aA:=[(0,A),(2,.ptr 0 0 0 0),(3,.ptr 0 1 0 0),(4,.ptr 0 2 0 0),(5,.int .i64 c),(6,.int .u64 x),(17,.int .i64 (ofNat U)),(18,.int .i64 t),(24,.agg (.M [.arr .u64 B 10])),(25,.int .i64 c)]
noncomputable def Qt (cz:Int→Int):List AV→Option (Prop×AV)
 | [.int .u64 x]=>some (0≤x∧x<18446744073709551616,.int .i64 (cz x))
 | _=>none
theorem Pd (n:Nat) (O:Int) (U:Nat) (Z:Nat→Int) (V:Nat) (J:Nat→Int) (W B:Nat→Int) (H:ab) (cz:Int→Int) (r q:Nat→Int) (t c x:Int):aH (bO n 56 69) (il (ng aJ 82 (Qt cz)) n 0) aS aR (part Tryd.f56 [1,1,0,1,0,0,1,1,0,0,1,0,1,0,0,1,1,0,0,1,0,0]) (hints (AX (shV O U Z V J W B) U t B c x)) (fj [c5 r,c5 q]::H) =
 Tr.ite (bU (cK x (ofNat 0))) (Tr.reqP (Int.NonNeg (x-0)∧Int.NonNeg (18446744073709551616-(x+1))) (Tr.req (b8 c 10) (Tr.req (cu 0 0) (Tr.req (bR (aq 0 c 2) 20) (Tr.req (b8 (cz x) 10) (Tr.req (cu 0 0) (Tr.req (bR (aq 0 (cz x) 2) 20) (Tr.req (b8 c 10) (Tr.req (cu 0 0) (Tr.req (bR (aq 0 c 2) 20) (Tr.req (bL (dO 0 0) (dO 0 1)) (Tr.req (b8 (cz x) 10) (Tr.req (cu 0 0) (Tr.req (bR (ar (aq 0 (cz x) 2) 1) 20) (Tr.req (b8 c 10) (Tr.req (cu 0 0) (Tr.req (bR (ar (aq 0 c 2) 1) 20) (Tr.req (b8 (cz x) 10) (Tr.req (cu 0 0) (Tr.req (bR (ar (aq 0 (cz x) 2) 1) 20) (Tr.req (bL (dO 0 0) (dO 0 1)) (Tr.ok (Ex.normal,[(0,shV O U Z V J W B,none),(2,AV.ptr 0 0 0 0,none),(3,AV.ptr 0 1 0 0,none),(4,AV.ptr 0 2 0 0,none),(5,AV.int .i64 c,none),(6,AV.int IntKind.u64 (lB IntKind.u64 x (bH IntKind.u64 x (ofNat 1))),none),(17,iI U,none),(18,AV.int .i64 t,none),(24,AV.agg (Row.M [db.arr IntKind.u64 B 10]),none),(25,AV.int .i64 c,none)],(bK [(0,an.row (rM (fun x=>ofNat 0) 20)),(0,an.row (rM (ft (ft r (aq 0 c 2) (nb (r (aq 0 c 2)) (aQ .i64 (r (aq 0 (cz x) 2)) (ofNat 1)))) (ar (aq 0 (cz x) 2) 1) (qY (ft r (aq 0 c 2) (nb (r (aq 0 c 2)) (aQ .i64 (r (aq 0 (cz x) 2)) (ofNat 1))) (ar (aq 0 (cz x) 2) 1)) (bH .i64 (ft r (aq 0 c 2) (nb (r (aq 0 c 2)) (aQ .i64 (r (aq 0 (cz x) 2)) (ofNat 1))) (ar (aq 0 c 2) 1)) (ofNat 1)))) 20)),(0,an.row (rM q 20))])::H))))))))))))))))))))))) (Tr.ok (Ex.exit 4,[(0,shV O U Z V J W B,none),(2,AV.ptr 0 0 0 0,none),(3,AV.ptr 0 1 0 0,none),(4,AV.ptr 0 2 0 0,none),(5,AV.int .i64 c,none),(6,AV.int IntKind.u64 x,none),(17,iI U,none),(18,AV.int .i64 t,none),(24,AV.agg (Row.M [db.arr IntKind.u64 B 10]),none),(25,AV.int .i64 c,none),(30,AV.bool false,some 1)],(bK [(0,an.row (rM (fun x=>ofNat 0) 20)),(0,an.row (rM r 20)),(0,an.row (rM q 20))])::H)):=by kernel_rfl
theorem SG (n:Nat) (O:Int) (U:Nat) (Z:Nat→Int) (V:Nat) (J:Nat→Int) (W B:Nat→Int) (H:ab) (r q r':Nat→Int) (t c x:Int):aH (bO n 56 69) (il aJ n 0) (cw aS 4 (AX (shV O U Z V J W B) U t B c (B (aq 0 c 1))) (fj [c5 r,c5 q]::H) (.ok (.normal,hints (AX (shV O U Z V J W B) U t B c x++[(30,.bool false)]),fj [c5 r',c5 q]::H))) aR (part Tryd.f56 [1,1,0,1,0,0,1,1,0,0,1,0,1,0,0]) (hints (x9 (shV O U Z V J W B) U t B c)) (fj [c5 r,c5 q]::H) =
 (fun (Z0:aA)=>((fun (Z1:bJ)=>Tr.ite (bw c (ofNat 10)) (Tr.req (b8 c 10) (Tr.req (bR (aq 0 c 1) 10) (Tr.reqP (Z0=Z0∧Z1::H=Z1::H) (Tr.ok (Ex.normal,[(0,shV O U Z V J W B,none),(2,AV.ptr 0 0 0 0,none),(3,AV.ptr 0 1 0 0,none),(4,AV.ptr 0 2 0 0,none),(17,iI U,none),(18,AV.int .i64 t,none),(24,AV.agg (Row.M [db.arr IntKind.u64 B 10]),none),(25,AV.int .i64 (aQ .i64 c (ofNat 1)),none)],(bK [(0,an.row (rM (fun x=>ofNat 0) 20)),(0,an.row (rM r' 20)),(0,an.row (rM q 20))])::H))))) (Tr.ok (Ex.exit 2,[(0,shV O U Z V J W B,none),(2,AV.ptr 0 0 0 0,none),(3,AV.ptr 0 1 0 0,none),(4,AV.ptr 0 2 0 0,none),(17,iI U,none),(18,AV.int .i64 t,none),(24,AV.agg (Row.M [db.arr IntKind.u64 B 10]),none),(25,AV.int .i64 c,none),(26,AV.bool false,some 1)],Z1::H))) (bK [(0,an.row (rM (fun x=>ofNat 0) 20)),(0,an.row (rM r 20)),(0,an.row (rM q 20))]))) [(0,shV O U Z V J W B),(2,AV.ptr 0 0 0 0),(3,AV.ptr 0 1 0 0),(4,AV.ptr 0 2 0 0),(5,AV.int .i64 c),(6,AV.int IntKind.u64 (B (aq 0 c 1))),(17,iI U),(18,AV.int .i64 t),(24,AV.agg (Row.M [db.arr IntKind.u64 B 10])),(25,AV.int .i64 c)]:=by kernel_rfl
theorem Pc (n:Nat) (O:Int) (U:Nat) (Z:Nat→Int) (V:Nat) (J:Nat→Int) (W B:Nat→Int) (H:ab) (r q:Nat→Int) (t:Int):aH (bO n 56 69) (il aJ n 0) (dC aS 4) aR (part Tryd.f56 [1,1,0,1,0,0,1,1,0,0,1,0,1,0,0]) (hints (x9 (shV O U Z V J W B) U t B 10)) (fj [c5 r,c5 q]::H) =
 Tr.ite (bw (ofNat 10) (ofNat 10)) (Tr.req (b8 (ofNat 10) 10) (Tr.req (bR (aq 0 (ofNat 10) 1) 10) Tr.bad)) (Tr.ok (Ex.exit 2,[(0,shV O U Z V J W B,none),(2,AV.ptr 0 0 0 0,none),(3,AV.ptr 0 1 0 0,none),(4,AV.ptr 0 2 0 0,none),(17,iI U,none),(18,AV.int .i64 t,none),(24,AV.agg (Row.M [db.arr IntKind.u64 B 10]),none),(25,iI 10,none),(26,AV.bool false,some 1)],(bK [(0,an.row (rM (fun x=>ofNat 0) 20)),(0,an.row (rM r 20)),(0,an.row (rM q 20))])::H)):=by kernel_rfl
theorem SF (n:Nat) (O:Int) (U:Nat) (Z:Nat→Int) (V:Nat) (J:Nat→Int) (W B:Nat→Int) (H:ab) (r r':Nat→Int) (t:Int):aH (bO n 56 69) (il aJ n 0) (cw aS 2 (x9 (shV O U Z V J W B) U t B (ofNat 0)) (fj [c5 r,c5 r]::H) (.ok (.normal,hints (x9 (shV O U Z V J W B) U t B (ofNat 10)++[(26,.bool false)]),fj [c5 r',c5 r]::H))) aR (part Tryd.f56 [1,1,0,1,0,0]) (hints (m4 (shV O U Z V J W B) U t)) (fj [c5 r]::H) =
 (fun (Z0:aA)=>((fun (Z1:Nat×an)=>Tr.ite (bw t (ofNat U)) (Tr.req (fF 0 20 0 20) (Tr.reqP (Z0=Z0∧(bK [Z1,(0,an.row (rM r 20)),(0,an.row (rM (lI (fun x=>ofNat 0) 0 r 20) 20))])::H=(bK [Z1,(0,an.row (rM r 20)),(0,an.row (rM r 20))])::H) (Tr.ite (lA r' r 20) (Tr.ok (Ex.exit 0,[(0,shV O U Z V J W B,none),(2,AV.ptr 0 0 0 0,none),(3,AV.ptr 0 1 0 0,none),(17,iI U,none),(18,AV.int .i64 t,none),(66,AV.bool true,some 1)],(bK [Z1,(0,an.row (rM r' 20)),(0,an.row (rM r 20))])::H)) (Tr.ok (Ex.normal,[(0,shV O U Z V J W B,none),(2,AV.ptr 0 0 0 0,none),(3,AV.ptr 0 1 0 0,none),(17,iI U,none),(18,AV.int .i64 (aQ .i64 t (ofNat 1)),none)],(bK [Z1,(0,an.row (rM r' 20)),(0,an.row (rM r 20))])::H))))) (Tr.ok (Ex.exit 0,[(0,shV O U Z V J W B,none),(2,AV.ptr 0 0 0 0,none),(3,AV.ptr 0 1 0 0,none),(17,iI U,none),(18,AV.int .i64 t,none),(19,AV.bool false,some 1)],(bK [Z1,(0,an.row (rM r 20))])::H))) (0,an.row (rM (fun x=>ofNat 0) 20)))) [(0,shV O U Z V J W B),(2,AV.ptr 0 0 0 0),(3,AV.ptr 0 1 0 0),(4,AV.ptr 0 2 0 0),(17,iI U),(18,AV.int .i64 t),(24,AV.agg (Row.M [db.arr IntKind.u64 B 10])),(25,iI 0)]:=by kernel_rfl
theorem Pb (n:Nat) (O:Int) (U:Nat) (Z:Nat→Int) (V:Nat) (J:Nat→Int) (W B:Nat→Int) (H:ab) (r:Nat→Int) (t:Int):aH (bO n 56 69) (il aJ n 0) (dC aS 2) aR (part Tryd.f56 [1,1,0,1,0,0]) (hints (m4 (shV O U Z V J W B) U t)) (fj [c5 r]::H) =
 Tr.ite (bw t (ofNat U)) (Tr.req (fF 0 20 0 20) Tr.bad) (Tr.ok (Ex.exit 0,[(0,shV O U Z V J W B,none),(2,AV.ptr 0 0 0 0,none),(3,AV.ptr 0 1 0 0,none),(17,iI U,none),(18,AV.int .i64 t,none),(19,AV.bool false,some 1)],(bK [(0,an.row (rM (fun x=>ofNat 0) 20)),(0,an.row (rM r 20))])::H)):=by kernel_rfl
theorem S3 (n:Nat) (O:Int) (U:Nat) (Z:Nat→Int) (V:Nat) (J:Nat→Int) (W B:Nat→Int) (H:ab) (r:Nat→Int):bu Tryd.prog (cd n) 100000 56 Tryd.f56 (KtG.kt 56) (il aJ n 0) (cw aS 0 (m4 (shV O U Z V J W B) U (ofNat 0)) (fj [c5 W]::H) (.ok (.normal,hints (m4 (shV O U Z V J W B) U (ofNat U)++[(19,.bool false)]),fj [c5 r]::H))) aR [(shV O U Z V J W B,none)] H =
 (fun (Z0:aA)=>Tr.req (fF 0 20 0 20) (Tr.reqP (Z0=Z0∧(bK [(0,an.row (rM (fun x=>ofNat 0) 20)),(0,an.row (rM (lI (fun x=>ofNat 0) 0 W 20) 20))])::H=(bK [(0,an.row (rM (fun x=>ofNat 0) 20)),(0,an.row (rM W 20))])::H) (Tr.req (fF 0 20 0 20) (Tr.ok ((AV.agg (rM (lI (fun x=>ofNat 0) 0 r 20) 20),none),H))))) [(0,shV O U Z V J W B),(2,AV.ptr 0 0 0 0),(3,AV.ptr 0 1 0 0),(17,iI U),(18,iI 0)]:=by kernel_rfl
theorem S4 (n:Nat) (O:Int) (U:Nat) (Z:Nat→Int) (V:Nat) (J:Nat→Int) (W B:Nat→Int) (H:ab) (r q:Nat→Int) (t:Int):bu Tryd.prog (cd n) 100000 56 Tryd.f56 (KtG.kt 56) (il aJ n 0) (cw aS 0 (m4 (shV O U Z V J W B) U (ofNat 0)) (fj [c5 W]::H) (.ok (.normal,hints (m4 (shV O U Z V J W B) U t++[(66,.bool true)]),fj [c5 r,c5 q]::H))) aR [(shV O U Z V J W B,none)] H =
 (fun (Z0:aA)=>Tr.req (fF 0 20 0 20) (Tr.reqP (Z0=Z0∧(bK [(0,an.row (rM (fun x=>ofNat 0) 20)),(0,an.row (rM (lI (fun x=>ofNat 0) 0 W 20) 20))])::H=(bK [(0,an.row (rM (fun x=>ofNat 0) 20)),(0,an.row (rM W 20))])::H) (Tr.req (fF 0 20 0 20) (Tr.ok ((AV.agg (rM (lI (fun x=>ofNat 0) 0 r 20) 20),none),H))))) [(0,shV O U Z V J W B),(2,AV.ptr 0 0 0 0),(3,AV.ptr 0 1 0 0),(17,iI U),(18,iI 0)]:=by kernel_rfl
end Go.Eng
end
section
namespace Go.Eng
open Int (ofNat)
open Go.Proofs Go.Eng.Gall
theorem FQ {c:Nat} (hc:0<c):(ng aJ 82 (Qt (fun x=>ofNat (lY x.toNat)))).Ok (cd c):=by
 obtain ⟨m,rfl⟩:∃ m,c=m+1:=⟨c-1,by omega⟩
 refine kr (bh _) (fun args p v hg hp H=>?_);unfold Qt at hg;split at hg
 · rename_i x;simp only[nP] at hg;obtain ⟨rfl,rfl⟩:=hg;refine Ce ?_;show (match Gall.uP (cd m) 82 [.int .u64 x] H with
    | some x=>some x
    | none=>_)=_
   have e:Gall.uP (cd m) 82 [.int .u64 x] H=some (.int .i64 (Go.Lib.ctz 64 x.toNat),H):=by
    show FA [.int .u64 x] H=_;unfold FA;exact if_pos hp
   rw[e];rfl
 · cases hg
theorem sc {W:Nat→Int} (h:∀ j,20≤j→W j=0):lI (fun _=>ofNat 0) 0 W 20=W:=by
 rw[wc];funext j;unfold xO;by_cases e:j<20
 · simp[e]
 · rw[h j wO];simp[e]
section
variable {n:Nat} {b:Nat→Nat} {w:Nat→Int}
theorem Ox {K:Int} (hw:∀ i,w i≤K) (t c:Nat):fi n b w t c≤K+t:=by
 induction t generalizing c with
 | zero=>have:=hw (2*c);show w (2*c)≤K+((0:Nat):Int);omega
 | succ t ih =>
   rcases iV (fi n b w t c) (fun a=>fi n b w t a+1) (fun a=>(b c).testBit a) n with e | ⟨a,h1,h2,h3⟩
   · have:fi n b w (t+1) c=fi n b w t c:=e;have:=ih c;omega
   · have:fi n b w (t+1) c=fi n b w t a+1:=h3;have:=ih a;omega
theorem N7 {K:Int} (hw:∀ i,-K≤w i) (t c:Nat):fh n b w t c≤K+t:=by
 induction t generalizing c with
 | zero=>have:=hw (2*c+1);show -w (2*c+1)≤K+((0:Nat):Int);omega
 | succ t ih =>
   rcases iV (fh n b w t c) (fun a=>fh n b w t a+1) (fun a=>(b a).testBit c) n with e | ⟨a,h1,h2,h3⟩
   · have:fh n b w (t+1) c=fh n b w t c:=e;have:=ih c;omega
   · have:fh n b w (t+1) c=fh n b w t a+1:=h3;have:=ih a;omega
theorem pF {K:Int} (hK:0≤K) (hw:∀ i,-K≤w i∧w i≤K) {t:Nat} {r:Nat→Int} (hr:Bd n b w t r) (c:Nat) (hc:c<n):(-K≤r (2*c)∧r (2*c)≤K+n)∧-K-n≤r (2*c+1)∧r (2*c+1)≤K:=by
 have h1:=hr.lo c hc;have h2:=hr.hi c hc;have h3:=Ox (n:=n) (b:=b) (fun i=>(hw i).2) n c;have h4:=N7 (n:=n) (b:=b) (fun i=>(hw i).1) n c;have h5:fi n b w 0 c≤fi n b w t c:=by have:=lo_le (n:=n) (b:=b) (w:=w) 0 t c;rwa [Nat.zero_add] at this
 have h6:fh n b w 0 c≤fh n b w t c:=by have:=Cv (n:=n) (b:=b) (w:=w) 0 t c;rwa [Nat.zero_add] at this
 have h7:fi n b w 0 c=w (2*c):=rfl;have h8:fh n b w 0 c=-w (2*c+1):=rfl;have h9:=hw (2*c);have h10:=hw (2*c+1);omega
end
structure mX (U:Nat) (W:Nat→Int) (b:Nat→Nat):Prop where
 len:U≤10
 win:∀ j,-100000≤W j∧W j≤100000
 zer:∀ j,20≤j→W j=0
 bef:∀ c,c<U→b c<2 ^ U
 off:∀ c,U≤c→b c=0
 nob:ll U b=false
theorem mX.lt {U:Nat} {W:Nat→Int} {b:Nat→Nat} (h:mX U W b) (c:Nat):b c<2 ^ 10:=by
 by_cases hc:c<U
 · exact Nat.lt_of_lt_of_le (h.bef c hc) (Nat.pow_le_pow_right (by decide) h.len)
 · rw[h.off c wO];decide
theorem mX.bit {U:Nat} {W:Nat→Int} {b:Nat→Nat} (h:mX U W b) {c a:Nat} (hb:(b c).testBit a=true):c<U∧a<U:=by
 have hc:c<U:=by
  apply Classical.byContradiction;intro hn;rw[h.off c wO] at hb;simp at hb
 refine ⟨hc,?_⟩;apply Classical.byContradiction;intro hn;have:=Nat.testBit_lt_two_pow (Nat.lt_of_lt_of_le (h.bef c hc) (Nat.pow_le_pow_right (by decide) (show U≤a by omega)));rw[hb] at this;cases this
theorem mX.all {U:Nat} {W:Nat→Int} {b:Nat→Nat} (h:mX U W b):EN U b (lu b 10):=fun a c=>by
 rw[Db b 10 (fun c _=>h.lt c)];constructor
 · rintro ⟨_,h2⟩;obtain ⟨h3,h4⟩:=h.bit h2;exact ⟨h4,h3,h2⟩
 · rintro ⟨_,h1,h2⟩;exact ⟨by have:=h.len;omega,h2⟩
theorem JC:∀ b,(0,b) ∈ aE (bx Tryd.f56)→b=.loop (part Tryd.f56 [1,1,0,1,0,0]):=dK (by kernel_rfl)
theorem No:∀ b,(2,b) ∈ aE (part Tryd.f56 [1,1,0,1,0,0])→b=.loop (part Tryd.f56 [1,1,0,1,0,0,1,1,0,0,1,0,1,0,0]):=dK (by kernel_rfl)
theorem Np:∀ b,(4,b) ∈ aE (part Tryd.f56 [1,1,0,1,0,0,1,1,0,0,1,0,1,0,0])→b=.loop (part Tryd.f56 [1,1,0,1,0,0,1,1,0,0,1,0,1,0,0,1,1,0,0,1,0,0]):=dK (by kernel_rfl)
theorem xu (r:Nat→Int) (i:Nat) (x:Int):ft r i x=AA r i x:=by rw[jB];rfl
section
variable (n:Nat) (O:Int) (U:Nat) (Z:Nat→Int) (V:Nat) (J:Nat→Int) (W:Nat→Int) (b:Nat→Nat) (H:ab)
theorem Rv (hS:mX U W b) (q r:Nat→Int) (t':Nat) (hr:Bd U b W t' r) (t:Int) (c:Nat) (hc:c<10):exec (bO (n+1) 56 69) (.block 4 (.loop (part Tryd.f56 [1,1,0,1,0,0,1,1,0,0,1,0,1,0,0,1,1,0,0,1,0,0]))) (AX (shV O U Z V J W (bI b)) U t (bI b) (c:Int) (bI b c)) (fj [c5 r,c5 q]::H) =
 some (.normal,AX (shV O U Z V J W (bI b)) U t (bI b) (c:Int) 0++[(30,.bool false)],fj [c5 (kQ r ((my 10 (b c)).map fun a=>(a,c))),c5 q]::H):=by
 have hlt:=hS.lt c
 obtain ⟨m1,m2,m3⟩:=v8 10 (b c) (Nat.lt_of_lt_of_le hlt (by decide)) (fun i hi=>⟨by omega,by have:=(hS.bit hi).2;have:=hS.len;omega⟩)
 have hlen:(my 10 (b c)).length≤10:=by
  have:∀ f x,(my f x).length≤f:=by
   intro f;induction f with
   | zero=>intro x;exact Nat.le_refl _
   | succ f ih =>
     intro x;show (if x=0 then [] else lY x::my f (x &&& (x-1))).length≤f+1;split
     · exact Nat.zero_le _
     · rw[List.length_cons];have:=ih (x &&& (x-1));omega
  exact this 10 (b c)
 have hst:∀ k,k≤(my 10 (b c)).length→Bd U b W t' (kQ r (((my 10 (b c)).take k).map fun a=>(a,c))):=fun k hk =>
  (oC hS.nob _ hr (fun p hp=>by
    obtain ⟨a,ha,rfl⟩:=List.mem_map.1 hp;have hb:=(m1 a).1 (List.mem_of_mem_take ha);obtain ⟨h1,h2⟩:=hS.bit hb;exact ⟨h2,h1,hb⟩)).1
 have hN:kQ r ((my 10 (b c)).map fun a=>(a,c))=kQ r (((my 10 (b c)).take (my 10 (b c)).length).map fun a=>(a,c)):=by rw[List.take_length]
 rw[hN]
 have hl:=hS.len
 refine fZ (n:=n+1) (f:=56) (nt:=69) (c:=part Tryd.f56 [1,1,0,1,0,0,1,1,0,0,1,0,1,0,0,1,1,0,0,1,0,0]) 4 (fun k=>AX (shV O U Z V J W (bI b)) U t (bI b) (c:Int) (jM (b c) k:Nat)) (fun k=>fj [c5 (kQ r (((my 10 (b c)).take k).map fun a=>(a,c))),c5 q]::H) (my 10 (b c)).length (_,_) wO (fun k hk=>?_) ?_
 · obtain ⟨z0,z1⟩:=m2 k hk
   have hs:=hst k wO
   have hmem:=(m1 _).1 (List.getElem_mem hk)
   obtain ⟨hcl,hal⟩:=hS.bit hmem
   have htake:(my 10 (b c)).take (k+1)=(my 10 (b c)).take k++[(my 10 (b c))[k]]:=by rw[List.take_add_one,List.getElem?_eq_getElem hk];rfl
   have hlw:lY (jM (b c) k)=(my 10 (b c))[k]:=z1.symm
   generalize hR:kQ r (((my 10 (b c)).take k).map fun a=>(a,c))=R at *
   have bc:=pF (K:=100000) wO hS.win hs c hcl
   have ba:=pF (K:=100000) wO hS.win hs (lY (jM (b c) k)) (by rw[hlw];exact hal)
   have hrl:=Mq (b c) k (Nat.lt_of_lt_of_le hlt (by decide))
   have T:=Pd (n+1) O U Z V J W (bI b) H (fun x=>ofNat (lY x.toNat)) R q t (c:Int) ((jM (b c) k:Nat):Int)
   have e1:aq 0 (c:Int) 2=2*c:=by rw[bP];omega
   have e2:aq 0 (ofNat (lY ((jM (b c) k:Nat):Int).toNat)) 2=2*lY (jM (b c) k):=by rw[bP,Int.toNat_natCast];show 0+lY (jM (b c) k)*2=_;omega
   have e3:lB .u64 ((jM (b c) k:Nat):Int) (bH .u64 ((jM (b c) k:Nat):Int) (ofNat 1))=((jM (b c) (k+1):Nat):Int):=by
    rw[eA];show lB .u64 _ (IntKind.u64.wrap (((jM (b c) k:Nat):Int)-1))=_;rw[show ((jM (b c) k:Nat):Int)-1=((jM (b c) k-1:Nat):Int) by omega,Q.jA wO,Q.K7 wO wO];rfl
   rw[e1,e2,aC,aC,e3,xu,xu] at T
   have e4:aQ .i64 (R (2*lY (jM (b c) k))) (ofNat 1)=R (2*lY (jM (b c) k))+1:=xF (by show _≤R (2*lY (jM (b c) k))+1;omega) (by show R (2*lY (jM (b c) k))+1≤_;omega)
   rw[e4] at T
   have e5:nb (R (2*c)) (R (2*lY (jM (b c) k))+1)=max (R (2*c)) (R (2*lY (jM (b c) k))+1):=by rw[mM];omega
   rw[e5] at T
   have e6:AA R (2*c) (max (R (2*c)) (R (2*lY (jM (b c) k))+1)) (2*c+1)=R (2*c+1):=by unfold AA;rw[if_neg wO]
   have e7:bH .i64 (AA R (2*c) (max (R (2*c)) (R (2*lY (jM (b c) k))+1)) (2*c+1)) (ofNat 1)=AA R (2*c) (max (R (2*c)) (R (2*lY (jM (b c) k))+1)) (2*c+1)-1:=by
    rw[e6];exact od (by show _≤R (2*c+1)-1;omega) (by show R (2*c+1)-1≤_;omega)
   rw[e7] at T
   have e8:∀ x y:Int,qY x y=min x y:=fun x y=>by rw[mN];omega
   rw[e8] at T
   have e9:kQ r (((my 10 (b c)).take (k+1)).map fun a=>(a,c))=Az R (lY (jM (b c) k)) c:=by
    rw[htake,List.map_append,xe,hR,hlw];rfl
   refine av T (bC _ _ (FQ wO)) (aj _ _) (ai _ _) ?_
   have hi1:b8 (c:Int) 10=true:=by simp (disch:=omega) only[nV,nW];omega
   have hi2:b8 (ofNat (lY ((jM (b c) k:Nat):Int).toNat)) 10=true:=by
    rw[Int.toNat_natCast];simp (disch:=omega) only[nV,nW];rw[hlw];omega
   have h00:cu 0 0=true:=by simp (disch:=omega) only[nV,nW]
   have hl1:bR (2*c) 20=true:=by simp (disch:=omega) only[nV,nW];omega
   have hl2:bR (2*lY (jM (b c) k)) 20=true:=by simp (disch:=omega) only[nV,nW];rw[hlw];omega
   have hl3:bR (2*lY (jM (b c) k)+1) 20=true:=by simp (disch:=omega) only[nV,nW];rw[hlw];omega
   have hl4:bR (2*c+1) 20=true:=by simp (disch:=omega) only[nV,nW];omega
   have hle:bL (dO 0 0) (dO 0 1)=true:=by simp (disch:=omega) only[nV,nW];omega
   refine Tr.ae (fun h0=>?_) (fun h0=>?_)
   · refine Tr.ak ⟨show (0:Int)≤((jM (b c) k:Nat):Int) by omega,show ((jM (b c) k:Nat):Int)<18446744073709551616 by omega⟩ ?_
     refine Tr.aa hi1 (Tr.aa h00 (Tr.aa hl1 (Tr.aa hi2 (Tr.aa h00 (Tr.aa hl2 (Tr.aa hi1 (Tr.aa h00 (Tr.aa hl1 (Tr.aa hle (Tr.aa hi2 (Tr.aa h00 (Tr.aa hl3 (Tr.aa hi1 (Tr.aa h00 (Tr.aa hl4 (Tr.aa hi2 (Tr.aa h00 (Tr.aa hl3 (Tr.aa hle ?_)))))))))))))))))))
     refine Tr.ag ⟨rfl,?_⟩
     rw[e9];rfl
   · rw[aO,bf] at h0
     exfalso
     have:(((jM (b c) k:Nat):Int) == 0)=true:=by simpa using h0
     rw[beq_iff_eq] at this
     omega
 · obtain ⟨x,h1,rfl⟩:=av (Q:=fun x=>x=(.exit 4,AX (shV O U Z V J W (bI b)) U t (bI b) (c:Int) 0++[(30,.bool false)],fj [c5 (kQ r (((my 10 (b c)).take (my 10 (b c)).length).map fun a=>(a,c))),c5 q]::H)) (Pd (n+1) O U Z V J W (bI b) H (fun x=>ofNat (lY x.toNat)) (kQ r (((my 10 (b c)).take (my 10 (b c)).length).map fun a=>(a,c))) q t (c:Int) ((jM (b c) (my 10 (b c)).length:Nat):Int)) (bC _ _ (FQ wO)) (aj _ _) (ai _ _) (by
    rw[m3];refine Tr.ae (fun h0=>?_) (fun h0=>Tr.ag rfl);rw[aO,bf] at h0;exact absurd h0 (by decide))
   exact h1
end
end Go.Eng
end
