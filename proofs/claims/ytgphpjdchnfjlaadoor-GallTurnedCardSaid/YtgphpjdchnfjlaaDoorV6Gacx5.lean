/- Gall: back, by the reference: whole. -/
import Derived.Test.YtgphpjdchnfjlaaDoorV6Ga8x4
import Derived.Test.YtgphpjdchnfjlaaDoorV6EngRoSx4
set_option linter.unusedVariables false
set_option linter.unusedSimpArgs false
set_option maxRecDepth 100000
section
namespace Go.Eng
open Int (ofNat)
open Go.Proofs Go.Eng.Gall
theorem Nc (p:Nat→Bool) (n:Nat):dH p n=(List.range n).any p:=by
 rw[Bool.eq_iff_iff,cj,List.any_eq_true];constructor
 · rintro ⟨i,h1,h2⟩;exact ⟨i,List.mem_range.2 h1,h2⟩
 · rintro ⟨i,h1,h2⟩;exact ⟨i,List.mem_range.1 h1,h2⟩
section
variable (n:Nat) (O:Int) (U:Nat) (Z:Nat→Int) (V:Nat) (J:Nat→Int) (b:Nat→Nat) (H:aa)
theorem Ya:dz (fun c=>decide (c<0))=fun _=>ofNat 0:=by funext j;unfold dz;simp
theorem JR (j:Nat):eB (dz (fun c=>decide (c<j))) j (ofNat 1)=dz (fun c=>decide (c<j+1)):=by
 rw[j8];funext c;unfold dz;by_cases e:c=j
 · subst e;rw[if_pos rfl,if_pos (by simp)];rfl
 · rw[if_neg e];by_cases h:c<j
   · rw[if_pos (decide_eq_true h),if_pos (decide_eq_true wO)]
   · rw[if_neg (by simpa using h),if_neg (by simp;omega)]
theorem S7 (hl:U≤10):exec (bN (n+1) 64 66) (.block 0 (.loop (part Tryd.f64 [1,1,1,0,1,0,0]))) (nE 1 U (LL U) 5 (ofNat 0)) (fb O U Z V J [cN (LL U) (dz (fun c=>decide (c<0)))]::H) =
 some (.normal,nE 1 U (LL U) 5 (ofNat U)++[(18,.bool false)],fb O U Z V J [cN (LL U) (dz (fun c=>decide (c<U)))]::H):=by
 have eL:=CJ U
 refine fQ (n:=n+1) (f:=64) (nt:=66) (c:=part Tryd.f64 [1,1,1,0,1,0,0]) 0 (fun j=>nE 1 U (LL U) 5 (j:Int)) (fun j=>fb O U Z V J [cN (LL U) (dz (fun c=>decide (c<j)))]::H) U (_,_) wO (fun j hj=>?_) ?_
 · have ej:bm .i64 (j:Int) (ofNat 1)=((j+1:Nat):Int):=eg wO
   have T:=Q1 (n+1) O U (LL U) Z V J H (dz (fun c=>decide (c<j))) (j:Int)
   rw[BQ,ej,JR] at T
   refine aw T (aA _) (ai _ _) (aj _ _) ?_
   refine Tr.af (fun h0=>?_) wJ
   exact Tr.ab (by rw[eL];simp (disch:=omega) only[nV,nW];omega) (Tr.ab wG (Tr.ab (by rw[eL];simp (disch:=omega) only[nV,nW];omega) (Tr.ag ⟨rfl,rfl⟩)))
 · obtain ⟨x,h1,rfl⟩:=aw (Q:=fun x=>x=(.exit 0,nE 1 U (LL U) 5 (ofNat U)++[(18,.bool false)],fb O U Z V J [cN (LL U) (dz (fun c=>decide (c<U)))]::H)) (Q1 (n+1) O U (LL U) Z V J H (dz (fun c=>decide (c<U))) (ofNat U)) (aA _) (ai _ _) (aj _ _) (by
    refine Tr.af wJ (fun h0=>Tr.ag rfl))
   exact h1
noncomputable def VM (U:Nat):Nat→aD
 | 0=>nE 1 U (LL U) 6 (ofNat 0)
 | t+1=>nE 2 U (LL U) 6 ((t+1:Nat):Int)
noncomputable def PQ:Nat→aa
 | 0=>fb O U Z V J [cN (LL U) (dz (bW U b 0))]::H
 | t+1=>fb O U Z V J [cN (LL U) (dz (bW U b 0)),cN (LL U) (dz (bW U b (t+1)))]::H
theorem S5 (hl:U≤10) (h1:1≤U) (hb:V≤1000) (hB:b=fun c=>fA J c V) (hp:fW U V J):exec (bN (n+1) 64 66) (.block 2 (.loop (part Tryd.f64 [1,1,1,1,0,1,0,0]))) (VM U 0) (PQ O U Z V J b H 0) =
 some (.normal,nE 2 U (LL U) 6 (ofNat U)++[(26,.bool false)],PQ O U Z V J b H U):=by
 have mk8:FL (ofNat U) (ofNat U) 8=true:=by simp (disch:=omega) only[nV,nW];omega
 refine fQ (n:=n+1) (f:=64) (nt:=66) (c:=part Tryd.f64 [1,1,1,1,0,1,0,0]) 2 (VM U) (PQ O U Z V J b H) U (_,_) wO (fun t ht=>?_) ?_
 · have ec:bm .i64 (t:Int) (ofNat 1)=((t+1:Nat):Int):=eg wO
   cases t with
   | zero =>
     have hx:=X4 n O U Z V J b H 0 hl hb (((0:Nat)):Int)
     rw[Lm,Hk U V J hB hp] at hx
     have T:=Q5 (n+1) O U Z V J H (dz (bW U b 0)) (dz (bW U b (0+1))) (((0:Nat)):Int)
     rw[ec] at T
     refine aw T (aA _) (az (ai _ _) KY (fun x h=>by rw[← Tr.ae h];simp only[db.st,aq];exact hx)) (aj _ _) ?_
     exact Tr.af (fun h0=>Tr.ab mk8 (Tr.al ⟨rfl,rfl⟩ (Tr.ag ⟨rfl,rfl⟩))) wJ
   | succ t =>
     have hx:=X5 n O U Z V J b H (dz (bW U b 0)) (t+1) hl hb (((t+1:Nat)):Int)
     rw[Lm,Hk U V J hB hp] at hx
     have T:=Q6 (n+1) O U Z V J H (dz (bW U b 0)) (dz (bW U b (t+1))) (dz (bW U b (t+1+1))) (((t+1:Nat)):Int)
     rw[ec] at T
     refine aw T (aA _) (az (ai _ _) KY (fun x h=>by rw[← Tr.ae h];simp only[db.st,aq];exact hx)) (aj _ _) ?_
     exact Tr.af (fun h0=>Tr.ab mk8 (Tr.al ⟨rfl,rfl⟩ (Tr.ag ⟨rfl,rfl⟩))) wJ
 · obtain ⟨m,rfl⟩:∃ m,U=m+1:=⟨U-1,by omega⟩
   obtain ⟨x,h1,rfl⟩:=aw (Q:=fun x=>x=(.exit 2,nE 2 (m+1) (LL (m+1)) 6 (ofNat (m+1))++[(26,.bool false)],PQ O (m+1) Z V J b H (m+1))) (Ov (n+1) O (m+1) (LL (m+1)) Z V J H (dz (bW (m+1) b 0)) (dz (bW (m+1) b (m+1))) (ofNat (m+1))) (aA _) (c8 (ai _ _) 4) (aj _ _) (by
    refine Tr.af wJ (fun h0=>Tr.ag rfl))
   exact h1
theorem S6 (hl:U≤10) (g:Nat→Int) (p:Nat→Bool):exec (bN (n+1) 64 66) (.block 8 (.loop (part Tryd.f64 [1,1,1,1,1,0,1,0,0]))) (BH U (LL U) (ofNat 0)) (fb O U Z V J [cN (LL U) g,cN (LL U) (dz p)]::H) =
 some (cond (dH p U) (.ret,[(2,.bool true)],fb O U Z V J [cN (LL U) g,cN (LL U) (dz p)]::H) (.normal,BH U (LL U) (ofNat U)++[(58,.bool false)],fb O U Z V J [cN (LL U) g,cN (LL U) (dz p)]::H)):=by
 have eL:=CJ U
 refine jS (n:=n+1) (f:=64) (nt:=66) (c:=part Tryd.f64 [1,1,1,1,1,0,1,0,0]) 8 (fun j=>BH U (LL U) (j:Int)) (fun _=>fb O U Z V J [cN (LL U) g,cN (LL U) (dz p)]::H) U p (fun j=>([(2,.bool true)],fb O U Z V J [cN (LL U) g,cN (LL U) (dz p)]::H)) (_,_) wO (fun j hj=>?_) ?_
 · have ej:bm .i64 (j:Int) (ofNat 1)=((j+1:Nat):Int):=eg wO
   have T:=Q4 (n+1) O U (LL U) Z V J H g (dz p) (j:Int)
   rw[BQ,ej,B7] at T
   refine aw T (aA _) (ai _ _) (aj _ _) ?_
   refine Tr.af (fun h0=>?_) wJ
   refine Tr.ab (by rw[eL];simp (disch:=omega) only[nV,nW];omega) (Tr.ab wG (Tr.ab (by rw[eL];simp (disch:=omega) only[nV,nW];omega) (Tr.af (fun q=>Tr.ag ?_) (fun q=>Tr.ag ?_))))
   · rw[if_pos q];rfl
   · rw[if_neg (by rw[q];decide)];exact ⟨rfl,rfl⟩
 · obtain ⟨x,h1,rfl⟩:=aw (Q:=fun x=>x=(.exit 8,BH U (LL U) (ofNat U)++[(58,.bool false)],fb O U Z V J [cN (LL U) g,cN (LL U) (dz p)]::H)) (Q4 (n+1) O U (LL U) Z V J H g (dz p) (ofNat U)) (aA _) (ai _ _) (aj _ _) (by
    refine Tr.af wJ (fun h0=>Tr.ag rfl))
   exact h1
theorem Wi (hl:U≤10) (h1:1≤U) (hb:V≤1000) (hp:fW U V J):cd (n+2) (.fn 64) [bj O U Z V J] H=some (.bool (mf U (fun c=>fA J c V)),H):=by
 have e1:=S7 n O U Z V J H hl;rw[Ya] at e1;have e2:=S5 n O U Z V J (fun c=>fA J c V) H hl h1 hb rfl hp;have e3:=S6 n O U Z V J H hl (dz (bW U (fun c=>fA J c V) 0)) (bW U (fun c=>fA J c V) U);have hT:PQ O U Z V J (fun c=>fA J c V) H U=fb O U Z V J [cN (LL U) (dz (bW U (fun c=>fA J c V) 0)),cN (LL U) (dz (bW U (fun c=>fA J c V) U))]::H:=by
  obtain ⟨m,rfl⟩:∃ m,U=m+1:=⟨U-1,by omega⟩
  rfl
 rw[hT] at e2;refine bF (n:=n+1) Tryd.func64 rfl rfl rfl (u64 (n+1) O U Z V J H (dz (bW U (fun c=>fA J c V) 0)) (dz (bW U (fun c=>fA J c V) 0)) (dz (bW U (fun c=>fA J c V) U)) (dH (bW U (fun c=>fA J c V) U) U)) (aA _) (az (az (az (ai _ _) Pa (fun x h=>by rw[← Tr.ae h];simp only[db.st,aq];exact e1)) Pb (fun x h=>by rw[← Tr.ae h];simp only[db.st,aq];exact e2)) Pc (fun x h=>dV h e3)) (aj _ _) ?_;have mk8:FL (ofNat U) (ofNat U) 8=true:=by simp (disch:=omega) only[nV,nW];omega
 have eb:dH (bW U (fun c=>fA J c V) U) U=mf U (fun c=>fA J c V):=Nc _ _;rw[eb];refine Tr.ab mk8 (Tr.al ⟨rfl,rfl⟩ (Tr.al ⟨rfl,rfl⟩ (Tr.al ⟨rfl,rfl⟩ (Tr.af (fun q=>Tr.ag ⟨?_,rfl⟩) (fun q=>Tr.ag ⟨?_,rfl⟩)))))
 · rw[q]
 · rw[q]
end
end Go.Eng
end
section
namespace Go.Eng
open Int (ofNat)
open Go.Proofs
noncomputable def oh (s:Nat) (j:Int):aD:=[(1,.ptr 0 0 0 0),(s,.int .i64 j)]
noncomputable def BB (j k:Int):aD:=[(1,.ptr 0 0 0 0),(5,.int .i64 j),(6,.ptr 0 1 0 0),(7,.int .i64 k)]
noncomputable def Fq (a b:Int):Nat×ak:=(0,.row (.I .i64 [a,b]))
theorem QR (n:Nat) (O:Int) (U:Nat) (Z:Nat→Int) (V:Nat) (J:Nat→Int) (H:aa) (j:Int):aJ (bN n 23 125) (il aK n 0) aS aR (part Tryd.f23 [1,1,1,0,1,0,0]) (hints (oh 3 j)) (fS O U Z V J::H) =
 (fun (Z0:bB)=>Tr.ite (bE j (ofNat U)) (Tr.req (cQ j U) (Tr.req (cK (au 0 j 4) (bR U 4)) (Tr.req (cK (ar (au 0 j 4) 1) (bR U 4)) (Tr.req (cK (ar (au 0 j 4) 2) (bR U 4)) (Tr.req (cK (ar (au 0 j 4) 3) (bR U 4)) (Tr.ite (bE (Z (au 0 j 4)) (ofNat 0)) (Tr.ok (Ex.ret,[(2,iI 3,some 1)],Z0::H)) (Tr.ite (bE (Z (ar (au 0 j 4) 1)) (Z (au 0 j 4))) (Tr.ok (Ex.ret,[(2,iI 3,some 1)],Z0::H)) (Tr.ite (bE (ofNat 1000) (Z (ar (au 0 j 4) 1))) (Tr.ok (Ex.ret,[(2,iI 3,some 1)],Z0::H)) (Tr.ite (bE (Z (ar (au 0 j 4) 2)) (ofNat 0)) (Tr.ok (Ex.ret,[(2,iI 3,some 1)],Z0::H)) (Tr.ite (bE (Z (ar (au 0 j 4) 3)) (Z (ar (au 0 j 4) 2))) (Tr.ok (Ex.ret,[(2,iI 3,some 1)],Z0::H)) (Tr.ite (bE (ofNat 1000) (Z (ar (au 0 j 4) 3))) (Tr.ok (Ex.ret,[(2,iI 3,some 1)],Z0::H)) (Tr.ok (Ex.normal,[(1,AV.ptr 0 0 0 0,none),(3,AV.int .i64 (bm .i64 j (ofNat 1)),none)],Z0::H))))))))))))) (Tr.ok (Ex.exit 0,[(1,AV.ptr 0 0 0 0,none),(3,AV.int .i64 j,none),(36,AV.bool false,some 1)],(bh [(0,b8 O U Z V J)])::H))) (bh [(0,b8 O U Z V J),(0,ak.row (Row.I .i64 [Z (au 0 j 4),Z (ar (au 0 j 4) 1),Z (ar (au 0 j 4) 2),Z (ar (au 0 j 4) 3)]))]):=by kernel_rfl
theorem QT (n:Nat) (O:Int) (U:Nat) (Z:Nat→Int) (V:Nat) (J:Nat→Int) (H:aa) (a b j k:Int):aJ (bN n 23 125) (il aK n 0) aS aR (part Tryd.f23 [1,1,1,1,0,1,0,0,1,0,0,1,1,1,0,0]) (hints (BB j k)) (fb O U Z V J [Fq a b]::H) =
 (fun (Z0:bB)=>Tr.ite (bE k j) (Tr.req (cQ k V) (Tr.req (cK (au 0 k 2) (bR V 2)) (Tr.req (cK (ar (au 0 k 2) 1) (bR V 2)) (Tr.ite (cr (bV (J (au 0 k 2)) a) (bV (J (ar (au 0 k 2) 1)) b)) (Tr.ok (Ex.ret,[(2,iI 2,some 1)],Z0::H)) (Tr.ok (Ex.normal,[(1,AV.ptr 0 0 0 0,none),(5,AV.int .i64 j,none),(6,AV.ptr 0 1 0 0,none),(7,AV.int .i64 (bm .i64 k (ofNat 1)),none)],Z0::H)))))) (Tr.ok (Ex.exit 4,[(1,AV.ptr 0 0 0 0,none),(5,AV.int .i64 j,none),(6,AV.ptr 0 1 0 0,none),(7,AV.int .i64 k,none),(113,AV.bool false,some 1)],Z0::H))) (bh [(0,b8 O U Z V J),(0,ak.row (Row.I .i64 [a,b]))]):=by kernel_rfl
theorem Uh (n:Nat) (O:Int) (U:Nat) (Z:Nat→Int) (V:Nat) (J:Nat→Int) (H:aa) (j:Int) (e:Bool):aJ (bN (n+1) 23 125) (il aK n 1) (bP aS 4 (BB j (ofNat 0)) (fb O U Z V J [Fq (J (au 0 j 2)) (J (ar (au 0 j 2) 1))]::H) (.ite e (.ok (.ret,[(2,.int .i64 2,none)],fb O U Z V J [Fq (J (au 0 j 2)) (J (ar (au 0 j 2) 1))]::H)) (.ok (.normal,hints (BB j j++[(113,.bool false)]),fb O U Z V J [Fq (J (au 0 j 2)) (J (ar (au 0 j 2) 1))]::H)))) aR (part Tryd.f23 [1,1,1,1,0,1,0,0]) (hints (oh 5 j)) (fS O U Z V J::H) =
 (fun (Z0:bB)=>Tr.ite (bE j (ofNat V)) (Tr.req (cQ j V) (Tr.req (cK (au 0 j 2) (bR V 2)) (Tr.req (cK (ar (au 0 j 2) 1) (bR V 2)) (Tr.req (cQ (ofNat 0) 2) (Tr.ite (dQ (ofNat 0) (J (au 0 j 2))) (Tr.ite (aQ (bE (J (au 0 j 2)) (ofNat U))) (Tr.ok (Ex.ret,[(2,iI 2,some 1)],Z0::H)) (Tr.req (cQ (ofNat 1) 2) (Tr.ite (dQ (ofNat 0) (J (ar (au 0 j 2) 1))) (Tr.ite (aQ (bE (J (ar (au 0 j 2) 1)) (ofNat U))) (Tr.ok (Ex.ret,[(2,iI 2,some 1)],Z0::H)) (Tr.req (cQ (ofNat 0) 2) (Tr.req (cQ (ofNat 1) 2) (Tr.ite (bV (J (au 0 j 2)) (J (ar (au 0 j 2) 1))) (Tr.ok (Ex.ret,[(2,iI 2,some 1)],Z0::H)) (Tr.reqP ([(1,AV.ptr 0 0 0 0),(5,AV.int .i64 j),(6,AV.ptr 0 1 0 0),(7,iI 0)]=[(1,AV.ptr 0 0 0 0),(5,AV.int .i64 j),(6,AV.ptr 0 1 0 0),(7,iI 0)]∧Z0::H=Z0::H) (Tr.ite e (Tr.ok (Ex.ret,[(2,iI 2,none)],Z0::H)) (Tr.ok (Ex.normal,[(1,AV.ptr 0 0 0 0,none),(5,AV.int .i64 (bm .i64 j (ofNat 1)),none)],Z0::H)))))))) (Tr.ok (Ex.ret,[(2,iI 2,some 1)],Z0::H))))) (Tr.ok (Ex.ret,[(2,iI 2,some 1)],Z0::H))))))) (Tr.ok (Ex.exit 2,[(1,AV.ptr 0 0 0 0,none),(5,AV.int .i64 j,none),(84,AV.bool false,some 1)],(bh [(0,b8 O U Z V J)])::H))) (bh [(0,b8 O U Z V J),(0,ak.row (Row.I .i64 [J (au 0 j 2),J (ar (au 0 j 2) 1)]))]):=by kernel_rfl
theorem QS (n:Nat) (O:Int) (U:Nat) (Z:Nat→Int) (V:Nat) (J:Nat→Int) (H:aa) (j:Int):aJ (bN (n+1) 23 125) (il aK n 1) (gq aS 4) aR (part Tryd.f23 [1,1,1,1,0,1,0,0]) (hints (oh 5 j)) (fS O U Z V J::H) =
 (fun (Z0:bB)=>Tr.ite (bE j (ofNat V)) (Tr.req (cQ j V) (Tr.req (cK (au 0 j 2) (bR V 2)) (Tr.req (cK (ar (au 0 j 2) 1) (bR V 2)) (Tr.req (cQ (ofNat 0) 2) (Tr.ite (dQ (ofNat 0) (J (au 0 j 2))) (Tr.ite (aQ (bE (J (au 0 j 2)) (ofNat U))) (Tr.ok (Ex.ret,[(2,iI 2,some 1)],Z0::H)) (Tr.req (cQ (ofNat 1) 2) (Tr.ite (dQ (ofNat 0) (J (ar (au 0 j 2) 1))) (Tr.ite (aQ (bE (J (ar (au 0 j 2) 1)) (ofNat U))) (Tr.ok (Ex.ret,[(2,iI 2,some 1)],Z0::H)) (Tr.req (cQ (ofNat 0) 2) (Tr.req (cQ (ofNat 1) 2) (Tr.ite (bV (J (au 0 j 2)) (J (ar (au 0 j 2) 1))) (Tr.ok (Ex.ret,[(2,iI 2,some 1)],Z0::H)) Tr.bad)))) (Tr.ok (Ex.ret,[(2,iI 2,some 1)],Z0::H))))) (Tr.ok (Ex.ret,[(2,iI 2,some 1)],Z0::H))))))) (Tr.ok (Ex.exit 2,[(1,AV.ptr 0 0 0 0,none),(5,AV.int .i64 j,none),(84,AV.bool false,some 1)],(bh [(0,b8 O U Z V J)])::H))) (bh [(0,b8 O U Z V J),(0,ak.row (Row.I .i64 [J (au 0 j 2),J (ar (au 0 j 2) 1)]))]):=by kernel_rfl
theorem Yz (n:Nat) (O:Int) (U:Nat) (Z:Nat→Int) (V:Nat) (J:Nat→Int) (H:aa) (e1 e2 e3:Bool) (l1 l2:bB) (C:List AV→Prop):bo Tryd.prog (cd n) 100000 23 Tryd.f23 (KtG.kt 23) (il (gT aK 64 (gB e3 C)) n 0) (bP (bP aS 0 (oh 3 (ofNat 0)) (fS O U Z V J::H) (.ite e1 (.ok (.ret,[(2,.int .i64 3,none)],l1::H)) (.ok (.normal,hints (oh 3 (ofNat U)++[(36,.bool false)]),fS O U Z V J::H)))) 2 (oh 5 (ofNat 0)) (fS O U Z V J::H) (.ite e2 (.ok (.ret,[(2,.int .i64 2,none)],l2::H)) (.ok (.normal,hints (oh 5 (ofNat V)++[(84,.bool false)]),fS O U Z V J::H)))) aR [(bj O U Z V J,none)] H =
 (fun (Z0:bB)=>Tr.ite (bE (ofNat U) (ofNat 1)) (Tr.ok ((iI 6,some 1),H)) (Tr.ite (bE (ofNat 10) (ofNat U)) (Tr.ok ((iI 6,some 1),H)) (Tr.ite (bE (ofNat 40) (ofNat V)) (Tr.ok ((iI 6,some 1),H)) (Tr.ite (bE O (ofNat 1)) (Tr.ok ((iI 3,some 1),H)) (Tr.ite (bE (ofNat 100) O) (Tr.ok ((iI 3,some 1),H)) (Tr.reqP ([(1,AV.ptr 0 0 0 0),(3,iI 0)]=[(1,AV.ptr 0 0 0 0),(3,iI 0)]∧Z0::H=Z0::H) (Tr.ite e1 (Tr.ok ((iI 3,none),H)) (Tr.reqP ([(1,AV.ptr 0 0 0 0),(5,iI 0)]=[(1,AV.ptr 0 0 0 0),(5,iI 0)]∧Z0::H=Z0::H) (Tr.ite e2 (Tr.ok ((iI 2,none),H)) (Tr.reqP (C [bj O U Z V J]) (Tr.ite e3 (Tr.ok ((iI 16,some 1),H)) (Tr.ok ((iI 0,some 1),H))))))))))))) (bh [(0,b8 O U Z V J)]):=by kernel_rfl
theorem Us (n:Nat) (O:Int) (U:Nat) (Z:Nat→Int) (V:Nat) (J:Nat→Int) (H:aa):bo Tryd.prog (cd n) 100000 23 Tryd.f23 (KtG.kt 23) (il aK n 0) (gq aS 0) aR [(bj O U Z V J,none)] H =
 Tr.ite (bE (ofNat U) (ofNat 1)) (Tr.ok ((iI 6,some 1),H)) (Tr.ite (bE (ofNat 10) (ofNat U)) (Tr.ok ((iI 6,some 1),H)) (Tr.ite (bE (ofNat 40) (ofNat V)) (Tr.ok ((iI 6,some 1),H)) (Tr.ite (bE O (ofNat 1)) (Tr.ok ((iI 3,some 1),H)) (Tr.ite (bE (ofNat 100) O) (Tr.ok ((iI 3,some 1),H)) Tr.bad)))):=by kernel_rfl
end Go.Eng
end
section
namespace Go.Eng
open Int (ofNat)
open Go.Proofs Go.Eng.Gall
theorem O4:∀ b,(0,b) ∈ aP (aZ Tryd.f23)→b=.loop (part Tryd.f23 [1,1,1,0,1,0,0]):=eA (by kernel_rfl)
theorem O5:∀ b,(2,b) ∈ aP (aZ Tryd.f23)→b=.loop (part Tryd.f23 [1,1,1,1,0,1,0,0]):=eA (by kernel_rfl)
theorem O6:∀ b,(4,b) ∈ aP (part Tryd.f23 [1,1,1,1,0,1,0,0])→b=.loop (part Tryd.f23 [1,1,1,1,0,1,0,0,1,0,0,1,1,1,0,0]):=eA (by kernel_rfl)
section
variable (n:Nat) (O:Int) (U:Nat) (Z:Nat→Int) (V:Nat) (J:Nat→Int) (H:aa)
noncomputable def NI (j:Nat):bB:=fb O U Z V J [(0,.row (.I .i64 [Z (j*4),Z (j*4+1),Z (j*4+2),Z (j*4+3)]))]
theorem S8 (hl:U≤1000):exec (bN n 23 125) (.block 0 (.loop (part Tryd.f23 [1,1,1,0,1,0,0]))) (oh 3 (ofNat 0)) (fS O U Z V J::H) =
 some (cond (dH (jO Z) U) (.ret,[(2,.int .i64 3)],NI O U Z V J (fN (jO Z) U 0)::H) (.normal,oh 3 (ofNat U)++[(36,.bool false)],fS O U Z V J::H)):=by
 refine jS (n:=n) (f:=23) (nt:=125) (c:=part Tryd.f23 [1,1,1,0,1,0,0]) 0 (fun j=>oh 3 (j:Int)) (fun _=>fS O U Z V J::H) U (jO Z) (fun j=>([(2,.int .i64 3)],NI O U Z V J j::H)) (_,_) wO (fun j hj=>?_) ?_
 · have ej:bm .i64 (j:Int) (ofNat 1)=((j+1:Nat):Int):=eg wO
   have ei:au 0 (j:Int) 4=j*4:=by rw[bt];omega
   have hs:jO Z j=!(decide (0≤Z (j*4)) && (decide (Z (j*4)≤Z (j*4+1)) && (decide (Z (j*4+1)≤1000) && (decide (0≤Z (j*4+2)) && (decide (Z (j*4+2)≤Z (j*4+3)) && decide (Z (j*4+3)≤1000)))))):=rfl
   have T:=QR n O U Z V J H (j:Int)
   rw[ei,aI,aI,aI,ej] at T
   refine aw T (aA _) (ai _ _) (aj _ _) ?_
   refine Tr.af (fun h0=>?_) wJ
   refine Tr.ab wG (Tr.ab wG (Tr.ab wG (Tr.ab wG (Tr.ab wG ?_))))
   have yes:(¬ (0≤Z (j*4)∧Z (j*4)≤Z (j*4+1)∧Z (j*4+1)≤1000∧0≤Z (j*4+2)∧Z (j*4+2)≤Z (j*4+3)∧Z (j*4+3)≤1000))→jO Z j=true:=fun h=>by rw[hs];simp;omega
   refine Tr.af (fun q1=>Tr.ag ?_) (fun q1=>Tr.af (fun q2=>Tr.ag ?_) (fun q2=>Tr.af (fun q3=>Tr.ag ?_) (fun q3=>Tr.af (fun q4=>Tr.ag ?_) (fun q4=>Tr.af (fun q5=>Tr.ag ?_) (fun q5=>Tr.af (fun q6=>Tr.ag ?_) (fun q6=>Tr.ag ?_))))))
   · rw[bS,decide_eq_true_iff] at q1
     rw[if_pos (yes (by have:Z (j*4)<0:=q1;omega))];rfl
   · rw[bS,decide_eq_true_iff] at q2
     rw[if_pos (yes wO)];rfl
   · rw[bS,decide_eq_true_iff] at q3
     rw[if_pos (yes (by have:1000<Z (j*4+1):=q3;omega))];rfl
   · rw[bS,decide_eq_true_iff] at q4
     rw[if_pos (yes (by have:Z (j*4+2)<0:=q4;omega))];rfl
   · rw[bS,decide_eq_true_iff] at q5
     rw[if_pos (yes wO)];rfl
   · rw[bS,decide_eq_true_iff] at q6
     rw[if_pos (yes (by have:1000<Z (j*4+3):=q6;omega))];rfl
   · rw[bS,decide_eq_false_iff_not] at q1 q2 q3 q4 q5 q6
     have q1:¬ Z (j*4)<0:=q1
     have q3:¬ 1000<Z (j*4+1):=q3
     have q4:¬ Z (j*4+2)<0:=q4
     have q6:¬ 1000<Z (j*4+3):=q6
     rw[if_neg (by rw[hs];simp;omega)]
     exact ⟨rfl,rfl⟩
 · obtain ⟨x,h1,rfl⟩:=aw (Q:=fun x=>x=(.exit 0,oh 3 (ofNat U)++[(36,.bool false)],fS O U Z V J::H)) (QR n O U Z V J H (ofNat U)) (aA _) (ai _ _) (aj _ _) (by
    refine Tr.af wJ (fun h0=>Tr.ag rfl))
   exact h1
theorem Tb (a b:Int) (j:Nat) (hj:j≤V) (hb:V≤1000):exec (bN n 23 125) (.block 4 (.loop (part Tryd.f23 [1,1,1,1,0,1,0,0,1,0,0,1,1,1,0,0]))) (BB (j:Int) (ofNat 0)) (fb O U Z V J [Fq a b]::H) =
 some (cond (dH (gE J a b) j) (.ret,[(2,.int .i64 2)],fb O U Z V J [Fq a b]::H) (.normal,BB (j:Int) (j:Int)++[(113,.bool false)],fb O U Z V J [Fq a b]::H)):=by
 refine jS (n:=n) (f:=23) (nt:=125) (c:=part Tryd.f23 [1,1,1,1,0,1,0,0,1,0,0,1,1,1,0,0]) 4 (fun k=>BB (j:Int) (k:Int)) (fun _=>fb O U Z V J [Fq a b]::H) j (gE J a b) (fun k=>([(2,.int .i64 2)],fb O U Z V J [Fq a b]::H)) (_,_) wO (fun k hk=>?_) ?_
 · have ek:bm .i64 (k:Int) (ofNat 1)=((k+1:Nat):Int):=eg wO
   have ei:au 0 (k:Int) 2=k*2:=by rw[bt];omega
   have hp:cr (bV (J (k*2)) a) (bV (J (k*2+1)) b)=gE J a b k:=by
    rw[ct,bg,bg];unfold gE;rw[Bool.eq_iff_iff];simp;constructor<;>(rintro ⟨h1,h2⟩;exact ⟨h1.symm,h2.symm⟩)
   have T:=QT n O U Z V J H a b (j:Int) (k:Int)
   rw[ei,aI,ek,hp] at T
   refine aw T (aA _) (ai _ _) (aj _ _) ?_
   refine Tr.af (fun h0=>?_) wJ
   refine Tr.ab wG (Tr.ab wG (Tr.ab wG (Tr.af (fun q=>Tr.ag ?_) (fun q=>Tr.ag ?_))))
   · rw[if_pos q];rfl
   · rw[if_neg (by rw[q];decide)];exact ⟨rfl,rfl⟩
 · obtain ⟨x,h1,rfl⟩:=aw (Q:=fun x=>x=(.exit 4,BB (j:Int) (j:Int)++[(113,.bool false)],fb O U Z V J [Fq a b]::H)) (QT n O U Z V J H a b (j:Int) (j:Int)) (aA _) (ai _ _) (aj _ _) (by
    refine Tr.af wJ (fun h0=>Tr.ag rfl))
   exact h1
theorem S9   (hl:U≤1000) (hb:V≤1000):exec (bN (n+1) 23 125) (.block 2 (.loop (part Tryd.f23 [1,1,1,1,0,1,0,0]))) (oh 5 (ofNat 0)) (fS O U Z V J::H) =
 some (cond (dH (gI U J) V) (.ret,[(2,.int .i64 2)],fb O U Z V J [Fq (J (fN (gI U J) V 0*2)) (J (fN (gI U J) V 0*2+1))]::H) (.normal,oh 5 (ofNat V)++[(84,.bool false)],fS O U Z V J::H)):=by
 refine jS (n:=n+1) (f:=23) (nt:=125) (c:=part Tryd.f23 [1,1,1,1,0,1,0,0]) 2 (fun j=>oh 5 (j:Int)) (fun _=>fS O U Z V J::H) V (gI U J) (fun j=>([(2,.int .i64 2)],fb O U Z V J [Fq (J (j*2)) (J (j*2+1))]::H)) (_,_) wO (fun j hj=>?_) ?_
 · have ej : bm .i64 (j:Int) (ofNat 1)=((j+1:Nat):Int):=eg wO
   have ei:au 0 (j:Int) 2=j*2:=by rw[bt];omega
   have T:=Uh n O U Z V J H (j:Int) (dH (gE J (J (j*2)) (J (j*2+1))) j)
   rw[ei,aI,ej] at T
   refine aw T (cD n 1) (az (ai _ _) O6 (fun x h=>dV h (Tb (n+1) O U Z V J H _ _ j wO hb))) (aj _ _) ?_
   refine Tr.af (fun h0=>?_) wJ
   refine Tr.ab wG (Tr.ab wG (Tr.ab wG (Tr.ab wG ?_)))
   have yes:(J (j*2)=J (j*2+1)∨¬ (0≤J (j*2)∧J (j*2)<U)∨¬ (0≤J (j*2+1)∧J (j*2+1)<U))→gI U J j=true:=fun h=>by
    unfold gI;rcases h with h | h | h
    · rw[decide_eq_true h];rfl
    · rw[decide_eq_false h];simp
    · rw[decide_eq_false h];simp
   refine Tr.af (fun q1=>?_) (fun q1=>Tr.ag ?_)
   · rw[bu,decide_eq_true_iff] at q1
     have q1:0≤J (j*2):=q1
     refine Tr.af (fun q2=>Tr.ag ?_) (fun q2=>?_)
     · rw[aH,bS] at q2
       have q2:¬ J (j*2)<(U:Int):=by simpa using q2
       rw[if_pos (yes (.inr (.inl wO)))];rfl
     · rw[aH,bS] at q2
       have q2:J (j*2)<(U:Int):=by simpa using q2
       refine Tr.ab wG (Tr.af (fun q3=>?_) (fun q3=>Tr.ag ?_))
       · rw[bu,decide_eq_true_iff] at q3
         have q3:0≤J (j*2+1):=q3
         refine Tr.af (fun q4=>Tr.ag ?_) (fun q4=>?_)
         · rw[aH,bS] at q4
           have q4:¬ J (j*2+1)<(U:Int):=by simpa using q4
           rw[if_pos (yes (.inr (.inr wO)))];rfl
         · rw[aH,bS] at q4
           have q4:J (j*2+1)<(U:Int):=by simpa using q4
           refine Tr.ab wG (Tr.ab wG (Tr.af (fun q5=>Tr.ag ?_) (fun q5=>?_)))
           · rw[bg,beq_iff_eq] at q5
             rw[if_pos (yes (.inl q5))];rfl
           · rw[bg,beq_eq_false_iff_ne] at q5
             refine Tr.al ⟨rfl,rfl⟩ (Tr.af (fun q6=>Tr.ag ?_) (fun q6=>Tr.ag ?_))
             · rw[if_pos (by unfold gI;rw[q6];simp)];rfl
             · rw[if_neg (by unfold gI;rw[q6,decide_eq_false q5,decide_eq_true ⟨q1,q2⟩,decide_eq_true ⟨q3,q4⟩];decide)]
               exact ⟨rfl,rfl⟩
       · rw[bu,decide_eq_false_iff_not] at q3
         have q3:¬ 0≤J (j*2+1):=q3
         rw[if_pos (yes (.inr (.inr wO)))];rfl
   · rw[bu,decide_eq_false_iff_not] at q1
     have q1:¬ 0≤J (j*2):=q1
     rw[if_pos (yes (.inr (.inl wO)))];rfl
 · obtain ⟨x,h1,rfl⟩:=aw (Q:=fun x=>x=(.exit 2,oh 5 (ofNat V)++[(84,.bool false)],fS O U Z V J::H)) (QS n O U Z V J H (ofNat V)) (cD n 1) (c8 (ai _ _) 4) (aj _ _) (by
    refine Tr.af wJ (fun h0=>Tr.ag rfl))
   exact h1
theorem VF (hl:U≤1000) (hb:V≤1000):cd (n+3) (.fn 23) [bj O U Z V J] H=some (.int .i64 (bL O U Z V J),H):=by
 by_cases k0:1≤U∧U≤10∧V≤40
 · obtain ⟨k1,k2,k3⟩:=k0;have ht:(gT aK 64 (gB (mf U (fun c=>fA J c V)) (fun A=>A=[bj O U Z V J]∧fW U V J))).Ok (cd (n+2)):=yH (bp _) (fun A H hA=>by
    obtain ⟨rfl,hp⟩:=hA;exact Wi n O U Z V J H k2 k1 hb hp)
   refine bF (n:=n+2) Tryd.func23 rfl rfl rfl (Yz (n+2) O U Z V J H (dH (jO Z) U) (dH (gI U J) V) (mf U (fun c=>fA J c V)) (NI O U Z V J (fN (jO Z) U 0)) (fb O U Z V J [Fq (J (fN (gI U J) V 0*2)) (J (fN (gI U J) V 0*2+1))]) (fun A=>A=[bj O U Z V J]∧fW U V J)) (bQ _ _ ht) (az (az (ai _ _) O4 (fun y h=>dV h (S8 (n+2) O U Z V J H hl))) O5 (fun y h=>dV h (S9 (n+1) O U Z V J H hl hb))) (aj _ _) ?_;have hG:bL O U Z V J=if O<1∨100<O∨dH (jO Z) U=true then 3 else if dH (gI U J) V=true then 2 else if mf U (fun c=>fA J c V)=true then 16 else 0:=by unfold bL;rw[if_neg wO]
   rw[hG];refine Tr.af wJ (fun _=>Tr.af wJ (fun _=>Tr.af wJ (fun _=>?_)));refine Tr.af (fun q=>?_) (fun q=>Tr.af (fun q'=>?_) (fun q'=>?_))
   · rw[bS,decide_eq_true_iff] at q;rw[if_pos (.inl q)];exact Tr.ag ⟨rfl,rfl⟩
   · rw[bS,decide_eq_true_iff] at q';rw[if_pos (.inr (.inl q'))];exact Tr.ag ⟨rfl,rfl⟩
   · rw[bS,decide_eq_false_iff_not] at q q';have q:¬ O<1:=q;have q':¬ 100<O:=q';refine Tr.al ⟨rfl,rfl⟩ (Tr.af (fun r=>?_) (fun r=>?_))
     · rw[if_pos (.inr (.inr r))];exact Tr.ag ⟨rfl,rfl⟩
     · rw[if_neg (by rintro (h | h | h);omega;omega;rw[r] at h;cases h)];refine Tr.al ⟨rfl,rfl⟩ (Tr.af (fun u=>?_) (fun u=>?_))
       · rw[if_pos u];exact Tr.ag ⟨rfl,rfl⟩
       · rw[if_neg (by rw[u];decide)];refine Tr.al ⟨rfl,pY u⟩ (Tr.af (fun w=>?_) (fun w=>?_))
         · rw[if_pos w];exact Tr.ag ⟨rfl,rfl⟩
         · rw[if_neg (by rw[w];decide)];exact Tr.ag ⟨rfl,rfl⟩
 · refine bF (n:=n+2) Tryd.func23 rfl rfl rfl (Us (n+2) O U Z V J H) (aA _) (c8 (ai _ _) 0) (aj _ _) ?_;have hG:bL O U Z V J=6:=by unfold bL;rw[if_pos wO]
   rw[hG];refine Tr.af (fun q=>Tr.ag ⟨rfl,rfl⟩) (fun q=>Tr.af (fun q2=>Tr.ag ⟨rfl,rfl⟩) (fun q2=>Tr.af (fun q3=>Tr.ag ⟨rfl,rfl⟩) (fun q3=>?_)));exfalso;simp (disch:=omega) only[nV,nW] at q;simp (disch:=omega) only[nV,nW] at q2;simp (disch:=omega) only[nV,nW] at q3;omega
end
end Go.Eng
end
section
namespace Go.Eng
open Int (ofNat)
open Go.Proofs
noncomputable def df (r:Nat→Int):Nat×ak:=(0,.row (.M [.arr .i64 r 20]))
noncomputable def fD (bs:List (Nat×ak)):bB:=⟨false,df (fun _=>ofNat 0)::bs⟩
noncomputable def nD (A:AV) (U:Nat) (t:Int):aD:=[(0,A),(2,.ptr 0 0 0 0),(3,.ptr 0 1 0 0),(17,.int .i64 (ofNat U)),(18,.int .i64 t)]
noncomputable def yF (A:AV) (U:Nat) (t:Int) (B:Nat→Int) (c:Int):aD:=[(0,A),(2,.ptr 0 0 0 0),(3,.ptr 0 1 0 0),(4,.ptr 0 2 0 0),(17,.int .i64 (ofNat U)),(18,.int .i64 t),(24,.agg (.M [.arr .u64 B 10])),(25,.int .i64 c)]
noncomputable def BC (A:AV) (U:Nat) (t:Int) (B:Nat→Int) (c x:Int):aD:=[(0,A),(2,.ptr 0 0 0 0),(3,.ptr 0 1 0 0),(4,.ptr 0 2 0 0),(5,.int .i64 c),(6,.int .u64 x),(17,.int .i64 (ofNat U)),(18,.int .i64 t),(24,.agg (.M [.arr .u64 B 10])),(25,.int .i64 c)]
noncomputable def Sd (cz:Int→Int):List AV→Option (Prop×AV)
 | [.int .u64 x]=>some (0≤x∧x<18446744073709551616,.int .i64 (cz x))
 | _=>none
theorem Q0 (n:Nat) (O:Int) (U:Nat) (Z:Nat→Int) (V:Nat) (J:Nat→Int) (W B:Nat→Int) (H:aa) (cz:Int→Int) (r q:Nat→Int) (t c x:Int):aJ (bN n 56 69) (il (gT aK 82 (Sd cz)) n 0) aS aR (part Tryd.f56 [1,1,0,1,0,0,1,1,0,0,1,0,1,0,0,1,1,0,0,1,0,0]) (hints (BC (shV O U Z V J W B) U t B c x)) (fD [df r,df q]::H) =
 Tr.ite (aQ (bV x (ofNat 0))) (Tr.reqP (Int.NonNeg (x-0)∧Int.NonNeg (18446744073709551616-(x+1))) (Tr.req (cQ c 10) (Tr.req (cg 0 0) (Tr.req (cK (au 0 c 2) 20) (Tr.req (cQ (cz x) 10) (Tr.req (cg 0 0) (Tr.req (cK (au 0 (cz x) 2) 20) (Tr.req (cQ c 10) (Tr.req (cg 0 0) (Tr.req (cK (au 0 c 2) 20) (Tr.req (cr (eU 0 0) (eU 0 1)) (Tr.req (cQ (cz x) 10) (Tr.req (cg 0 0) (Tr.req (cK (ar (au 0 (cz x) 2) 1) 20) (Tr.req (cQ c 10) (Tr.req (cg 0 0) (Tr.req (cK (ar (au 0 c 2) 1) 20) (Tr.req (cQ (cz x) 10) (Tr.req (cg 0 0) (Tr.req (cK (ar (au 0 (cz x) 2) 1) 20) (Tr.req (cr (eU 0 0) (eU 0 1)) (Tr.ok (Ex.normal,[(0,shV O U Z V J W B,none),(2,AV.ptr 0 0 0 0,none),(3,AV.ptr 0 1 0 0,none),(4,AV.ptr 0 2 0 0,none),(5,AV.int .i64 c,none),(6,AV.int IntKind.u64 (qd IntKind.u64 x (aV IntKind.u64 x (ofNat 1))),none),(17,iI U,none),(18,AV.int .i64 t,none),(24,AV.agg (Row.M [dp.arr IntKind.u64 B 10]),none),(25,AV.int .i64 c,none)],(bh [(0,ak.row (rM (fun x=>ofNat 0) 20)),(0,ak.row (rM (eB (eB r (au 0 c 2) (vA (r (au 0 c 2)) (bm .i64 (r (au 0 (cz x) 2)) (ofNat 1)))) (ar (au 0 (cz x) 2) 1) (zw (eB r (au 0 c 2) (vA (r (au 0 c 2)) (bm .i64 (r (au 0 (cz x) 2)) (ofNat 1))) (ar (au 0 (cz x) 2) 1)) (aV .i64 (eB r (au 0 c 2) (vA (r (au 0 c 2)) (bm .i64 (r (au 0 (cz x) 2)) (ofNat 1))) (ar (au 0 c 2) 1)) (ofNat 1)))) 20)),(0,ak.row (rM q 20))])::H))))))))))))))))))))))) (Tr.ok (Ex.exit 4,[(0,shV O U Z V J W B,none),(2,AV.ptr 0 0 0 0,none),(3,AV.ptr 0 1 0 0,none),(4,AV.ptr 0 2 0 0,none),(5,AV.int .i64 c,none),(6,AV.int IntKind.u64 x,none),(17,iI U,none),(18,AV.int .i64 t,none),(24,AV.agg (Row.M [dp.arr IntKind.u64 B 10]),none),(25,AV.int .i64 c,none),(30,AV.bool false,some 1)],(bh [(0,ak.row (rM (fun x=>ofNat 0) 20)),(0,ak.row (rM r 20)),(0,ak.row (rM q 20))])::H)):=by kernel_rfl
theorem Ul (n:Nat) (O:Int) (U:Nat) (Z:Nat→Int) (V:Nat) (J:Nat→Int) (W B:Nat→Int) (H:aa) (r q r':Nat→Int) (t c x:Int):aJ (bN n 56 69) (il aK n 0) (bP aS 4 (BC (shV O U Z V J W B) U t B c (B (au 0 c 1))) (fD [df r,df q]::H) (.ok (.normal,hints (BC (shV O U Z V J W B) U t B c x++[(30,.bool false)]),fD [df r',df q]::H))) aR (part Tryd.f56 [1,1,0,1,0,0,1,1,0,0,1,0,1,0,0]) (hints (yF (shV O U Z V J W B) U t B c)) (fD [df r,df q]::H) =
 (fun (Z0:aD)=>((fun (Z1:bB)=>Tr.ite (bE c (ofNat 10)) (Tr.req (cQ c 10) (Tr.req (cK (au 0 c 1) 10) (Tr.reqP (Z0=Z0∧Z1::H=Z1::H) (Tr.ok (Ex.normal,[(0,shV O U Z V J W B,none),(2,AV.ptr 0 0 0 0,none),(3,AV.ptr 0 1 0 0,none),(4,AV.ptr 0 2 0 0,none),(17,iI U,none),(18,AV.int .i64 t,none),(24,AV.agg (Row.M [dp.arr IntKind.u64 B 10]),none),(25,AV.int .i64 (bm .i64 c (ofNat 1)),none)],(bh [(0,ak.row (rM (fun x=>ofNat 0) 20)),(0,ak.row (rM r' 20)),(0,ak.row (rM q 20))])::H))))) (Tr.ok (Ex.exit 2,[(0,shV O U Z V J W B,none),(2,AV.ptr 0 0 0 0,none),(3,AV.ptr 0 1 0 0,none),(4,AV.ptr 0 2 0 0,none),(17,iI U,none),(18,AV.int .i64 t,none),(24,AV.agg (Row.M [dp.arr IntKind.u64 B 10]),none),(25,AV.int .i64 c,none),(26,AV.bool false,some 1)],Z1::H))) (bh [(0,ak.row (rM (fun x=>ofNat 0) 20)),(0,ak.row (rM r 20)),(0,ak.row (rM q 20))]))) [(0,shV O U Z V J W B),(2,AV.ptr 0 0 0 0),(3,AV.ptr 0 1 0 0),(4,AV.ptr 0 2 0 0),(5,AV.int .i64 c),(6,AV.int IntKind.u64 (B (au 0 c 1))),(17,iI U),(18,AV.int .i64 t),(24,AV.agg (Row.M [dp.arr IntKind.u64 B 10])),(25,AV.int .i64 c)]:=by kernel_rfl
theorem QZ (n:Nat) (O:Int) (U:Nat) (Z:Nat→Int) (V:Nat) (J:Nat→Int) (W B:Nat→Int) (H:aa) (r q:Nat→Int) (t:Int):aJ (bN n 56 69) (il aK n 0) (gq aS 4) aR (part Tryd.f56 [1,1,0,1,0,0,1,1,0,0,1,0,1,0,0]) (hints (yF (shV O U Z V J W B) U t B 10)) (fD [df r,df q]::H) =
 Tr.ite (bE (ofNat 10) (ofNat 10)) (Tr.req (cQ (ofNat 10) 10) (Tr.req (cK (au 0 (ofNat 10) 1) 10) Tr.bad)) (Tr.ok (Ex.exit 2,[(0,shV O U Z V J W B,none),(2,AV.ptr 0 0 0 0,none),(3,AV.ptr 0 1 0 0,none),(4,AV.ptr 0 2 0 0,none),(17,iI U,none),(18,AV.int .i64 t,none),(24,AV.agg (Row.M [dp.arr IntKind.u64 B 10]),none),(25,iI 10,none),(26,AV.bool false,some 1)],(bh [(0,ak.row (rM (fun x=>ofNat 0) 20)),(0,ak.row (rM r 20)),(0,ak.row (rM q 20))])::H)):=by kernel_rfl
theorem Uk (n:Nat) (O:Int) (U:Nat) (Z:Nat→Int) (V:Nat) (J:Nat→Int) (W B:Nat→Int) (H:aa) (r r':Nat→Int) (t:Int):aJ (bN n 56 69) (il aK n 0) (bP aS 2 (yF (shV O U Z V J W B) U t B (ofNat 0)) (fD [df r,df r]::H) (.ok (.normal,hints (yF (shV O U Z V J W B) U t B (ofNat 10)++[(26,.bool false)]),fD [df r',df r]::H))) aR (part Tryd.f56 [1,1,0,1,0,0]) (hints (nD (shV O U Z V J W B) U t)) (fD [df r]::H) =
 (fun (Z0:aD)=>((fun (Z1:Nat×ak)=>Tr.ite (bE t (ofNat U)) (Tr.req (dN 0 20 0 20) (Tr.reqP (Z0=Z0∧(bh [Z1,(0,ak.row (rM r 20)),(0,ak.row (rM (o5 (fun x=>ofNat 0) 0 r 20) 20))])::H=(bh [Z1,(0,ak.row (rM r 20)),(0,ak.row (rM r 20))])::H) (Tr.ite (ml r' r 20) (Tr.ok (Ex.exit 0,[(0,shV O U Z V J W B,none),(2,AV.ptr 0 0 0 0,none),(3,AV.ptr 0 1 0 0,none),(17,iI U,none),(18,AV.int .i64 t,none),(66,AV.bool true,some 1)],(bh [Z1,(0,ak.row (rM r' 20)),(0,ak.row (rM r 20))])::H)) (Tr.ok (Ex.normal,[(0,shV O U Z V J W B,none),(2,AV.ptr 0 0 0 0,none),(3,AV.ptr 0 1 0 0,none),(17,iI U,none),(18,AV.int .i64 (bm .i64 t (ofNat 1)),none)],(bh [Z1,(0,ak.row (rM r' 20)),(0,ak.row (rM r 20))])::H))))) (Tr.ok (Ex.exit 0,[(0,shV O U Z V J W B,none),(2,AV.ptr 0 0 0 0,none),(3,AV.ptr 0 1 0 0,none),(17,iI U,none),(18,AV.int .i64 t,none),(19,AV.bool false,some 1)],(bh [Z1,(0,ak.row (rM r 20))])::H))) (0,ak.row (rM (fun x=>ofNat 0) 20)))) [(0,shV O U Z V J W B),(2,AV.ptr 0 0 0 0),(3,AV.ptr 0 1 0 0),(4,AV.ptr 0 2 0 0),(17,iI U),(18,AV.int .i64 t),(24,AV.agg (Row.M [dp.arr IntKind.u64 B 10])),(25,iI 0)]:=by kernel_rfl
theorem QY (n:Nat) (O:Int) (U:Nat) (Z:Nat→Int) (V:Nat) (J:Nat→Int) (W B:Nat→Int) (H:aa) (r:Nat→Int) (t:Int):aJ (bN n 56 69) (il aK n 0) (gq aS 2) aR (part Tryd.f56 [1,1,0,1,0,0]) (hints (nD (shV O U Z V J W B) U t)) (fD [df r]::H) =
 Tr.ite (bE t (ofNat U)) (Tr.req (dN 0 20 0 20) Tr.bad) (Tr.ok (Ex.exit 0,[(0,shV O U Z V J W B,none),(2,AV.ptr 0 0 0 0,none),(3,AV.ptr 0 1 0 0,none),(17,iI U,none),(18,AV.int .i64 t,none),(19,AV.bool false,some 1)],(bh [(0,ak.row (rM (fun x=>ofNat 0) 20)),(0,ak.row (rM r 20))])::H)):=by kernel_rfl
theorem UA (n:Nat) (O:Int) (U:Nat) (Z:Nat→Int) (V:Nat) (J:Nat→Int) (W B:Nat→Int) (H:aa) (r:Nat→Int):bo Tryd.prog (cd n) 100000 56 Tryd.f56 (KtG.kt 56) (il aK n 0) (bP aS 0 (nD (shV O U Z V J W B) U (ofNat 0)) (fD [df W]::H) (.ok (.normal,hints (nD (shV O U Z V J W B) U (ofNat U)++[(19,.bool false)]),fD [df r]::H))) aR [(shV O U Z V J W B,none)] H =
 (fun (Z0:aD)=>Tr.req (dN 0 20 0 20) (Tr.reqP (Z0=Z0∧(bh [(0,ak.row (rM (fun x=>ofNat 0) 20)),(0,ak.row (rM (o5 (fun x=>ofNat 0) 0 W 20) 20))])::H=(bh [(0,ak.row (rM (fun x=>ofNat 0) 20)),(0,ak.row (rM W 20))])::H) (Tr.req (dN 0 20 0 20) (Tr.ok ((AV.agg (rM (o5 (fun x=>ofNat 0) 0 r 20) 20),none),H))))) [(0,shV O U Z V J W B),(2,AV.ptr 0 0 0 0),(3,AV.ptr 0 1 0 0),(17,iI U),(18,iI 0)]:=by kernel_rfl
theorem UB (n:Nat) (O:Int) (U:Nat) (Z:Nat→Int) (V:Nat) (J:Nat→Int) (W B:Nat→Int) (H:aa) (r q:Nat→Int) (t:Int):bo Tryd.prog (cd n) 100000 56 Tryd.f56 (KtG.kt 56) (il aK n 0) (bP aS 0 (nD (shV O U Z V J W B) U (ofNat 0)) (fD [df W]::H) (.ok (.normal,hints (nD (shV O U Z V J W B) U t++[(66,.bool true)]),fD [df r,df q]::H))) aR [(shV O U Z V J W B,none)] H =
 (fun (Z0:aD)=>Tr.req (dN 0 20 0 20) (Tr.reqP (Z0=Z0∧(bh [(0,ak.row (rM (fun x=>ofNat 0) 20)),(0,ak.row (rM (o5 (fun x=>ofNat 0) 0 W 20) 20))])::H=(bh [(0,ak.row (rM (fun x=>ofNat 0) 20)),(0,ak.row (rM W 20))])::H) (Tr.req (dN 0 20 0 20) (Tr.ok ((AV.agg (rM (o5 (fun x=>ofNat 0) 0 r 20) 20),none),H))))) [(0,shV O U Z V J W B),(2,AV.ptr 0 0 0 0),(3,AV.ptr 0 1 0 0),(17,iI U),(18,iI 0)]:=by kernel_rfl
end Go.Eng
end
section
namespace Go.Eng
open Int (ofNat)
open Go.Proofs Go.Eng.Gall
theorem GM {c:Nat} (hc:0<c):(gT aK 82 (Sd (fun x=>ofNat (mN x.toNat)))).Ok (cd c):=by
 obtain ⟨m,rfl⟩:∃ m,c=m+1:=⟨c-1,by omega⟩
 refine mz (bp _) (fun args p v hg hp H=>?_);unfold Sd at hg;split at hg
 · rename_i x;simp only[nP] at hg;obtain ⟨rfl,rfl⟩:=hg;refine oZ ?_;show (match Gall.vE (cd m) 82 [.int .u64 x] H with
    | some x=>some x
    | none=>_)=_
   have e:Gall.vE (cd m) 82 [.int .u64 x] H=some (.int .i64 (Go.Lib.ctz 64 x.toNat),H):=by
    show Gs [.int .u64 x] H=_;unfold Gs;exact if_pos hp
   rw[e];rfl
 · cases hg
theorem sN {W:Nat→Int} (h:∀ j,20≤j→W j=0):o5 (fun _=>ofNat 0) 0 W 20=W:=by
 rw[w7];funext j;unfold yr;by_cases e:j<20
 · simp[e]
 · rw[h j wO];simp[e]
section
variable {n:Nat} {b:Nat→Nat} {w:Nat→Int}
theorem Qb {K:Int} (hw:∀ i,w i≤K) (t c:Nat):fC n b w t c≤K+t:=by
 induction t generalizing c with
 | zero=>have:=hw (2*c);show w (2*c)≤K+((0:Nat):Int);omega
 | succ t ih =>
   rcases jA (fC n b w t c) (fun a=>fC n b w t a+1) (fun a=>(b c).testBit a) n with e | ⟨a,h1,h2,h3⟩
   · have:fC n b w (t+1) c=fC n b w t c:=e;have:=ih c;omega
   · have:fC n b w (t+1) c=fC n b w t a+1:=h3;have:=ih a;omega
theorem PN {K:Int} (hw:∀ i,-K≤w i) (t c:Nat):fB n b w t c≤K+t:=by
 induction t generalizing c with
 | zero=>have:=hw (2*c+1);show -w (2*c+1)≤K+((0:Nat):Int);omega
 | succ t ih =>
   rcases jA (fB n b w t c) (fun a=>fB n b w t a+1) (fun a=>(b a).testBit c) n with e | ⟨a,h1,h2,h3⟩
   · have:fB n b w (t+1) c=fB n b w t c:=e;have:=ih c;omega
   · have:fB n b w (t+1) c=fB n b w t a+1:=h3;have:=ih a;omega
theorem Bk {K:Int} (hK:0≤K) (hw:∀ i,-K≤w i∧w i≤K) {t:Nat} {r:Nat→Int} (hr:Bd n b w t r) (c:Nat) (hc:c<n):(-K≤r (2*c)∧r (2*c)≤K+n)∧-K-n≤r (2*c+1)∧r (2*c+1)≤K:=by
 have h1:=hr.lo c hc;have h2:=hr.hi c hc;have h3:=Qb (n:=n) (b:=b) (fun i=>(hw i).2) n c;have h4:=PN (n:=n) (b:=b) (fun i=>(hw i).1) n c;have h5:fC n b w 0 c≤fC n b w t c:=by have:=lo_le (n:=n) (b:=b) (w:=w) 0 t c;rwa [Nat.zero_add] at this
 have h6:fB n b w 0 c≤fB n b w t c:=by have:=Dg (n:=n) (b:=b) (w:=w) 0 t c;rwa [Nat.zero_add] at this
 have h7:fC n b w 0 c=w (2*c):=rfl;have h8:fB n b w 0 c=-w (2*c+1):=rfl;have h9:=hw (2*c);have h10:=hw (2*c+1);omega
end
structure gy (U:Nat) (W:Nat→Int) (b:Nat→Nat):Prop where
 len:U≤10
 win:∀ j,-100000≤W j∧W j≤100000
 zer:∀ j,20≤j→W j=0
 bef:∀ c,c<U→b c<2 ^ U
 off:∀ c,U≤c→b c=0
 nob:mf U b=false
theorem gy.lt {U:Nat} {W:Nat→Int} {b:Nat→Nat} (h:gy U W b) (c:Nat):b c<2 ^ 10:=by
 by_cases hc:c<U
 · exact Nat.lt_of_lt_of_le (h.bef c hc) (Nat.pow_le_pow_right (by decide) h.len)
 · rw[h.off c wO];decide
theorem gy.bit {U:Nat} {W:Nat→Int} {b:Nat→Nat} (h:gy U W b) {c a:Nat} (hb:(b c).testBit a=true):c<U∧a<U:=by
 have hc:c<U:=by
  apply Classical.byContradiction;intro hn;rw[h.off c wO] at hb;simp at hb
 refine ⟨hc,?_⟩;apply Classical.byContradiction;intro hn;have:=Nat.testBit_lt_two_pow (Nat.lt_of_lt_of_le (h.bef c hc) (Nat.pow_le_pow_right (by decide) (show U≤a by omega)));rw[hb] at this;cases this
theorem gy.all {U:Nat} {W:Nat→Int} {b:Nat→Nat} (h:gy U W b):IH U b (mg b 10):=fun a c=>by
 rw[DX b 10 (fun c _=>h.lt c)];constructor
 · rintro ⟨_,h2⟩;obtain ⟨h3,h4⟩:=h.bit h2;exact ⟨h4,h3,h2⟩
 · rintro ⟨_,h1,h2⟩;exact ⟨by have:=h.len;omega,h2⟩
theorem KX:∀ b,(0,b) ∈ aP (aZ Tryd.f56)→b=.loop (part Tryd.f56 [1,1,0,1,0,0]):=eA (by kernel_rfl)
theorem O8:∀ b,(2,b) ∈ aP (part Tryd.f56 [1,1,0,1,0,0])→b=.loop (part Tryd.f56 [1,1,0,1,0,0,1,1,0,0,1,0,1,0,0]):=eA (by kernel_rfl)
theorem O9:∀ b,(4,b) ∈ aP (part Tryd.f56 [1,1,0,1,0,0,1,1,0,0,1,0,1,0,0])→b=.loop (part Tryd.f56 [1,1,0,1,0,0,1,1,0,0,1,0,1,0,0,1,1,0,0,1,0,0]):=eA (by kernel_rfl)
theorem Ir (r:Nat→Int) (i:Nat) (x:Int):eB r i x=FN r i x:=by rw[j8];rfl
section
variable (n:Nat) (O:Int) (U:Nat) (Z:Nat→Int) (V:Nat) (J:Nat→Int) (W:Nat→Int) (b:Nat→Nat) (H:aa)
theorem Tc (hS:gy U W b) (q r:Nat→Int) (t':Nat) (hr:Bd U b W t' r) (t:Int) (c:Nat) (hc:c<10):exec (bN (n+1) 56 69) (.block 4 (.loop (part Tryd.f56 [1,1,0,1,0,0,1,1,0,0,1,0,1,0,0,1,1,0,0,1,0,0]))) (BC (shV O U Z V J W (bI b)) U t (bI b) (c:Int) (bI b c)) (fD [df r,df q]::H) =
 some (.normal,BC (shV O U Z V J W (bI b)) U t (bI b) (c:Int) 0++[(30,.bool false)],fD [df (oL r ((na 10 (b c)).map fun a=>(a,c))),df q]::H):=by
 have hlt:=hS.lt c
 obtain ⟨m1,m2,m3⟩:=wX 10 (b c) (Nat.lt_of_lt_of_le hlt (by decide)) (fun i hi=>⟨by omega,by have:=(hS.bit hi).2;have:=hS.len;omega⟩)
 have hlen:(na 10 (b c)).length≤10:=by
  have:∀ f x,(na f x).length≤f:=by
   intro f;induction f with
   | zero=>intro x;exact Nat.le_refl _
   | succ f ih =>
     intro x;show (if x=0 then [] else mN x::na f (x &&& (x-1))).length≤f+1;split
     · exact Nat.zero_le _
     · rw[List.length_cons];have:=ih (x &&& (x-1));omega
  exact this 10 (b c)
 have hst:∀ k,k≤(na 10 (b c)).length→Bd U b W t' (oL r (((na 10 (b c)).take k).map fun a=>(a,c))):=fun k hk =>
  (rQ hS.nob _ hr (fun p hp=>by
    obtain ⟨a,ha,rfl⟩:=List.mem_map.1 hp;have hb:=(m1 a).1 (List.mem_of_mem_take ha);obtain ⟨h1,h2⟩:=hS.bit hb;exact ⟨h2,h1,hb⟩)).1
 have hN:oL r ((na 10 (b c)).map fun a=>(a,c))=oL r (((na 10 (b c)).take (na 10 (b c)).length).map fun a=>(a,c)):=by rw[List.take_length]
 rw[hN]
 have hl:=hS.len
 refine fQ (n:=n+1) (f:=56) (nt:=69) (c:=part Tryd.f56 [1,1,0,1,0,0,1,1,0,0,1,0,1,0,0,1,1,0,0,1,0,0]) 4 (fun k=>BC (shV O U Z V J W (bI b)) U t (bI b) (c:Int) (ku (b c) k:Nat)) (fun k=>fD [df (oL r (((na 10 (b c)).take k).map fun a=>(a,c))),df q]::H) (na 10 (b c)).length (_,_) wO (fun k hk=>?_) ?_
 · obtain ⟨z0,z1⟩:=m2 k hk
   have hs:=hst k wO
   have hmem:=(m1 _).1 (List.getElem_mem hk)
   obtain ⟨hcl,hal⟩:=hS.bit hmem
   have htake:(na 10 (b c)).take (k+1)=(na 10 (b c)).take k++[(na 10 (b c))[k]]:=by rw[List.take_add_one,List.getElem?_eq_getElem hk];rfl
   have hlw:mN (ku (b c) k)=(na 10 (b c))[k]:=z1.symm
   generalize hR:oL r (((na 10 (b c)).take k).map fun a=>(a,c))=R at *
   have bc:=Bk (K:=100000) wO hS.win hs c hcl
   have ba:=Bk (K:=100000) wO hS.win hs (mN (ku (b c) k)) (by rw[hlw];exact hal)
   have hrl:=N6 (b c) k (Nat.lt_of_lt_of_le hlt (by decide))
   have T:=Q0 (n+1) O U Z V J W (bI b) H (fun x=>ofNat (mN x.toNat)) R q t (c:Int) ((ku (b c) k:Nat):Int)
   have e1:au 0 (c:Int) 2=2*c:=by rw[bt];omega
   have e2:au 0 (ofNat (mN ((ku (b c) k:Nat):Int).toNat)) 2=2*mN (ku (b c) k):=by rw[bt,Int.toNat_natCast];show 0+mN (ku (b c) k)*2=_;omega
   have e3:qd .u64 ((ku (b c) k:Nat):Int) (aV .u64 ((ku (b c) k:Nat):Int) (ofNat 1))=((ku (b c) (k+1):Nat):Int):=by
    rw[eI];show qd .u64 _ (IntKind.u64.wrap (((ku (b c) k:Nat):Int)-1))=_;rw[show ((ku (b c) k:Nat):Int)-1=((ku (b c) k-1:Nat):Int) by omega,Q.j7 wO,Q.MK wO wO];rfl
   rw[e1,e2,aI,aI,e3,Ir,Ir] at T
   have e4:bm .i64 (R (2*mN (ku (b c) k))) (ofNat 1)=R (2*mN (ku (b c) k))+1:=OZ (by show _≤R (2*mN (ku (b c) k))+1;omega) (by show R (2*mN (ku (b c) k))+1≤_;omega)
   rw[e4] at T
   have e5:vA (R (2*c)) (R (2*mN (ku (b c) k))+1)=max (R (2*c)) (R (2*mN (ku (b c) k))+1):=by rw[sb];omega
   rw[e5] at T
   have e6:FN R (2*c) (max (R (2*c)) (R (2*mN (ku (b c) k))+1)) (2*c+1)=R (2*c+1):=by unfold FN;rw[if_neg wO]
   have e7:aV .i64 (FN R (2*c) (max (R (2*c)) (R (2*mN (ku (b c) k))+1)) (2*c+1)) (ofNat 1)=FN R (2*c) (max (R (2*c)) (R (2*mN (ku (b c) k))+1)) (2*c+1)-1:=by
    rw[e6];exact QI (by show _≤R (2*c+1)-1;omega) (by show R (2*c+1)-1≤_;omega)
   rw[e7] at T
   have e8:∀ x y:Int,zw x y=min x y:=fun x y=>by rw[sc];omega
   rw[e8] at T
   have e9:oL r (((na 10 (b c)).take (k+1)).map fun a=>(a,c))=Cr R (mN (ku (b c) k)) c:=by
    rw[htake,List.map_append,D3,hR,hlw];rfl
   refine aw T (bQ _ _ (GM wO)) (ai _ _) (aj _ _) ?_
   have hi1:cQ (c:Int) 10=true:=by simp (disch:=omega) only[nV,nW];omega
   have hi2:cQ (ofNat (mN ((ku (b c) k:Nat):Int).toNat)) 10=true:=by
    rw[Int.toNat_natCast];simp (disch:=omega) only[nV,nW];rw[hlw];omega
   have h00:cg 0 0=true:=by simp (disch:=omega) only[nV,nW]
   have hl1:cK (2*c) 20=true:=by simp (disch:=omega) only[nV,nW];omega
   have hl2:cK (2*mN (ku (b c) k)) 20=true:=by simp (disch:=omega) only[nV,nW];rw[hlw];omega
   have hl3:cK (2*mN (ku (b c) k)+1) 20=true:=by simp (disch:=omega) only[nV,nW];rw[hlw];omega
   have hl4:cK (2*c+1) 20=true:=by simp (disch:=omega) only[nV,nW];omega
   have hle:cr (eU 0 0) (eU 0 1)=true:=by simp (disch:=omega) only[nV,nW];omega
   refine Tr.af (fun h0=>?_) (fun h0=>?_)
   · refine Tr.al ⟨show (0:Int)≤((ku (b c) k:Nat):Int) by omega,show ((ku (b c) k:Nat):Int)<18446744073709551616 by omega⟩ ?_
     refine Tr.ab hi1 (Tr.ab h00 (Tr.ab hl1 (Tr.ab hi2 (Tr.ab h00 (Tr.ab hl2 (Tr.ab hi1 (Tr.ab h00 (Tr.ab hl1 (Tr.ab hle (Tr.ab hi2 (Tr.ab h00 (Tr.ab hl3 (Tr.ab hi1 (Tr.ab h00 (Tr.ab hl4 (Tr.ab hi2 (Tr.ab h00 (Tr.ab hl3 (Tr.ab hle ?_)))))))))))))))))))
     refine Tr.ag ⟨rfl,?_⟩
     rw[e9];rfl
   · rw[aH,bg] at h0
     exfalso
     have:(((ku (b c) k:Nat):Int) == 0)=true:=by simpa using h0
     rw[beq_iff_eq] at this
     omega
 · obtain ⟨x,h1,rfl⟩:=aw (Q:=fun x=>x=(.exit 4,BC (shV O U Z V J W (bI b)) U t (bI b) (c:Int) 0++[(30,.bool false)],fD [df (oL r (((na 10 (b c)).take (na 10 (b c)).length).map fun a=>(a,c))),df q]::H)) (Q0 (n+1) O U Z V J W (bI b) H (fun x=>ofNat (mN x.toNat)) (oL r (((na 10 (b c)).take (na 10 (b c)).length).map fun a=>(a,c))) q t (c:Int) ((ku (b c) (na 10 (b c)).length:Nat):Int)) (bQ _ _ (GM wO)) (ai _ _) (aj _ _) (by
    rw[m3];refine Tr.af (fun h0=>?_) (fun h0=>Tr.ag rfl);rw[aH,bg] at h0;exact absurd h0 (by decide))
   exact h1
end
end Go.Eng
end
