/- Gall: back, by the reference: whole. -/
import Derived.Test.YtgphpjdchnfjlaaDoorV4Ga8x4
import Derived.Test.YtgphpjdchnfjlaaDoorV4EngRoSx4
set_option linter.unusedVariables false
set_option linter.unusedSimpArgs false
set_option maxRecDepth 100000
section
namespace Go.Eng
open Go.Proofs Go.Eng.Gall
theorem Lw (p:Nat→Bool) (n:Nat):dx p n=(List.range n).any p:=by
 rw[Bool.eq_iff_iff,cP,List.any_eq_true];constructor
 · rintro ⟨i,h1,h2⟩;exact ⟨i,List.mem_range.2 h1,h2⟩
 · rintro ⟨i,h1,h2⟩;exact ⟨i,List.mem_range.1 h1,h2⟩
section
variable (n:Nat) (dr:Int) (lc:Nat) (zc:Nat→Int) (lb:Nat) (zb:Nat→Int) (b:Nat→Nat) (H:aa)
theorem Wn:dj (fun c=>decide (c<0))=fun _=>Int.ofNat 0:=by funext j;unfold dj;simp
theorem Ix (j:Nat):eg (dj (fun c=>decide (c<j))) j (Int.ofNat 1)=dj (fun c=>decide (c<j+1)):=by
 rw[jH];funext c;unfold dj;by_cases e:c=j
 · subst e;rw[if_pos rfl,if_pos (by simp)];rfl
 · rw[if_neg e];by_cases h:c<j
   · rw[if_pos (decide_eq_true h),if_pos (decide_eq_true (by omega))]
   · rw[if_neg (by simpa using h),if_neg (by simp;omega)]
theorem Q2 (hl:lc≤10):exec (bP (n+1) 64 66) (.block 0 (.loop (part Tryd.f64 [1,1,1,0,1,0,0]))) (m8 1 lc (LL lc) 5 (Int.ofNat 0)) (eQ dr lc zc lb zb [cA (LL lc) (dj (fun c=>decide (c<0)))]::H) =
 some (.normal,m8 1 lc (LL lc) 5 (Int.ofNat lc)++[(18,.bool false)],eQ dr lc zc lb zb [cA (LL lc) (dj (fun c=>decide (c<lc)))]::H):=by
 have eL:=BL lc
 refine jM (n:=n+1) (f:=64) (nt:=66) (c:=part Tryd.f64 [1,1,1,0,1,0,0]) 0 (fun j=>m8 1 lc (LL lc) 5 (j:Int)) (fun j=>eQ dr lc zc lb zb [cA (LL lc) (dj (fun c=>decide (c<j)))]::H) lc (_,_) (by omega) (fun j hj=>?_) ?_
 · have ej:a6 .i64 (j:Int) (Int.ofNat 1)=((j+1:Nat):Int):=eN (by omega)
   have T:=O3 (n+1) dr lc (LL lc) zc lb zb H (dj (fun c=>decide (c<j))) (j:Int)
   rw[Aj,ej,Ix] at T
   refine aB T (aw _) (ai _ _) (aj _ _) ?_
   refine Tr.af (fun h0=>?_) wJ
   exact Tr.ae (by rw[eL];simp (disch:=omega) only[nV,nW];omega) (Tr.ae wG (Tr.ae (by rw[eL];simp (disch:=omega) only[nV,nW];omega) (Tr.ah ⟨rfl,rfl⟩)))
 · obtain ⟨x,h1,rfl⟩:=aB (Q:=fun x=>x=(.exit 0,m8 1 lc (LL lc) 5 (Int.ofNat lc)++[(18,.bool false)],eQ dr lc zc lb zb [cA (LL lc) (dj (fun c=>decide (c<lc)))]::H)) (O3 (n+1) dr lc (LL lc) zc lb zb H (dj (fun c=>decide (c<lc))) (Int.ofNat lc)) (aw _) (ai _ _) (aj _ _) (by
    refine Tr.af wJ (fun h0=>Tr.ah rfl))
   exact h1
noncomputable def TL (lc:Nat):Nat→aD
 | 0=>m8 1 lc (LL lc) 6 (Int.ofNat 0)
 | t+1=>m8 2 lc (LL lc) 6 ((t+1:Nat):Int)
noncomputable def NY:Nat→aa
 | 0=>eQ dr lc zc lb zb [cA (LL lc) (dj (bO lc b 0))]::H
 | t+1=>eQ dr lc zc lb zb [cA (LL lc) (dj (bO lc b 0)),cA (LL lc) (dj (bO lc b (t+1)))]::H
theorem Q0 (hl:lc≤10) (h1:1≤lc) (hb:lb≤1000) (hB:b=fun c=>gY zb c lb) (hp:iq lc lb zb):exec (bP (n+1) 64 66) (.block 2 (.loop (part Tryd.f64 [1,1,1,1,0,1,0,0]))) (TL lc 0) (NY dr lc zc lb zb b H 0) =
 some (.normal,m8 2 lc (LL lc) 6 (Int.ofNat lc)++[(26,.bool false)],NY dr lc zc lb zb b H lc):=by
 have mk8:CC (Int.ofNat lc) (Int.ofNat lc) 8=true:=by simp (disch:=omega) only[nV,nW];omega
 refine jM (n:=n+1) (f:=64) (nt:=66) (c:=part Tryd.f64 [1,1,1,1,0,1,0,0]) 2 (TL lc) (NY dr lc zc lb zb b H) lc (_,_) (by omega) (fun t ht=>?_) ?_
 · have ec:a6 .i64 (t:Int) (Int.ofNat 1)=((t+1:Nat):Int):=eN (by omega)
   cases t with
   | zero =>
     have hx:=Wg n dr lc zc lb zb b H 0 hl hb (((0:Nat)):Int)
     rw[JU,Gh lc lb zb hB hp] at hx
     have T:=O7 (n+1) dr lc zc lb zb H (dj (bO lc b 0)) (dj (bO lc b (0+1))) (((0:Nat)):Int)
     rw[ec] at T
     refine aB T (aw _) (a8 (ai _ _) Jz (fun x h=>by rw[← Tr.ab h];simp only[eC.st,aP];exact hx)) (aj _ _) ?_
     exact Tr.af (fun h0=>Tr.ae mk8 (Tr.al ⟨rfl,rfl⟩ (Tr.ah ⟨rfl,rfl⟩))) wJ
   | succ t =>
     have hx:=Wh n dr lc zc lb zb b H (dj (bO lc b 0)) (t+1) hl hb (((t+1:Nat)):Int)
     rw[JU,Gh lc lb zb hB hp] at hx
     have T:=O8 (n+1) dr lc zc lb zb H (dj (bO lc b 0)) (dj (bO lc b (t+1))) (dj (bO lc b (t+1+1))) (((t+1:Nat)):Int)
     rw[ec] at T
     refine aB T (aw _) (a8 (ai _ _) Jz (fun x h=>by rw[← Tr.ab h];simp only[eC.st,aP];exact hx)) (aj _ _) ?_
     exact Tr.af (fun h0=>Tr.ae mk8 (Tr.al ⟨rfl,rfl⟩ (Tr.ah ⟨rfl,rfl⟩))) wJ
 · obtain ⟨m,rfl⟩:∃ m,lc=m+1:=⟨lc-1,by omega⟩
   obtain ⟨x,h1,rfl⟩:=aB (Q:=fun x=>x=(.exit 2,m8 2 (m+1) (LL (m+1)) 6 (Int.ofNat (m+1))++[(26,.bool false)],NY dr (m+1) zc lb zb b H (m+1))) (MK (n+1) dr (m+1) (LL (m+1)) zc lb zb H (dj (bO (m+1) b 0)) (dj (bO (m+1) b (m+1))) (Int.ofNat (m+1))) (aw _) (cD (ai _ _) 4) (aj _ _) (by
    refine Tr.af wJ (fun h0=>Tr.ah rfl))
   exact h1
theorem Q1 (hl:lc≤10) (g:Nat→Int) (p:Nat→Bool):exec (bP (n+1) 64 66) (.block 8 (.loop (part Tryd.f64 [1,1,1,1,1,0,1,0,0]))) (AQ lc (LL lc) (Int.ofNat 0)) (eQ dr lc zc lb zb [cA (LL lc) g,cA (LL lc) (dj p)]::H) =
 some (cond (dx p lc) (.ret,[(2,.bool true)],eQ dr lc zc lb zb [cA (LL lc) g,cA (LL lc) (dj p)]::H) (.normal,AQ lc (LL lc) (Int.ofNat lc)++[(58,.bool false)],eQ dr lc zc lb zb [cA (LL lc) g,cA (LL lc) (dj p)]::H)):=by
 have eL:=BL lc
 refine iu (n:=n+1) (f:=64) (nt:=66) (c:=part Tryd.f64 [1,1,1,1,1,0,1,0,0]) 8 (fun j=>AQ lc (LL lc) (j:Int)) (fun _=>eQ dr lc zc lb zb [cA (LL lc) g,cA (LL lc) (dj p)]::H) lc p (fun j=>([(2,.bool true)],eQ dr lc zc lb zb [cA (LL lc) g,cA (LL lc) (dj p)]::H)) (_,_) (by omega) (fun j hj=>?_) ?_
 · have ej:a6 .i64 (j:Int) (Int.ofNat 1)=((j+1:Nat):Int):=eN (by omega)
   have T:=O6 (n+1) dr lc (LL lc) zc lb zb H g (dj p) (j:Int)
   rw[Aj,ej,A9] at T
   refine aB T (aw _) (ai _ _) (aj _ _) ?_
   refine Tr.af (fun h0=>?_) wJ
   refine Tr.ae (by rw[eL];simp (disch:=omega) only[nV,nW];omega) (Tr.ae wG (Tr.ae (by rw[eL];simp (disch:=omega) only[nV,nW];omega) (Tr.af (fun q=>Tr.ah ?_) (fun q=>Tr.ah ?_))))
   · rw[if_pos q];rfl
   · rw[if_neg (by rw[q];decide)];exact ⟨rfl,rfl⟩
 · obtain ⟨x,h1,rfl⟩:=aB (Q:=fun x=>x=(.exit 8,AQ lc (LL lc) (Int.ofNat lc)++[(58,.bool false)],eQ dr lc zc lb zb [cA (LL lc) g,cA (LL lc) (dj p)]::H)) (O6 (n+1) dr lc (LL lc) zc lb zb H g (dj p) (Int.ofNat lc)) (aw _) (ai _ _) (aj _ _) (by
    refine Tr.af wJ (fun h0=>Tr.ah rfl))
   exact h1
theorem Us (hl:lc≤10) (h1:1≤lc) (hb:lb≤1000) (hp:iq lc lb zb):cd (n+2) (.fn 64) [bG dr lc zc lb zb] H=some (.bool (lK lc (fun c=>gY zb c lb)),H):=by
 have e1:=Q2 n dr lc zc lb zb H hl;rw[Wn] at e1;have e2:=Q0 n dr lc zc lb zb (fun c=>gY zb c lb) H hl h1 hb rfl hp;have e3:=Q1 n dr lc zc lb zb H hl (dj (bO lc (fun c=>gY zb c lb) 0)) (bO lc (fun c=>gY zb c lb) lc);have hT:NY dr lc zc lb zb (fun c=>gY zb c lb) H lc=eQ dr lc zc lb zb [cA (LL lc) (dj (bO lc (fun c=>gY zb c lb) 0)),cA (LL lc) (dj (bO lc (fun c=>gY zb c lb) lc))]::H:=by
  obtain ⟨m,rfl⟩:∃ m,lc=m+1:=⟨lc-1,by omega⟩
  rfl
 rw[hT] at e2;refine bB (n:=n+1) Tryd.func64 rfl rfl rfl (u64 (n+1) dr lc zc lb zb H (dj (bO lc (fun c=>gY zb c lb) 0)) (dj (bO lc (fun c=>gY zb c lb) 0)) (dj (bO lc (fun c=>gY zb c lb) lc)) (dx (bO lc (fun c=>gY zb c lb) lc) lc)) (aw _) (a8 (a8 (a8 (ai _ _) Nn (fun x h=>by rw[← Tr.ab h];simp only[eC.st,aP];exact e1)) No (fun x h=>by rw[← Tr.ab h];simp only[eC.st,aP];exact e2)) Np (fun x h=>dq h e3)) (aj _ _) ?_;have mk8:CC (Int.ofNat lc) (Int.ofNat lc) 8=true:=by simp (disch:=omega) only[nV,nW];omega
 have eb:dx (bO lc (fun c=>gY zb c lb) lc) lc=lK lc (fun c=>gY zb c lb):=Lw _ _;rw[eb];refine Tr.ae mk8 (Tr.al ⟨rfl,rfl⟩ (Tr.al ⟨rfl,rfl⟩ (Tr.al ⟨rfl,rfl⟩ (Tr.af (fun q=>Tr.ah ⟨?_,rfl⟩) (fun q=>Tr.ah ⟨?_,rfl⟩)))))
 · rw[q]
 · rw[q]
end
end Go.Eng
end
section
namespace Go.Eng
open Go.Proofs
noncomputable def nH (s:Nat) (j:Int):aD:=[(1,.ptr 0 0 0 0),(s,.int .i64 j)]
noncomputable def AJ (j k:Int):aD:=[(1,.ptr 0 0 0 0),(5,.int .i64 j),(6,.ptr 0 1 0 0),(7,.int .i64 k)]
noncomputable def Ee (a b:Int):Nat×an:=(0,.row (.I .i64 [a,b]))
theorem OU (n:Nat) (dr:Int) (lc:Nat) (zc:Nat→Int) (lb:Nat) (zb:Nat→Int) (H:aa) (j:Int):aJ (bP n 23 125) (il aH n 0) aS aR (part Tryd.f23 [1,1,1,0,1,0,0]) (hints (nH 3 j)) (gi dr lc zc lb zb::H) =
 (fun (Z0:bF)=>Tr.ite (bH j (Int.ofNat lc)) (Tr.req (bR j lc) (Tr.req (cH (av 0 j 4) (bU lc 4)) (Tr.req (cH (aq (av 0 j 4) 1) (bU lc 4)) (Tr.req (cH (aq (av 0 j 4) 2) (bU lc 4)) (Tr.req (cH (aq (av 0 j 4) 3) (bU lc 4)) (Tr.ite (bH (zc (av 0 j 4)) (Int.ofNat 0)) (Tr.ok (Ex.ret,[(2,iI 3,some 1)],Z0::H)) (Tr.ite (bH (zc (aq (av 0 j 4) 1)) (zc (av 0 j 4))) (Tr.ok (Ex.ret,[(2,iI 3,some 1)],Z0::H)) (Tr.ite (bH (Int.ofNat 1000) (zc (aq (av 0 j 4) 1))) (Tr.ok (Ex.ret,[(2,iI 3,some 1)],Z0::H)) (Tr.ite (bH (zc (aq (av 0 j 4) 2)) (Int.ofNat 0)) (Tr.ok (Ex.ret,[(2,iI 3,some 1)],Z0::H)) (Tr.ite (bH (zc (aq (av 0 j 4) 3)) (zc (aq (av 0 j 4) 2))) (Tr.ok (Ex.ret,[(2,iI 3,some 1)],Z0::H)) (Tr.ite (bH (Int.ofNat 1000) (zc (aq (av 0 j 4) 3))) (Tr.ok (Ex.ret,[(2,iI 3,some 1)],Z0::H)) (Tr.ok (Ex.normal,[(1,AV.ptr 0 0 0 0,none),(3,AV.int .i64 (a6 .i64 j (Int.ofNat 1)),none)],Z0::H))))))))))))) (Tr.ok (Ex.exit 0,[(1,AV.ptr 0 0 0 0,none),(3,AV.int .i64 j,none),(36,AV.bool false,some 1)],(bC [(0,eV dr lc zc lb zb)])::H))) (bC [(0,eV dr lc zc lb zb),(0,an.row (Row.I .i64 [zc (av 0 j 4),zc (aq (av 0 j 4) 1),zc (aq (av 0 j 4) 2),zc (aq (av 0 j 4) 3)]))]):=by kernel_rfl
theorem OW (n:Nat) (dr:Int) (lc:Nat) (zc:Nat→Int) (lb:Nat) (zb:Nat→Int) (H:aa) (a b j k:Int):aJ (bP n 23 125) (il aH n 0) aS aR (part Tryd.f23 [1,1,1,1,0,1,0,0,1,0,0,1,1,1,0,0]) (hints (AJ j k)) (eQ dr lc zc lb zb [Ee a b]::H) =
 (fun (Z0:bF)=>Tr.ite (bH k j) (Tr.req (bR k lb) (Tr.req (cH (av 0 k 2) (bU lb 2)) (Tr.req (cH (aq (av 0 k 2) 1) (bU lb 2)) (Tr.ite (bJ (bw (zb (av 0 k 2)) a) (bw (zb (aq (av 0 k 2) 1)) b)) (Tr.ok (Ex.ret,[(2,iI 2,some 1)],Z0::H)) (Tr.ok (Ex.normal,[(1,AV.ptr 0 0 0 0,none),(5,AV.int .i64 j,none),(6,AV.ptr 0 1 0 0,none),(7,AV.int .i64 (a6 .i64 k (Int.ofNat 1)),none)],Z0::H)))))) (Tr.ok (Ex.exit 4,[(1,AV.ptr 0 0 0 0,none),(5,AV.int .i64 j,none),(6,AV.ptr 0 1 0 0,none),(7,AV.int .i64 k,none),(113,AV.bool false,some 1)],Z0::H))) (bC [(0,eV dr lc zc lb zb),(0,an.row (Row.I .i64 [a,b]))]):=by kernel_rfl
theorem Se (n:Nat) (dr:Int) (lc:Nat) (zc:Nat→Int) (lb:Nat) (zb:Nat→Int) (H:aa) (j:Int) (e:Bool):aJ (bP (n+1) 23 125) (il aH n 1) (cM aS 4 (AJ j (Int.ofNat 0)) (eQ dr lc zc lb zb [Ee (zb (av 0 j 2)) (zb (aq (av 0 j 2) 1))]::H) (.ite e (.ok (.ret,[(2,.int .i64 2,none)],eQ dr lc zc lb zb [Ee (zb (av 0 j 2)) (zb (aq (av 0 j 2) 1))]::H)) (.ok (.normal,hints (AJ j j++[(113,.bool false)]),eQ dr lc zc lb zb [Ee (zb (av 0 j 2)) (zb (aq (av 0 j 2) 1))]::H)))) aR (part Tryd.f23 [1,1,1,1,0,1,0,0]) (hints (nH 5 j)) (gi dr lc zc lb zb::H) =
 (fun (Z0:bF)=>Tr.ite (bH j (Int.ofNat lb)) (Tr.req (bR j lb) (Tr.req (cH (av 0 j 2) (bU lb 2)) (Tr.req (cH (aq (av 0 j 2) 1) (bU lb 2)) (Tr.req (bR (Int.ofNat 0) 2) (Tr.ite (dJ (Int.ofNat 0) (zb (av 0 j 2))) (Tr.ite (aE (bH (zb (av 0 j 2)) (Int.ofNat lc))) (Tr.ok (Ex.ret,[(2,iI 2,some 1)],Z0::H)) (Tr.req (bR (Int.ofNat 1) 2) (Tr.ite (dJ (Int.ofNat 0) (zb (aq (av 0 j 2) 1))) (Tr.ite (aE (bH (zb (aq (av 0 j 2) 1)) (Int.ofNat lc))) (Tr.ok (Ex.ret,[(2,iI 2,some 1)],Z0::H)) (Tr.req (bR (Int.ofNat 0) 2) (Tr.req (bR (Int.ofNat 1) 2) (Tr.ite (bw (zb (av 0 j 2)) (zb (aq (av 0 j 2) 1))) (Tr.ok (Ex.ret,[(2,iI 2,some 1)],Z0::H)) (Tr.reqP ([(1,AV.ptr 0 0 0 0),(5,AV.int .i64 j),(6,AV.ptr 0 1 0 0),(7,iI 0)]=[(1,AV.ptr 0 0 0 0),(5,AV.int .i64 j),(6,AV.ptr 0 1 0 0),(7,iI 0)]∧Z0::H=Z0::H) (Tr.ite e (Tr.ok (Ex.ret,[(2,iI 2,none)],Z0::H)) (Tr.ok (Ex.normal,[(1,AV.ptr 0 0 0 0,none),(5,AV.int .i64 (a6 .i64 j (Int.ofNat 1)),none)],Z0::H)))))))) (Tr.ok (Ex.ret,[(2,iI 2,some 1)],Z0::H))))) (Tr.ok (Ex.ret,[(2,iI 2,some 1)],Z0::H))))))) (Tr.ok (Ex.exit 2,[(1,AV.ptr 0 0 0 0,none),(5,AV.int .i64 j,none),(84,AV.bool false,some 1)],(bC [(0,eV dr lc zc lb zb)])::H))) (bC [(0,eV dr lc zc lb zb),(0,an.row (Row.I .i64 [zb (av 0 j 2),zb (aq (av 0 j 2) 1)]))]):=by kernel_rfl
theorem OV (n:Nat) (dr:Int) (lc:Nat) (zc:Nat→Int) (lb:Nat) (zb:Nat→Int) (H:aa) (j:Int):aJ (bP (n+1) 23 125) (il aH n 1) (fC aS 4) aR (part Tryd.f23 [1,1,1,1,0,1,0,0]) (hints (nH 5 j)) (gi dr lc zc lb zb::H) =
 (fun (Z0:bF)=>Tr.ite (bH j (Int.ofNat lb)) (Tr.req (bR j lb) (Tr.req (cH (av 0 j 2) (bU lb 2)) (Tr.req (cH (aq (av 0 j 2) 1) (bU lb 2)) (Tr.req (bR (Int.ofNat 0) 2) (Tr.ite (dJ (Int.ofNat 0) (zb (av 0 j 2))) (Tr.ite (aE (bH (zb (av 0 j 2)) (Int.ofNat lc))) (Tr.ok (Ex.ret,[(2,iI 2,some 1)],Z0::H)) (Tr.req (bR (Int.ofNat 1) 2) (Tr.ite (dJ (Int.ofNat 0) (zb (aq (av 0 j 2) 1))) (Tr.ite (aE (bH (zb (aq (av 0 j 2) 1)) (Int.ofNat lc))) (Tr.ok (Ex.ret,[(2,iI 2,some 1)],Z0::H)) (Tr.req (bR (Int.ofNat 0) 2) (Tr.req (bR (Int.ofNat 1) 2) (Tr.ite (bw (zb (av 0 j 2)) (zb (aq (av 0 j 2) 1))) (Tr.ok (Ex.ret,[(2,iI 2,some 1)],Z0::H)) Tr.bad)))) (Tr.ok (Ex.ret,[(2,iI 2,some 1)],Z0::H))))) (Tr.ok (Ex.ret,[(2,iI 2,some 1)],Z0::H))))))) (Tr.ok (Ex.exit 2,[(1,AV.ptr 0 0 0 0,none),(5,AV.int .i64 j,none),(84,AV.bool false,some 1)],(bC [(0,eV dr lc zc lb zb)])::H))) (bC [(0,eV dr lc zc lb zb),(0,an.row (Row.I .i64 [zb (av 0 j 2),zb (aq (av 0 j 2) 1)]))]):=by kernel_rfl
theorem WO (n:Nat) (dr:Int) (lc:Nat) (zc:Nat→Int) (lb:Nat) (zb:Nat→Int) (H:aa) (e1 e2 e3:Bool) (l1 l2:bF) (C:List AV→Prop):bk Tryd.prog (cd n) 100000 23 Tryd.f23 (KtG.kt 23) (il (jV aH 64 (gB e3 C)) n 0) (cM (cM aS 0 (nH 3 (Int.ofNat 0)) (gi dr lc zc lb zb::H) (.ite e1 (.ok (.ret,[(2,.int .i64 3,none)],l1::H)) (.ok (.normal,hints (nH 3 (Int.ofNat lc)++[(36,.bool false)]),gi dr lc zc lb zb::H)))) 2 (nH 5 (Int.ofNat 0)) (gi dr lc zc lb zb::H) (.ite e2 (.ok (.ret,[(2,.int .i64 2,none)],l2::H)) (.ok (.normal,hints (nH 5 (Int.ofNat lb)++[(84,.bool false)]),gi dr lc zc lb zb::H)))) aR [(bG dr lc zc lb zb,none)] H =
 (fun (Z0:bF)=>Tr.ite (bH (Int.ofNat lc) (Int.ofNat 1)) (Tr.ok ((iI 6,some 1),H)) (Tr.ite (bH (Int.ofNat 10) (Int.ofNat lc)) (Tr.ok ((iI 6,some 1),H)) (Tr.ite (bH (Int.ofNat 40) (Int.ofNat lb)) (Tr.ok ((iI 6,some 1),H)) (Tr.ite (bH dr (Int.ofNat 1)) (Tr.ok ((iI 3,some 1),H)) (Tr.ite (bH (Int.ofNat 100) dr) (Tr.ok ((iI 3,some 1),H)) (Tr.reqP ([(1,AV.ptr 0 0 0 0),(3,iI 0)]=[(1,AV.ptr 0 0 0 0),(3,iI 0)]∧Z0::H=Z0::H) (Tr.ite e1 (Tr.ok ((iI 3,none),H)) (Tr.reqP ([(1,AV.ptr 0 0 0 0),(5,iI 0)]=[(1,AV.ptr 0 0 0 0),(5,iI 0)]∧Z0::H=Z0::H) (Tr.ite e2 (Tr.ok ((iI 2,none),H)) (Tr.reqP (C [bG dr lc zc lb zb]) (Tr.ite e3 (Tr.ok ((iI 16,some 1),H)) (Tr.ok ((iI 0,some 1),H))))))))))))) (bC [(0,eV dr lc zc lb zb)]):=by kernel_rfl
theorem Sx (n:Nat) (dr:Int) (lc:Nat) (zc:Nat→Int) (lb:Nat) (zb:Nat→Int) (H:aa):bk Tryd.prog (cd n) 100000 23 Tryd.f23 (KtG.kt 23) (il aH n 0) (fC aS 0) aR [(bG dr lc zc lb zb,none)] H =
 Tr.ite (bH (Int.ofNat lc) (Int.ofNat 1)) (Tr.ok ((iI 6,some 1),H)) (Tr.ite (bH (Int.ofNat 10) (Int.ofNat lc)) (Tr.ok ((iI 6,some 1),H)) (Tr.ite (bH (Int.ofNat 40) (Int.ofNat lb)) (Tr.ok ((iI 6,some 1),H)) (Tr.ite (bH dr (Int.ofNat 1)) (Tr.ok ((iI 3,some 1),H)) (Tr.ite (bH (Int.ofNat 100) dr) (Tr.ok ((iI 3,some 1),H)) Tr.bad)))):=by kernel_rfl
end Go.Eng
end
section
namespace Go.Eng
open Go.Proofs Go.Eng.Gall
theorem Nh:∀ b,(0,b) ∈ aL (aV Tryd.f23)→b=.loop (part Tryd.f23 [1,1,1,0,1,0,0]):=ey (by kernel_rfl)
theorem Ni:∀ b,(2,b) ∈ aL (aV Tryd.f23)→b=.loop (part Tryd.f23 [1,1,1,1,0,1,0,0]):=ey (by kernel_rfl)
theorem Nj:∀ b,(4,b) ∈ aL (part Tryd.f23 [1,1,1,1,0,1,0,0])→b=.loop (part Tryd.f23 [1,1,1,1,0,1,0,0,1,0,0,1,1,1,0,0]):=ey (by kernel_rfl)
section
variable (n:Nat) (dr:Int) (lc:Nat) (zc:Nat→Int) (lb:Nat) (zb:Nat→Int) (H:aa)
noncomputable def L3 (j:Nat):bF:=eQ dr lc zc lb zb [(0,.row (.I .i64 [zc (j*4),zc (j*4+1),zc (j*4+2),zc (j*4+3)]))]
theorem Q3 (hl:lc≤1000):exec (bP n 23 125) (.block 0 (.loop (part Tryd.f23 [1,1,1,0,1,0,0]))) (nH 3 (Int.ofNat 0)) (gi dr lc zc lb zb::H) =
 some (cond (dx (jn zc) lc) (.ret,[(2,.int .i64 3)],L3 dr lc zc lb zb (fN (jn zc) lc 0)::H) (.normal,nH 3 (Int.ofNat lc)++[(36,.bool false)],gi dr lc zc lb zb::H)):=by
 refine iu (n:=n) (f:=23) (nt:=125) (c:=part Tryd.f23 [1,1,1,0,1,0,0]) 0 (fun j=>nH 3 (j:Int)) (fun _=>gi dr lc zc lb zb::H) lc (jn zc) (fun j=>([(2,.int .i64 3)],L3 dr lc zc lb zb j::H)) (_,_) (by omega) (fun j hj=>?_) ?_
 · have ej:a6 .i64 (j:Int) (Int.ofNat 1)=((j+1:Nat):Int):=eN (by omega)
   have ei:av 0 (j:Int) 4=j*4:=by rw[bE];omega
   have hs:jn zc j=!(decide (0≤zc (j*4)) && (decide (zc (j*4)≤zc (j*4+1)) && (decide (zc (j*4+1)≤1000) && (decide (0≤zc (j*4+2)) && (decide (zc (j*4+2)≤zc (j*4+3)) && decide (zc (j*4+3)≤1000)))))):=rfl
   have T:=OU n dr lc zc lb zb H (j:Int)
   rw[ei,aK,aK,aK,ej] at T
   refine aB T (aw _) (ai _ _) (aj _ _) ?_
   refine Tr.af (fun h0=>?_) wJ
   refine Tr.ae wG (Tr.ae wG (Tr.ae wG (Tr.ae wG (Tr.ae wG ?_))))
   have yes:(¬ (0≤zc (j*4)∧zc (j*4)≤zc (j*4+1)∧zc (j*4+1)≤1000∧0≤zc (j*4+2)∧zc (j*4+2)≤zc (j*4+3)∧zc (j*4+3)≤1000))→jn zc j=true:=fun h=>by rw[hs];simp;omega
   refine Tr.af (fun q1=>Tr.ah ?_) (fun q1=>Tr.af (fun q2=>Tr.ah ?_) (fun q2=>Tr.af (fun q3=>Tr.ah ?_) (fun q3=>Tr.af (fun q4=>Tr.ah ?_) (fun q4=>Tr.af (fun q5=>Tr.ah ?_) (fun q5=>Tr.af (fun q6=>Tr.ah ?_) (fun q6=>Tr.ah ?_))))))
   · rw[bK,decide_eq_true_iff] at q1
     rw[if_pos (yes (by have:zc (j*4)<0:=q1;omega))];rfl
   · rw[bK,decide_eq_true_iff] at q2
     rw[if_pos (yes (by omega))];rfl
   · rw[bK,decide_eq_true_iff] at q3
     rw[if_pos (yes (by have:1000<zc (j*4+1):=q3;omega))];rfl
   · rw[bK,decide_eq_true_iff] at q4
     rw[if_pos (yes (by have:zc (j*4+2)<0:=q4;omega))];rfl
   · rw[bK,decide_eq_true_iff] at q5
     rw[if_pos (yes (by omega))];rfl
   · rw[bK,decide_eq_true_iff] at q6
     rw[if_pos (yes (by have:1000<zc (j*4+3):=q6;omega))];rfl
   · rw[bK,decide_eq_false_iff_not] at q1 q2 q3 q4 q5 q6
     have q1:¬ zc (j*4)<0:=q1
     have q3:¬ 1000<zc (j*4+1):=q3
     have q4:¬ zc (j*4+2)<0:=q4
     have q6:¬ 1000<zc (j*4+3):=q6
     rw[if_neg (by rw[hs];simp;omega)]
     exact ⟨rfl,rfl⟩
 · obtain ⟨x,h1,rfl⟩:=aB (Q:=fun x=>x=(.exit 0,nH 3 (Int.ofNat lc)++[(36,.bool false)],gi dr lc zc lb zb::H)) (OU n dr lc zc lb zb H (Int.ofNat lc)) (aw _) (ai _ _) (aj _ _) (by
    refine Tr.af wJ (fun h0=>Tr.ah rfl))
   exact h1
theorem Q6 (a b:Int) (j:Nat) (hj:j≤lb) (hb:lb≤1000):exec (bP n 23 125) (.block 4 (.loop (part Tryd.f23 [1,1,1,1,0,1,0,0,1,0,0,1,1,1,0,0]))) (AJ (j:Int) (Int.ofNat 0)) (eQ dr lc zc lb zb [Ee a b]::H) =
 some (cond (dx (gZ zb a b) j) (.ret,[(2,.int .i64 2)],eQ dr lc zc lb zb [Ee a b]::H) (.normal,AJ (j:Int) (j:Int)++[(113,.bool false)],eQ dr lc zc lb zb [Ee a b]::H)):=by
 refine iu (n:=n) (f:=23) (nt:=125) (c:=part Tryd.f23 [1,1,1,1,0,1,0,0,1,0,0,1,1,1,0,0]) 4 (fun k=>AJ (j:Int) (k:Int)) (fun _=>eQ dr lc zc lb zb [Ee a b]::H) j (gZ zb a b) (fun k=>([(2,.int .i64 2)],eQ dr lc zc lb zb [Ee a b]::H)) (_,_) (by omega) (fun k hk=>?_) ?_
 · have ek:a6 .i64 (k:Int) (Int.ofNat 1)=((k+1:Nat):Int):=eN (by omega)
   have ei:av 0 (k:Int) 2=k*2:=by rw[bE];omega
   have hp:bJ (bw (zb (k*2)) a) (bw (zb (k*2+1)) b)=gZ zb a b k:=by
    rw[cg,bm,bm];unfold gZ;rw[Bool.eq_iff_iff];simp;constructor<;>(rintro ⟨h1,h2⟩;exact ⟨h1.symm,h2.symm⟩)
   have T:=OW n dr lc zc lb zb H a b (j:Int) (k:Int)
   rw[ei,aK,ek,hp] at T
   refine aB T (aw _) (ai _ _) (aj _ _) ?_
   refine Tr.af (fun h0=>?_) wJ
   refine Tr.ae wG (Tr.ae wG (Tr.ae wG (Tr.af (fun q=>Tr.ah ?_) (fun q=>Tr.ah ?_))))
   · rw[if_pos q];rfl
   · rw[if_neg (by rw[q];decide)];exact ⟨rfl,rfl⟩
 · obtain ⟨x,h1,rfl⟩:=aB (Q:=fun x=>x=(.exit 4,AJ (j:Int) (j:Int)++[(113,.bool false)],eQ dr lc zc lb zb [Ee a b]::H)) (OW n dr lc zc lb zb H a b (j:Int) (j:Int)) (aw _) (ai _ _) (aj _ _) (by
    refine Tr.af wJ (fun h0=>Tr.ah rfl))
   exact h1
theorem Q4   (hl:lc≤1000) (hb:lb≤1000):exec (bP (n+1) 23 125) (.block 2 (.loop (part Tryd.f23 [1,1,1,1,0,1,0,0]))) (nH 5 (Int.ofNat 0)) (gi dr lc zc lb zb::H) =
 some (cond (dx (gl lc zb) lb) (.ret,[(2,.int .i64 2)],eQ dr lc zc lb zb [Ee (zb (fN (gl lc zb) lb 0*2)) (zb (fN (gl lc zb) lb 0*2+1))]::H) (.normal,nH 5 (Int.ofNat lb)++[(84,.bool false)],gi dr lc zc lb zb::H)):=by
 refine iu (n:=n+1) (f:=23) (nt:=125) (c:=part Tryd.f23 [1,1,1,1,0,1,0,0]) 2 (fun j=>nH 5 (j:Int)) (fun _=>gi dr lc zc lb zb::H) lb (gl lc zb) (fun j=>([(2,.int .i64 2)],eQ dr lc zc lb zb [Ee (zb (j*2)) (zb (j*2+1))]::H)) (_,_) (by omega) (fun j hj=>?_) ?_
 · have ej : a6 .i64 (j:Int) (Int.ofNat 1)=((j+1:Nat):Int):=eN (by omega)
   have ei:av 0 (j:Int) 2=j*2:=by rw[bE];omega
   have T:=Se n dr lc zc lb zb H (j:Int) (dx (gZ zb (zb (j*2)) (zb (j*2+1))) j)
   rw[ei,aK,ej] at T
   refine aB T (fc n 1) (a8 (ai _ _) Nj (fun x h=>dq h (Q6 (n+1) dr lc zc lb zb H _ _ j (by omega) hb))) (aj _ _) ?_
   refine Tr.af (fun h0=>?_) wJ
   refine Tr.ae wG (Tr.ae wG (Tr.ae wG (Tr.ae wG ?_)))
   have yes:(zb (j*2)=zb (j*2+1)∨¬ (0≤zb (j*2)∧zb (j*2)<lc)∨¬ (0≤zb (j*2+1)∧zb (j*2+1)<lc))→gl lc zb j=true:=fun h=>by
    unfold gl;rcases h with h | h | h
    · rw[decide_eq_true h];rfl
    · rw[decide_eq_false h];simp
    · rw[decide_eq_false h];simp
   refine Tr.af (fun q1=>?_) (fun q1=>Tr.ah ?_)
   · rw[bn,decide_eq_true_iff] at q1
     have q1:0≤zb (j*2):=q1
     refine Tr.af (fun q2=>Tr.ah ?_) (fun q2=>?_)
     · rw[aM,bK] at q2
       have q2:¬ zb (j*2)<(lc:Int):=by simpa using q2
       rw[if_pos (yes (.inr (.inl (by omega))))];rfl
     · rw[aM,bK] at q2
       have q2:zb (j*2)<(lc:Int):=by simpa using q2
       refine Tr.ae wG (Tr.af (fun q3=>?_) (fun q3=>Tr.ah ?_))
       · rw[bn,decide_eq_true_iff] at q3
         have q3:0≤zb (j*2+1):=q3
         refine Tr.af (fun q4=>Tr.ah ?_) (fun q4=>?_)
         · rw[aM,bK] at q4
           have q4:¬ zb (j*2+1)<(lc:Int):=by simpa using q4
           rw[if_pos (yes (.inr (.inr (by omega))))];rfl
         · rw[aM,bK] at q4
           have q4:zb (j*2+1)<(lc:Int):=by simpa using q4
           refine Tr.ae wG (Tr.ae wG (Tr.af (fun q5=>Tr.ah ?_) (fun q5=>?_)))
           · rw[bm,beq_iff_eq] at q5
             rw[if_pos (yes (.inl q5))];rfl
           · rw[bm,beq_eq_false_iff_ne] at q5
             refine Tr.al ⟨rfl,rfl⟩ (Tr.af (fun q6=>Tr.ah ?_) (fun q6=>Tr.ah ?_))
             · rw[if_pos (by unfold gl;rw[q6];simp)];rfl
             · rw[if_neg (by unfold gl;rw[q6,decide_eq_false q5,decide_eq_true ⟨q1,q2⟩,decide_eq_true ⟨q3,q4⟩];decide)]
               exact ⟨rfl,rfl⟩
       · rw[bn,decide_eq_false_iff_not] at q3
         have q3:¬ 0≤zb (j*2+1):=q3
         rw[if_pos (yes (.inr (.inr (by omega))))];rfl
   · rw[bn,decide_eq_false_iff_not] at q1
     have q1:¬ 0≤zb (j*2):=q1
     rw[if_pos (yes (.inr (.inl (by omega))))];rfl
 · obtain ⟨x,h1,rfl⟩:=aB (Q:=fun x=>x=(.exit 2,nH 5 (Int.ofNat lb)++[(84,.bool false)],gi dr lc zc lb zb::H)) (OV n dr lc zc lb zb H (Int.ofNat lb)) (fc n 1) (cD (ai _ _) 4) (aj _ _) (by
    refine Tr.af wJ (fun h0=>Tr.ah rfl))
   exact h1
theorem TH (hl:lc≤1000) (hb:lb≤1000):cd (n+3) (.fn 23) [bG dr lc zc lb zb] H=some (.int .i64 (c9 dr lc zc lb zb),H):=by
 by_cases k0:1≤lc∧lc≤10∧lb≤40
 · obtain ⟨k1,k2,k3⟩:=k0;have ht:(jV aH 64 (gB (lK lc (fun c=>gY zb c lb)) (fun A=>A=[bG dr lc zc lb zb]∧iq lc lb zb))).Ok (cd (n+2)):=xX (bj _) (fun A H hA=>by
    obtain ⟨rfl,hp⟩:=hA;exact Us n dr lc zc lb zb H k2 k1 hb hp)
   refine bB (n:=n+2) Tryd.func23 rfl rfl rfl (WO (n+2) dr lc zc lb zb H (dx (jn zc) lc) (dx (gl lc zb) lb) (lK lc (fun c=>gY zb c lb)) (L3 dr lc zc lb zb (fN (jn zc) lc 0)) (eQ dr lc zc lb zb [Ee (zb (fN (gl lc zb) lb 0*2)) (zb (fN (gl lc zb) lb 0*2+1))]) (fun A=>A=[bG dr lc zc lb zb]∧iq lc lb zb)) (bM _ _ ht) (a8 (a8 (ai _ _) Nh (fun y h=>dq h (Q3 (n+2) dr lc zc lb zb H hl))) Ni (fun y h=>dq h (Q4 (n+1) dr lc zc lb zb H hl hb))) (aj _ _) ?_;have hG:c9 dr lc zc lb zb=if dr<1∨100<dr∨dx (jn zc) lc=true then 3 else if dx (gl lc zb) lb=true then 2 else if lK lc (fun c=>gY zb c lb)=true then 16 else 0:=by unfold c9;rw[if_neg (by omega)]
   rw[hG];refine Tr.af wJ (fun _=>Tr.af wJ (fun _=>Tr.af wJ (fun _=>?_)));refine Tr.af (fun q=>?_) (fun q=>Tr.af (fun q'=>?_) (fun q'=>?_))
   · rw[bK,decide_eq_true_iff] at q;rw[if_pos (.inl q)];exact Tr.ah ⟨rfl,rfl⟩
   · rw[bK,decide_eq_true_iff] at q';rw[if_pos (.inr (.inl q'))];exact Tr.ah ⟨rfl,rfl⟩
   · rw[bK,decide_eq_false_iff_not] at q q';have q:¬ dr<1:=q;have q':¬ 100<dr:=q';refine Tr.al ⟨rfl,rfl⟩ (Tr.af (fun r=>?_) (fun r=>?_))
     · rw[if_pos (.inr (.inr r))];exact Tr.ah ⟨rfl,rfl⟩
     · rw[if_neg (by rintro (h | h | h);omega;omega;rw[r] at h;cases h)];refine Tr.al ⟨rfl,rfl⟩ (Tr.af (fun u=>?_) (fun u=>?_))
       · rw[if_pos u];exact Tr.ah ⟨rfl,rfl⟩
       · rw[if_neg (by rw[u];decide)];refine Tr.al ⟨rfl,pD u⟩ (Tr.af (fun w=>?_) (fun w=>?_))
         · rw[if_pos w];exact Tr.ah ⟨rfl,rfl⟩
         · rw[if_neg (by rw[w];decide)];exact Tr.ah ⟨rfl,rfl⟩
 · refine bB (n:=n+2) Tryd.func23 rfl rfl rfl (Sx (n+2) dr lc zc lb zb H) (aw _) (cD (ai _ _) 0) (aj _ _) ?_;have hG:c9 dr lc zc lb zb=6:=by unfold c9;rw[if_pos (by omega)]
   rw[hG];refine Tr.af (fun q=>Tr.ah ⟨rfl,rfl⟩) (fun q=>Tr.af (fun q2=>Tr.ah ⟨rfl,rfl⟩) (fun q2=>Tr.af (fun q3=>Tr.ah ⟨rfl,rfl⟩) (fun q3=>?_)));exfalso;simp (disch:=omega) only[nV,nW] at q;simp (disch:=omega) only[nV,nW] at q2;simp (disch:=omega) only[nV,nW] at q3;omega
end
end Go.Eng
end
section
namespace Go.Eng
open Go.Proofs
noncomputable def cZ (r:Nat→Int):Nat×an:=(0,.row (.M [.arr .i64 r 20]))
noncomputable def fp (bs:List (Nat×an)):bF:=⟨false,cZ (fun _=>Int.ofNat 0)::bs⟩
noncomputable def m7 (A:AV) (lc:Nat) (t:Int):aD:=[(0,A),(2,.ptr 0 0 0 0),(3,.ptr 0 1 0 0),(17,.int .i64 (Int.ofNat lc)),(18,.int .i64 t)]
noncomputable def xV (A:AV) (lc:Nat) (t:Int) (B:Nat→Int) (c:Int):aD:=[(0,A),(2,.ptr 0 0 0 0),(3,.ptr 0 1 0 0),(4,.ptr 0 2 0 0),(17,.int .i64 (Int.ofNat lc)),(18,.int .i64 t),(24,.agg (.M [.arr .u64 B 10])),(25,.int .i64 c)]
noncomputable def AK (A:AV) (lc:Nat) (t:Int) (B:Nat→Int) (c x:Int):aD:=[(0,A),(2,.ptr 0 0 0 0),(3,.ptr 0 1 0 0),(4,.ptr 0 2 0 0),(5,.int .i64 c),(6,.int .u64 x),(17,.int .i64 (Int.ofNat lc)),(18,.int .i64 t),(24,.agg (.M [.arr .u64 B 10])),(25,.int .i64 c)]
noncomputable def Qb (cz:Int→Int):List AV→Option (Prop×AV)
 | [.int .u64 x]=>some (0≤x∧x<18446744073709551616,.int .i64 (cz x))
 | _=>none
theorem O2 (n:Nat) (dr:Int) (lc:Nat) (zc:Nat→Int) (lb:Nat) (zb:Nat→Int) (W B:Nat→Int) (H:aa) (cz:Int→Int) (r q:Nat→Int) (t c x:Int):aJ (bP n 56 69) (il (jV aH 82 (Qb cz)) n 0) aS aR (part Tryd.f56 [1,1,0,1,0,0,1,1,0,0,1,0,1,0,0,1,1,0,0,1,0,0]) (hints (AK (shV dr lc zc lb zb W B) lc t B c x)) (fp [cZ r,cZ q]::H) =
 Tr.ite (aE (bw x (Int.ofNat 0))) (Tr.reqP (Int.NonNeg (x-0)∧Int.NonNeg (18446744073709551616-(x+1))) (Tr.req (bR c 10) (Tr.req (cj 0 0) (Tr.req (cH (av 0 c 2) 20) (Tr.req (bR (cz x) 10) (Tr.req (cj 0 0) (Tr.req (cH (av 0 (cz x) 2) 20) (Tr.req (bR c 10) (Tr.req (cj 0 0) (Tr.req (cH (av 0 c 2) 20) (Tr.req (bJ (dD 0 0) (dD 0 1)) (Tr.req (bR (cz x) 10) (Tr.req (cj 0 0) (Tr.req (cH (aq (av 0 (cz x) 2) 1) 20) (Tr.req (bR c 10) (Tr.req (cj 0 0) (Tr.req (cH (aq (av 0 c 2) 1) 20) (Tr.req (bR (cz x) 10) (Tr.req (cj 0 0) (Tr.req (cH (aq (av 0 (cz x) 2) 1) 20) (Tr.req (bJ (dD 0 0) (dD 0 1)) (Tr.ok (Ex.normal,[(0,shV dr lc zc lb zb W B,none),(2,AV.ptr 0 0 0 0,none),(3,AV.ptr 0 1 0 0,none),(4,AV.ptr 0 2 0 0,none),(5,AV.int .i64 c,none),(6,AV.int IntKind.u64 (m5 IntKind.u64 x (ct IntKind.u64 x (Int.ofNat 1))),none),(17,iI lc,none),(18,AV.int .i64 t,none),(24,AV.agg (Row.M [c8.arr IntKind.u64 B 10]),none),(25,AV.int .i64 c,none)],(bC [(0,an.row (rM (fun x=>Int.ofNat 0) 20)),(0,an.row (rM (eg (eg r (av 0 c 2) (uG (r (av 0 c 2)) (a6 .i64 (r (av 0 (cz x) 2)) (Int.ofNat 1)))) (aq (av 0 (cz x) 2) 1) (yw (eg r (av 0 c 2) (uG (r (av 0 c 2)) (a6 .i64 (r (av 0 (cz x) 2)) (Int.ofNat 1))) (aq (av 0 (cz x) 2) 1)) (ct .i64 (eg r (av 0 c 2) (uG (r (av 0 c 2)) (a6 .i64 (r (av 0 (cz x) 2)) (Int.ofNat 1))) (aq (av 0 c 2) 1)) (Int.ofNat 1)))) 20)),(0,an.row (rM q 20))])::H))))))))))))))))))))))) (Tr.ok (Ex.exit 4,[(0,shV dr lc zc lb zb W B,none),(2,AV.ptr 0 0 0 0,none),(3,AV.ptr 0 1 0 0,none),(4,AV.ptr 0 2 0 0,none),(5,AV.int .i64 c,none),(6,AV.int IntKind.u64 x,none),(17,iI lc,none),(18,AV.int .i64 t,none),(24,AV.agg (Row.M [c8.arr IntKind.u64 B 10]),none),(25,AV.int .i64 c,none),(30,AV.bool false,some 1)],(bC [(0,an.row (rM (fun x=>Int.ofNat 0) 20)),(0,an.row (rM r 20)),(0,an.row (rM q 20))])::H)):=by kernel_rfl
theorem Sh (n:Nat) (dr:Int) (lc:Nat) (zc:Nat→Int) (lb:Nat) (zb:Nat→Int) (W B:Nat→Int) (H:aa) (r q r':Nat→Int) (t c x:Int):aJ (bP n 56 69) (il aH n 0) (cM aS 4 (AK (shV dr lc zc lb zb W B) lc t B c (B (av 0 c 1))) (fp [cZ r,cZ q]::H) (.ok (.normal,hints (AK (shV dr lc zc lb zb W B) lc t B c x++[(30,.bool false)]),fp [cZ r',cZ q]::H))) aR (part Tryd.f56 [1,1,0,1,0,0,1,1,0,0,1,0,1,0,0]) (hints (xV (shV dr lc zc lb zb W B) lc t B c)) (fp [cZ r,cZ q]::H) =
 (fun (Z0:aD)=>((fun (Z1:bF)=>Tr.ite (bH c (Int.ofNat 10)) (Tr.req (bR c 10) (Tr.req (cH (av 0 c 1) 10) (Tr.reqP (Z0=Z0∧Z1::H=Z1::H) (Tr.ok (Ex.normal,[(0,shV dr lc zc lb zb W B,none),(2,AV.ptr 0 0 0 0,none),(3,AV.ptr 0 1 0 0,none),(4,AV.ptr 0 2 0 0,none),(17,iI lc,none),(18,AV.int .i64 t,none),(24,AV.agg (Row.M [c8.arr IntKind.u64 B 10]),none),(25,AV.int .i64 (a6 .i64 c (Int.ofNat 1)),none)],(bC [(0,an.row (rM (fun x=>Int.ofNat 0) 20)),(0,an.row (rM r' 20)),(0,an.row (rM q 20))])::H))))) (Tr.ok (Ex.exit 2,[(0,shV dr lc zc lb zb W B,none),(2,AV.ptr 0 0 0 0,none),(3,AV.ptr 0 1 0 0,none),(4,AV.ptr 0 2 0 0,none),(17,iI lc,none),(18,AV.int .i64 t,none),(24,AV.agg (Row.M [c8.arr IntKind.u64 B 10]),none),(25,AV.int .i64 c,none),(26,AV.bool false,some 1)],Z1::H))) (bC [(0,an.row (rM (fun x=>Int.ofNat 0) 20)),(0,an.row (rM r 20)),(0,an.row (rM q 20))]))) [(0,shV dr lc zc lb zb W B),(2,AV.ptr 0 0 0 0),(3,AV.ptr 0 1 0 0),(4,AV.ptr 0 2 0 0),(5,AV.int .i64 c),(6,AV.int IntKind.u64 (B (av 0 c 1))),(17,iI lc),(18,AV.int .i64 t),(24,AV.agg (Row.M [c8.arr IntKind.u64 B 10])),(25,AV.int .i64 c)]:=by kernel_rfl
theorem O1 (n:Nat) (dr:Int) (lc:Nat) (zc:Nat→Int) (lb:Nat) (zb:Nat→Int) (W B:Nat→Int) (H:aa) (r q:Nat→Int) (t:Int):aJ (bP n 56 69) (il aH n 0) (fC aS 4) aR (part Tryd.f56 [1,1,0,1,0,0,1,1,0,0,1,0,1,0,0]) (hints (xV (shV dr lc zc lb zb W B) lc t B 10)) (fp [cZ r,cZ q]::H) =
 Tr.ite (bH (Int.ofNat 10) (Int.ofNat 10)) (Tr.req (bR (Int.ofNat 10) 10) (Tr.req (cH (av 0 (Int.ofNat 10) 1) 10) Tr.bad)) (Tr.ok (Ex.exit 2,[(0,shV dr lc zc lb zb W B,none),(2,AV.ptr 0 0 0 0,none),(3,AV.ptr 0 1 0 0,none),(4,AV.ptr 0 2 0 0,none),(17,iI lc,none),(18,AV.int .i64 t,none),(24,AV.agg (Row.M [c8.arr IntKind.u64 B 10]),none),(25,iI 10,none),(26,AV.bool false,some 1)],(bC [(0,an.row (rM (fun x=>Int.ofNat 0) 20)),(0,an.row (rM r 20)),(0,an.row (rM q 20))])::H)):=by kernel_rfl
theorem Sg (n:Nat) (dr:Int) (lc:Nat) (zc:Nat→Int) (lb:Nat) (zb:Nat→Int) (W B:Nat→Int) (H:aa) (r r':Nat→Int) (t:Int):aJ (bP n 56 69) (il aH n 0) (cM aS 2 (xV (shV dr lc zc lb zb W B) lc t B (Int.ofNat 0)) (fp [cZ r,cZ r]::H) (.ok (.normal,hints (xV (shV dr lc zc lb zb W B) lc t B (Int.ofNat 10)++[(26,.bool false)]),fp [cZ r',cZ r]::H))) aR (part Tryd.f56 [1,1,0,1,0,0]) (hints (m7 (shV dr lc zc lb zb W B) lc t)) (fp [cZ r]::H) =
 (fun (Z0:aD)=>((fun (Z1:Nat×an)=>Tr.ite (bH t (Int.ofNat lc)) (Tr.req (dT 0 20 0 20) (Tr.reqP (Z0=Z0∧(bC [Z1,(0,an.row (rM r 20)),(0,an.row (rM (m6 (fun x=>Int.ofNat 0) 0 r 20) 20))])::H=(bC [Z1,(0,an.row (rM r 20)),(0,an.row (rM r 20))])::H) (Tr.ite (lP r' r 20) (Tr.ok (Ex.exit 0,[(0,shV dr lc zc lb zb W B,none),(2,AV.ptr 0 0 0 0,none),(3,AV.ptr 0 1 0 0,none),(17,iI lc,none),(18,AV.int .i64 t,none),(66,AV.bool true,some 1)],(bC [Z1,(0,an.row (rM r' 20)),(0,an.row (rM r 20))])::H)) (Tr.ok (Ex.normal,[(0,shV dr lc zc lb zb W B,none),(2,AV.ptr 0 0 0 0,none),(3,AV.ptr 0 1 0 0,none),(17,iI lc,none),(18,AV.int .i64 (a6 .i64 t (Int.ofNat 1)),none)],(bC [Z1,(0,an.row (rM r' 20)),(0,an.row (rM r 20))])::H))))) (Tr.ok (Ex.exit 0,[(0,shV dr lc zc lb zb W B,none),(2,AV.ptr 0 0 0 0,none),(3,AV.ptr 0 1 0 0,none),(17,iI lc,none),(18,AV.int .i64 t,none),(19,AV.bool false,some 1)],(bC [Z1,(0,an.row (rM r 20))])::H))) (0,an.row (rM (fun x=>Int.ofNat 0) 20)))) [(0,shV dr lc zc lb zb W B),(2,AV.ptr 0 0 0 0),(3,AV.ptr 0 1 0 0),(4,AV.ptr 0 2 0 0),(17,iI lc),(18,AV.int .i64 t),(24,AV.agg (Row.M [c8.arr IntKind.u64 B 10])),(25,iI 0)]:=by kernel_rfl
theorem O0 (n:Nat) (dr:Int) (lc:Nat) (zc:Nat→Int) (lb:Nat) (zb:Nat→Int) (W B:Nat→Int) (H:aa) (r:Nat→Int) (t:Int):aJ (bP n 56 69) (il aH n 0) (fC aS 2) aR (part Tryd.f56 [1,1,0,1,0,0]) (hints (m7 (shV dr lc zc lb zb W B) lc t)) (fp [cZ r]::H) =
 Tr.ite (bH t (Int.ofNat lc)) (Tr.req (dT 0 20 0 20) Tr.bad) (Tr.ok (Ex.exit 0,[(0,shV dr lc zc lb zb W B,none),(2,AV.ptr 0 0 0 0,none),(3,AV.ptr 0 1 0 0,none),(17,iI lc,none),(18,AV.int .i64 t,none),(19,AV.bool false,some 1)],(bC [(0,an.row (rM (fun x=>Int.ofNat 0) 20)),(0,an.row (rM r 20))])::H)):=by kernel_rfl
theorem SF (n:Nat) (dr:Int) (lc:Nat) (zc:Nat→Int) (lb:Nat) (zb:Nat→Int) (W B:Nat→Int) (H:aa) (r:Nat→Int):bk Tryd.prog (cd n) 100000 56 Tryd.f56 (KtG.kt 56) (il aH n 0) (cM aS 0 (m7 (shV dr lc zc lb zb W B) lc (Int.ofNat 0)) (fp [cZ W]::H) (.ok (.normal,hints (m7 (shV dr lc zc lb zb W B) lc (Int.ofNat lc)++[(19,.bool false)]),fp [cZ r]::H))) aR [(shV dr lc zc lb zb W B,none)] H =
 (fun (Z0:aD)=>Tr.req (dT 0 20 0 20) (Tr.reqP (Z0=Z0∧(bC [(0,an.row (rM (fun x=>Int.ofNat 0) 20)),(0,an.row (rM (m6 (fun x=>Int.ofNat 0) 0 W 20) 20))])::H=(bC [(0,an.row (rM (fun x=>Int.ofNat 0) 20)),(0,an.row (rM W 20))])::H) (Tr.req (dT 0 20 0 20) (Tr.ok ((AV.agg (rM (m6 (fun x=>Int.ofNat 0) 0 r 20) 20),none),H))))) [(0,shV dr lc zc lb zb W B),(2,AV.ptr 0 0 0 0),(3,AV.ptr 0 1 0 0),(17,iI lc),(18,iI 0)]:=by kernel_rfl
theorem SG (n:Nat) (dr:Int) (lc:Nat) (zc:Nat→Int) (lb:Nat) (zb:Nat→Int) (W B:Nat→Int) (H:aa) (r q:Nat→Int) (t:Int):bk Tryd.prog (cd n) 100000 56 Tryd.f56 (KtG.kt 56) (il aH n 0) (cM aS 0 (m7 (shV dr lc zc lb zb W B) lc (Int.ofNat 0)) (fp [cZ W]::H) (.ok (.normal,hints (m7 (shV dr lc zc lb zb W B) lc t++[(66,.bool true)]),fp [cZ r,cZ q]::H))) aR [(shV dr lc zc lb zb W B,none)] H =
 (fun (Z0:aD)=>Tr.req (dT 0 20 0 20) (Tr.reqP (Z0=Z0∧(bC [(0,an.row (rM (fun x=>Int.ofNat 0) 20)),(0,an.row (rM (m6 (fun x=>Int.ofNat 0) 0 W 20) 20))])::H=(bC [(0,an.row (rM (fun x=>Int.ofNat 0) 20)),(0,an.row (rM W 20))])::H) (Tr.req (dT 0 20 0 20) (Tr.ok ((AV.agg (rM (m6 (fun x=>Int.ofNat 0) 0 r 20) 20),none),H))))) [(0,shV dr lc zc lb zb W B),(2,AV.ptr 0 0 0 0),(3,AV.ptr 0 1 0 0),(17,iI lc),(18,iI 0)]:=by kernel_rfl
end Go.Eng
end
section
namespace Go.Eng
open Go.Proofs Go.Eng.Gall
theorem FF {c:Nat} (hc:0<c):(jV aH 82 (Qb (fun x=>Int.ofNat (mf x.toNat)))).Ok (cd c):=by
 obtain ⟨m,rfl⟩:∃ m,c=m+1:=⟨c-1,by omega⟩
 refine lV (bj _) (fun args p v hg hp H=>?_);unfold Qb at hg;split at hg
 · rename_i x;simp only[nP] at hg;obtain ⟨rfl,rfl⟩:=hg;refine oI ?_;show (match Gall.uJ (cd m) 82 [.int .u64 x] H with
    | some x=>some x
    | none=>_)=_
   have e:Gall.uJ (cd m) 82 [.int .u64 x] H=some (.int .i64 (Go.Lib.ctz 64 x.toNat),H):=by
    show Fj [.int .u64 x] H=_;unfold Fj;exact if_pos hp
   rw[e];rfl
 · cases hg
theorem sd {W:Nat→Int} (h:∀ j,20≤j→W j=0):m6 (fun _=>Int.ofNat 0) 0 W 20=W:=by
 rw[ri];funext j;unfold vX;by_cases e:j<20
 · simp[e]
 · rw[h j (by omega)];simp[e]
section
variable {n:Nat} {b:Nat→Nat} {w:Nat→Int}
theorem Oh {K:Int} (hw:∀ i,w i≤K) (t c:Nat):fo n b w t c≤K+t:=by
 induction t generalizing c with
 | zero=>have:=hw (2*c);show w (2*c)≤K+((0:Nat):Int);omega
 | succ t ih =>
   rcases je (fo n b w t c) (fun a=>fo n b w t a+1) (fun a=>(b c).testBit a) n with e | ⟨a,h1,h2,h3⟩
   · have:fo n b w (t+1) c=fo n b w t c:=e;have:=ih c;omega
   · have:fo n b w (t+1) c=fo n b w t a+1:=h3;have:=ih a;omega
theorem NW {K:Int} (hw:∀ i,-K≤w i) (t c:Nat):fm n b w t c≤K+t:=by
 induction t generalizing c with
 | zero=>have:=hw (2*c+1);show -w (2*c+1)≤K+((0:Nat):Int);omega
 | succ t ih =>
   rcases je (fm n b w t c) (fun a=>fm n b w t a+1) (fun a=>(b a).testBit c) n with e | ⟨a,h1,h2,h3⟩
   · have:fm n b w (t+1) c=fm n b w t c:=e;have:=ih c;omega
   · have:fm n b w (t+1) c=fm n b w t a+1:=h3;have:=ih a;omega
theorem Ap {K:Int} (hK:0≤K) (hw:∀ i,-K≤w i∧w i≤K) {t:Nat} {r:Nat→Int} (hr:Bd n b w t r) (c:Nat) (hc:c<n):(-K≤r (2*c)∧r (2*c)≤K+n)∧-K-n≤r (2*c+1)∧r (2*c+1)≤K:=by
 have h1:=hr.lo c hc;have h2:=hr.hi c hc;have h3:=Oh (n:=n) (b:=b) (fun i=>(hw i).2) n c;have h4:=NW (n:=n) (b:=b) (fun i=>(hw i).1) n c;have h5:fo n b w 0 c≤fo n b w t c:=by have:=lo_le (n:=n) (b:=b) (w:=w) 0 t c;rwa [Nat.zero_add] at this
 have h6:fm n b w 0 c≤fm n b w t c:=by have:=Cj (n:=n) (b:=b) (w:=w) 0 t c;rwa [Nat.zero_add] at this
 have h7:fo n b w 0 c=w (2*c):=rfl;have h8:fm n b w 0 c=-w (2*c+1):=rfl;have h9:=hw (2*c);have h10:=hw (2*c+1);omega
end
structure gE (lc:Nat) (W:Nat→Int) (b:Nat→Nat):Prop where
 len:lc≤10
 win:∀ j,-100000≤W j∧W j≤100000
 zer:∀ j,20≤j→W j=0
 bef:∀ c,c<lc→b c<2 ^ lc
 off:∀ c,lc≤c→b c=0
 nob:lK lc b=false
theorem gE.lt {lc:Nat} {W:Nat→Int} {b:Nat→Nat} (h:gE lc W b) (c:Nat):b c<2 ^ 10:=by
 by_cases hc:c<lc
 · exact Nat.lt_of_lt_of_le (h.bef c hc) (Nat.pow_le_pow_right (by decide) h.len)
 · rw[h.off c (by omega)];decide
theorem gE.bit {lc:Nat} {W:Nat→Int} {b:Nat→Nat} (h:gE lc W b) {c a:Nat} (hb:(b c).testBit a=true):c<lc∧a<lc:=by
 have hc:c<lc:=by
  apply Classical.byContradiction;intro hn;rw[h.off c (by omega)] at hb;simp at hb
 refine ⟨hc,?_⟩;apply Classical.byContradiction;intro hn;have:=Nat.testBit_lt_two_pow (Nat.lt_of_lt_of_le (h.bef c hc) (Nat.pow_le_pow_right (by decide) (show lc≤a by omega)));rw[hb] at this;cases this
theorem gE.all {lc:Nat} {W:Nat→Int} {b:Nat→Nat} (h:gE lc W b):Ho lc b (lL b 10):=fun a c=>by
 rw[CU b 10 (fun c _=>h.lt c)];constructor
 · rintro ⟨_,h2⟩;obtain ⟨h3,h4⟩:=h.bit h2;exact ⟨h4,h3,h2⟩
 · rintro ⟨_,h1,h2⟩;exact ⟨by have:=h.len;omega,h2⟩
theorem Jy:∀ b,(0,b) ∈ aL (aV Tryd.f56)→b=.loop (part Tryd.f56 [1,1,0,1,0,0]):=ey (by kernel_rfl)
theorem Nl:∀ b,(2,b) ∈ aL (part Tryd.f56 [1,1,0,1,0,0])→b=.loop (part Tryd.f56 [1,1,0,1,0,0,1,1,0,0,1,0,1,0,0]):=ey (by kernel_rfl)
theorem Nm:∀ b,(4,b) ∈ aL (part Tryd.f56 [1,1,0,1,0,0,1,1,0,0,1,0,1,0,0])→b=.loop (part Tryd.f56 [1,1,0,1,0,0,1,1,0,0,1,0,1,0,0,1,1,0,0,1,0,0]):=ey (by kernel_rfl)
theorem G8 (r:Nat→Int) (i:Nat) (x:Int):eg r i x=Ey r i x:=by rw[jH];rfl
section
variable (n:Nat) (dr:Int) (lc:Nat) (zc:Nat→Int) (lb:Nat) (zb:Nat→Int) (W:Nat→Int) (b:Nat→Nat) (H:aa)
theorem Q7 (hS:gE lc W b) (q r:Nat→Int) (t':Nat) (hr:Bd lc b W t' r) (t:Int) (c:Nat) (hc:c<10):exec (bP (n+1) 56 69) (.block 4 (.loop (part Tryd.f56 [1,1,0,1,0,0,1,1,0,0,1,0,1,0,0,1,1,0,0,1,0,0]))) (AK (shV dr lc zc lb zb W (bI b)) lc t (bI b) (c:Int) (bI b c)) (fp [cZ r,cZ q]::H) =
 some (.normal,AK (shV dr lc zc lb zb W (bI b)) lc t (bI b) (c:Int) 0++[(30,.bool false)],fp [cZ (oi r ((mI 10 (b c)).map fun a=>(a,c))),cZ q]::H):=by
 have hlt:=hS.lt c
 obtain ⟨m1,m2,m3⟩:=vT 10 (b c) (Nat.lt_of_lt_of_le hlt (by decide)) (fun i hi=>⟨by omega,by have:=(hS.bit hi).2;have:=hS.len;omega⟩)
 have hlen:(mI 10 (b c)).length≤10:=by
  have:∀ f x,(mI f x).length≤f:=by
   intro f;induction f with
   | zero=>intro x;exact Nat.le_refl _
   | succ f ih =>
     intro x;show (if x=0 then [] else mf x::mI f (x &&& (x-1))).length≤f+1;split
     · exact Nat.zero_le _
     · rw[List.length_cons];have:=ih (x &&& (x-1));omega
  exact this 10 (b c)
 have hst:∀ k,k≤(mI 10 (b c)).length→Bd lc b W t' (oi r (((mI 10 (b c)).take k).map fun a=>(a,c))):=fun k hk =>
  (rh hS.nob _ hr (fun p hp=>by
    obtain ⟨a,ha,rfl⟩:=List.mem_map.1 hp;have hb:=(m1 a).1 (List.mem_of_mem_take ha);obtain ⟨h1,h2⟩:=hS.bit hb;exact ⟨h2,h1,hb⟩)).1
 have hN:oi r ((mI 10 (b c)).map fun a=>(a,c))=oi r (((mI 10 (b c)).take (mI 10 (b c)).length).map fun a=>(a,c)):=by rw[List.take_length]
 rw[hN]
 have hl:=hS.len
 refine jM (n:=n+1) (f:=56) (nt:=69) (c:=part Tryd.f56 [1,1,0,1,0,0,1,1,0,0,1,0,1,0,0,1,1,0,0,1,0,0]) 4 (fun k=>AK (shV dr lc zc lb zb W (bI b)) lc t (bI b) (c:Int) (jW (b c) k:Nat)) (fun k=>fp [cZ (oi r (((mI 10 (b c)).take k).map fun a=>(a,c))),cZ q]::H) (mI 10 (b c)).length (_,_) (by omega) (fun k hk=>?_) ?_
 · obtain ⟨z0,z1⟩:=m2 k hk
   have hs:=hst k (by omega)
   have hmem:=(m1 _).1 (List.getElem_mem hk)
   obtain ⟨hcl,hal⟩:=hS.bit hmem
   have htake:(mI 10 (b c)).take (k+1)=(mI 10 (b c)).take k++[(mI 10 (b c))[k]]:=by rw[List.take_add_one,List.getElem?_eq_getElem hk];rfl
   have hlw:mf (jW (b c) k)=(mI 10 (b c))[k]:=z1.symm
   generalize hR:oi r (((mI 10 (b c)).take k).map fun a=>(a,c))=R at *
   have bc:=Ap (K:=100000) (by omega) hS.win hs c hcl
   have ba:=Ap (K:=100000) (by omega) hS.win hs (mf (jW (b c) k)) (by rw[hlw];exact hal)
   have hrl:=Mo (b c) k (Nat.lt_of_lt_of_le hlt (by decide))
   have T:=O2 (n+1) dr lc zc lb zb W (bI b) H (fun x=>Int.ofNat (mf x.toNat)) R q t (c:Int) ((jW (b c) k:Nat):Int)
   have e1:av 0 (c:Int) 2=2*c:=by rw[bE];omega
   have e2:av 0 (Int.ofNat (mf ((jW (b c) k:Nat):Int).toNat)) 2=2*mf (jW (b c) k):=by rw[bE,Int.toNat_natCast];show 0+mf (jW (b c) k)*2=_;omega
   have e3:m5 .u64 ((jW (b c) k:Nat):Int) (ct .u64 ((jW (b c) k:Nat):Int) (Int.ofNat 1))=((jW (b c) (k+1):Nat):Int):=by
    rw[ew];show m5 .u64 _ (IntKind.u64.wrap (((jW (b c) k:Nat):Int)-1))=_;rw[show ((jW (b c) k:Nat):Int)-1=((jW (b c) k-1:Nat):Int) by omega,Q.jG (by omega),Q.K9 (by omega) (by omega)];rfl
   rw[e1,e2,aK,aK,e3,G8,G8] at T
   have e4:a6 .i64 (R (2*mf (jW (b c) k))) (Int.ofNat 1)=R (2*mf (jW (b c) k))+1:=Ez (by show _≤R (2*mf (jW (b c) k))+1;omega) (by show R (2*mf (jW (b c) k))+1≤_;omega)
   rw[e4] at T
   have e5:uG (R (2*c)) (R (2*mf (jW (b c) k))+1)=max (R (2*c)) (R (2*mf (jW (b c) k))+1):=by rw[rA];omega
   rw[e5] at T
   have e6:Ey R (2*c) (max (R (2*c)) (R (2*mf (jW (b c) k))+1)) (2*c+1)=R (2*c+1):=by unfold Ey;rw[if_neg (by omega)]
   have e7:ct .i64 (Ey R (2*c) (max (R (2*c)) (R (2*mf (jW (b c) k))+1)) (2*c+1)) (Int.ofNat 1)=Ey R (2*c) (max (R (2*c)) (R (2*mf (jW (b c) k))+1)) (2*c+1)-1:=by
    rw[e6];exact ON (by show _≤R (2*c+1)-1;omega) (by show R (2*c+1)-1≤_;omega)
   rw[e7] at T
   have e8:∀ x y:Int,yw x y=min x y:=fun x y=>by rw[rB];omega
   rw[e8] at T
   have e9:oi r (((mI 10 (b c)).take (k+1)).map fun a=>(a,c))=Bv R (mf (jW (b c) k)) c:=by
    rw[htake,List.map_append,CZ,hR,hlw];rfl
   refine aB T (bM _ _ (FF (by omega))) (ai _ _) (aj _ _) ?_
   have hi1:bR (c:Int) 10=true:=by simp (disch:=omega) only[nV,nW];omega
   have hi2:bR (Int.ofNat (mf ((jW (b c) k:Nat):Int).toNat)) 10=true:=by
    rw[Int.toNat_natCast];simp (disch:=omega) only[nV,nW];rw[hlw];omega
   have h00:cj 0 0=true:=by simp (disch:=omega) only[nV,nW]
   have hl1:cH (2*c) 20=true:=by simp (disch:=omega) only[nV,nW];omega
   have hl2:cH (2*mf (jW (b c) k)) 20=true:=by simp (disch:=omega) only[nV,nW];rw[hlw];omega
   have hl3:cH (2*mf (jW (b c) k)+1) 20=true:=by simp (disch:=omega) only[nV,nW];rw[hlw];omega
   have hl4:cH (2*c+1) 20=true:=by simp (disch:=omega) only[nV,nW];omega
   have hle:bJ (dD 0 0) (dD 0 1)=true:=by simp (disch:=omega) only[nV,nW];omega
   refine Tr.af (fun h0=>?_) (fun h0=>?_)
   · refine Tr.al ⟨show (0:Int)≤((jW (b c) k:Nat):Int) by omega,show ((jW (b c) k:Nat):Int)<18446744073709551616 by omega⟩ ?_
     refine Tr.ae hi1 (Tr.ae h00 (Tr.ae hl1 (Tr.ae hi2 (Tr.ae h00 (Tr.ae hl2 (Tr.ae hi1 (Tr.ae h00 (Tr.ae hl1 (Tr.ae hle (Tr.ae hi2 (Tr.ae h00 (Tr.ae hl3 (Tr.ae hi1 (Tr.ae h00 (Tr.ae hl4 (Tr.ae hi2 (Tr.ae h00 (Tr.ae hl3 (Tr.ae hle ?_)))))))))))))))))))
     refine Tr.ah ⟨rfl,?_⟩
     rw[e9];rfl
   · rw[aM,bm] at h0
     exfalso
     have:(((jW (b c) k:Nat):Int) == 0)=true:=by simpa using h0
     rw[beq_iff_eq] at this
     omega
 · obtain ⟨x,h1,rfl⟩:=aB (Q:=fun x=>x=(.exit 4,AK (shV dr lc zc lb zb W (bI b)) lc t (bI b) (c:Int) 0++[(30,.bool false)],fp [cZ (oi r (((mI 10 (b c)).take (mI 10 (b c)).length).map fun a=>(a,c))),cZ q]::H)) (O2 (n+1) dr lc zc lb zb W (bI b) H (fun x=>Int.ofNat (mf x.toNat)) (oi r (((mI 10 (b c)).take (mI 10 (b c)).length).map fun a=>(a,c))) q t (c:Int) ((jW (b c) (mI 10 (b c)).length:Nat):Int)) (bM _ _ (FF (by omega))) (ai _ _) (aj _ _) (by
    rw[m3];refine Tr.af (fun h0=>?_) (fun h0=>Tr.ah rfl);rw[aM,bm] at h0;exact absurd h0 (by decide))
   exact h1
end
end Go.Eng
end
