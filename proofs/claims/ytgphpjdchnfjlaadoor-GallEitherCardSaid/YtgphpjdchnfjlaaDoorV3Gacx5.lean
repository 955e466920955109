/- Gall: back, by the reference: whole. -/
import Derived.Test.YtgphpjdchnfjlaaDoorV3Ga8x4
import Derived.Test.YtgphpjdchnfjlaaDoorV3EngRoSx4
set_option linter.unusedVariables false
set_option linter.unusedSimpArgs false
set_option maxRecDepth 100000
section
namespace Go.Eng
open Go.Proofs Go.Eng.Gall
theorem L3 (p:Nat→Bool) (n:Nat):cC p n=(List.range n).any p:=by
 rw[Bool.eq_iff_iff,cQ,List.any_eq_true];constructor
 · rintro ⟨i,h1,h2⟩;exact ⟨i,List.mem_range.2 h1,h2⟩
 · rintro ⟨i,h1,h2⟩;exact ⟨i,List.mem_range.1 h1,h2⟩
section
variable (n:Nat) (dr:Int) (lc:Nat) (zc:Nat→Int) (lb:Nat) (zb:Nat→Int) (b:Nat→Nat) (H:ab)
theorem XM:dy (fun c=>decide (c<0))=fun _=>Int.ofNat 0:=by funext j;unfold dy;simp
theorem Ja (j:Nat):dQ (dy (fun c=>decide (c<j))) j (Int.ofNat 1)=dy (fun c=>decide (c<j+1)):=by
 rw[jR];funext c;unfold dy;by_cases e:c=j
 · subst e;rw[if_pos rfl,if_pos (by simp)];rfl
 · rw[if_neg e];by_cases h:c<j
   · rw[if_pos (decide_eq_true h),if_pos (decide_eq_true (by omega))]
   · rw[if_neg (by simpa using h),if_neg (by simp;omega)]
theorem R6 (hl:lc≤10):exec (bL (n+1) 64 66) (.block 0 (.loop (part Tryd.f64 [1,1,1,0,1,0,0]))) (nC 1 lc (LL lc) 5 (Int.ofNat 0)) (dG dr lc zc lb zb [cK (LL lc) (dy (fun c=>decide (c<0)))]::H) =
 some (.normal,nC 1 lc (LL lc) 5 (Int.ofNat lc)++[(18,.bool false)],dG dr lc zc lb zb [cK (LL lc) (dy (fun c=>decide (c<lc)))]::H):=by
 have eL:=Cs lc
 refine iG (n:=n+1) (f:=64) (nt:=66) (c:=part Tryd.f64 [1,1,1,0,1,0,0]) 0 (fun j=>nC 1 lc (LL lc) 5 (j:Int)) (fun j=>dG dr lc zc lb zb [cK (LL lc) (dy (fun c=>decide (c<j)))]::H) lc (_,_) (by omega) (fun j hj=>?_) ?_
 · have ej:bh .i64 (j:Int) (Int.ofNat 1)=((j+1:Nat):Int):=dJ (by omega)
   have T:=PS (n+1) dr lc (LL lc) zc lb zb H (dy (fun c=>decide (c<j))) (j:Int)
   rw[qt,ej,Ja] at T
   refine ay T (av _) (ai _ _) (aj _ _) ?_
   refine Tr.ae (fun h0=>?_) wJ
   exact Tr.aa (by rw[eL];simp (disch:=omega) only[nV,nW];omega) (Tr.aa wG (Tr.aa (by rw[eL];simp (disch:=omega) only[nV,nW];omega) (Tr.ag ⟨rfl,rfl⟩)))
 · obtain ⟨x,h1,rfl⟩:=ay (Q:=fun x=>x=(.exit 0,nC 1 lc (LL lc) 5 (Int.ofNat lc)++[(18,.bool false)],dG dr lc zc lb zb [cK (LL lc) (dy (fun c=>decide (c<lc)))]::H)) (PS (n+1) dr lc (LL lc) zc lb zb H (dy (fun c=>decide (c<lc))) (Int.ofNat lc)) (av _) (ai _ _) (aj _ _) (by
    refine Tr.ae wJ (fun h0=>Tr.ag rfl))
   exact h1
noncomputable def U2 (lc:Nat):Nat→aF
 | 0=>nC 1 lc (LL lc) 6 (Int.ofNat 0)
 | t+1=>nC 2 lc (LL lc) 6 ((t+1:Nat):Int)
noncomputable def OD:Nat→ab
 | 0=>dG dr lc zc lb zb [cK (LL lc) (dy (bQ lc b 0))]::H
 | t+1=>dG dr lc zc lb zb [cK (LL lc) (dy (bQ lc b 0)),cK (LL lc) (dy (bQ lc b (t+1)))]::H
theorem R4 (hl:lc≤10) (h1:1≤lc) (hb:lb≤1000) (hB:b=fun c=>cH zb c lb) (hp:fi lc lb zb):exec (bL (n+1) 64 66) (.block 2 (.loop (part Tryd.f64 [1,1,1,1,0,1,0,0]))) (U2 lc 0) (OD dr lc zc lb zb b H 0) =
 some (.normal,nC 2 lc (LL lc) 6 (Int.ofNat lc)++[(26,.bool false)],OD dr lc zc lb zb b H lc):=by
 have mk8:Dm (Int.ofNat lc) (Int.ofNat lc) 8=true:=by simp (disch:=omega) only[nV,nW];omega
 refine iG (n:=n+1) (f:=64) (nt:=66) (c:=part Tryd.f64 [1,1,1,1,0,1,0,0]) 2 (U2 lc) (OD dr lc zc lb zb b H) lc (_,_) (by omega) (fun t ht=>?_) ?_
 · have ec:bh .i64 (t:Int) (Int.ofNat 1)=((t+1:Nat):Int):=dJ (by omega)
   cases t with
   | zero =>
     have hx:=XG n dr lc zc lb zb b H 0 hl hb (((0:Nat)):Int)
     rw[Kx,GW lc lb zb hB hp] at hx
     have T:=PW (n+1) dr lc zc lb zb H (dy (bQ lc b 0)) (dy (bQ lc b (0+1))) (((0:Nat)):Int)
     rw[ec] at T
     refine ay T (av _) (aP (ai _ _) J7 (fun x h=>by rw[← Tr.af h];simp only[eI.st,aT];exact hx)) (aj _ _) ?_
     exact Tr.ae (fun h0=>Tr.aa mk8 (Tr.ak ⟨rfl,rfl⟩ (Tr.ag ⟨rfl,rfl⟩))) wJ
   | succ t =>
     have hx:=XH n dr lc zc lb zb b H (dy (bQ lc b 0)) (t+1) hl hb (((t+1:Nat)):Int)
     rw[Kx,GW lc lb zb hB hp] at hx
     have T:=PX (n+1) dr lc zc lb zb H (dy (bQ lc b 0)) (dy (bQ lc b (t+1))) (dy (bQ lc b (t+1+1))) (((t+1:Nat)):Int)
     rw[ec] at T
     refine ay T (av _) (aP (ai _ _) J7 (fun x h=>by rw[← Tr.af h];simp only[eI.st,aT];exact hx)) (aj _ _) ?_
     exact Tr.ae (fun h0=>Tr.aa mk8 (Tr.ak ⟨rfl,rfl⟩ (Tr.ag ⟨rfl,rfl⟩))) wJ
 · obtain ⟨m,rfl⟩:∃ m,lc=m+1:=⟨lc-1,by omega⟩
   obtain ⟨x,h1,rfl⟩:=ay (Q:=fun x=>x=(.exit 2,nC 2 (m+1) (LL (m+1)) 6 (Int.ofNat (m+1))++[(26,.bool false)],OD dr (m+1) zc lb zb b H (m+1))) (No (n+1) dr (m+1) (LL (m+1)) zc lb zb H (dy (bQ (m+1) b 0)) (dy (bQ (m+1) b (m+1))) (Int.ofNat (m+1))) (av _) (b8 (ai _ _) 4) (aj _ _) (by
    refine Tr.ae wJ (fun h0=>Tr.ag rfl))
   exact h1
theorem R5 (hl:lc≤10) (g:Nat→Int) (p:Nat→Bool):exec (bL (n+1) 64 66) (.block 8 (.loop (part Tryd.f64 [1,1,1,1,1,0,1,0,0]))) (Bw lc (LL lc) (Int.ofNat 0)) (dG dr lc zc lb zb [cK (LL lc) g,cK (LL lc) (dy p)]::H) =
 some (cond (cC p lc) (.ret,[(2,.bool true)],dG dr lc zc lb zb [cK (LL lc) g,cK (LL lc) (dy p)]::H) (.normal,Bw lc (LL lc) (Int.ofNat lc)++[(58,.bool false)],dG dr lc zc lb zb [cK (LL lc) g,cK (LL lc) (dy p)]::H)):=by
 have eL:=Cs lc
 refine eA (n:=n+1) (f:=64) (nt:=66) (c:=part Tryd.f64 [1,1,1,1,1,0,1,0,0]) 8 (fun j=>Bw lc (LL lc) (j:Int)) (fun _=>dG dr lc zc lb zb [cK (LL lc) g,cK (LL lc) (dy p)]::H) lc p (fun j=>([(2,.bool true)],dG dr lc zc lb zb [cK (LL lc) g,cK (LL lc) (dy p)]::H)) (_,_) (by omega) (fun j hj=>?_) ?_
 · have ej:bh .i64 (j:Int) (Int.ofNat 1)=((j+1:Nat):Int):=dJ (by omega)
   have T:=PV (n+1) dr lc (LL lc) zc lb zb H g (dy p) (j:Int)
   rw[qt,ej,BO] at T
   refine ay T (av _) (ai _ _) (aj _ _) ?_
   refine Tr.ae (fun h0=>?_) wJ
   refine Tr.aa (by rw[eL];simp (disch:=omega) only[nV,nW];omega) (Tr.aa wG (Tr.aa (by rw[eL];simp (disch:=omega) only[nV,nW];omega) (Tr.ae (fun q=>Tr.ag ?_) (fun q=>Tr.ag ?_))))
   · rw[if_pos q];rfl
   · rw[if_neg (by rw[q];decide)];exact ⟨rfl,rfl⟩
 · obtain ⟨x,h1,rfl⟩:=ay (Q:=fun x=>x=(.exit 8,Bw lc (LL lc) (Int.ofNat lc)++[(58,.bool false)],dG dr lc zc lb zb [cK (LL lc) g,cK (LL lc) (dy p)]::H)) (PV (n+1) dr lc (LL lc) zc lb zb H g (dy p) (Int.ofNat lc)) (av _) (ai _ _) (aj _ _) (by
    refine Tr.ae wJ (fun h0=>Tr.ag rfl))
   exact h1
theorem VL (hl:lc≤10) (h1:1≤lc) (hb:lb≤1000) (hp:fi lc lb zb):cd (n+2) (.fn 64) [bn dr lc zc lb zb] H=some (.bool (lS lc (fun c=>cH zb c lb)),H):=by
 have e1:=R6 n dr lc zc lb zb H hl;rw[XM] at e1;have e2:=R4 n dr lc zc lb zb (fun c=>cH zb c lb) H hl h1 hb rfl hp;have e3:=R5 n dr lc zc lb zb H hl (dy (bQ lc (fun c=>cH zb c lb) 0)) (bQ lc (fun c=>cH zb c lb) lc);have hT:OD dr lc zc lb zb (fun c=>cH zb c lb) H lc=dG dr lc zc lb zb [cK (LL lc) (dy (bQ lc (fun c=>cH zb c lb) 0)),cK (LL lc) (dy (bQ lc (fun c=>cH zb c lb) lc))]::H:=by
  obtain ⟨m,rfl⟩:∃ m,lc=m+1:=⟨lc-1,by omega⟩
  rfl
 rw[hT] at e2;refine br (n:=n+1) Tryd.func64 rfl rfl rfl (u64 (n+1) dr lc zc lb zb H (dy (bQ lc (fun c=>cH zb c lb) 0)) (dy (bQ lc (fun c=>cH zb c lb) 0)) (dy (bQ lc (fun c=>cH zb c lb) lc)) (cC (bQ lc (fun c=>cH zb c lb) lc) lc)) (av _) (aP (aP (aP (ai _ _) NZ (fun x h=>by rw[← Tr.af h];simp only[eI.st,aT];exact e1)) N0 (fun x h=>by rw[← Tr.af h];simp only[eI.st,aT];exact e2)) N1 (fun x h=>b7 h e3)) (aj _ _) ?_;have mk8:Dm (Int.ofNat lc) (Int.ofNat lc) 8=true:=by simp (disch:=omega) only[nV,nW];omega
 have eb:cC (bQ lc (fun c=>cH zb c lb) lc) lc=lS lc (fun c=>cH zb c lb):=L3 _ _;rw[eb];refine Tr.aa mk8 (Tr.ak ⟨rfl,rfl⟩ (Tr.ak ⟨rfl,rfl⟩ (Tr.ak ⟨rfl,rfl⟩ (Tr.ae (fun q=>Tr.ag ⟨?_,rfl⟩) (fun q=>Tr.ag ⟨?_,rfl⟩)))))
 · rw[q]
 · rw[q]
end
end Go.Eng
end
section
namespace Go.Eng
open Go.Proofs
noncomputable def oh (s:Nat) (j:Int):aF:=[(1,.ptr 0 0 0 0),(s,.int .i64 j)]
noncomputable def Bn (j k:Int):aF:=[(1,.ptr 0 0 0 0),(5,.int .i64 j),(6,.ptr 0 1 0 0),(7,.int .i64 k)]
noncomputable def ES (a b:Int):Nat×an:=(0,.row (.I .i64 [a,b]))
theorem PB (n:Nat) (dr:Int) (lc:Nat) (zc:Nat→Int) (lb:Nat) (zb:Nat→Int) (H:ab) (j:Int):aH (bL n 23 125) (il aD n 0) aL aJ (part Tryd.f23 [1,1,1,0,1,0,0]) (hints (oh 3 j)) (dq dr lc zc lb zb::H) =
 (fun (Z0:bF)=>Tr.ite (bD j (Int.ofNat lc)) (Tr.req (cj j lc) (Tr.req (bW (aq 0 j 4) (bU lc 4)) (Tr.req (bW (ar (aq 0 j 4) 1) (bU lc 4)) (Tr.req (bW (ar (aq 0 j 4) 2) (bU lc 4)) (Tr.req (bW (ar (aq 0 j 4) 3) (bU lc 4)) (Tr.ite (bD (zc (aq 0 j 4)) (Int.ofNat 0)) (Tr.ok (Ex.ret,[(2,iI 3,some 1)],Z0::H)) (Tr.ite (bD (zc (ar (aq 0 j 4) 1)) (zc (aq 0 j 4))) (Tr.ok (Ex.ret,[(2,iI 3,some 1)],Z0::H)) (Tr.ite (bD (Int.ofNat 1000) (zc (ar (aq 0 j 4) 1))) (Tr.ok (Ex.ret,[(2,iI 3,some 1)],Z0::H)) (Tr.ite (bD (zc (ar (aq 0 j 4) 2)) (Int.ofNat 0)) (Tr.ok (Ex.ret,[(2,iI 3,some 1)],Z0::H)) (Tr.ite (bD (zc (ar (aq 0 j 4) 3)) (zc (ar (aq 0 j 4) 2))) (Tr.ok (Ex.ret,[(2,iI 3,some 1)],Z0::H)) (Tr.ite (bD (Int.ofNat 1000) (zc (ar (aq 0 j 4) 3))) (Tr.ok (Ex.ret,[(2,iI 3,some 1)],Z0::H)) (Tr.ok (Ex.normal,[(1,AV.ptr 0 0 0 0,none),(3,AV.int .i64 (bh .i64 j (Int.ofNat 1)),none)],Z0::H))))))))))))) (Tr.ok (Ex.exit 0,[(1,AV.ptr 0 0 0 0,none),(3,AV.int .i64 j,none),(36,AV.bool false,some 1)],(bA [(0,dh dr lc zc lb zb)])::H))) (bA [(0,dh dr lc zc lb zb),(0,an.row (Row.I .i64 [zc (aq 0 j 4),zc (ar (aq 0 j 4) 1),zc (ar (aq 0 j 4) 2),zc (ar (aq 0 j 4) 3)]))]):=by kernel_rfl
theorem PD (n:Nat) (dr:Int) (lc:Nat) (zc:Nat→Int) (lb:Nat) (zb:Nat→Int) (H:ab) (a b j k:Int):aH (bL n 23 125) (il aD n 0) aL aJ (part Tryd.f23 [1,1,1,1,0,1,0,0,1,0,0,1,1,1,0,0]) (hints (Bn j k)) (dG dr lc zc lb zb [ES a b]::H) =
 (fun (Z0:bF)=>Tr.ite (bD k j) (Tr.req (cj k lb) (Tr.req (bW (aq 0 k 2) (bU lb 2)) (Tr.req (bW (ar (aq 0 k 2) 1) (bU lb 2)) (Tr.ite (bO (cw (zb (aq 0 k 2)) a) (cw (zb (ar (aq 0 k 2) 1)) b)) (Tr.ok (Ex.ret,[(2,iI 2,some 1)],Z0::H)) (Tr.ok (Ex.normal,[(1,AV.ptr 0 0 0 0,none),(5,AV.int .i64 j,none),(6,AV.ptr 0 1 0 0,none),(7,AV.int .i64 (bh .i64 k (Int.ofNat 1)),none)],Z0::H)))))) (Tr.ok (Ex.exit 4,[(1,AV.ptr 0 0 0 0,none),(5,AV.int .i64 j,none),(6,AV.ptr 0 1 0 0,none),(7,AV.int .i64 k,none),(113,AV.bool false,some 1)],Z0::H))) (bA [(0,dh dr lc zc lb zb),(0,an.row (Row.I .i64 [a,b]))]):=by kernel_rfl
theorem Tl (n:Nat) (dr:Int) (lc:Nat) (zc:Nat→Int) (lb:Nat) (zb:Nat→Int) (H:ab) (j:Int) (e:Bool):aH (bL (n+1) 23 125) (il aD n 1) (cr aL 4 (Bn j (Int.ofNat 0)) (dG dr lc zc lb zb [ES (zb (aq 0 j 2)) (zb (ar (aq 0 j 2) 1))]::H) (.ite e (.ok (.ret,[(2,.int .i64 2,none)],dG dr lc zc lb zb [ES (zb (aq 0 j 2)) (zb (ar (aq 0 j 2) 1))]::H)) (.ok (.normal,hints (Bn j j++[(113,.bool false)]),dG dr lc zc lb zb [ES (zb (aq 0 j 2)) (zb (ar (aq 0 j 2) 1))]::H)))) aJ (part Tryd.f23 [1,1,1,1,0,1,0,0]) (hints (oh 5 j)) (dq dr lc zc lb zb::H) =
 (fun (Z0:bF)=>Tr.ite (bD j (Int.ofNat lb)) (Tr.req (cj j lb) (Tr.req (bW (aq 0 j 2) (bU lb 2)) (Tr.req (bW (ar (aq 0 j 2) 1) (bU lb 2)) (Tr.req (cj (Int.ofNat 0) 2) (Tr.ite (c8 (Int.ofNat 0) (zb (aq 0 j 2))) (Tr.ite (bx (bD (zb (aq 0 j 2)) (Int.ofNat lc))) (Tr.ok (Ex.ret,[(2,iI 2,some 1)],Z0::H)) (Tr.req (cj (Int.ofNat 1) 2) (Tr.ite (c8 (Int.ofNat 0) (zb (ar (aq 0 j 2) 1))) (Tr.ite (bx (bD (zb (ar (aq 0 j 2) 1)) (Int.ofNat lc))) (Tr.ok (Ex.ret,[(2,iI 2,some 1)],Z0::H)) (Tr.req (cj (Int.ofNat 0) 2) (Tr.req (cj (Int.ofNat 1) 2) (Tr.ite (cw (zb (aq 0 j 2)) (zb (ar (aq 0 j 2) 1))) (Tr.ok (Ex.ret,[(2,iI 2,some 1)],Z0::H)) (Tr.reqP ([(1,AV.ptr 0 0 0 0),(5,AV.int .i64 j),(6,AV.ptr 0 1 0 0),(7,iI 0)]=[(1,AV.ptr 0 0 0 0),(5,AV.int .i64 j),(6,AV.ptr 0 1 0 0),(7,iI 0)]∧Z0::H=Z0::H) (Tr.ite e (Tr.ok (Ex.ret,[(2,iI 2,none)],Z0::H)) (Tr.ok (Ex.normal,[(1,AV.ptr 0 0 0 0,none),(5,AV.int .i64 (bh .i64 j (Int.ofNat 1)),none)],Z0::H)))))))) (Tr.ok (Ex.ret,[(2,iI 2,some 1)],Z0::H))))) (Tr.ok (Ex.ret,[(2,iI 2,some 1)],Z0::H))))))) (Tr.ok (Ex.exit 2,[(1,AV.ptr 0 0 0 0,none),(5,AV.int .i64 j,none),(84,AV.bool false,some 1)],(bA [(0,dh dr lc zc lb zb)])::H))) (bA [(0,dh dr lc zc lb zb),(0,an.row (Row.I .i64 [zb (aq 0 j 2),zb (ar (aq 0 j 2) 1)]))]):=by kernel_rfl
theorem PC (n:Nat) (dr:Int) (lc:Nat) (zc:Nat→Int) (lb:Nat) (zb:Nat→Int) (H:ab) (j:Int):aH (bL (n+1) 23 125) (il aD n 1) (eF aL 4) aJ (part Tryd.f23 [1,1,1,1,0,1,0,0]) (hints (oh 5 j)) (dq dr lc zc lb zb::H) =
 (fun (Z0:bF)=>Tr.ite (bD j (Int.ofNat lb)) (Tr.req (cj j lb) (Tr.req (bW (aq 0 j 2) (bU lb 2)) (Tr.req (bW (ar (aq 0 j 2) 1) (bU lb 2)) (Tr.req (cj (Int.ofNat 0) 2) (Tr.ite (c8 (Int.ofNat 0) (zb (aq 0 j 2))) (Tr.ite (bx (bD (zb (aq 0 j 2)) (Int.ofNat lc))) (Tr.ok (Ex.ret,[(2,iI 2,some 1)],Z0::H)) (Tr.req (cj (Int.ofNat 1) 2) (Tr.ite (c8 (Int.ofNat 0) (zb (ar (aq 0 j 2) 1))) (Tr.ite (bx (bD (zb (ar (aq 0 j 2) 1)) (Int.ofNat lc))) (Tr.ok (Ex.ret,[(2,iI 2,some 1)],Z0::H)) (Tr.req (cj (Int.ofNat 0) 2) (Tr.req (cj (Int.ofNat 1) 2) (Tr.ite (cw (zb (aq 0 j 2)) (zb (ar (aq 0 j 2) 1))) (Tr.ok (Ex.ret,[(2,iI 2,some 1)],Z0::H)) Tr.bad)))) (Tr.ok (Ex.ret,[(2,iI 2,some 1)],Z0::H))))) (Tr.ok (Ex.ret,[(2,iI 2,some 1)],Z0::H))))))) (Tr.ok (Ex.exit 2,[(1,AV.ptr 0 0 0 0,none),(5,AV.int .i64 j,none),(84,AV.bool false,some 1)],(bA [(0,dh dr lc zc lb zb)])::H))) (bA [(0,dh dr lc zc lb zb),(0,an.row (Row.I .i64 [zb (aq 0 j 2),zb (ar (aq 0 j 2) 1)]))]):=by kernel_rfl
theorem Yc (n:Nat) (dr:Int) (lc:Nat) (zc:Nat→Int) (lb:Nat) (zb:Nat→Int) (H:ab) (e1 e2 e3:Bool) (l1 l2:bF) (C:List AV→Prop):bj Tryd.prog (cd n) 100000 23 Tryd.f23 (KtG.kt 23) (il (lX aD 64 (gB e3 C)) n 0) (cr (cr aL 0 (oh 3 (Int.ofNat 0)) (dq dr lc zc lb zb::H) (.ite e1 (.ok (.ret,[(2,.int .i64 3,none)],l1::H)) (.ok (.normal,hints (oh 3 (Int.ofNat lc)++[(36,.bool false)]),dq dr lc zc lb zb::H)))) 2 (oh 5 (Int.ofNat 0)) (dq dr lc zc lb zb::H) (.ite e2 (.ok (.ret,[(2,.int .i64 2,none)],l2::H)) (.ok (.normal,hints (oh 5 (Int.ofNat lb)++[(84,.bool false)]),dq dr lc zc lb zb::H)))) aJ [(bn dr lc zc lb zb,none)] H =
 (fun (Z0:bF)=>Tr.ite (bD (Int.ofNat lc) (Int.ofNat 1)) (Tr.ok ((iI 6,some 1),H)) (Tr.ite (bD (Int.ofNat 10) (Int.ofNat lc)) (Tr.ok ((iI 6,some 1),H)) (Tr.ite (bD (Int.ofNat 40) (Int.ofNat lb)) (Tr.ok ((iI 6,some 1),H)) (Tr.ite (bD dr (Int.ofNat 1)) (Tr.ok ((iI 3,some 1),H)) (Tr.ite (bD (Int.ofNat 100) dr) (Tr.ok ((iI 3,some 1),H)) (Tr.reqP ([(1,AV.ptr 0 0 0 0),(3,iI 0)]=[(1,AV.ptr 0 0 0 0),(3,iI 0)]∧Z0::H=Z0::H) (Tr.ite e1 (Tr.ok ((iI 3,none),H)) (Tr.reqP ([(1,AV.ptr 0 0 0 0),(5,iI 0)]=[(1,AV.ptr 0 0 0 0),(5,iI 0)]∧Z0::H=Z0::H) (Tr.ite e2 (Tr.ok ((iI 2,none),H)) (Tr.reqP (C [bn dr lc zc lb zb]) (Tr.ite e3 (Tr.ok ((iI 16,some 1),H)) (Tr.ok ((iI 0,some 1),H))))))))))))) (bA [(0,dh dr lc zc lb zb)]):=by kernel_rfl
theorem TF (n:Nat) (dr:Int) (lc:Nat) (zc:Nat→Int) (lb:Nat) (zb:Nat→Int) (H:ab):bj Tryd.prog (cd n) 100000 23 Tryd.f23 (KtG.kt 23) (il aD n 0) (eF aL 0) aJ [(bn dr lc zc lb zb,none)] H =
 Tr.ite (bD (Int.ofNat lc) (Int.ofNat 1)) (Tr.ok ((iI 6,some 1),H)) (Tr.ite (bD (Int.ofNat 10) (Int.ofNat lc)) (Tr.ok ((iI 6,some 1),H)) (Tr.ite (bD (Int.ofNat 40) (Int.ofNat lb)) (Tr.ok ((iI 6,some 1),H)) (Tr.ite (bD dr (Int.ofNat 1)) (Tr.ok ((iI 3,some 1),H)) (Tr.ite (bD (Int.ofNat 100) dr) (Tr.ok ((iI 3,some 1),H)) Tr.bad)))):=by kernel_rfl
end Go.Eng
end
section
namespace Go.Eng
open Go.Proofs Go.Eng.Gall
theorem NQ:∀ b,(0,b) ∈ aE (aV Tryd.f23)→b=.loop (part Tryd.f23 [1,1,1,0,1,0,0]):=dz (by kernel_rfl)
theorem NR:∀ b,(2,b) ∈ aE (aV Tryd.f23)→b=.loop (part Tryd.f23 [1,1,1,1,0,1,0,0]):=dz (by kernel_rfl)
theorem NS:∀ b,(4,b) ∈ aE (part Tryd.f23 [1,1,1,1,0,1,0,0])→b=.loop (part Tryd.f23 [1,1,1,1,0,1,0,0,1,0,0,1,1,1,0,0]):=dz (by kernel_rfl)
section
variable (n:Nat) (dr:Int) (lc:Nat) (zc:Nat→Int) (lb:Nat) (zb:Nat→Int) (H:ab)
noncomputable def MC (j:Nat):bF:=dG dr lc zc lb zb [(0,.row (.I .i64 [zc (j*4),zc (j*4+1),zc (j*4+2),zc (j*4+3)]))]
theorem R7 (hl:lc≤1000):exec (bL n 23 125) (.block 0 (.loop (part Tryd.f23 [1,1,1,0,1,0,0]))) (oh 3 (Int.ofNat 0)) (dq dr lc zc lb zb::H) =
 some (cond (cC (jx zc) lc) (.ret,[(2,.int .i64 3)],MC dr lc zc lb zb (fN (jx zc) lc 0)::H) (.normal,oh 3 (Int.ofNat lc)++[(36,.bool false)],dq dr lc zc lb zb::H)):=by
 refine eA (n:=n) (f:=23) (nt:=125) (c:=part Tryd.f23 [1,1,1,0,1,0,0]) 0 (fun j=>oh 3 (j:Int)) (fun _=>dq dr lc zc lb zb::H) lc (jx zc) (fun j=>([(2,.int .i64 3)],MC dr lc zc lb zb j::H)) (_,_) (by omega) (fun j hj=>?_) ?_
 · have ej:bh .i64 (j:Int) (Int.ofNat 1)=((j+1:Nat):Int):=dJ (by omega)
   have ei:aq 0 (j:Int) 4=j*4:=by rw[bG];omega
   have hs:jx zc j=!(decide (0≤zc (j*4)) && (decide (zc (j*4)≤zc (j*4+1)) && (decide (zc (j*4+1)≤1000) && (decide (0≤zc (j*4+2)) && (decide (zc (j*4+2)≤zc (j*4+3)) && decide (zc (j*4+3)≤1000)))))):=rfl
   have T:=PB n dr lc zc lb zb H (j:Int)
   rw[ei,aI,aI,aI,ej] at T
   refine ay T (av _) (ai _ _) (aj _ _) ?_
   refine Tr.ae (fun h0=>?_) wJ
   refine Tr.aa wG (Tr.aa wG (Tr.aa wG (Tr.aa wG (Tr.aa wG ?_))))
   have yes:(¬ (0≤zc (j*4)∧zc (j*4)≤zc (j*4+1)∧zc (j*4+1)≤1000∧0≤zc (j*4+2)∧zc (j*4+2)≤zc (j*4+3)∧zc (j*4+3)≤1000))→jx zc j=true:=fun h=>by rw[hs];simp;omega
   refine Tr.ae (fun q1=>Tr.ag ?_) (fun q1=>Tr.ae (fun q2=>Tr.ag ?_) (fun q2=>Tr.ae (fun q3=>Tr.ag ?_) (fun q3=>Tr.ae (fun q4=>Tr.ag ?_) (fun q4=>Tr.ae (fun q5=>Tr.ag ?_) (fun q5=>Tr.ae (fun q6=>Tr.ag ?_) (fun q6=>Tr.ag ?_))))))
   · rw[bw,decide_eq_true_iff] at q1
     rw[if_pos (yes (by have:zc (j*4)<0:=q1;omega))];rfl
   · rw[bw,decide_eq_true_iff] at q2
     rw[if_pos (yes (by omega))];rfl
   · rw[bw,decide_eq_true_iff] at q3
     rw[if_pos (yes (by have:1000<zc (j*4+1):=q3;omega))];rfl
   · rw[bw,decide_eq_true_iff] at q4
     rw[if_pos (yes (by have:zc (j*4+2)<0:=q4;omega))];rfl
   · rw[bw,decide_eq_true_iff] at q5
     rw[if_pos (yes (by omega))];rfl
   · rw[bw,decide_eq_true_iff] at q6
     rw[if_pos (yes (by have:1000<zc (j*4+3):=q6;omega))];rfl
   · rw[bw,decide_eq_false_iff_not] at q1 q2 q3 q4 q5 q6
     have q1:¬ zc (j*4)<0:=q1
     have q3:¬ 1000<zc (j*4+1):=q3
     have q4:¬ zc (j*4+2)<0:=q4
     have q6:¬ 1000<zc (j*4+3):=q6
     rw[if_neg (by rw[hs];simp;omega)]
     exact ⟨rfl,rfl⟩
 · obtain ⟨x,h1,rfl⟩:=ay (Q:=fun x=>x=(.exit 0,oh 3 (Int.ofNat lc)++[(36,.bool false)],dq dr lc zc lb zb::H)) (PB n dr lc zc lb zb H (Int.ofNat lc)) (av _) (ai _ _) (aj _ _) (by
    refine Tr.ae wJ (fun h0=>Tr.ag rfl))
   exact h1
theorem Sb (a b:Int) (j:Nat) (hj:j≤lb) (hb:lb≤1000):exec (bL n 23 125) (.block 4 (.loop (part Tryd.f23 [1,1,1,1,0,1,0,0,1,0,0,1,1,1,0,0]))) (Bn (j:Int) (Int.ofNat 0)) (dG dr lc zc lb zb [ES a b]::H) =
 some (cond (cC (iq zb a b) j) (.ret,[(2,.int .i64 2)],dG dr lc zc lb zb [ES a b]::H) (.normal,Bn (j:Int) (j:Int)++[(113,.bool false)],dG dr lc zc lb zb [ES a b]::H)):=by
 refine eA (n:=n) (f:=23) (nt:=125) (c:=part Tryd.f23 [1,1,1,1,0,1,0,0,1,0,0,1,1,1,0,0]) 4 (fun k=>Bn (j:Int) (k:Int)) (fun _=>dG dr lc zc lb zb [ES a b]::H) j (iq zb a b) (fun k=>([(2,.int .i64 2)],dG dr lc zc lb zb [ES a b]::H)) (_,_) (by omega) (fun k hk=>?_) ?_
 · have ek:bh .i64 (k:Int) (Int.ofNat 1)=((k+1:Nat):Int):=dJ (by omega)
   have ei:aq 0 (k:Int) 2=k*2:=by rw[bG];omega
   have hp:bO (cw (zb (k*2)) a) (cw (zb (k*2+1)) b)=iq zb a b k:=by
    rw[bT,aQ,aQ];unfold iq;rw[Bool.eq_iff_iff];simp;constructor<;>(rintro ⟨h1,h2⟩;exact ⟨h1.symm,h2.symm⟩)
   have T:=PD n dr lc zc lb zb H a b (j:Int) (k:Int)
   rw[ei,aI,ek,hp] at T
   refine ay T (av _) (ai _ _) (aj _ _) ?_
   refine Tr.ae (fun h0=>?_) wJ
   refine Tr.aa wG (Tr.aa wG (Tr.aa wG (Tr.ae (fun q=>Tr.ag ?_) (fun q=>Tr.ag ?_))))
   · rw[if_pos q];rfl
   · rw[if_neg (by rw[q];decide)];exact ⟨rfl,rfl⟩
 · obtain ⟨x,h1,rfl⟩:=ay (Q:=fun x=>x=(.exit 4,Bn (j:Int) (j:Int)++[(113,.bool false)],dG dr lc zc lb zb [ES a b]::H)) (PD n dr lc zc lb zb H a b (j:Int) (j:Int)) (av _) (ai _ _) (aj _ _) (by
    refine Tr.ae wJ (fun h0=>Tr.ag rfl))
   exact h1
theorem R9   (hl:lc≤1000) (hb:lb≤1000):exec (bL (n+1) 23 125) (.block 2 (.loop (part Tryd.f23 [1,1,1,1,0,1,0,0]))) (oh 5 (Int.ofNat 0)) (dq dr lc zc lb zb::H) =
 some (cond (cC (gw lc zb) lb) (.ret,[(2,.int .i64 2)],dG dr lc zc lb zb [ES (zb (fN (gw lc zb) lb 0*2)) (zb (fN (gw lc zb) lb 0*2+1))]::H) (.normal,oh 5 (Int.ofNat lb)++[(84,.bool false)],dq dr lc zc lb zb::H)):=by
 refine eA (n:=n+1) (f:=23) (nt:=125) (c:=part Tryd.f23 [1,1,1,1,0,1,0,0]) 2 (fun j=>oh 5 (j:Int)) (fun _=>dq dr lc zc lb zb::H) lb (gw lc zb) (fun j=>([(2,.int .i64 2)],dG dr lc zc lb zb [ES (zb (j*2)) (zb (j*2+1))]::H)) (_,_) (by omega) (fun j hj=>?_) ?_
 · have ej : bh .i64 (j:Int) (Int.ofNat 1)=((j+1:Nat):Int):=dJ (by omega)
   have ei:aq 0 (j:Int) 2=j*2:=by rw[bG];omega
   have T:=Tl n dr lc zc lb zb H (j:Int) (cC (iq zb (zb (j*2)) (zb (j*2+1))) j)
   rw[ei,aI,ej] at T
   refine ay T (fa n 1) (aP (ai _ _) NS (fun x h=>b7 h (Sb (n+1) dr lc zc lb zb H _ _ j (by omega) hb))) (aj _ _) ?_
   refine Tr.ae (fun h0=>?_) wJ
   refine Tr.aa wG (Tr.aa wG (Tr.aa wG (Tr.aa wG ?_)))
   have yes:(zb (j*2)=zb (j*2+1)∨¬ (0≤zb (j*2)∧zb (j*2)<lc)∨¬ (0≤zb (j*2+1)∧zb (j*2+1)<lc))→gw lc zb j=true:=fun h=>by
    unfold gw;rcases h with h | h | h
    · rw[decide_eq_true h];rfl
    · rw[decide_eq_false h];simp
    · rw[decide_eq_false h];simp
   refine Tr.ae (fun q1=>?_) (fun q1=>Tr.ag ?_)
   · rw[bf,decide_eq_true_iff] at q1
     have q1:0≤zb (j*2):=q1
     refine Tr.ae (fun q2=>Tr.ag ?_) (fun q2=>?_)
     · rw[aB,bw] at q2
       have q2:¬ zb (j*2)<(lc:Int):=by simpa using q2
       rw[if_pos (yes (.inr (.inl (by omega))))];rfl
     · rw[aB,bw] at q2
       have q2:zb (j*2)<(lc:Int):=by simpa using q2
       refine Tr.aa wG (Tr.ae (fun q3=>?_) (fun q3=>Tr.ag ?_))
       · rw[bf,decide_eq_true_iff] at q3
         have q3:0≤zb (j*2+1):=q3
         refine Tr.ae (fun q4=>Tr.ag ?_) (fun q4=>?_)
         · rw[aB,bw] at q4
           have q4:¬ zb (j*2+1)<(lc:Int):=by simpa using q4
           rw[if_pos (yes (.inr (.inr (by omega))))];rfl
         · rw[aB,bw] at q4
           have q4:zb (j*2+1)<(lc:Int):=by simpa using q4
           refine Tr.aa wG (Tr.aa wG (Tr.ae (fun q5=>Tr.ag ?_) (fun q5=>?_)))
           · rw[aQ,beq_iff_eq] at q5
             rw[if_pos (yes (.inl q5))];rfl
           · rw[aQ,beq_eq_false_iff_ne] at q5
             refine Tr.ak ⟨rfl,rfl⟩ (Tr.ae (fun q6=>Tr.ag ?_) (fun q6=>Tr.ag ?_))
             · rw[if_pos (by unfold gw;rw[q6];simp)];rfl
             · rw[if_neg (by unfold gw;rw[q6,decide_eq_false q5,decide_eq_true ⟨q1,q2⟩,decide_eq_true ⟨q3,q4⟩];decide)]
               exact ⟨rfl,rfl⟩
       · rw[bf,decide_eq_false_iff_not] at q3
         have q3:¬ 0≤zb (j*2+1):=q3
         rw[if_pos (yes (.inr (.inr (by omega))))];rfl
   · rw[bf,decide_eq_false_iff_not] at q1
     have q1:¬ 0≤zb (j*2):=q1
     rw[if_pos (yes (.inr (.inl (by omega))))];rfl
 · obtain ⟨x,h1,rfl⟩:=ay (Q:=fun x=>x=(.exit 2,oh 5 (Int.ofNat lb)++[(84,.bool false)],dq dr lc zc lb zb::H)) (PC n dr lc zc lb zb H (Int.ofNat lb)) (fa n 1) (b8 (ai _ _) 4) (aj _ _) (by
    refine Tr.ae wJ (fun h0=>Tr.ag rfl))
   exact h1
theorem Qp (hl:lc≤1000) (hb:lb≤1000):cd (n+3) (.fn 23) [bn dr lc zc lb zb] H=some (.int .i64 (dg dr lc zc lb zb),H):=by
 by_cases k0:1≤lc∧lc≤10∧lb≤40
 · obtain ⟨k1,k2,k3⟩:=k0;have ht:(lX aD 64 (gB (lS lc (fun c=>cH zb c lb)) (fun A=>A=[bn dr lc zc lb zb]∧fi lc lb zb))).Ok (cd (n+2)):=yD (aW _) (fun A H hA=>by
    obtain ⟨rfl,hp⟩:=hA;exact VL n dr lc zc lb zb H k2 k1 hb hp)
   refine br (n:=n+2) Tryd.func23 rfl rfl rfl (Yc (n+2) dr lc zc lb zb H (cC (jx zc) lc) (cC (gw lc zb) lb) (lS lc (fun c=>cH zb c lb)) (MC dr lc zc lb zb (fN (jx zc) lc 0)) (dG dr lc zc lb zb [ES (zb (fN (gw lc zb) lb 0*2)) (zb (fN (gw lc zb) lb 0*2+1))]) (fun A=>A=[bn dr lc zc lb zb]∧fi lc lb zb)) (bo _ _ ht) (aP (aP (ai _ _) NQ (fun y h=>b7 h (R7 (n+2) dr lc zc lb zb H hl))) NR (fun y h=>b7 h (R9 (n+1) dr lc zc lb zb H hl hb))) (aj _ _) ?_;have hG:dg dr lc zc lb zb=if dr<1∨100<dr∨cC (jx zc) lc=true then 3 else if cC (gw lc zb) lb=true then 2 else if lS lc (fun c=>cH zb c lb)=true then 16 else 0:=by unfold dg;rw[if_neg (by omega)]
   rw[hG];refine Tr.ae wJ (fun _=>Tr.ae wJ (fun _=>Tr.ae wJ (fun _=>?_)));refine Tr.ae (fun q=>?_) (fun q=>Tr.ae (fun q'=>?_) (fun q'=>?_))
   · rw[bw,decide_eq_true_iff] at q;rw[if_pos (.inl q)];exact Tr.ag ⟨rfl,rfl⟩
   · rw[bw,decide_eq_true_iff] at q';rw[if_pos (.inr (.inl q'))];exact Tr.ag ⟨rfl,rfl⟩
   · rw[bw,decide_eq_false_iff_not] at q q';have q:¬ dr<1:=q;have q':¬ 100<dr:=q';refine Tr.ak ⟨rfl,rfl⟩ (Tr.ae (fun r=>?_) (fun r=>?_))
     · rw[if_pos (.inr (.inr r))];exact Tr.ag ⟨rfl,rfl⟩
     · rw[if_neg (by rintro (h | h | h);omega;omega;rw[r] at h;cases h)];refine Tr.ak ⟨rfl,rfl⟩ (Tr.ae (fun u=>?_) (fun u=>?_))
       · rw[if_pos u];exact Tr.ag ⟨rfl,rfl⟩
       · rw[if_neg (by rw[u];decide)];refine Tr.ak ⟨rfl,pU u⟩ (Tr.ae (fun w=>?_) (fun w=>?_))
         · rw[if_pos w];exact Tr.ag ⟨rfl,rfl⟩
         · rw[if_neg (by rw[w];decide)];exact Tr.ag ⟨rfl,rfl⟩
 · refine br (n:=n+2) Tryd.func23 rfl rfl rfl (TF (n+2) dr lc zc lb zb H) (av _) (b8 (ai _ _) 0) (aj _ _) ?_;have hG:dg dr lc zc lb zb=6:=by unfold dg;rw[if_pos (by omega)]
   rw[hG];refine Tr.ae (fun q=>Tr.ag ⟨rfl,rfl⟩) (fun q=>Tr.ae (fun q2=>Tr.ag ⟨rfl,rfl⟩) (fun q2=>Tr.ae (fun q3=>Tr.ag ⟨rfl,rfl⟩) (fun q3=>?_)));exfalso;simp (disch:=omega) only[nV,nW] at q;simp (disch:=omega) only[nV,nW] at q2;simp (disch:=omega) only[nV,nW] at q3;omega
end
end Go.Eng
end
section
namespace Go.Eng
open Go.Proofs
noncomputable def c9 (r:Nat→Int):Nat×an:=(0,.row (.M [.arr .i64 r 20]))
noncomputable def fA (bs:List (Nat×an)):bF:=⟨false,c9 (fun _=>Int.ofNat 0)::bs⟩
noncomputable def nB (A:AV) (lc:Nat) (t:Int):aF:=[(0,A),(2,.ptr 0 0 0 0),(3,.ptr 0 1 0 0),(17,.int .i64 (Int.ofNat lc)),(18,.int .i64 t)]
noncomputable def yA (A:AV) (lc:Nat) (t:Int) (B:Nat→Int) (c:Int):aF:=[(0,A),(2,.ptr 0 0 0 0),(3,.ptr 0 1 0 0),(4,.ptr 0 2 0 0),(17,.int .i64 (Int.ofNat lc)),(18,.int .i64 t),(24,.agg (.M [.arr .u64 B 10])),(25,.int .i64 c)]
noncomputable def Bo (A:AV) (lc:Nat) (t:Int) (B:Nat→Int) (c x:Int):aF:=[(0,A),(2,.ptr 0 0 0 0),(3,.ptr 0 1 0 0),(4,.ptr 0 2 0 0),(5,.int .i64 c),(6,.int .u64 x),(17,.int .i64 (Int.ofNat lc)),(18,.int .i64 t),(24,.agg (.M [.arr .u64 B 10])),(25,.int .i64 c)]
noncomputable def Q6 (cz:Int→Int):List AV→Option (Prop×AV)
 | [.int .u64 x]=>some (0≤x∧x<18446744073709551616,.int .i64 (cz x))
 | _=>none
theorem PN (n:Nat) (dr:Int) (lc:Nat) (zc:Nat→Int) (lb:Nat) (zb:Nat→Int) (W B:Nat→Int) (H:ab) (cz:Int→Int) (r q:Nat→Int) (t c x:Int):aH (bL n 56 69) (il (lX aD 82 (Q6 cz)) n 0) aL aJ (part Tryd.f56 [1,1,0,1,0,0,1,1,0,0,1,0,1,0,0,1,1,0,0,1,0,0]) (hints (Bo (shV dr lc zc lb zb W B) lc t B c x)) (fA [c9 r,c9 q]::H) =
 Tr.ite (bx (cw x (Int.ofNat 0))) (Tr.reqP (Int.NonNeg (x-0)∧Int.NonNeg (18446744073709551616-(x+1))) (Tr.req (cj c 10) (Tr.req (cD 0 0) (Tr.req (bW (aq 0 c 2) 20) (Tr.req (cj (cz x) 10) (Tr.req (cD 0 0) (Tr.req (bW (aq 0 (cz x) 2) 20) (Tr.req (cj c 10) (Tr.req (cD 0 0) (Tr.req (bW (aq 0 c 2) 20) (Tr.req (bO (eR 0 0) (eR 0 1)) (Tr.req (cj (cz x) 10) (Tr.req (cD 0 0) (Tr.req (bW (ar (aq 0 (cz x) 2) 1) 20) (Tr.req (cj c 10) (Tr.req (cD 0 0) (Tr.req (bW (ar (aq 0 c 2) 1) 20) (Tr.req (cj (cz x) 10) (Tr.req (cD 0 0) (Tr.req (bW (ar (aq 0 (cz x) 2) 1) 20) (Tr.req (bO (eR 0 0) (eR 0 1)) (Tr.ok (Ex.normal,[(0,shV dr lc zc lb zb W B,none),(2,AV.ptr 0 0 0 0,none),(3,AV.ptr 0 1 0 0,none),(4,AV.ptr 0 2 0 0,none),(5,AV.int .i64 c,none),(6,AV.int IntKind.u64 (l9 IntKind.u64 x (bN IntKind.u64 x (Int.ofNat 1))),none),(17,iI lc,none),(18,AV.int .i64 t,none),(24,AV.agg (Row.M [df.arr IntKind.u64 B 10]),none),(25,AV.int .i64 c,none)],(bA [(0,an.row (rM (fun x=>Int.ofNat 0) 20)),(0,an.row (rM (dQ (dQ r (aq 0 c 2) (nH (r (aq 0 c 2)) (bh .i64 (r (aq 0 (cz x) 2)) (Int.ofNat 1)))) (ar (aq 0 (cz x) 2) 1) (rG (dQ r (aq 0 c 2) (nH (r (aq 0 c 2)) (bh .i64 (r (aq 0 (cz x) 2)) (Int.ofNat 1))) (ar (aq 0 (cz x) 2) 1)) (bN .i64 (dQ r (aq 0 c 2) (nH (r (aq 0 c 2)) (bh .i64 (r (aq 0 (cz x) 2)) (Int.ofNat 1))) (ar (aq 0 c 2) 1)) (Int.ofNat 1)))) 20)),(0,an.row (rM q 20))])::H))))))))))))))))))))))) (Tr.ok (Ex.exit 4,[(0,shV dr lc zc lb zb W B,none),(2,AV.ptr 0 0 0 0,none),(3,AV.ptr 0 1 0 0,none),(4,AV.ptr 0 2 0 0,none),(5,AV.int .i64 c,none),(6,AV.int IntKind.u64 x,none),(17,iI lc,none),(18,AV.int .i64 t,none),(24,AV.agg (Row.M [df.arr IntKind.u64 B 10]),none),(25,AV.int .i64 c,none),(30,AV.bool false,some 1)],(bA [(0,an.row (rM (fun x=>Int.ofNat 0) 20)),(0,an.row (rM r 20)),(0,an.row (rM q 20))])::H)):=by kernel_rfl
theorem Ts (n:Nat) (dr:Int) (lc:Nat) (zc:Nat→Int) (lb:Nat) (zb:Nat→Int) (W B:Nat→Int) (H:ab) (r q r':Nat→Int) (t c x:Int):aH (bL n 56 69) (il aD n 0) (cr aL 4 (Bo (shV dr lc zc lb zb W B) lc t B c (B (aq 0 c 1))) (fA [c9 r,c9 q]::H) (.ok (.normal,hints (Bo (shV dr lc zc lb zb W B) lc t B c x++[(30,.bool false)]),fA [c9 r',c9 q]::H))) aJ (part Tryd.f56 [1,1,0,1,0,0,1,1,0,0,1,0,1,0,0]) (hints (yA (shV dr lc zc lb zb W B) lc t B c)) (fA [c9 r,c9 q]::H) =
 (fun (Z0:aF)=>((fun (Z1:bF)=>Tr.ite (bD c (Int.ofNat 10)) (Tr.req (cj c 10) (Tr.req (bW (aq 0 c 1) 10) (Tr.reqP (Z0=Z0∧Z1::H=Z1::H) (Tr.ok (Ex.normal,[(0,shV dr lc zc lb zb W B,none),(2,AV.ptr 0 0 0 0,none),(3,AV.ptr 0 1 0 0,none),(4,AV.ptr 0 2 0 0,none),(17,iI lc,none),(18,AV.int .i64 t,none),(24,AV.agg (Row.M [df.arr IntKind.u64 B 10]),none),(25,AV.int .i64 (bh .i64 c (Int.ofNat 1)),none)],(bA [(0,an.row (rM (fun x=>Int.ofNat 0) 20)),(0,an.row (rM r' 20)),(0,an.row (rM q 20))])::H))))) (Tr.ok (Ex.exit 2,[(0,shV dr lc zc lb zb W B,none),(2,AV.ptr 0 0 0 0,none),(3,AV.ptr 0 1 0 0,none),(4,AV.ptr 0 2 0 0,none),(17,iI lc,none),(18,AV.int .i64 t,none),(24,AV.agg (Row.M [df.arr IntKind.u64 B 10]),none),(25,AV.int .i64 c,none),(26,AV.bool false,some 1)],Z1::H))) (bA [(0,an.row (rM (fun x=>Int.ofNat 0) 20)),(0,an.row (rM r 20)),(0,an.row (rM q 20))]))) [(0,shV dr lc zc lb zb W B),(2,AV.ptr 0 0 0 0),(3,AV.ptr 0 1 0 0),(4,AV.ptr 0 2 0 0),(5,AV.int .i64 c),(6,AV.int IntKind.u64 (B (aq 0 c 1))),(17,iI lc),(18,AV.int .i64 t),(24,AV.agg (Row.M [df.arr IntKind.u64 B 10])),(25,AV.int .i64 c)]:=by kernel_rfl
theorem PM (n:Nat) (dr:Int) (lc:Nat) (zc:Nat→Int) (lb:Nat) (zb:Nat→Int) (W B:Nat→Int) (H:ab) (r q:Nat→Int) (t:Int):aH (bL n 56 69) (il aD n 0) (eF aL 4) aJ (part Tryd.f56 [1,1,0,1,0,0,1,1,0,0,1,0,1,0,0]) (hints (yA (shV dr lc zc lb zb W B) lc t B 10)) (fA [c9 r,c9 q]::H) =
 Tr.ite (bD (Int.ofNat 10) (Int.ofNat 10)) (Tr.req (cj (Int.ofNat 10) 10) (Tr.req (bW (aq 0 (Int.ofNat 10) 1) 10) Tr.bad)) (Tr.ok (Ex.exit 2,[(0,shV dr lc zc lb zb W B,none),(2,AV.ptr 0 0 0 0,none),(3,AV.ptr 0 1 0 0,none),(4,AV.ptr 0 2 0 0,none),(17,iI lc,none),(18,AV.int .i64 t,none),(24,AV.agg (Row.M [df.arr IntKind.u64 B 10]),none),(25,iI 10,none),(26,AV.bool false,some 1)],(bA [(0,an.row (rM (fun x=>Int.ofNat 0) 20)),(0,an.row (rM r 20)),(0,an.row (rM q 20))])::H)):=by kernel_rfl
theorem Tq (n:Nat) (dr:Int) (lc:Nat) (zc:Nat→Int) (lb:Nat) (zb:Nat→Int) (W B:Nat→Int) (H:ab) (r r':Nat→Int) (t:Int):aH (bL n 56 69) (il aD n 0) (cr aL 2 (yA (shV dr lc zc lb zb W B) lc t B (Int.ofNat 0)) (fA [c9 r,c9 r]::H) (.ok (.normal,hints (yA (shV dr lc zc lb zb W B) lc t B (Int.ofNat 10)++[(26,.bool false)]),fA [c9 r',c9 r]::H))) aJ (part Tryd.f56 [1,1,0,1,0,0]) (hints (nB (shV dr lc zc lb zb W B) lc t)) (fA [c9 r]::H) =
 (fun (Z0:aF)=>((fun (Z1:Nat×an)=>Tr.ite (bD t (Int.ofNat lc)) (Tr.req (eD 0 20 0 20) (Tr.reqP (Z0=Z0∧(bA [Z1,(0,an.row (rM r 20)),(0,an.row (rM (kT (fun x=>Int.ofNat 0) 0 r 20) 20))])::H=(bA [Z1,(0,an.row (rM r 20)),(0,an.row (rM r 20))])::H) (Tr.ite (l8 r' r 20) (Tr.ok (Ex.exit 0,[(0,shV dr lc zc lb zb W B,none),(2,AV.ptr 0 0 0 0,none),(3,AV.ptr 0 1 0 0,none),(17,iI lc,none),(18,AV.int .i64 t,none),(66,AV.bool true,some 1)],(bA [Z1,(0,an.row (rM r' 20)),(0,an.row (rM r 20))])::H)) (Tr.ok (Ex.normal,[(0,shV dr lc zc lb zb W B,none),(2,AV.ptr 0 0 0 0,none),(3,AV.ptr 0 1 0 0,none),(17,iI lc,none),(18,AV.int .i64 (bh .i64 t (Int.ofNat 1)),none)],(bA [Z1,(0,an.row (rM r' 20)),(0,an.row (rM r 20))])::H))))) (Tr.ok (Ex.exit 0,[(0,shV dr lc zc lb zb W B,none),(2,AV.ptr 0 0 0 0,none),(3,AV.ptr 0 1 0 0,none),(17,iI lc,none),(18,AV.int .i64 t,none),(19,AV.bool false,some 1)],(bA [Z1,(0,an.row (rM r 20))])::H))) (0,an.row (rM (fun x=>Int.ofNat 0) 20)))) [(0,shV dr lc zc lb zb W B),(2,AV.ptr 0 0 0 0),(3,AV.ptr 0 1 0 0),(4,AV.ptr 0 2 0 0),(17,iI lc),(18,AV.int .i64 t),(24,AV.agg (Row.M [df.arr IntKind.u64 B 10])),(25,iI 0)]:=by kernel_rfl
theorem PL (n:Nat) (dr:Int) (lc:Nat) (zc:Nat→Int) (lb:Nat) (zb:Nat→Int) (W B:Nat→Int) (H:ab) (r:Nat→Int) (t:Int):aH (bL n 56 69) (il aD n 0) (eF aL 2) aJ (part Tryd.f56 [1,1,0,1,0,0]) (hints (nB (shV dr lc zc lb zb W B) lc t)) (fA [c9 r]::H) =
 Tr.ite (bD t (Int.ofNat lc)) (Tr.req (eD 0 20 0 20) Tr.bad) (Tr.ok (Ex.exit 0,[(0,shV dr lc zc lb zb W B,none),(2,AV.ptr 0 0 0 0,none),(3,AV.ptr 0 1 0 0,none),(17,iI lc,none),(18,AV.int .i64 t,none),(19,AV.bool false,some 1)],(bA [(0,an.row (rM (fun x=>Int.ofNat 0) 20)),(0,an.row (rM r 20))])::H)):=by kernel_rfl
theorem TP (n:Nat) (dr:Int) (lc:Nat) (zc:Nat→Int) (lb:Nat) (zb:Nat→Int) (W B:Nat→Int) (H:ab) (r:Nat→Int):bj Tryd.prog (cd n) 100000 56 Tryd.f56 (KtG.kt 56) (il aD n 0) (cr aL 0 (nB (shV dr lc zc lb zb W B) lc (Int.ofNat 0)) (fA [c9 W]::H) (.ok (.normal,hints (nB (shV dr lc zc lb zb W B) lc (Int.ofNat lc)++[(19,.bool false)]),fA [c9 r]::H))) aJ [(shV dr lc zc lb zb W B,none)] H =
 (fun (Z0:aF)=>Tr.req (eD 0 20 0 20) (Tr.reqP (Z0=Z0∧(bA [(0,an.row (rM (fun x=>Int.ofNat 0) 20)),(0,an.row (rM (kT (fun x=>Int.ofNat 0) 0 W 20) 20))])::H=(bA [(0,an.row (rM (fun x=>Int.ofNat 0) 20)),(0,an.row (rM W 20))])::H) (Tr.req (eD 0 20 0 20) (Tr.ok ((AV.agg (rM (kT (fun x=>Int.ofNat 0) 0 r 20) 20),none),H))))) [(0,shV dr lc zc lb zb W B),(2,AV.ptr 0 0 0 0),(3,AV.ptr 0 1 0 0),(17,iI lc),(18,iI 0)]:=by kernel_rfl
theorem TQ (n:Nat) (dr:Int) (lc:Nat) (zc:Nat→Int) (lb:Nat) (zb:Nat→Int) (W B:Nat→Int) (H:ab) (r q:Nat→Int) (t:Int):bj Tryd.prog (cd n) 100000 56 Tryd.f56 (KtG.kt 56) (il aD n 0) (cr aL 0 (nB (shV dr lc zc lb zb W B) lc (Int.ofNat 0)) (fA [c9 W]::H) (.ok (.normal,hints (nB (shV dr lc zc lb zb W B) lc t++[(66,.bool true)]),fA [c9 r,c9 q]::H))) aJ [(shV dr lc zc lb zb W B,none)] H =
 (fun (Z0:aF)=>Tr.req (eD 0 20 0 20) (Tr.reqP (Z0=Z0∧(bA [(0,an.row (rM (fun x=>Int.ofNat 0) 20)),(0,an.row (rM (kT (fun x=>Int.ofNat 0) 0 W 20) 20))])::H=(bA [(0,an.row (rM (fun x=>Int.ofNat 0) 20)),(0,an.row (rM W 20))])::H) (Tr.req (eD 0 20 0 20) (Tr.ok ((AV.agg (rM (kT (fun x=>Int.ofNat 0) 0 r 20) 20),none),H))))) [(0,shV dr lc zc lb zb W B),(2,AV.ptr 0 0 0 0),(3,AV.ptr 0 1 0 0),(17,iI lc),(18,iI 0)]:=by kernel_rfl
end Go.Eng
end
section
namespace Go.Eng
open Go.Proofs Go.Eng.Gall
theorem Gk {c:Nat} (hc:0<c):(lX aD 82 (Q6 (fun x=>Int.ofNat (mF x.toNat)))).Ok (cd c):=by
 obtain ⟨m,rfl⟩:∃ m,c=m+1:=⟨c-1,by omega⟩
 refine jV (aW _) (fun args p v hg hp H=>?_);unfold Q6 at hg;split at hg
 · rename_i x;simp only[nP] at hg;obtain ⟨rfl,rfl⟩:=hg;refine o5 ?_;show (match Gall.vi (cd m) 82 [.int .u64 x] H with
    | some x=>some x
    | none=>_)=_
   have e:Gall.vi (cd m) 82 [.int .u64 x] H=some (.int .i64 (Go.Lib.ctz 64 x.toNat),H):=by
    show FX [.int .u64 x] H=_;unfold FX;exact if_pos hp
   rw[e];rfl
 · cases hg
theorem sC {W:Nat→Int} (h:∀ j,20≤j→W j=0):kT (fun _=>Int.ofNat 0) 0 W 20=W:=by
 rw[rP];funext j;unfold wL;by_cases e:j<20
 · simp[e]
 · rw[h j (by omega)];simp[e]
section
variable {n:Nat} {b:Nat→Nat} {w:Nat→Int}
theorem OY {K:Int} (hw:∀ i,w i≤K) (t c:Nat):fy n b w t c≤K+t:=by
 induction t generalizing c with
 | zero=>have:=hw (2*c);show w (2*c)≤K+((0:Nat):Int);omega
 | succ t ih =>
   rcases jm (fy n b w t c) (fun a=>fy n b w t a+1) (fun a=>(b c).testBit a) n with e | ⟨a,h1,h2,h3⟩
   · have:fy n b w (t+1) c=fy n b w t c:=e;have:=ih c;omega
   · have:fy n b w (t+1) c=fy n b w t a+1:=h3;have:=ih a;omega
theorem OB {K:Int} (hw:∀ i,-K≤w i) (t c:Nat):fw n b w t c≤K+t:=by
 induction t generalizing c with
 | zero=>have:=hw (2*c+1);show -w (2*c+1)≤K+((0:Nat):Int);omega
 | succ t ih =>
   rcases jm (fw n b w t c) (fun a=>fw n b w t a+1) (fun a=>(b a).testBit c) n with e | ⟨a,h1,h2,h3⟩
   · have:fw n b w (t+1) c=fw n b w t c:=e;have:=ih c;omega
   · have:fw n b w (t+1) c=fw n b w t a+1:=h3;have:=ih a;omega
theorem qc {K:Int} (hK:0≤K) (hw:∀ i,-K≤w i∧w i≤K) {t:Nat} {r:Nat→Int} (hr:Bd n b w t r) (c:Nat) (hc:c<n):(-K≤r (2*c)∧r (2*c)≤K+n)∧-K-n≤r (2*c+1)∧r (2*c+1)≤K:=by
 have h1:=hr.lo c hc;have h2:=hr.hi c hc;have h3:=OY (n:=n) (b:=b) (fun i=>(hw i).2) n c;have h4:=OB (n:=n) (b:=b) (fun i=>(hw i).1) n c;have h5:fy n b w 0 c≤fy n b w t c:=by have:=lo_le (n:=n) (b:=b) (w:=w) 0 t c;rwa [Nat.zero_add] at this
 have h6:fw n b w 0 c≤fw n b w t c:=by have:=CX (n:=n) (b:=b) (w:=w) 0 t c;rwa [Nat.zero_add] at this
 have h7:fy n b w 0 c=w (2*c):=rfl;have h8:fw n b w 0 c=-w (2*c+1):=rfl;have h9:=hw (2*c);have h10:=hw (2*c+1);omega
end
structure fM (lc:Nat) (W:Nat→Int) (b:Nat→Nat):Prop where
 len:lc≤10
 win:∀ j,-100000≤W j∧W j≤100000
 zer:∀ j,20≤j→W j=0
 bef:∀ c,c<lc→b c<2 ^ lc
 off:∀ c,lc≤c→b c=0
 nob:lS lc b=false
theorem fM.lt {lc:Nat} {W:Nat→Int} {b:Nat→Nat} (h:fM lc W b) (c:Nat):b c<2 ^ 10:=by
 by_cases hc:c<lc
 · exact Nat.lt_of_lt_of_le (h.bef c hc) (Nat.pow_le_pow_right (by decide) h.len)
 · rw[h.off c (by omega)];decide
theorem fM.bit {lc:Nat} {W:Nat→Int} {b:Nat→Nat} (h:fM lc W b) {c a:Nat} (hb:(b c).testBit a=true):c<lc∧a<lc:=by
 have hc:c<lc:=by
  apply Classical.byContradiction;intro hn;rw[h.off c (by omega)] at hb;simp at hb
 refine ⟨hc,?_⟩;apply Classical.byContradiction;intro hn;have:=Nat.testBit_lt_two_pow (Nat.lt_of_lt_of_le (h.bef c hc) (Nat.pow_le_pow_right (by decide) (show lc≤a by omega)));rw[hb] at this;cases this
theorem fM.all {lc:Nat} {W:Nat→Int} {b:Nat→Nat} (h:fM lc W b):Fl lc b (lY b 10):=fun a c=>by
 rw[DC b 10 (fun c _=>h.lt c)];constructor
 · rintro ⟨_,h2⟩;obtain ⟨h3,h4⟩:=h.bit h2;exact ⟨h4,h3,h2⟩
 · rintro ⟨_,h1,h2⟩;exact ⟨by have:=h.len;omega,h2⟩
theorem J6:∀ b,(0,b) ∈ aE (aV Tryd.f56)→b=.loop (part Tryd.f56 [1,1,0,1,0,0]):=dz (by kernel_rfl)
theorem NU:∀ b,(2,b) ∈ aE (part Tryd.f56 [1,1,0,1,0,0])→b=.loop (part Tryd.f56 [1,1,0,1,0,0,1,1,0,0,1,0,1,0,0]):=dz (by kernel_rfl)
theorem NV:∀ b,(4,b) ∈ aE (part Tryd.f56 [1,1,0,1,0,0,1,1,0,0,1,0,1,0,0])→b=.loop (part Tryd.f56 [1,1,0,1,0,0,1,1,0,0,1,0,1,0,0,1,1,0,0,1,0,0]):=dz (by kernel_rfl)
theorem xW (r:Nat→Int) (i:Nat) (x:Int):dQ r i x=A2 r i x:=by rw[jR];rfl
section
variable (n:Nat) (dr:Int) (lc:Nat) (zc:Nat→Int) (lb:Nat) (zb:Nat→Int) (W:Nat→Int) (b:Nat→Nat) (H:ab)
theorem Sc (hS:fM lc W b) (q r:Nat→Int) (t':Nat) (hr:Bd lc b W t' r) (t:Int) (c:Nat) (hc:c<10):exec (bL (n+1) 56 69) (.block 4 (.loop (part Tryd.f56 [1,1,0,1,0,0,1,1,0,0,1,0,1,0,0,1,1,0,0,1,0,0]))) (Bo (shV dr lc zc lb zb W (bI b)) lc t (bI b) (c:Int) (bI b c)) (fA [c9 r,c9 q]::H) =
 some (.normal,Bo (shV dr lc zc lb zb W (bI b)) lc t (bI b) (c:Int) 0++[(30,.bool false)],fA [c9 (lz r ((mY 10 (b c)).map fun a=>(a,c))),c9 q]::H):=by
 have hlt:=hS.lt c
 obtain ⟨m1,m2,m3⟩:=wH 10 (b c) (Nat.lt_of_lt_of_le hlt (by decide)) (fun i hi=>⟨by omega,by have:=(hS.bit hi).2;have:=hS.len;omega⟩)
 have hlen:(mY 10 (b c)).length≤10:=by
  have:∀ f x,(mY f x).length≤f:=by
   intro f;induction f with
   | zero=>intro x;exact Nat.le_refl _
   | succ f ih =>
     intro x;show (if x=0 then [] else mF x::mY f (x &&& (x-1))).length≤f+1;split
     · exact Nat.zero_le _
     · rw[List.length_cons];have:=ih (x &&& (x-1));omega
  exact this 10 (b c)
 have hst:∀ k,k≤(mY 10 (b c)).length→Bd lc b W t' (lz r (((mY 10 (b c)).take k).map fun a=>(a,c))):=fun k hk =>
  (oX hS.nob _ hr (fun p hp=>by
    obtain ⟨a,ha,rfl⟩:=List.mem_map.1 hp;have hb:=(m1 a).1 (List.mem_of_mem_take ha);obtain ⟨h1,h2⟩:=hS.bit hb;exact ⟨h2,h1,hb⟩)).1
 have hN:lz r ((mY 10 (b c)).map fun a=>(a,c))=lz r (((mY 10 (b c)).take (mY 10 (b c)).length).map fun a=>(a,c)):=by rw[List.take_length]
 rw[hN]
 have hl:=hS.len
 refine iG (n:=n+1) (f:=56) (nt:=69) (c:=part Tryd.f56 [1,1,0,1,0,0,1,1,0,0,1,0,1,0,0,1,1,0,0,1,0,0]) 4 (fun k=>Bo (shV dr lc zc lb zb W (bI b)) lc t (bI b) (c:Int) (j7 (b c) k:Nat)) (fun k=>fA [c9 (lz r (((mY 10 (b c)).take k).map fun a=>(a,c))),c9 q]::H) (mY 10 (b c)).length (_,_) (by omega) (fun k hk=>?_) ?_
 · obtain ⟨z0,z1⟩:=m2 k hk
   have hs:=hst k (by omega)
   have hmem:=(m1 _).1 (List.getElem_mem hk)
   obtain ⟨hcl,hal⟩:=hS.bit hmem
   have htake:(mY 10 (b c)).take (k+1)=(mY 10 (b c)).take k++[(mY 10 (b c))[k]]:=by rw[List.take_add_one,List.getElem?_eq_getElem hk];rfl
   have hlw:mF (j7 (b c) k)=(mY 10 (b c))[k]:=z1.symm
   generalize hR:lz r (((mY 10 (b c)).take k).map fun a=>(a,c))=R at *
   have bc:=qc (K:=100000) (by omega) hS.win hs c hcl
   have ba:=qc (K:=100000) (by omega) hS.win hs (mF (j7 (b c) k)) (by rw[hlw];exact hal)
   have hrl:=MW (b c) k (Nat.lt_of_lt_of_le hlt (by decide))
   have T:=PN (n+1) dr lc zc lb zb W (bI b) H (fun x=>Int.ofNat (mF x.toNat)) R q t (c:Int) ((j7 (b c) k:Nat):Int)
   have e1:aq 0 (c:Int) 2=2*c:=by rw[bG];omega
   have e2:aq 0 (Int.ofNat (mF ((j7 (b c) k:Nat):Int).toNat)) 2=2*mF (j7 (b c) k):=by rw[bG,Int.toNat_natCast];show 0+mF (j7 (b c) k)*2=_;omega
   have e3:l9 .u64 ((j7 (b c) k:Nat):Int) (bN .u64 ((j7 (b c) k:Nat):Int) (Int.ofNat 1))=((j7 (b c) (k+1):Nat):Int):=by
    rw[eG];show l9 .u64 _ (IntKind.u64.wrap (((j7 (b c) k:Nat):Int)-1))=_;rw[show ((j7 (b c) k:Nat):Int)-1=((j7 (b c) k-1:Nat):Int) by omega,Q.jQ (by omega),Q.LG (by omega) (by omega)];rfl
   rw[e1,e2,aI,aI,e3,xW,xW] at T
   have e4:bh .i64 (R (2*mF (j7 (b c) k))) (Int.ofNat 1)=R (2*mF (j7 (b c) k))+1:=Fm (by show _≤R (2*mF (j7 (b c) k))+1;omega) (by show R (2*mF (j7 (b c) k))+1≤_;omega)
   rw[e4] at T
   have e5:nH (R (2*c)) (R (2*mF (j7 (b c) k))+1)=max (R (2*c)) (R (2*mF (j7 (b c) k))+1):=by rw[nk];omega
   rw[e5] at T
   have e6:A2 R (2*c) (max (R (2*c)) (R (2*mF (j7 (b c) k))+1)) (2*c+1)=R (2*c+1):=by unfold A2;rw[if_neg (by omega)]
   have e7:bN .i64 (A2 R (2*c) (max (R (2*c)) (R (2*mF (j7 (b c) k))+1)) (2*c+1)) (Int.ofNat 1)=A2 R (2*c) (max (R (2*c)) (R (2*mF (j7 (b c) k))+1)) (2*c+1)-1:=by
    rw[e6];exact rJ (by show _≤R (2*c+1)-1;omega) (by show R (2*c+1)-1≤_;omega)
   rw[e7] at T
   have e8:∀ x y:Int,rG x y=min x y:=fun x y=>by rw[nm];omega
   rw[e8] at T
   have e9:lz r (((mY 10 (b c)).take (k+1)).map fun a=>(a,c))=A1 R (mF (j7 (b c) k)) c:=by
    rw[htake,List.map_append,xJ,hR,hlw];rfl
   refine ay T (bo _ _ (Gk (by omega))) (ai _ _) (aj _ _) ?_
   have hi1:cj (c:Int) 10=true:=by simp (disch:=omega) only[nV,nW];omega
   have hi2:cj (Int.ofNat (mF ((j7 (b c) k:Nat):Int).toNat)) 10=true:=by
    rw[Int.toNat_natCast];simp (disch:=omega) only[nV,nW];rw[hlw];omega
   have h00:cD 0 0=true:=by simp (disch:=omega) only[nV,nW]
   have hl1:bW (2*c) 20=true:=by simp (disch:=omega) only[nV,nW];omega
   have hl2:bW (2*mF (j7 (b c) k)) 20=true:=by simp (disch:=omega) only[nV,nW];rw[hlw];omega
   have hl3:bW (2*mF (j7 (b c) k)+1) 20=true:=by simp (disch:=omega) only[nV,nW];rw[hlw];omega
   have hl4:bW (2*c+1) 20=true:=by simp (disch:=omega) only[nV,nW];omega
   have hle:bO (eR 0 0) (eR 0 1)=true:=by simp (disch:=omega) only[nV,nW];omega
   refine Tr.ae (fun h0=>?_) (fun h0=>?_)
   · refine Tr.ak ⟨show (0:Int)≤((j7 (b c) k:Nat):Int) by omega,show ((j7 (b c) k:Nat):Int)<18446744073709551616 by omega⟩ ?_
     refine Tr.aa hi1 (Tr.aa h00 (Tr.aa hl1 (Tr.aa hi2 (Tr.aa h00 (Tr.aa hl2 (Tr.aa hi1 (Tr.aa h00 (Tr.aa hl1 (Tr.aa hle (Tr.aa hi2 (Tr.aa h00 (Tr.aa hl3 (Tr.aa hi1 (Tr.aa h00 (Tr.aa hl4 (Tr.aa hi2 (Tr.aa h00 (Tr.aa hl3 (Tr.aa hle ?_)))))))))))))))))))
     refine Tr.ag ⟨rfl,?_⟩
     rw[e9];rfl
   · rw[aB,aQ] at h0
     exfalso
     have:(((j7 (b c) k:Nat):Int) == 0)=true:=by simpa using h0
     rw[beq_iff_eq] at this
     omega
 · obtain ⟨x,h1,rfl⟩:=ay (Q:=fun x=>x=(.exit 4,Bo (shV dr lc zc lb zb W (bI b)) lc t (bI b) (c:Int) 0++[(30,.bool false)],fA [c9 (lz r (((mY 10 (b c)).take (mY 10 (b c)).length).map fun a=>(a,c))),c9 q]::H)) (PN (n+1) dr lc zc lb zb W (bI b) H (fun x=>Int.ofNat (mF x.toNat)) (lz r (((mY 10 (b c)).take (mY 10 (b c)).length).map fun a=>(a,c))) q t (c:Int) ((j7 (b c) (mY 10 (b c)).length:Nat):Int)) (bo _ _ (Gk (by omega))) (ai _ _) (aj _ _) (by
    rw[m3];refine Tr.ae (fun h0=>?_) (fun h0=>Tr.ag rfl);rw[aB,aQ] at h0;exact absurd h0 (by decide))
   exact h1
end
end Go.Eng
end
