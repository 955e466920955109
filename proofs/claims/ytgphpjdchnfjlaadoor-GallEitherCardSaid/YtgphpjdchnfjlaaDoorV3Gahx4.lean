/- Gall: bounds, the program's, whole. -/
import Derived.Test.YtgphpjdchnfjlaaDoorV3Gacx5
set_option linter.unusedVariables false
set_option linter.unusedSimpArgs false
set_option maxRecDepth 100000
section
namespace Go.Eng
open Go.Proofs Go.Eng.Gall
section
variable (n:Nat) (dr:Int) (lc:Nat) (zc:Nat→Int) (lb:Nat) (zb:Nat→Int) (W:Nat→Int) (b:Nat→Nat) (H:ab)
theorem Sa (hS:fM lc W b) (q r:Nat→Int) (t':Nat) (hr:Bd lc b W t' r) (t:Int):exec (bL (n+1) 56 69) (.block 2 (.loop (part Tryd.f56 [1,1,0,1,0,0,1,1,0,0,1,0,1,0,0]))) (yA (shV dr lc zc lb zb W (bI b)) lc t (bI b) (Int.ofNat 0)) (fA [c9 r,c9 q]::H) =
 some (.normal,yA (shV dr lc zc lb zb W (bI b)) lc t (bI b) (Int.ofNat 10)++[(26,.bool false)],fA [c9 (lz r (lY b 10)),c9 q]::H):=by
 refine iG (n:=n+1) (f:=56) (nt:=69) (c:=part Tryd.f56 [1,1,0,1,0,0,1,1,0,0,1,0,1,0,0]) 2 (fun c=>yA (shV dr lc zc lb zb W (bI b)) lc t (bI b) (c:Int)) (fun c=>fA [c9 (lz r (lY b c)),c9 q]::H) 10 (_,_) (by omega) (fun c hc=>?_) ?_
 · have hs:Bd lc b W t' (lz r (lY b c)):=(oX hS.nob _ hr (fun p hp=>by
    obtain ⟨a,d⟩:=p;have:=(DC b c (fun d _=>hS.lt d) a d).1 hp;obtain ⟨h1,h2⟩:=hS.bit this.2;exact ⟨h2,h1,this.2⟩)).1
   have ec:bh .i64 (c:Int) (Int.ofNat 1)=((c+1:Nat):Int):=dJ (by omega)
   have T:=Ts (n+1) dr lc zc lb zb W (bI b) H (lz r (lY b c)) q (lz r (lY b (c+1))) t (c:Int) 0
   rw[ec,qt] at T
   have hx:=Sc n dr lc zc lb zb W b H hS q (lz r (lY b c)) t' hs t c hc
   rw[← xJ] at hx
   refine ay T (av _) (aP (ai _ _) NV (fun x h=>by rw[← Tr.af h];simp only[eI.st,aT];exact hx)) (aj _ _) ?_
   refine Tr.ae (fun h0=>?_) wJ
   exact Tr.aa wG (Tr.aa wG (Tr.ak ⟨rfl,rfl⟩ (Tr.ag ⟨rfl,rfl⟩)))
 · obtain ⟨x,h1,rfl⟩:=ay (Q:=fun x=>x=(.exit 2,yA (shV dr lc zc lb zb W (bI b)) lc t (bI b) (Int.ofNat 10)++[(26,.bool false)],fA [c9 (lz r (lY b 10)),c9 q]::H)) (PM (n+1) dr lc zc lb zb W (bI b) H (lz r (lY b 10)) q t) (av _) (b8 (ai _ _) 4) (aj _ _) (by
    refine Tr.ae wJ (fun h0=>Tr.ag rfl))
   exact h1
theorem LI (hS:fM lc W b) {t:Nat} {r:Nat→Int} (hr:Bd lc b W t r):∀ j,20≤j→r j=0:=fun j hj=>by
 rw[hr.out j (by have:=hS.len;omega)];exact hS.zer j hj
theorem MV (hS:fM lc W b) (t:Nat) (ht:t<lc):∃ x,exec (bL (n+1) 56 69) (part Tryd.f56 [1,1,0,1,0,0]) (nB (shV dr lc zc lb zb W (bI b)) lc (t:Int)) (fA [c9 (fB (lY b 10) W t)]::H)=some x ∧
 if l8 (fB (lY b 10) W (t+1)) (fB (lY b 10) W t) 20=true then x=(.exit 0,nB (shV dr lc zc lb zb W (bI b)) lc (t:Int)++[(66,.bool true)],fA [c9 (fB (lY b 10) W (t+1)),c9 (fB (lY b 10) W t)]::H)
 else x.1=.normal∧tidy 2 x.2.1 x.2.2=(nB (shV dr lc zc lb zb W (bI b)) lc ((t+1:Nat):Int),fA [c9 (fB (lY b 10) W (t+1))]::H):=by
 have hb:=lA (w:=W) hS.nob hS.all t
 have ec:bh .i64 (t:Int) (Int.ofNat 1)=((t+1:Nat):Int):=dJ (by have:=hS.len;omega)
 have T:=Tq (n+1) dr lc zc lb zb W (bI b) H (fB (lY b 10) W t) (fB (lY b 10) W (t+1)) (t:Int)
 rw[ec,sC (LI lc W b hS hb)] at T
 refine ay T (av _) (aP (ai _ _) NU (fun x h=>by rw[← Tr.af h];simp only[eI.st,aT];exact Sa n dr lc zc lb zb W b H hS (fB (lY b 10) W t) (fB (lY b 10) W t) t hb (t:Int))) (aj _ _) ?_
 refine Tr.ae (fun h0=>?_) wJ
 refine Tr.aa wG (Tr.ak ⟨rfl,rfl⟩ (Tr.ae (fun q=>Tr.ag ?_) (fun q=>Tr.ag ?_)))
 · rw[if_pos q];rfl
 · rw[if_neg (by rw[q];decide)];exact ⟨rfl,rfl⟩
theorem UW (hS:fM lc W b):cd (n+2) (.fn 56) [shV dr lc zc lb zb W (bI b)] H=some (.agg (.M [.arr .i64 (dx lc b W) 20]),H):=by
 have hl:=hS.len;have hz:∀ j,20≤j→dx lc b W j=0:=fun j hj=>by unfold dx;rw[if_neg (by omega)];exact hS.zer j hj
 rcases sJ (fun t=>t<lc∧l8 (fB (lY b 10) W (t+1)) (fB (lY b 10) W t) 20=true) lc with h | ⟨T,h1,⟨_,h2⟩,h3⟩
 · have hx:exec (bL (n+1) 56 69) (.block 0 (.loop (part Tryd.f56 [1,1,0,1,0,0]))) (nB (shV dr lc zc lb zb W (bI b)) lc (Int.ofNat 0)) (fA [c9 W]::H)=some (.normal,nB (shV dr lc zc lb zb W (bI b)) lc (Int.ofNat lc)++[(19,.bool false)],fA [c9 (fB (lY b 10) W lc)]::H):=by
    refine iG (n:=n+1) (f:=56) (nt:=69) (c:=part Tryd.f56 [1,1,0,1,0,0]) 0 (fun t=>nB (shV dr lc zc lb zb W (bI b)) lc (t:Int)) (fun t=>fA [c9 (fB (lY b 10) W t)]::H) lc (_,_) (by omega) (fun t ht=>?_) ?_
    · obtain ⟨x,x1,x2⟩:=MV n dr lc zc lb zb W b H hS t ht;rw[if_neg (fun q=>h t ht ⟨ht,q⟩)] at x2;exact ⟨x,x1,x2⟩
    · obtain ⟨x,h1,rfl⟩:=ay (Q:=fun x=>x=(.exit 0,nB (shV dr lc zc lb zb W (bI b)) lc (Int.ofNat lc)++[(19,.bool false)],fA [c9 (fB (lY b 10) W lc)]::H)) (PL (n+1) dr lc zc lb zb W (bI b) H (fB (lY b 10) W lc) (Int.ofNat lc)) (av _) (b8 (ai _ _) 2) (aj _ _) (by
       refine Tr.ae wJ (fun h0=>Tr.ag rfl))
      exact h1
   have he:=A7 (Nat.le_refl lc) (lA (w:=W) hS.nob hS.all lc);rw[he] at hx;have U:=TP (n+1) dr lc zc lb zb W (bI b) H (dx lc b W);rw[sC hS.zer,sC hz] at U;refine br (n:=n+1) Tryd.func56 rfl rfl rfl U (av _) (aP (ai _ _) J6 (fun x h=>by rw[← Tr.af h];simp only[eI.st,aT];exact hx)) (aj _ _) ?_;exact Tr.aa wG (Tr.ak ⟨rfl,rfl⟩ (Tr.aa wG (Tr.ag ⟨rfl,rfl⟩)))
 · have hbT:=lA (w:=W) hS.nob hS.all T;have hbT1:=lA (w:=W) hS.nob hS.all (T+1);have heq:fB (lY b 10) W (T+1)=fB (lY b 10) W T:=by
    funext j;by_cases hj:j<20
    · exact vv h2 j hj
    · rw[LI lc W b hS hbT1 j (by omega),LI lc W b hS hbT j (by omega)]
   have he:fB (lY b 10) W (T+1)=dx lc b W:=by
    rw[heq];exact Ip hS.nob hS.all hbT heq
   have hx:exec (bL (n+1) 56 69) (.block 0 (.loop (part Tryd.f56 [1,1,0,1,0,0]))) (nB (shV dr lc zc lb zb W (bI b)) lc (Int.ofNat 0)) (fA [c9 W]::H)=some (.normal,nB (shV dr lc zc lb zb W (bI b)) lc (T:Int)++[(66,.bool true)],fA [c9 (fB (lY b 10) W (T+1)),c9 (fB (lY b 10) W T)]::H):=by
    refine iG (n:=n+1) (f:=56) (nt:=69) (c:=part Tryd.f56 [1,1,0,1,0,0]) 0 (fun t=>nB (shV dr lc zc lb zb W (bI b)) lc (t:Int)) (fun t=>fA [c9 (fB (lY b 10) W t)]::H) T (_,_) (by omega) (fun t ht=>?_) ?_
    · obtain ⟨x,x1,x2⟩:=MV n dr lc zc lb zb W b H hS t (by omega);rw[if_neg (fun q=>h3 t ht ⟨by omega,q⟩)] at x2;exact ⟨x,x1,x2⟩
    · obtain ⟨x,x1,x2⟩:=MV n dr lc zc lb zb W b H hS T h1;rw[if_pos h2] at x2;subst x2;exact x1
   rw[he] at hx;have U:=TQ (n+1) dr lc zc lb zb W (bI b) H (dx lc b W) (fB (lY b 10) W T) (T:Int);rw[sC hS.zer,sC hz] at U;refine br (n:=n+1) Tryd.func56 rfl rfl rfl U (av _) (aP (ai _ _) J6 (fun x h=>by rw[← Tr.af h];simp only[eI.st,aT];exact hx)) (aj _ _) ?_;exact Tr.aa wG (Tr.ak ⟨rfl,rfl⟩ (Tr.aa wG (Tr.ag ⟨rfl,rfl⟩)))
end
end Go.Eng
end
section
namespace Go.Eng
open Go.Proofs Go.Eng.Gall
noncomputable def Qn (a b:Int):AV:=.agg (.I .i64 [a,b])
noncomputable def Qu (A:AV) (P:Int→Prop) (V:Int→AV):List AV→Option (Prop×AV)
 | [B,.int .i64 c]=>some (B=A∧P c,V c)
 | _=>none
noncomputable def yz (S:AV) (j:Int):aF:=[(1,.ptr 0 0 0 0),(3,S),(4,.int .i64 j)]
noncomputable def yB (S:AV) (t:Int):aF:=[(1,.ptr 0 0 0 0),(3,S),(5,.int .i64 t)]
noncomputable def Bp (S:AV) (t j:Int):aF:=[(1,.ptr 0 0 0 0),(3,S),(5,.int .i64 t),(6,.int .i64 j)]
noncomputable def Q7 (C:Int→Int→Prop) (d:Int→Int→Int):List AV→Option (Prop×AV)
 | [.int .i64 a,.int .i64 b]=>some (C a b,.int .i64 (d a b))
 | _=>none
noncomputable def wu (i v m:Nat):AV:=.slc 0 i v 0 2 m none
noncomputable def wm (v M:Nat) (z:Nat→Int):Nat×an:=(v,.row (.M [.arr .i64 z M]))
theorem YD (n:Nat) (a b:Int) (H:ab):bj Tryd.prog (cd n) 100000 81 Tryd.f81 (KtG.kt 81) (il aD n 0) aL aJ [(.int .i64 a,none),(.int .i64 b,none)] H =
 Tr.req (bx (cw b (Int.ofNat 0))) (Tr.ite (bD a (xm .i64 (vk IntKind.i64 a b) b)) (Tr.ok ((AV.int .i64 (bN .i64 (vk IntKind.i64 a b) (Int.ofNat 1)),none),H)) (Tr.ok ((AV.int .i64 (vk IntKind.i64 a b),none),H))):=by kernel_rfl
theorem Yk (n:Nat) (dr:Int) (lc:Nat) (zc:Nat→Int) (lb:Nat) (zb:Nat→Int) (H:ab) (c:Int) (d:Int→Int→Int) (C:Int→Int→Prop):bj Tryd.prog (cd n) 100000 55 Tryd.f55 (KtG.kt 55) (il (lX aD 81 (Q7 C d)) n 0) aL aJ [(bn dr lc zc lb zb,none),(.int .i64 c,none)] H =
 Tr.req (cj c lc) (Tr.req (bW (aq 0 c 4) (bU lc 4)) (Tr.req (bW (ar (aq 0 c 4) 1) (bU lc 4)) (Tr.req (bW (ar (aq 0 c 4) 2) (bU lc 4)) (Tr.req (bW (ar (aq 0 c 4) 3) (bU lc 4)) (Tr.reqP (C (bN .i64 (zc (ar (aq 0 c 4) 3)) (zc (ar (aq 0 c 4) 1))) dr) (Tr.reqP (C (bN .i64 (zc (aq 0 c 4)) (zc (ar (aq 0 c 4) 2))) dr) (Tr.req (bO (eR 0 0) (eR 0 1)) (Tr.ok ((AV.agg (Row.I .i64 [nH (Int.ofNat 0) (BQ IntKind.i64 (d (bN .i64 (zc (ar (aq 0 c 4) 3)) (zc (ar (aq 0 c 4) 1))) dr)),rG (bN .i64 (Int.ofNat lc) (Int.ofNat 1)) (d (bN .i64 (zc (aq 0 c 4)) (zc (ar (aq 0 c 4) 2))) dr)]),none),H))))))))):=by kernel_rfl
theorem Tt (n:Nat) (dr:Int) (lc:Nat) (zc:Nat→Int) (lb:Nat) (zb:Nat→Int) (H:ab) (j:Int) (P:Int→Prop) (f g:Int→Int):aH (bL n 57 81) (il (lX aD 55 (Qu (bn dr lc zc lb zb) P (fun c=>Qn (f c) (g c)))) n 0) aL aJ (part Tryd.f57 [1,1,0,1,0,0]) (hints (yz .nils j)) (dq dr lc zc lb zb::H) =
 Tr.ite (bD j (Int.ofNat lc)) (Tr.reqP (bn dr lc zc lb zb=bn dr lc zc lb zb∧P j) (Tr.req (ie 0 1 16) (Tr.req (cD 0 0) (Tr.req (eR 1 1) (Tr.ok (Ex.normal,[(1,AV.ptr 0 0 0 0,none),(3,AV.slc 0 2 0 0 2 1 none,none),(4,AV.int .i64 (bh .i64 j (Int.ofNat 1)),none)],(bA [(0,dh dr lc zc lb zb),(0,an.row (Row.I .i64 [f j,g j])),(0,an.row (rM (az [f j,g j]) 2))])::H)))))) (Tr.ok (Ex.exit 0,[(1,AV.ptr 0 0 0 0,none),(3,AV.nils,none),(4,AV.int .i64 j,none),(13,AV.bool false,some 1)],(bA [(0,dh dr lc zc lb zb)])::H)):=by kernel_rfl
theorem PR (n:Nat) (dr:Int) (lc:Nat) (zc:Nat→Int) (lb:Nat) (zb:Nat→Int) (H:ab) (j:Int) (P:Int→Prop) (f g:Int→Int) (v m M:Nat) (z:Nat→Int):aH (bL n 57 81) (il (lX aD 55 (Qu (bn dr lc zc lb zb) P (fun c=>Qn (f c) (g c)))) n 0) aL aJ (part Tryd.f57 [1,1,0,1,0,0]) (hints (yz (wu 1 v m) j)) (dG dr lc zc lb zb [wm v M z]::H) =
 Tr.ite (bD j (Int.ofNat lc)) (Tr.reqP (bn dr lc zc lb zb=bn dr lc zc lb zb∧P j) (Tr.req (ie m 1 16) (Tr.req (cD 0 0) (Tr.req (eR 1 1) (Tr.req (cD v v) (Tr.req (cD (ar 0 (bU m 2)) M) (Tr.ok (Ex.normal,[(1,AV.ptr 0 0 0 0,none),(3,AV.slc 0 1 (Nat.succ v) 0 2 (ar m 1) none,none),(4,AV.int .i64 (bh .i64 j (Int.ofNat 1)),none)],(bA [(0,dh dr lc zc lb zb),(Nat.succ v,an.row (rM (nZ (pZ z 0) (bU m 2) (az [f j,g j])) (ar (bU m 2) 2))),(0,an.row (Row.I .i64 [f j,g j]))])::H)))))))) (Tr.ok (Ex.exit 0,[(1,AV.ptr 0 0 0 0,none),(3,AV.slc 0 1 v 0 2 m none,none),(4,AV.int .i64 j,none),(13,AV.bool false,some 1)],(bA [(0,dh dr lc zc lb zb),(v,an.row (rM z M))])::H)):=by kernel_rfl
theorem PO (n:Nat) (dr:Int) (lc:Nat) (zc:Nat→Int) (lb:Nat) (zb:Nat→Int) (H:ab) (t j:Int) (v m M:Nat) (z:Nat→Int):aH (bL n 57 81) (il aD n 0) aL aJ (part Tryd.f57 [1,1,1,0,1,0,0,1,0,0,1,0,0]) (hints (Bp (wu 1 v m) t j)) (dG dr lc zc lb zb [wm v M z]::H) =
 Tr.ite (bD j (Int.ofNat lb)) (Tr.req (cj j lb) (Tr.req (cj (Int.ofNat 0) 2) (Tr.req (bW (aq 0 j 2) (bU lb 2)) (Tr.req (cj j lb) (Tr.req (cj (Int.ofNat 1) 2) (Tr.req (bW (Nat.succ (aq 0 j 2)) (bU lb 2)) (Tr.req (cj (zb (Nat.succ (aq 0 j 2))) m) (Tr.req (cD v v) (Tr.req (bW (aq 0 (zb (Nat.succ (aq 0 j 2))) 2) M) (Tr.req (cj (zb (aq 0 j 2)) m) (Tr.req (cD v v) (Tr.req (bW (aq 0 (zb (aq 0 j 2)) 2) M) (Tr.req (cj (zb (Nat.succ (aq 0 j 2))) m) (Tr.req (cD v v) (Tr.req (bW (aq 0 (zb (Nat.succ (aq 0 j 2))) 2) M) (Tr.req (bO (eR v v) (eR v (Nat.succ v))) (Tr.req (cj (zb (aq 0 j 2)) m) (Tr.req (cD v v) (Tr.req (bW (ar (aq 0 (zb (aq 0 j 2)) 2) 1) M) (Tr.req (cj (zb (Nat.succ (aq 0 j 2))) m) (Tr.req (cD v v) (Tr.req (bW (ar (aq 0 (zb (Nat.succ (aq 0 j 2))) 2) 1) M) (Tr.req (cj (zb (aq 0 j 2)) m) (Tr.req (cD v v) (Tr.req (bW (ar (aq 0 (zb (aq 0 j 2)) 2) 1) M) (Tr.req (bO (eR v v) (eR v (Nat.succ v))) (Tr.ok (Ex.normal,[(1,AV.ptr 0 0 0 0,none),(3,AV.slc 0 1 v 0 2 m none,none),(5,AV.int .i64 t,none),(6,AV.int .i64 (bh .i64 j (Int.ofNat 1)),none)],(bA [(0,dh dr lc zc lb zb),(v,an.row (rM (dQ (dQ z (aq 0 (zb (Nat.succ (aq 0 j 2))) 2) (nH (z (aq 0 (zb (Nat.succ (aq 0 j 2))) 2)) (bh .i64 (z (aq 0 (zb (aq 0 j 2)) 2)) (Int.ofNat 1)))) (ar (aq 0 (zb (aq 0 j 2)) 2) 1) (rG (dQ z (aq 0 (zb (Nat.succ (aq 0 j 2))) 2) (nH (z (aq 0 (zb (Nat.succ (aq 0 j 2))) 2)) (bh .i64 (z (aq 0 (zb (aq 0 j 2)) 2)) (Int.ofNat 1))) (ar (aq 0 (zb (aq 0 j 2)) 2) 1)) (bN .i64 (dQ z (aq 0 (zb (Nat.succ (aq 0 j 2))) 2) (nH (z (aq 0 (zb (Nat.succ (aq 0 j 2))) 2)) (bh .i64 (z (aq 0 (zb (aq 0 j 2)) 2)) (Int.ofNat 1))) (ar (aq 0 (zb (Nat.succ (aq 0 j 2))) 2) 1)) (Int.ofNat 1)))) M))])::H)))))))))))))))))))))))))))) (Tr.ok (Ex.exit 4,[(1,AV.ptr 0 0 0 0,none),(3,AV.slc 0 1 v 0 2 m none,none),(5,AV.int .i64 t,none),(6,AV.int .i64 j,none),(33,AV.bool false,some 1)],(bA [(0,dh dr lc zc lb zb),(v,an.row (rM z M))])::H)):=by kernel_rfl
theorem Tu (n:Nat) (dr:Int) (lc:Nat) (zc:Nat→Int) (lb:Nat) (zb:Nat→Int) (H:ab) (t:Int) (v m M:Nat) (z z':Nat→Int):aH (bL n 57 81) (il aD n 0) (cr aL 4 (Bp (wu 1 v m) t (Int.ofNat 0)) (dG dr lc zc lb zb [wm v M z]::H) (.ok (.normal,hints (Bp (wu 1 v m) t (Int.ofNat lb)++[(33,.bool false)]),dG dr lc zc lb zb [wm v M z']::H))) aJ (part Tryd.f57 [1,1,1,0,1,0,0]) (hints (yB (wu 1 v m) t)) (dG dr lc zc lb zb [wm v M z]::H) =
 (fun (Z0:bF)=>((fun (Z1:aF)=>Tr.ite (bD t (Int.ofNat lc)) (Tr.reqP (Z1=Z1∧Z0::H=Z0::H) (Tr.ok (Ex.normal,[(1,AV.ptr 0 0 0 0,none),(3,AV.slc 0 1 v 0 2 m none,none),(5,AV.int .i64 (bh .i64 t (Int.ofNat 1)),none)],(bA [(0,dh dr lc zc lb zb),(v,an.row (rM z' M))])::H))) (Tr.ok (Ex.exit 2,[(1,AV.ptr 0 0 0 0,none),(3,AV.slc 0 1 v 0 2 m none,none),(5,AV.int .i64 t,none),(26,AV.bool false,some 1)],Z0::H))) [(1,AV.ptr 0 0 0 0),(3,AV.slc 0 1 v 0 2 m none),(5,AV.int .i64 t),(6,iI 0)])) (bA [(0,dh dr lc zc lb zb),(v,an.row (rM z M))]):=by kernel_rfl
theorem PQ (n:Nat) (dr:Int) (lc:Nat) (zc:Nat→Int) (lb:Nat) (zb:Nat→Int) (H:ab) (t:Int) (v m M:Nat) (z:Nat→Int):aH (bL n 57 81) (il aD n 0) (eF aL 4) aJ (part Tryd.f57 [1,1,1,0,1,0,0]) (hints (yB (wu 1 v m) t)) (dG dr lc zc lb zb [wm v M z]::H) =
 Tr.ite (bD t (Int.ofNat lc)) Tr.bad (Tr.ok (Ex.exit 2,[(1,AV.ptr 0 0 0 0,none),(3,AV.slc 0 1 v 0 2 m none,none),(5,AV.int .i64 t,none),(26,AV.bool false,some 1)],(bA [(0,dh dr lc zc lb zb),(v,an.row (rM z M))])::H)):=by kernel_rfl
theorem Yl (n:Nat) (dr:Int) (lc:Nat) (zc:Nat→Int) (lb:Nat) (zb:Nat→Int) (H:ab) (v m M:Nat) (z z':Nat→Int):bj Tryd.prog (cd n) 100000 57 Tryd.f57 (KtG.kt 57) (il aD n 0) (cr (cr aL 0 (yz .nils (Int.ofNat 0)) (dq dr lc zc lb zb::H) (.ok (.normal,hints (yz (wu 1 v m) (Int.ofNat lc)++[(13,.bool false)]),dG dr lc zc lb zb [wm v M z]::H))) 2 (yB (wu 1 v m) (Int.ofNat 0)) (dG dr lc zc lb zb [wm v M z]::H) (.ok (.normal,hints (yB (wu 1 v m) (Int.ofNat lc)++[(26,.bool false)]),dG dr lc zc lb zb [wm v M z']::H))) aJ [(bn dr lc zc lb zb,none)] H =
 Tr.reqP ([(1,AV.ptr 0 0 0 0),(3,AV.nils),(4,iI 0)]=[(1,AV.ptr 0 0 0 0),(3,AV.nils),(4,iI 0)]∧(bA [(0,dh dr lc zc lb zb)])::H=(bA [(0,dh dr lc zc lb zb)])::H) (Tr.reqP ([(1,AV.ptr 0 0 0 0),(3,AV.slc 0 1 v 0 2 m none),(5,iI 0)]=[(1,AV.ptr 0 0 0 0),(3,AV.slc 0 1 v 0 2 m none),(5,iI 0)]∧(bA [(0,dh dr lc zc lb zb),(v,an.row (rM z M))])::H=(bA [(0,dh dr lc zc lb zb),(v,an.row (rM z M))])::H) (Tr.req (cD v v) (Tr.req (eD 0 (bU m 2) 0 M) (Tr.ok ((slA 2 m (pZ z' 0),none),H))))):=by kernel_rfl
end Go.Eng
end
section
namespace Go.Eng
open Go.Proofs Go.Eng.Gall
theorem m5 {a b:Int} (hb:1≤b) {K:Int} (h1:-K≤a) (h2:a≤K) (hK:0≤K):-K-b≤a / b∧a / b≤K:=by
 have h7:=Int.mul_ediv_add_emod a b;have h3:=Int.emod_nonneg a (show b≠0 by omega);have h4:=Int.emod_lt_of_pos a (show 0<b by omega);constructor
 · apply Classical.byContradiction;intro hc;have h8:b*(a / b)≤1*(a / b):=Int.mul_le_mul_of_nonpos_right hb (by omega);omega
 · exact Int.le_trans (Int.ediv_le_ediv (by omega) h2) (Int.ediv_le_self b hK)
theorem VU (n:Nat) (a b:Int) (H:ab) (h1:-1000000≤a∧a≤1000000) (h2:1≤b∧b≤1000):cd (n+1) (.fn 81) [.int .i64 a,.int .i64 b] H=some (.int .i64 (a / b),H):=by
 have hd:=m5 (a:=a) (b:=b) h2.1 (K:=1000000) h1.1 h1.2 (by decide);have e0:=Int.mul_tdiv_add_tmod a b;have e1:=Int.mul_ediv_add_emod a b;have h3:=Int.emod_nonneg a (show b≠0 by omega);have h4:=Int.emod_lt_of_pos a (show 0<b by omega);have hm:-b<a.tmod b∧a.tmod b<b:=by
  constructor
  · by_cases h:0≤a
    · have:=Int.tmod_nonneg b h;omega
    · have e:a.tmod b=-((-a).tmod b):=by rw[Int.neg_tmod];omega
      have:=Int.tmod_lt_of_pos (-a) (show 0<b by omega);omega
  · exact Int.tmod_lt_of_pos a (by omega)
 have hq:(0≤a.tmod b∧a.tdiv b=a / b)∨(a.tmod b<0∧a.tdiv b=a / b+1):=by
  by_cases h:0≤a.tmod b
  · refine .inl ⟨h,?_⟩;exact ((Int.ediv_emod_unique (show 0<b by omega)).2 ⟨by rw[Int.add_comm];exact e0,h,hm.2⟩).1.symm
  · refine .inr ⟨by omega,?_⟩;have:a / b=a.tdiv b-1:=((Int.ediv_emod_unique (r:=a.tmod b+b) (show 0<b by omega)).2 ⟨by rw[Int.mul_sub];omega,by omega,by omega⟩).1;omega
 have eq:vk .i64 a b=a.tdiv b:=by rw[xE];exact im (by omega) (by omega)
 have em:xm .i64 (a.tdiv b) b=a-a.tmod b:=by
  rw[np,Int.mul_comm];have:b*a.tdiv b=a-a.tmod b:=by omega
  rw[this];exact im (by omega) (by omega)
 have U:=YD n a b H;rw[eq,em] at U;refine br Tryd.func81 rfl rfl rfl U (av _) (ai _ _) (aj _ _) ?_;refine Tr.aa (by rw[aB,aQ];show (!(b == 0))=true;simp;omega) (Tr.ae (fun q=>Tr.ag ⟨?_,rfl⟩) (fun q=>Tr.ag ⟨?_,rfl⟩))
 · rw[bw,decide_eq_true_iff] at q;rcases hq with hq | hq
   · omega
   · show AV.int .i64 (bN .i64 (a.tdiv b) (Int.ofNat 1))=_;rw[rJ (by show _≤a.tdiv b-1;omega) (by show a.tdiv b-1≤_;omega),hq.2];show AV.int .i64 (a / b+1-1)=_;rw[Int.add_sub_cancel]
 · rw[bw,decide_eq_false_iff_not] at q;rcases hq with hq | hq
   · show AV.int .i64 (a.tdiv b)=_;rw[hq.2]
   · omega
section
variable (n:Nat) (dr:Int) (lc:Nat) (zc:Nat→Int) (lb:Nat) (zb:Nat→Int) (H:ab)
theorem Md {c:Nat} (hc:0<c):(lX aD 81 (Q7 (fun a b=>(-1000000≤a∧a≤1000000)∧1≤b∧b≤1000) (fun a b=>a / b))).Ok (cd c):=by
 obtain ⟨m,rfl⟩:∃ m,c=m+1:=⟨c-1,by omega⟩
 refine jV (aW _) (fun args p v hg hp H=>?_);unfold Q7 at hg;split at hg
 · simp only[nP] at hg;obtain ⟨rfl,rfl⟩:=hg;exact VU m _ _ H hp.1 hp.2
 · cases hg
theorem VF (hl:lc≤1000) (hd:1≤dr∧dr≤100) (hv:p8 lc zc) (c:Nat) (hc:c<lc):cd (n+2) (.fn 55) [bn dr lc zc lb zb,.int .i64 (c:Int)] H=some (Qn (bK dr lc zc (2*c)) (bK dr lc zc (2*c+1)),H):=by
 obtain ⟨v1,v2,v3,v4,v5,v6⟩:=HR hv hc;have ei:aq 0 (c:Int) 4=c*4:=by rw[bG];omega
 have s1:bN .i64 (zc (c*4+3)) (zc (c*4+1))=zc (c*4+3)-zc (c*4+1):=rJ (by omega) (by omega);have s2:bN .i64 (zc (c*4)) (zc (c*4+2))=zc (c*4)-zc (c*4+2):=rJ (by omega) (by omega);have s3:bN .i64 (Int.ofNat lc) (Int.ofNat 1)=(lc:Int)-1:=rJ (by show _≤(lc:Int)-1;omega) (by show (lc:Int)-1≤_;omega);have q1:=m5 (a:=zc (c*4+3)-zc (c*4+1)) hd.1 (K:=1000) (by omega) (by omega) (by decide);have n1:BQ .i64 ((zc (c*4+3)-zc (c*4+1)) / dr)=-((zc (c*4+3)-zc (c*4+1)) / dr):=by rw[xp,im (by omega) (by omega)];omega
 have U:=Yk (n+1) dr lc zc lb zb H (c:Int) (fun a b=>a / b) (fun a b=>(-1000000≤a∧a≤1000000)∧1≤b∧b≤1000);rw[ei,aI,aI,aI,s1,s2,s3] at U;rw[n1] at U;have w0:bK dr lc zc (2*c)=nH (Int.ofNat 0) (-((zc (c*4+3)-zc (c*4+1)) / dr)):=by
  unfold bK;rw[if_pos (by omega),if_pos (by omega),nk,show 2*c / 2=c by omega];show _=(if _ > (0:Int) then _ else (0:Int));omega
 have w1:bK dr lc zc (2*c+1)=rG ((lc:Int)-1) ((zc (c*4)-zc (c*4+2)) / dr):=by
  unfold bK;rw[if_pos (by omega),if_neg (by omega),nm,show (2*c+1) / 2=c by omega];omega
 refine br (n:=n+1) Tryd.func55 rfl rfl rfl U (bo _ _ (Md (by omega))) (ai _ _) (aj _ _) ?_;refine Tr.aa wG (Tr.aa wG (Tr.aa wG (Tr.aa wG (Tr.aa wG (Tr.ak ⟨⟨by omega,by omega⟩,hd.1,by omega⟩ (Tr.ak ⟨⟨by omega,by omega⟩,hd.1,by omega⟩ (Tr.aa wG (Tr.ag ⟨?_,rfl⟩))))))));rw[w0,w1];rfl
theorem Me {k:Nat} (hk:2≤k) (hl:lc≤1000) (hd:1≤dr∧dr≤100) (hv:p8 lc zc):(lX aD 55 (Qu (bn dr lc zc lb zb) (fun c=>0≤c∧c<lc) (fun c=>Qn (bK dr lc zc (2*c.toNat)) (bK dr lc zc (2*c.toNat+1))))).Ok (cd k):=by
 obtain ⟨m,rfl⟩:∃ m,k=m+2:=⟨k-2,by omega⟩
 refine jV (aW _) (fun args p v hg hp H=>?_);unfold Qu at hg;split at hg
 · simp only[nP] at hg;obtain ⟨rfl,rfl⟩:=hg;obtain ⟨rfl,h1,h2⟩:=hp;rename_i c;have:=VF m dr lc zc lb zb H hl hd hv c.toNat (by omega)
   rw[Int.toNat_of_nonneg h1] at this;exact this
 · cases hg
theorem HS (m:Nat) (hm:m<lc):nZ (pZ (uB dr lc zc m) 0) (2*m) (az [bK dr lc zc (2*m),bK dr lc zc (2*m+1)])=uB dr lc zc (m+1):=by
 rw[fq,mX,jE];funext i;unfold uB;by_cases h:i<2*m
 · simp only[h,if_true];rw[if_pos (by omega)]
 · simp only[h,if_false];by_cases e:i=2*m
   · subst e;rw[if_pos (by omega)];simp
   · by_cases e2:i=2*m+1
     · subst e2;rw[if_pos (by omega),show 2*m+1-2*m=1 by omega];rfl
     · rw[if_neg (by omega)];obtain ⟨d,hd⟩:∃ d,i-2*m=d+2:=⟨i-2*m-2,by omega⟩
       rw[hd];rfl
theorem Nt (hm:0<lc):az [bK dr lc zc 0,bK dr lc zc 1]=uB dr lc zc 1:=by
 have:=HS dr lc zc 0 hm;rw[Lv] at this;rw[← this,fq,mX];funext i;simp
noncomputable def U3 (m:Nat):aF:=match m with
 | 0=>yz .nils (Int.ofNat 0)
 | m+1=>yz (wu 1 m (m+1)) ((m+1:Nat):Int)
noncomputable def U6 (m:Nat):ab:=match m with
 | 0=>dq dr lc zc lb zb::H
 | m+1=>dG dr lc zc lb zb [wm m (2*(m+1)) (uB dr lc zc (m+1))]::H
theorem R8 (h1:1≤lc) (hl:lc≤10) (hd:1≤dr∧dr≤100) (hv:p8 lc zc):exec (bL (n+2) 57 81) (.block 0 (.loop (part Tryd.f57 [1,1,0,1,0,0]))) (U3 0) (U6 dr lc zc lb zb H 0) =
 some (.normal,yz (wu 1 (lc-1) lc) (Int.ofNat lc)++[(13,.bool false)],dG dr lc zc lb zb [wm (lc-1) (2*lc) (bK dr lc zc)]::H):=by
 have hC:=Me dr lc zc lb zb (show 2≤n+2 by omega) (show lc≤1000 by omega) hd hv
 refine iG (n:=n+2) (f:=57) (nt:=81) (c:=part Tryd.f57 [1,1,0,1,0,0]) 0 U3 (U6 dr lc zc lb zb H) lc (_,_) (by omega) (fun m hm=>?_) ?_
 · have ec:bh .i64 (m:Int) (Int.ofNat 1)=((m+1:Nat):Int):=dJ (by omega)
   cases m with
   | zero =>
     have T:=Tt (n+2) dr lc zc lb zb H ((0:Nat):Int) (fun c=>0≤c∧c<lc) (fun c=>bK dr lc zc (2*c.toNat)) (fun c=>bK dr lc zc (2*c.toNat+1))
     rw[ec] at T
     have e:az [(fun c:Int=>bK dr lc zc (2*c.toNat)) ((0:Nat):Int),(fun c:Int=>bK dr lc zc (2*c.toNat+1)) ((0:Nat):Int)]=uB dr lc zc 1:=Nt dr lc zc (by omega)
     rw[e] at T
     refine ay T (bo _ _ hC) (ai _ _) (aj _ _) ?_
     refine Tr.ae (fun h0=>?_) wJ
     exact Tr.ak ⟨rfl,by omega,by omega⟩ (Tr.aa wG (Tr.aa wG (Tr.aa wG (Tr.ag ⟨rfl,rfl⟩))))
   | succ m =>
     have T:=PR (n+2) dr lc zc lb zb H ((m+1:Nat):Int) (fun c=>0≤c∧c<lc) (fun c=>bK dr lc zc (2*c.toNat)) (fun c=>bK dr lc zc (2*c.toNat+1)) m (m+1) (2*(m+1)) (uB dr lc zc (m+1))
     have e:nZ (pZ (uB dr lc zc (m+1)) 0) (bU (m+1) 2) (az [(fun c:Int=>bK dr lc zc (2*c.toNat)) ((m+1:Nat):Int),(fun c:Int=>bK dr lc zc (2*c.toNat+1)) ((m+1:Nat):Int)])=uB dr lc zc (m+1+1):=by
      rw[jI,Nat.mul_comm];show nZ _ _ (az [bK dr lc zc (2*((m+1:Nat):Int).toNat),bK dr lc zc (2*((m+1:Nat):Int).toNat+1)])=_;rw[Int.toNat_natCast];exact HS dr lc zc (m+1) hm
     rw[ec,e] at T
     have e2:ar (bU (m+1) 2) 2=2*(m+1+1):=by rw[aI,jI];omega
     have e3:ar (m+1) 1=m+1+1:=aI _ _
     rw[e2,e3] at T
     refine ay T (bo _ _ hC) (ai _ _) (aj _ _) ?_
     refine Tr.ae (fun h0=>?_) wJ
     exact Tr.ak ⟨rfl,by omega,by omega⟩ (Tr.aa wG (Tr.aa wG (Tr.aa wG (Tr.aa wG (Tr.aa (by rw[fz,aI,jI];exact decide_eq_true (by omega)) (Tr.ag ⟨rfl,rfl⟩))))))
 · obtain ⟨m,rfl⟩:∃ m,lc=m+1:=⟨lc-1,by omega⟩
   have T:=PR (n+2) dr (m+1) zc lb zb H (Int.ofNat (m+1)) (fun c=>0≤c∧c<(m+1:Nat)) (fun c=>bK dr (m+1) zc (2*c.toNat)) (fun c=>bK dr (m+1) zc (2*c.toNat+1)) m (m+1) (2*(m+1)) (uB dr (m+1) zc (m+1))
   obtain ⟨x,h1,rfl⟩:=ay (Q:=fun x=>x=(.exit 0,yz (wu 1 (m+1-1) (m+1)) (Int.ofNat (m+1))++[(13,.bool false)],dG dr (m+1) zc lb zb [wm (m+1-1) (2*(m+1)) (bK dr (m+1) zc)]::H)) T (bo _ _ hC) (ai _ _) (aj _ _) (by
    refine Tr.ae wJ (fun h0=>Tr.ag ?_);rw[← D1];rfl)
   exact h1
end
end Go.Eng
end
section
namespace Go.Eng
open Go.Proofs Go.Eng.Gall
theorem NW:∀ b,(0,b) ∈ aE (aV Tryd.f57)→b=.loop (part Tryd.f57 [1,1,0,1,0,0]):=dz (by kernel_rfl)
theorem NX:∀ b,(2,b) ∈ aE (aV Tryd.f57)→b=.loop (part Tryd.f57 [1,1,1,0,1,0,0]):=dz (by kernel_rfl)
theorem NY:∀ b,(4,b) ∈ aE (part Tryd.f57 [1,1,1,0,1,0,0])→b=.loop (part Tryd.f57 [1,1,1,0,1,0,0,1,0,0,1,0,0]):=dz (by kernel_rfl)
def vc (zb:Nat→Int) (j:Nat):List (Nat×Nat):=(List.range j).map fun i=>((zb (i*2)).toNat,(zb (i*2+1)).toNat)
theorem I4 (zb:Nat→Int) (j:Nat):vc zb (j+1)=vc zb j++[((zb (j*2)).toNat,(zb (j*2+1)).toNat)]:=by unfold vc;rw[List.range_succ,List.map_append];rfl
theorem Dj {lc lb:Nat} {zb:Nat→Int} (hp:fi lc lb zb) {j:Nat} (hj:j≤lb) {p:Nat×Nat} (h:p ∈ vc zb j):p.1<lc∧p.2<lc∧(cH zb p.2 lb).testBit p.1=true:=by
 unfold vc at h;obtain ⟨i,hi,rfl⟩:=List.mem_map.1 h;have hi:=List.mem_range.1 hi;have:=hp i (by omega);refine ⟨by show (zb (i*2)).toNat<lc;omega,by show (zb (i*2+1)).toNat<lc;omega,?_⟩;exact (jz zb _ _ lb (fun i hi=>(hp i hi).1.1)).2 ⟨i,by omega,by show zb (i*2)=((zb (i*2)).toNat:Int);omega,by show zb (i*2+1)=((zb (i*2+1)).toNat:Int);omega⟩
theorem Di {lc lb:Nat} {zb:Nat→Int} (hp:fi lc lb zb):Fl lc (fun c=>cH zb c lb) (vc zb lb):=fun a c=>by
 constructor
 · intro h;exact Dj hp (Nat.le_refl _) h
 · rintro ⟨h1,h2,h3⟩;obtain ⟨i,hi,h4,h5⟩:=(jz zb c a lb (fun i hi=>(hp i hi).1.1)).1 h3;unfold vc;exact List.mem_map.2 ⟨i,List.mem_range.2 hi,by rw[h4,h5,Int.toNat_natCast,Int.toNat_natCast]⟩
section
variable (dr:Int) (lc:Nat) (zc:Nat→Int) (lb:Nat) (zb:Nat→Int)
theorem B9 (hl:lc≤10) (hd:1≤dr∧dr≤100) (hv:p8 lc zc) (hp:fi lc lb zb) (hk:lS lc (fun c=>cH zb c lb)=false):fM lc (bK dr lc zc) (fun c=>cH zb c lb):=by
 refine ⟨hl,fun j=>?_,fun j hj=>?_,fun c hc=>qd zb c lc lb (fun i hi=>(hp i hi).1),fun c hc=>?_,hk⟩
 · unfold bK;by_cases h:j<2*lc
   · rw[if_pos h];obtain ⟨v1,v2,v3,v4,v5,v6⟩:=HR hv (show j / 2<lc by omega);have q1:=m5 (a:=zc (j / 2*4+3)-zc (j / 2*4+1)) hd.1 (K:=1000) (by omega) (by omega) (by decide);have q2:=m5 (a:=zc (j / 2*4)-zc (j / 2*4+2)) hd.1 (K:=1000) (by omega) (by omega) (by decide);split<;>omega
   · rw[if_neg h];omega
 · unfold bK;rw[if_neg (by omega)]
 · cases e:cH zb c lb with
   | zero=>rfl
   | succ m =>
     exfalso;have:∃ a,(cH zb c lb).testBit a=true:=by
      apply Classical.byContradiction;intro hn;have:cH zb c lb=0:=by
       apply Nat.eq_of_testBit_eq;intro i;rw[Nat.zero_testBit];cases e:(cH zb c lb).testBit i with
       | false=>rfl
       | true=>exact absurd ⟨i,e⟩ hn
      omega
     obtain ⟨a,ha⟩:=this;obtain ⟨i,hi,h4,h5⟩:=(jz zb c a lb (fun i hi=>(hp i hi).1.1)).1 ha;have:=hp i hi;omega
variable (n:Nat) (H:ab)
theorem Sd (h1:1≤lc) (hl:lc≤10) (hb:lb≤1000) (hS:fM lc (bK dr lc zc) (fun c=>cH zb c lb)) (hp:fi lc lb zb) (z:Nat→Int) (t':Nat) (hr:Bd lc (fun c=>cH zb c lb) (bK dr lc zc) t' z) (t:Int):exec (bL n 57 81) (.block 4 (.loop (part Tryd.f57 [1,1,1,0,1,0,0,1,0,0,1,0,0]))) (Bp (wu 1 (lc-1) lc) t (Int.ofNat 0)) (dG dr lc zc lb zb [wm (lc-1) (2*lc) z]::H) =
 some (.normal,Bp (wu 1 (lc-1) lc) t (Int.ofNat lb)++[(33,.bool false)],dG dr lc zc lb zb [wm (lc-1) (2*lc) (lz z (vc zb lb))]::H):=by
 refine iG (n:=n) (f:=57) (nt:=81) (c:=part Tryd.f57 [1,1,1,0,1,0,0,1,0,0,1,0,0]) 4 (fun j=>Bp (wu 1 (lc-1) lc) t (j:Int)) (fun j=>dG dr lc zc lb zb [wm (lc-1) (2*lc) (lz z (vc zb j))]::H) lb (_,_) (by omega) (fun j hj=>?_) ?_
 · obtain ⟨⟨p1,p2⟩,p3,p4⟩:=hp j hj
   have hs:Bd lc (fun c=>cH zb c lb) (bK dr lc zc) t' (lz z (vc zb j)):=(oX hS.nob _ hr (fun p hp'=>Dj hp (by omega) hp')).1
   have e9:lz z (vc zb (j+1))=A1 (lz z (vc zb j)) (zb (j*2)).toNat (zb (j*2+1)).toNat:=by rw[I4,xJ];rfl
   generalize hR:lz z (vc zb j)=R at *
   have bc:=qc (K:=100000) (by omega) hS.win hs (zb (j*2+1)).toNat (by omega)
   have ba:=qc (K:=100000) (by omega) hS.win hs (zb (j*2)).toNat (by omega)
   have ec:bh .i64 (j:Int) (Int.ofNat 1)=((j+1:Nat):Int):=dJ (by omega)
   have ei:aq 0 (j:Int) 2=j*2:=by rw[bG];omega
   have T:=PO n dr lc zc lb zb H t (j:Int) (lc-1) lc (2*lc) R
   have es:Nat.succ (j*2)=j*2+1:=rfl
   have e1:aq 0 (zb (j*2+1)) 2=2*(zb (j*2+1)).toNat:=by rw[bG];omega
   have e2:aq 0 (zb (j*2)) 2=2*(zb (j*2)).toNat:=by rw[bG];omega
   rw[ei,es,e1,e2,aI,aI,ec,xW,xW] at T
   generalize hA:(zb (j*2)).toNat=A at *
   generalize hC:(zb (j*2+1)).toNat=C at *
   have e4:bh .i64 (R (2*A)) (Int.ofNat 1)=R (2*A)+1:=Fm (by show _≤R (2*A)+1;omega) (by show R (2*A)+1≤_;omega)
   rw[e4] at T
   have e5:nH (R (2*C)) (R (2*A)+1)=max (R (2*C)) (R (2*A)+1):=by rw[nk];omega
   rw[e5] at T
   have e6:A2 R (2*C) (max (R (2*C)) (R (2*A)+1)) (2*C+1)=R (2*C+1):=by unfold A2;rw[if_neg (by omega)]
   have e7:bN .i64 (A2 R (2*C) (max (R (2*C)) (R (2*A)+1)) (2*C+1)) (Int.ofNat 1)=A2 R (2*C) (max (R (2*C)) (R (2*A)+1)) (2*C+1)-1:=by
    rw[e6];exact rJ (by show _≤R (2*C+1)-1;omega) (by show R (2*C+1)-1≤_;omega)
   rw[e7] at T
   have e8:∀ x y:Int,rG x y=min x y:=fun x y=>by rw[nm];omega
   rw[e8] at T
   refine ay T (av _) (ai _ _) (aj _ _) ?_
   have q1:cj (j:Int) lb=true:=by simp (disch:=omega) only[nV,nW];omega
   have q2:cj (Int.ofNat 0) 2=true:=by simp (disch:=omega) only[nV,nW];omega
   have q3:cj (Int.ofNat 1) 2=true:=by simp (disch:=omega) only[nV,nW];omega
   have q4:bW (j*2) (bU lb 2)=true:=by simp (disch:=omega) only[nV,nW];omega
   have q5:bW (j*2+1) (bU lb 2)=true:=by simp (disch:=omega) only[nV,nW];omega
   have q6:cj (zb (j*2+1)) lc=true:=by simp (disch:=omega) only[nV,nW];omega
   have q7:cj (zb (j*2)) lc=true:=by simp (disch:=omega) only[nV,nW];omega
   have qv:cD (lc-1) (lc-1)=true:=by simp (disch:=omega) only[nV,nW]
   have q8:bW (2*C) (2*lc)=true:=by simp (disch:=omega) only[nV,nW];omega
   have q9:bW (2*A) (2*lc)=true:=by simp (disch:=omega) only[nV,nW];omega
   have q10:bW (2*A+1) (2*lc)=true:=by simp (disch:=omega) only[nV,nW];omega
   have q11:bW (2*C+1) (2*lc)=true:=by simp (disch:=omega) only[nV,nW];omega
   have qa:bO (eR (lc-1) (lc-1)) (eR (lc-1) (Nat.succ (lc-1)))=true:=by rw[bT,jj,jj,decide_eq_true (Nat.le_refl _),decide_eq_true (by omega)];rfl
   refine Tr.ae (fun h0=>?_) wJ
   refine Tr.aa q1 (Tr.aa q2 (Tr.aa q4 (Tr.aa q1 (Tr.aa q3 (Tr.aa q5 (Tr.aa q6 (Tr.aa qv (Tr.aa q8 (Tr.aa q7 (Tr.aa qv (Tr.aa q9 (Tr.aa q6 (Tr.aa qv (Tr.aa q8 (Tr.aa qa (Tr.aa q7 (Tr.aa qv (Tr.aa q10 (Tr.aa q6 (Tr.aa qv (Tr.aa q11 (Tr.aa q7 (Tr.aa qv (Tr.aa q10 (Tr.aa qa ?_)))))))))))))))))))))))))
   refine Tr.ag ⟨rfl,?_⟩
   rw[e9];rfl
 · obtain ⟨x,h1,rfl⟩:=ay (Q:=fun x=>x=(.exit 4,Bp (wu 1 (lc-1) lc) t (Int.ofNat lb)++[(33,.bool false)],dG dr lc zc lb zb [wm (lc-1) (2*lc) (lz z (vc zb lb))]::H)) (PO n dr lc zc lb zb H t (Int.ofNat lb) (lc-1) lc (2*lc) (lz z (vc zb lb))) (av _) (ai _ _) (aj _ _) (by
    refine Tr.ae wJ (fun h0=>Tr.ag rfl))
   exact h1
theorem Sh (h1:1≤lc) (hl:lc≤10) (hb:lb≤1000) (hS:fM lc (bK dr lc zc) (fun c=>cH zb c lb)) (hp:fi lc lb zb):exec (bL n 57 81) (.block 2 (.loop (part Tryd.f57 [1,1,1,0,1,0,0]))) (yB (wu 1 (lc-1) lc) (Int.ofNat 0)) (dG dr lc zc lb zb [wm (lc-1) (2*lc) (bK dr lc zc)]::H) =
 some (.normal,yB (wu 1 (lc-1) lc) (Int.ofNat lc)++[(26,.bool false)],dG dr lc zc lb zb [wm (lc-1) (2*lc) (fB (vc zb lb) (bK dr lc zc) lc)]::H):=by
 refine iG (n:=n) (f:=57) (nt:=81) (c:=part Tryd.f57 [1,1,1,0,1,0,0]) 2 (fun t=>yB (wu 1 (lc-1) lc) (t:Int)) (fun t=>dG dr lc zc lb zb [wm (lc-1) (2*lc) (fB (vc zb lb) (bK dr lc zc) t)]::H) lc (_,_) (by omega) (fun t ht=>?_) ?_
 · have hbd:=lA (w:=bK dr lc zc) hS.nob (Di hp) t
   have ec:bh .i64 (t:Int) (Int.ofNat 1)=((t+1:Nat):Int):=dJ (by omega)
   have T:=Tu n dr lc zc lb zb H (t:Int) (lc-1) lc (2*lc) (fB (vc zb lb) (bK dr lc zc) t) (fB (vc zb lb) (bK dr lc zc) (t+1))
   rw[ec] at T
   refine ay T (av _) (aP (ai _ _) NY (fun x h=>by rw[← Tr.af h];simp only[eI.st,aT];exact Sd dr lc zc lb zb n H h1 hl hb hS hp _ t hbd (t:Int))) (aj _ _) ?_
   exact Tr.ae (fun h0=>Tr.ak ⟨rfl,rfl⟩ (Tr.ag ⟨rfl,rfl⟩)) wJ
 · obtain ⟨x,h1,rfl⟩:=ay (Q:=fun x=>x=(.exit 2,yB (wu 1 (lc-1) lc) (Int.ofNat lc)++[(26,.bool false)],dG dr lc zc lb zb [wm (lc-1) (2*lc) (fB (vc zb lb) (bK dr lc zc) lc)]::H)) (PQ n dr lc zc lb zb H (Int.ofNat lc) (lc-1) lc (2*lc) (fB (vc zb lb) (bK dr lc zc) lc)) (av _) (b8 (ai _ _) 4) (aj _ _) (by
    refine Tr.ae wJ (fun h0=>Tr.ag rfl))
   exact h1
noncomputable def Qo (lc:Nat) (r:Nat→Int):AV:=.slcT none (.M [.arr .i64 r (bU lc 2)]) 2 lc false
theorem VG (h1:1≤lc) (hl:lc≤10) (hb:lb≤1000) (hd:1≤dr∧dr≤100) (hv:p8 lc zc) (hp:fi lc lb zb) (hk:lS lc (fun c=>cH zb c lb)=false):cd (n+3) (.fn 57) [bn dr lc zc lb zb] H=some (Qo lc (dx lc (fun c=>cH zb c lb) (bK dr lc zc)),H):=by
 have hS:=B9 dr lc zc lb zb hl hd hv hp hk;have e1:=R8 n dr lc zc lb zb H h1 hl hd hv;have e2:=Sh dr lc zc lb zb (n+2) H h1 hl hb hS hp;rw[A7 (Nat.le_refl lc) (lA (w:=bK dr lc zc) hS.nob (Di hp) lc)] at e2;refine br (n:=n+2) Tryd.func57 rfl rfl rfl (Yl (n+2) dr lc zc lb zb H (lc-1) lc (2*lc) (bK dr lc zc) (dx lc (fun c=>cH zb c lb) (bK dr lc zc))) (av _) (aP (aP (ai _ _) NW (fun x h=>by rw[← Tr.af h];simp only[eI.st,aT];exact e1)) NX (fun x h=>by rw[← Tr.af h];simp only[eI.st,aT];exact e2)) (aj _ _) ?_;refine Tr.ak ⟨rfl,rfl⟩ (Tr.ak ⟨rfl,rfl⟩ (Tr.aa wG (Tr.aa (by rw[jg,jI];exact decide_eq_true (by omega)) (Tr.ag ⟨?_,rfl⟩))));rw[fq];rfl
end
end Go.Eng
end
