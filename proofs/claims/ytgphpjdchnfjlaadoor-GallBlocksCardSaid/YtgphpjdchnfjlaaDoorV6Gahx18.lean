/- Gall: bounds, the program's, whole. -/
import Derived.Test.YtgphpjdchnfjlaaDoorV6Gacx5
import Derived.Test.YtgphpjdchnfjlaaDoorV6EngRnFx8
import Derived.Test.YtgphpjdchnfjlaaDoorV6Ga8x4
set_option linter.unusedVariables false
set_option linter.unusedSimpArgs false
set_option maxRecDepth 100000
section
namespace Go.Eng
open Int (ofNat)
open Go.Proofs Go.Eng.Gall
section
variable (n:Nat) (O:Int) (U:Nat) (Z:Nat→Int) (V:Nat) (J:Nat→Int) (W:Nat→Int) (b:Nat→Nat) (H:ab)
theorem Rt (hS:mX U W b) (q r:Nat→Int) (t':Nat) (hr:Bd U b W t' r) (t:Int):exec (bO (n+1) 56 69) (.block 2 (.loop (part Tryd.f56 [1,1,0,1,0,0,1,1,0,0,1,0,1,0,0]))) (x9 (shV O U Z V J W (bI b)) U t (bI b) (ofNat 0)) (fj [c5 r,c5 q]::H) =
 some (.normal,x9 (shV O U Z V J W (bI b)) U t (bI b) (ofNat 10)++[(26,.bool false)],fj [c5 (kQ r (lu b 10)),c5 q]::H):=by
 refine fZ (n:=n+1) (f:=56) (nt:=69) (c:=part Tryd.f56 [1,1,0,1,0,0,1,1,0,0,1,0,1,0,0]) 2 (fun c=>x9 (shV O U Z V J W (bI b)) U t (bI b) (c:Int)) (fun c=>fj [c5 (kQ r (lu b c)),c5 q]::H) 10 (_,_) wO (fun c hc=>?_) ?_
 · have hs:Bd U b W t' (kQ r (lu b c)):=(oC hS.nob _ hr (fun p hp=>by
    obtain ⟨a,d⟩:=p;have:=(Db b c (fun d _=>hS.lt d) a d).1 hp;obtain ⟨h1,h2⟩:=hS.bit this.2;exact ⟨h2,h1,this.2⟩)).1
   have ec:aQ .i64 (c:Int) (ofNat 1)=((c+1:Nat):Int):=eg wO
   have T:=SG (n+1) O U Z V J W (bI b) H (kQ r (lu b c)) q (kQ r (lu b (c+1))) t (c:Int) 0
   rw[ec,vu] at T
   have hx:=Rv n O U Z V J W b H hS q (kQ r (lu b c)) t' hs t c hc
   rw[← xe] at hx
   refine av T (aw _) (aM (aj _ _) Np (fun x h=>by rw[← Tr.af h];simp only[dY.st,aG];exact hx)) (ai _ _) ?_
   refine Tr.ae (fun h0=>?_) wJ
   exact Tr.aa wG (Tr.aa wG (Tr.ak ⟨rfl,rfl⟩ (Tr.ag ⟨rfl,rfl⟩)))
 · obtain ⟨x,h1,rfl⟩:=av (Q:=fun x=>x=(.exit 2,x9 (shV O U Z V J W (bI b)) U t (bI b) (ofNat 10)++[(26,.bool false)],fj [c5 (kQ r (lu b 10)),c5 q]::H)) (Pc (n+1) O U Z V J W (bI b) H (kQ r (lu b 10)) q t) (aw _) (bN (aj _ _) 4) (ai _ _) (by
    refine Tr.ae wJ (fun h0=>Tr.ag rfl))
   exact h1
theorem Lb (hS:mX U W b) {t:Nat} {r:Nat→Int} (hr:Bd U b W t r):∀ j,20≤j→r j=0:=fun j hj=>by
 rw[hr.out j (by have:=hS.len;omega)];exact hS.zer j hj
theorem Mo (hS:mX U W b) (t:Nat) (ht:t<U):∃ x,exec (bO (n+1) 56 69) (part Tryd.f56 [1,1,0,1,0,0]) (m4 (shV O U Z V J W (bI b)) U (t:Int)) (fj [c5 (fk (lu b 10) W t)]::H)=some x ∧
 if lA (fk (lu b 10) W (t+1)) (fk (lu b 10) W t) 20=true then x=(.exit 0,m4 (shV O U Z V J W (bI b)) U (t:Int)++[(66,.bool true)],fj [c5 (fk (lu b 10) W (t+1)),c5 (fk (lu b 10) W t)]::H)
 else x.1=.normal∧tidy 2 x.2.1 x.2.2=(m4 (shV O U Z V J W (bI b)) U ((t+1:Nat):Int),fj [c5 (fk (lu b 10) W (t+1))]::H):=by
 have hb:=kR (w:=W) hS.nob hS.all t
 have ec:aQ .i64 (t:Int) (ofNat 1)=((t+1:Nat):Int):=eg (by have:=hS.len;omega)
 have T:=SF (n+1) O U Z V J W (bI b) H (fk (lu b 10) W t) (fk (lu b 10) W (t+1)) (t:Int)
 rw[ec,sc (Lb U W b hS hb)] at T
 refine av T (aw _) (aM (aj _ _) No (fun x h=>by rw[← Tr.af h];simp only[dY.st,aG];exact Rt n O U Z V J W b H hS (fk (lu b 10) W t) (fk (lu b 10) W t) t hb (t:Int))) (ai _ _) ?_
 refine Tr.ae (fun h0=>?_) wJ
 refine Tr.aa wG (Tr.ak ⟨rfl,rfl⟩ (Tr.ae (fun q=>Tr.ag ?_) (fun q=>Tr.ag ?_)))
 · rw[if_pos q];rfl
 · rw[if_neg (by rw[q];decide)];exact ⟨rfl,rfl⟩
theorem T5 (hS:mX U W b):cd (n+2) (.fn 56) [shV O U Z V J W (bI b)] H=some (.agg (.M [.arr .i64 (dN U b W) 20]),H):=by
 have hl:=hS.len;have hz:∀ j,20≤j→dN U b W j=0:=fun j hj=>by unfold dN;rw[if_neg wO];exact hS.zer j hj
 rcases sl (fun t=>t<U∧lA (fk (lu b 10) W (t+1)) (fk (lu b 10) W t) 20=true) U with h | ⟨T,h1,⟨_,h2⟩,h3⟩
 · have hx:exec (bO (n+1) 56 69) (.block 0 (.loop (part Tryd.f56 [1,1,0,1,0,0]))) (m4 (shV O U Z V J W (bI b)) U (ofNat 0)) (fj [c5 W]::H)=some (.normal,m4 (shV O U Z V J W (bI b)) U (ofNat U)++[(19,.bool false)],fj [c5 (fk (lu b 10) W U)]::H):=by
    refine fZ (n:=n+1) (f:=56) (nt:=69) (c:=part Tryd.f56 [1,1,0,1,0,0]) 0 (fun t=>m4 (shV O U Z V J W (bI b)) U (t:Int)) (fun t=>fj [c5 (fk (lu b 10) W t)]::H) U (_,_) wO (fun t ht=>?_) ?_
    · obtain ⟨x,x1,x2⟩:=Mo n O U Z V J W b H hS t ht;rw[if_neg (fun q=>h t ht ⟨ht,q⟩)] at x2;exact ⟨x,x1,x2⟩
    · obtain ⟨x,h1,rfl⟩:=av (Q:=fun x=>x=(.exit 0,m4 (shV O U Z V J W (bI b)) U (ofNat U)++[(19,.bool false)],fj [c5 (fk (lu b 10) W U)]::H)) (Pb (n+1) O U Z V J W (bI b) H (fk (lu b 10) W U) (ofNat U)) (aw _) (bN (aj _ _) 2) (ai _ _) (by
       refine Tr.ae wJ (fun h0=>Tr.ag rfl))
      exact h1
   have he:=AI (Nat.le_refl U) (kR (w:=W) hS.nob hS.all U);rw[he] at hx;have XG:=S3 (n+1) O U Z V J W (bI b) H (dN U b W);rw[sc hS.zer,sc hz] at XG;refine bB (n:=n+1) Tryd.func56 rfl rfl rfl XG (aw _) (aM (aj _ _) JC (fun x h=>by rw[← Tr.af h];simp only[dY.st,aG];exact hx)) (ai _ _) ?_;exact Tr.aa wG (Tr.ak ⟨rfl,rfl⟩ (Tr.aa wG (Tr.ag ⟨rfl,rfl⟩)))
 · have hbT:=kR (w:=W) hS.nob hS.all T;have hbT1:=kR (w:=W) hS.nob hS.all (T+1);have heq:fk (lu b 10) W (T+1)=fk (lu b 10) W T:=by
    funext j;by_cases hj:j<20
    · exact uY h2 j hj
    · rw[Lb U W b hS hbT1 j wO,Lb U W b hS hbT j wO]
   have he:fk (lu b 10) W (T+1)=dN U b W:=by
    rw[heq];exact HG hS.nob hS.all hbT heq
   have hx:exec (bO (n+1) 56 69) (.block 0 (.loop (part Tryd.f56 [1,1,0,1,0,0]))) (m4 (shV O U Z V J W (bI b)) U (ofNat 0)) (fj [c5 W]::H)=some (.normal,m4 (shV O U Z V J W (bI b)) U (T:Int)++[(66,.bool true)],fj [c5 (fk (lu b 10) W (T+1)),c5 (fk (lu b 10) W T)]::H):=by
    refine fZ (n:=n+1) (f:=56) (nt:=69) (c:=part Tryd.f56 [1,1,0,1,0,0]) 0 (fun t=>m4 (shV O U Z V J W (bI b)) U (t:Int)) (fun t=>fj [c5 (fk (lu b 10) W t)]::H) T (_,_) wO (fun t ht=>?_) ?_
    · obtain ⟨x,x1,x2⟩:=Mo n O U Z V J W b H hS t wO;rw[if_neg (fun q=>h3 t ht ⟨by omega,q⟩)] at x2;exact ⟨x,x1,x2⟩
    · obtain ⟨x,x1,x2⟩:=Mo n O U Z V J W b H hS T h1;rw[if_pos h2] at x2;subst x2;exact x1
   rw[he] at hx;have XG:=S4 (n+1) O U Z V J W (bI b) H (dN U b W) (fk (lu b 10) W T) (T:Int);rw[sc hS.zer,sc hz] at XG;refine bB (n:=n+1) Tryd.func56 rfl rfl rfl XG (aw _) (aM (aj _ _) JC (fun x h=>by rw[← Tr.af h];simp only[dY.st,aG];exact hx)) (ai _ _) ?_;exact Tr.aa wG (Tr.ak ⟨rfl,rfl⟩ (Tr.aa wG (Tr.ag ⟨rfl,rfl⟩)))
end
end Go.Eng
end
section
namespace Go.Eng
open Int (ofNat)
open Go.Proofs Go.Eng.Gall
noncomputable def PQ (a b:Int):AV:=.agg (.I .i64 [a,b])
noncomputable def PU (A:AV) (P:Int→Prop) (XI:Int→AV):List AV→Option (Prop×AV)
 | [B,.int .i64 c]=>some (B=A∧P c,XI c)
 | _=>none
noncomputable def x7 (S:AV) (j:Int):aA:=[(1,.ptr 0 0 0 0),(3,S),(4,.int .i64 j)]
noncomputable def ya (S:AV) (t:Int):aA:=[(1,.ptr 0 0 0 0),(3,S),(5,.int .i64 t)]
noncomputable def AY (S:AV) (t j:Int):aA:=[(1,.ptr 0 0 0 0),(3,S),(5,.int .i64 t),(6,.int .i64 j)]
noncomputable def Qu (C:Int→Int→Prop) (d:Int→Int→Int):List AV→Option (Prop×AV)
 | [.int .i64 a,.int .i64 b]=>some (C a b,.int .i64 (d a b))
 | _=>none
noncomputable def vS (i v m:Nat):AV:=.slc 0 i v 0 2 m none
noncomputable def vP (v M:Nat) (z:Nat→Int):Nat×an:=(v,.row (.M [.arr .i64 z M]))
theorem Xv (n:Nat) (a b:Int) (H:ab):bu Tryd.prog (cd n) 100000 81 Tryd.f81 (KtG.kt 81) (il aJ n 0) aS aR [(.int .i64 a,none),(.int .i64 b,none)] H =
 Tr.req (bU (cK b (ofNat 0))) (Tr.ite (bw a (wM .i64 (ra IntKind.i64 a b) b)) (Tr.ok ((AV.int .i64 (bH .i64 (ra IntKind.i64 a b) (ofNat 1)),none),H)) (Tr.ok ((AV.int .i64 (ra IntKind.i64 a b),none),H))):=by kernel_rfl
theorem Xi (n:Nat) (O:Int) (U:Nat) (Z:Nat→Int) (V:Nat) (J:Nat→Int) (H:ab) (c:Int) (d:Int→Int→Int) (C:Int→Int→Prop):bu Tryd.prog (cd n) 100000 55 Tryd.f55 (KtG.kt 55) (il (ng aJ 81 (Qu C d)) n 0) aS aR [(bk O U Z V J,none),(.int .i64 c,none)] H =
 Tr.req (b8 c U) (Tr.req (bR (aq 0 c 4) (bD U 4)) (Tr.req (bR (ar (aq 0 c 4) 1) (bD U 4)) (Tr.req (bR (ar (aq 0 c 4) 2) (bD U 4)) (Tr.req (bR (ar (aq 0 c 4) 3) (bD U 4)) (Tr.reqP (C (bH .i64 (Z (ar (aq 0 c 4) 3)) (Z (ar (aq 0 c 4) 1))) O) (Tr.reqP (C (bH .i64 (Z (aq 0 c 4)) (Z (ar (aq 0 c 4) 2))) O) (Tr.req (bL (dO 0 0) (dO 0 1)) (Tr.ok ((AV.agg (Row.I .i64 [nb (ofNat 0) (Bq IntKind.i64 (d (bH .i64 (Z (ar (aq 0 c 4) 3)) (Z (ar (aq 0 c 4) 1))) O)),qY (bH .i64 (ofNat U) (ofNat 1)) (d (bH .i64 (Z (aq 0 c 4)) (Z (ar (aq 0 c 4) 2))) O)]),none),H))))))))):=by kernel_rfl
theorem SH (n:Nat) (O:Int) (U:Nat) (Z:Nat→Int) (V:Nat) (J:Nat→Int) (H:ab) (j:Int) (P:Int→Prop) (f g:Int→Int):aH (bO n 57 81) (il (ng aJ 55 (PU (bk O U Z V J) P (fun c=>PQ (f c) (g c)))) n 0) aS aR (part Tryd.f57 [1,1,0,1,0,0]) (hints (x7 .nils j)) (qH O U Z V J::H) =
 Tr.ite (bw j (ofNat U)) (Tr.reqP (bk O U Z V J=bk O U Z V J∧P j) (Tr.req (ig 0 1 16) (Tr.req (cu 0 0) (Tr.req (dO 1 1) (Tr.ok (Ex.normal,[(1,AV.ptr 0 0 0 0,none),(3,AV.slc 0 2 0 0 2 1 none,none),(4,AV.int .i64 (aQ .i64 j (ofNat 1)),none)],(bK [(0,cW O U Z V J),(0,an.row (Row.I .i64 [f j,g j])),(0,an.row (rM (aI [f j,g j]) 2))])::H)))))) (Tr.ok (Ex.exit 0,[(1,AV.ptr 0 0 0 0,none),(3,AV.nils,none),(4,AV.int .i64 j,none),(13,AV.bool false,some 1)],(bK [(0,cW O U Z V J)])::H)):=by kernel_rfl
theorem Pg (n:Nat) (O:Int) (U:Nat) (Z:Nat→Int) (V:Nat) (J:Nat→Int) (H:ab) (j:Int) (P:Int→Prop) (f g:Int→Int) (v m M:Nat) (z:Nat→Int):aH (bO n 57 81) (il (ng aJ 55 (PU (bk O U Z V J) P (fun c=>PQ (f c) (g c)))) n 0) aS aR (part Tryd.f57 [1,1,0,1,0,0]) (hints (x7 (vS 1 v m) j)) (dA O U Z V J [vP v M z]::H) =
 Tr.ite (bw j (ofNat U)) (Tr.reqP (bk O U Z V J=bk O U Z V J∧P j) (Tr.req (ig m 1 16) (Tr.req (cu 0 0) (Tr.req (dO 1 1) (Tr.req (cu v v) (Tr.req (cu (ar 0 (bD m 2)) M) (Tr.ok (Ex.normal,[(1,AV.ptr 0 0 0 0,none),(3,AV.slc 0 1 (Nat.succ v) 0 2 (ar m 1) none,none),(4,AV.int .i64 (aQ .i64 j (ofNat 1)),none)],(bK [(0,cW O U Z V J),(Nat.succ v,an.row (rM (oz (qj z 0) (bD m 2) (aI [f j,g j])) (ar (bD m 2) 2))),(0,an.row (Row.I .i64 [f j,g j]))])::H)))))))) (Tr.ok (Ex.exit 0,[(1,AV.ptr 0 0 0 0,none),(3,AV.slc 0 1 v 0 2 m none,none),(4,AV.int .i64 j,none),(13,AV.bool false,some 1)],(bK [(0,cW O U Z V J),(v,an.row (rM z M))])::H)):=by kernel_rfl
theorem Pe (n:Nat) (O:Int) (U:Nat) (Z:Nat→Int) (V:Nat) (J:Nat→Int) (H:ab) (t j:Int) (v m M:Nat) (z:Nat→Int):aH (bO n 57 81) (il aJ n 0) aS aR (part Tryd.f57 [1,1,1,0,1,0,0,1,0,0,1,0,0]) (hints (AY (vS 1 v m) t j)) (dA O U Z V J [vP v M z]::H) =
 Tr.ite (bw j (ofNat V)) (Tr.req (b8 j V) (Tr.req (b8 (ofNat 0) 2) (Tr.req (bR (aq 0 j 2) (bD V 2)) (Tr.req (b8 j V) (Tr.req (b8 (ofNat 1) 2) (Tr.req (bR (Nat.succ (aq 0 j 2)) (bD V 2)) (Tr.req (b8 (J (Nat.succ (aq 0 j 2))) m) (Tr.req (cu v v) (Tr.req (bR (aq 0 (J (Nat.succ (aq 0 j 2))) 2) M) (Tr.req (b8 (J (aq 0 j 2)) m) (Tr.req (cu v v) (Tr.req (bR (aq 0 (J (aq 0 j 2)) 2) M) (Tr.req (b8 (J (Nat.succ (aq 0 j 2))) m) (Tr.req (cu v v) (Tr.req (bR (aq 0 (J (Nat.succ (aq 0 j 2))) 2) M) (Tr.req (bL (dO v v) (dO v (Nat.succ v))) (Tr.req (b8 (J (aq 0 j 2)) m) (Tr.req (cu v v) (Tr.req (bR (ar (aq 0 (J (aq 0 j 2)) 2) 1) M) (Tr.req (b8 (J (Nat.succ (aq 0 j 2))) m) (Tr.req (cu v v) (Tr.req (bR (ar (aq 0 (J (Nat.succ (aq 0 j 2))) 2) 1) M) (Tr.req (b8 (J (aq 0 j 2)) m) (Tr.req (cu v v) (Tr.req (bR (ar (aq 0 (J (aq 0 j 2)) 2) 1) M) (Tr.req (bL (dO v v) (dO v (Nat.succ v))) (Tr.ok (Ex.normal,[(1,AV.ptr 0 0 0 0,none),(3,AV.slc 0 1 v 0 2 m none,none),(5,AV.int .i64 t,none),(6,AV.int .i64 (aQ .i64 j (ofNat 1)),none)],(bK [(0,cW O U Z V J),(v,an.row (rM (ft (ft z (aq 0 (J (Nat.succ (aq 0 j 2))) 2) (nb (z (aq 0 (J (Nat.succ (aq 0 j 2))) 2)) (aQ .i64 (z (aq 0 (J (aq 0 j 2)) 2)) (ofNat 1)))) (ar (aq 0 (J (aq 0 j 2)) 2) 1) (qY (ft z (aq 0 (J (Nat.succ (aq 0 j 2))) 2) (nb (z (aq 0 (J (Nat.succ (aq 0 j 2))) 2)) (aQ .i64 (z (aq 0 (J (aq 0 j 2)) 2)) (ofNat 1))) (ar (aq 0 (J (aq 0 j 2)) 2) 1)) (bH .i64 (ft z (aq 0 (J (Nat.succ (aq 0 j 2))) 2) (nb (z (aq 0 (J (Nat.succ (aq 0 j 2))) 2)) (aQ .i64 (z (aq 0 (J (aq 0 j 2)) 2)) (ofNat 1))) (ar (aq 0 (J (Nat.succ (aq 0 j 2))) 2) 1)) (ofNat 1)))) M))])::H)))))))))))))))))))))))))))) (Tr.ok (Ex.exit 4,[(1,AV.ptr 0 0 0 0,none),(3,AV.slc 0 1 v 0 2 m none,none),(5,AV.int .i64 t,none),(6,AV.int .i64 j,none),(33,AV.bool false,some 1)],(bK [(0,cW O U Z V J),(v,an.row (rM z M))])::H)):=by kernel_rfl
theorem SI (n:Nat) (O:Int) (U:Nat) (Z:Nat→Int) (V:Nat) (J:Nat→Int) (H:ab) (t:Int) (v m M:Nat) (z z':Nat→Int):aH (bO n 57 81) (il aJ n 0) (cw aS 4 (AY (vS 1 v m) t (ofNat 0)) (dA O U Z V J [vP v M z]::H) (.ok (.normal,hints (AY (vS 1 v m) t (ofNat V)++[(33,.bool false)]),dA O U Z V J [vP v M z']::H))) aR (part Tryd.f57 [1,1,1,0,1,0,0]) (hints (ya (vS 1 v m) t)) (dA O U Z V J [vP v M z]::H) =
 (fun (Z0:bJ)=>((fun (Z1:aA)=>Tr.ite (bw t (ofNat U)) (Tr.reqP (Z1=Z1∧Z0::H=Z0::H) (Tr.ok (Ex.normal,[(1,AV.ptr 0 0 0 0,none),(3,AV.slc 0 1 v 0 2 m none,none),(5,AV.int .i64 (aQ .i64 t (ofNat 1)),none)],(bK [(0,cW O U Z V J),(v,an.row (rM z' M))])::H))) (Tr.ok (Ex.exit 2,[(1,AV.ptr 0 0 0 0,none),(3,AV.slc 0 1 v 0 2 m none,none),(5,AV.int .i64 t,none),(26,AV.bool false,some 1)],Z0::H))) [(1,AV.ptr 0 0 0 0),(3,AV.slc 0 1 v 0 2 m none),(5,AV.int .i64 t),(6,iI 0)])) (bK [(0,cW O U Z V J),(v,an.row (rM z M))]):=by kernel_rfl
theorem Pf (n:Nat) (O:Int) (U:Nat) (Z:Nat→Int) (V:Nat) (J:Nat→Int) (H:ab) (t:Int) (v m M:Nat) (z:Nat→Int):aH (bO n 57 81) (il aJ n 0) (dC aS 4) aR (part Tryd.f57 [1,1,1,0,1,0,0]) (hints (ya (vS 1 v m) t)) (dA O U Z V J [vP v M z]::H) =
 Tr.ite (bw t (ofNat U)) Tr.bad (Tr.ok (Ex.exit 2,[(1,AV.ptr 0 0 0 0,none),(3,AV.slc 0 1 v 0 2 m none,none),(5,AV.int .i64 t,none),(26,AV.bool false,some 1)],(bK [(0,cW O U Z V J),(v,an.row (rM z M))])::H)):=by kernel_rfl
theorem Xj (n:Nat) (O:Int) (U:Nat) (Z:Nat→Int) (V:Nat) (J:Nat→Int) (H:ab) (v m M:Nat) (z z':Nat→Int):bu Tryd.prog (cd n) 100000 57 Tryd.f57 (KtG.kt 57) (il aJ n 0) (cw (cw aS 0 (x7 .nils (ofNat 0)) (qH O U Z V J::H) (.ok (.normal,hints (x7 (vS 1 v m) (ofNat U)++[(13,.bool false)]),dA O U Z V J [vP v M z]::H))) 2 (ya (vS 1 v m) (ofNat 0)) (dA O U Z V J [vP v M z]::H) (.ok (.normal,hints (ya (vS 1 v m) (ofNat U)++[(26,.bool false)]),dA O U Z V J [vP v M z']::H))) aR [(bk O U Z V J,none)] H =
 Tr.reqP ([(1,AV.ptr 0 0 0 0),(3,AV.nils),(4,iI 0)]=[(1,AV.ptr 0 0 0 0),(3,AV.nils),(4,iI 0)]∧(bK [(0,cW O U Z V J)])::H=(bK [(0,cW O U Z V J)])::H) (Tr.reqP ([(1,AV.ptr 0 0 0 0),(3,AV.slc 0 1 v 0 2 m none),(5,iI 0)]=[(1,AV.ptr 0 0 0 0),(3,AV.slc 0 1 v 0 2 m none),(5,iI 0)]∧(bK [(0,cW O U Z V J),(v,an.row (rM z M))])::H=(bK [(0,cW O U Z V J),(v,an.row (rM z M))])::H) (Tr.req (cu v v) (Tr.req (fF 0 (bD m 2) 0 M) (Tr.ok ((slA 2 m (qj z' 0),none),H))))):=by kernel_rfl
end Go.Eng
end
section
namespace Go.Eng
open Int (ofNat)
open Go.Proofs Go.Eng.Gall
theorem mC {a b:Int} (hb:1≤b) {K:Int} (h1:-K≤a) (h2:a≤K) (hK:0≤K):-K-b≤a / b∧a / b≤K:=by
 have h7:=Int.mul_ediv_add_emod a b;have h3:=Int.emod_nonneg a (show b≠0 by omega);have h4:=Int.emod_lt_of_pos a (show 0<b by omega);constructor
 · apply Classical.byContradiction;intro hc;have h8:b*(a / b)≤1*(a / b):=Int.mul_le_mul_of_nonpos_right hb wO;omega
 · exact Int.le_trans (Int.ediv_le_ediv wO h2) (Int.ediv_le_self b hK)
theorem UT (n:Nat) (a b:Int) (H:ab) (h1:-1000000≤a∧a≤1000000) (h2:1≤b∧b≤1000):cd (n+1) (.fn 81) [.int .i64 a,.int .i64 b] H=some (.int .i64 (a / b),H):=by
 have hd:=mC (a:=a) (b:=b) h2.1 (K:=1000000) h1.1 h1.2 (by decide);have e0:=Int.mul_tdiv_add_tmod a b;have e1:=Int.mul_ediv_add_emod a b;have h3:=Int.emod_nonneg a (show b≠0 by omega);have h4:=Int.emod_lt_of_pos a (show 0<b by omega);have hm:-b<a.tmod b∧a.tmod b<b:=by
  constructor
  · by_cases h:0≤a
    · have:=Int.tmod_nonneg b h;omega
    · have e:a.tmod b=-((-a).tmod b):=by rw[Int.neg_tmod];omega
      have:=Int.tmod_lt_of_pos (-a) (show 0<b by omega);omega
  · exact Int.tmod_lt_of_pos a wO
 have hq:(0≤a.tmod b∧a.tdiv b=a / b)∨(a.tmod b<0∧a.tdiv b=a / b+1):=by
  by_cases h:0≤a.tmod b
  · refine .inl ⟨h,?_⟩;exact ((Int.ediv_emod_unique (show 0<b by omega)).2 ⟨by rw[Int.add_comm];exact e0,h,hm.2⟩).1.symm
  · refine .inr ⟨by omega,?_⟩;have:a / b=a.tdiv b-1:=((Int.ediv_emod_unique (r:=a.tmod b+b) (show 0<b by omega)).2 ⟨by rw[Int.mul_sub];omega,by omega,by omega⟩).1;omega
 have eq:ra .i64 a b=a.tdiv b:=by rw[rG];exact fW wO wO
 have em:wM .i64 (a.tdiv b) b=a-a.tmod b:=by
  rw[mO,Int.mul_comm];have:b*a.tdiv b=a-a.tmod b:=by omega
  rw[this];exact fW wO wO
 have XG:=Xv n a b H;rw[eq,em] at XG;refine bB Tryd.func81 rfl rfl rfl XG (aw _) (aj _ _) (ai _ _) ?_;refine Tr.aa (by rw[aO,bf];show (!(b == 0))=true;simp;omega) (Tr.ae (fun q=>Tr.ag ⟨?_,rfl⟩) (fun q=>Tr.ag ⟨?_,rfl⟩))
 · rw[bn,decide_eq_true_iff] at q;rcases hq with hq | hq
   · omega
   · show AV.int .i64 (bH .i64 (a.tdiv b) (ofNat 1))=_;rw[od (by show _≤a.tdiv b-1;omega) (by show a.tdiv b-1≤_;omega),hq.2];show AV.int .i64 (a / b+1-1)=_;rw[Int.add_sub_cancel]
 · rw[bn,decide_eq_false_iff_not] at q;rcases hq with hq | hq
   · show AV.int .i64 (a.tdiv b)=_;rw[hq.2]
   · omega
section
variable (n:Nat) (O:Int) (U:Nat) (Z:Nat→Int) (V:Nat) (J:Nat→Int) (H:ab)
theorem LG {c:Nat} (hc:0<c):(ng aJ 81 (Qu (fun a b=>(-1000000≤a∧a≤1000000)∧1≤b∧b≤1000) (fun a b=>a / b))).Ok (cd c):=by
 obtain ⟨m,rfl⟩:∃ m,c=m+1:=⟨c-1,by omega⟩
 refine kr (bh _) (fun args p v hg hp H=>?_);unfold Qu at hg;split at hg
 · simp only[nP] at hg;obtain ⟨rfl,rfl⟩:=hg;exact UT m _ _ H hp.1 hp.2
 · cases hg
theorem UI (hl:U≤1000) (hd:1≤O∧O≤100) (hv:mY U Z) (c:Nat) (hc:c<U):cd (n+2) (.fn 55) [bk O U Z V J,.int .i64 (c:Int)] H=some (PQ (cj O U Z (2*c)) (cj O U Z (2*c+1)),H):=by
 obtain ⟨v1,v2,v3,v4,v5,v6⟩:=He hv hc;have ei:aq 0 (c:Int) 4=c*4:=by rw[bP];omega
 have s1:bH .i64 (Z (c*4+3)) (Z (c*4+1))=Z (c*4+3)-Z (c*4+1):=od wO wO;have s2:bH .i64 (Z (c*4)) (Z (c*4+2))=Z (c*4)-Z (c*4+2):=od wO wO;have s3:bH .i64 (ofNat U) (ofNat 1)=(U:Int)-1:=od (by show _≤(U:Int)-1;omega) (by show (U:Int)-1≤_;omega);have q1:=mC (a:=Z (c*4+3)-Z (c*4+1)) hd.1 (K:=1000) wO wO (by decide);have n1:Bq .i64 ((Z (c*4+3)-Z (c*4+1)) / O)=-((Z (c*4+3)-Z (c*4+1)) / O):=by rw[wQ,fW wO wO];omega
 have XG:=Xi (n+1) O U Z V J H (c:Int) (fun a b=>a / b) (fun a b=>(-1000000≤a∧a≤1000000)∧1≤b∧b≤1000);rw[ei,aC,aC,aC,s1,s2,s3] at XG;rw[n1] at XG;have w0:cj O U Z (2*c)=nb (ofNat 0) (-((Z (c*4+3)-Z (c*4+1)) / O)):=by
  unfold cj;rw[if_pos wO,if_pos wO,mM,show 2*c / 2=c by omega];show _=(if _ > (0:Int) then _ else (0:Int));omega
 have w1:cj O U Z (2*c+1)=qY ((U:Int)-1) ((Z (c*4)-Z (c*4+2)) / O):=by
  unfold cj;rw[if_pos wO,if_neg wO,mN,show (2*c+1) / 2=c by omega];omega
 refine bB (n:=n+1) Tryd.func55 rfl rfl rfl XG (bC _ _ (LG wO)) (aj _ _) (ai _ _) ?_;refine Tr.aa wG (Tr.aa wG (Tr.aa wG (Tr.aa wG (Tr.aa wG (Tr.ak ⟨⟨by omega,by omega⟩,hd.1,by omega⟩ (Tr.ak ⟨⟨by omega,by omega⟩,hd.1,by omega⟩ (Tr.aa wG (Tr.ag ⟨?_,rfl⟩))))))));rw[w0,w1];rfl
theorem LH {k:Nat} (hk:2≤k) (hl:U≤1000) (hd:1≤O∧O≤100) (hv:mY U Z):(ng aJ 55 (PU (bk O U Z V J) (fun c=>0≤c∧c<U) (fun c=>PQ (cj O U Z (2*c.toNat)) (cj O U Z (2*c.toNat+1))))).Ok (cd k):=by
 obtain ⟨m,rfl⟩:∃ m,k=m+2:=⟨k-2,by omega⟩
 refine kr (bh _) (fun args p v hg hp H=>?_);unfold PU at hg;split at hg
 · simp only[nP] at hg;obtain ⟨rfl,rfl⟩:=hg;obtain ⟨rfl,h1,h2⟩:=hp;rename_i c;have:=UI m O U Z V J H hl hd hv c.toNat wO;rw[Int.toNat_of_nonneg h1] at this;exact this
 · cases hg
theorem Hf (m:Nat) (hm:m<U):oz (qj (ub O U Z m) 0) (2*m) (aI [cj O U Z (2*m),cj O U Z (2*m+1)])=ub O U Z (m+1):=by
 rw[fc,mr,jq];funext i;unfold ub;by_cases h:i<2*m
 · simp only[h,if_true];rw[if_pos wO]
 · simp only[h,if_false];by_cases e:i=2*m
   · subst e;rw[if_pos wO];simp
   · by_cases e2:i=2*m+1
     · subst e2;rw[if_pos wO,show 2*m+1-2*m=1 by omega];rfl
     · rw[if_neg wO];obtain ⟨d,hd⟩:∃ d,i-2*m=d+2:=⟨i-2*m-2,by omega⟩
       rw[hd];rfl
theorem MT (hm:0<U):aI [cj O U Z 0,cj O U Z 1]=ub O U Z 1:=by
 have:=Hf O U Z 0 hm;rw[KV] at this;rw[← this,fc,mr];funext i;simp
noncomputable def Ub (m:Nat):aA:=match m with
 | 0=>x7 .nils (ofNat 0)
 | m+1=>x7 (vS 1 m (m+1)) ((m+1:Nat):Int)
noncomputable def Ud (m:Nat):ab:=match m with
 | 0=>qH O U Z V J::H
 | m+1=>dA O U Z V J [vP m (2*(m+1)) (ub O U Z (m+1))]::H
theorem Rr (h1:1≤U) (hl:U≤10) (hd:1≤O∧O≤100) (hv:mY U Z):exec (bO (n+2) 57 81) (.block 0 (.loop (part Tryd.f57 [1,1,0,1,0,0]))) (Ub 0) (Ud O U Z V J H 0) =
 some (.normal,x7 (vS 1 (U-1) U) (ofNat U)++[(13,.bool false)],dA O U Z V J [vP (U-1) (2*U) (cj O U Z)]::H):=by
 have hC:=LH O U Z V J (show 2≤n+2 by omega) (show U≤1000 by omega) hd hv
 refine fZ (n:=n+2) (f:=57) (nt:=81) (c:=part Tryd.f57 [1,1,0,1,0,0]) 0 Ub (Ud O U Z V J H) U (_,_) wO (fun m hm=>?_) ?_
 · have ec:aQ .i64 (m:Int) (ofNat 1)=((m+1:Nat):Int):=eg wO
   cases m with
   | zero =>
     have T:=SH (n+2) O U Z V J H ((0:Nat):Int) (fun c=>0≤c∧c<U) (fun c=>cj O U Z (2*c.toNat)) (fun c=>cj O U Z (2*c.toNat+1))
     rw[ec] at T
     have e:aI [(fun c:Int=>cj O U Z (2*c.toNat)) ((0:Nat):Int),(fun c:Int=>cj O U Z (2*c.toNat+1)) ((0:Nat):Int)]=ub O U Z 1:=MT O U Z wO
     rw[e] at T
     refine av T (bC _ _ hC) (aj _ _) (ai _ _) ?_
     refine Tr.ae (fun h0=>?_) wJ
     exact Tr.ak ⟨rfl,by omega,by omega⟩ (Tr.aa wG (Tr.aa wG (Tr.aa wG (Tr.ag ⟨rfl,rfl⟩))))
   | succ m =>
     have T:=Pg (n+2) O U Z V J H ((m+1:Nat):Int) (fun c=>0≤c∧c<U) (fun c=>cj O U Z (2*c.toNat)) (fun c=>cj O U Z (2*c.toNat+1)) m (m+1) (2*(m+1)) (ub O U Z (m+1))
     have e:oz (qj (ub O U Z (m+1)) 0) (bD (m+1) 2) (aI [(fun c:Int=>cj O U Z (2*c.toNat)) ((m+1:Nat):Int),(fun c:Int=>cj O U Z (2*c.toNat+1)) ((m+1:Nat):Int)])=ub O U Z (m+1+1):=by
      rw[jt,Nat.mul_comm];show oz _ _ (aI [cj O U Z (2*((m+1:Nat):Int).toNat),cj O U Z (2*((m+1:Nat):Int).toNat+1)])=_;rw[Int.toNat_natCast];exact Hf O U Z (m+1) hm
     rw[ec,e] at T
     have e2:ar (bD (m+1) 2) 2=2*(m+1+1):=by rw[aC,jt];omega
     have e3:ar (m+1) 1=m+1+1:=aC _ _
     rw[e2,e3] at T
     refine av T (bC _ _ hC) (aj _ _) (ai _ _) ?_
     refine Tr.ae (fun h0=>?_) wJ
     exact Tr.ak ⟨rfl,by omega,by omega⟩ (Tr.aa wG (Tr.aa wG (Tr.aa wG (Tr.aa wG (Tr.aa (by rw[eQ,aC,jt];exact decide_eq_true wO) (Tr.ag ⟨rfl,rfl⟩))))))
 · obtain ⟨m,rfl⟩:∃ m,U=m+1:=⟨U-1,by omega⟩
   have T:=Pg (n+2) O (m+1) Z V J H (ofNat (m+1)) (fun c=>0≤c∧c<(m+1:Nat)) (fun c=>cj O (m+1) Z (2*c.toNat)) (fun c=>cj O (m+1) Z (2*c.toNat+1)) m (m+1) (2*(m+1)) (ub O (m+1) Z (m+1))
   obtain ⟨x,h1,rfl⟩:=av (Q:=fun x=>x=(.exit 0,x7 (vS 1 (m+1-1) (m+1)) (ofNat (m+1))++[(13,.bool false)],dA O (m+1) Z V J [vP (m+1-1) (2*(m+1)) (cj O (m+1) Z)]::H)) T (bC _ _ hC) (aj _ _) (ai _ _) (by
    refine Tr.ae wJ (fun h0=>Tr.ag ?_);rw[← DD];rfl)
   exact h1
end
end Go.Eng
end
section
namespace Go.Eng
open Int (ofNat)
open Go.Proofs Go.Eng.Gall
theorem Nq:∀ b,(0,b) ∈ aE (bx Tryd.f57)→b=.loop (part Tryd.f57 [1,1,0,1,0,0]):=dK (by kernel_rfl)
theorem Nr:∀ b,(2,b) ∈ aE (bx Tryd.f57)→b=.loop (part Tryd.f57 [1,1,1,0,1,0,0]):=dK (by kernel_rfl)
theorem Ns:∀ b,(4,b) ∈ aE (part Tryd.f57 [1,1,1,0,1,0,0])→b=.loop (part Tryd.f57 [1,1,1,0,1,0,0,1,0,0,1,0,0]):=dK (by kernel_rfl)
def uJ (J:Nat→Int) (j:Nat):List (Nat×Nat):=(List.range j).map fun i=>((J (i*2)).toNat,(J (i*2+1)).toNat)
theorem Iu (J:Nat→Int) (j:Nat):uJ J (j+1)=uJ J j++[((J (j*2)).toNat,(J (j*2+1)).toNat)]:=by unfold uJ;rw[List.range_succ,List.map_append];rfl
theorem CM {U V:Nat} {J:Nat→Int} (hp:fv U V J) {j:Nat} (hj:j≤V) {p:Nat×Nat} (h:p ∈ uJ J j):p.1<U∧p.2<U∧(cZ J p.2 V).testBit p.1=true:=by
 unfold uJ at h;obtain ⟨i,hi,rfl⟩:=List.mem_map.1 h;have hi:=List.mem_range.1 hi;have:=hp i wO;refine ⟨by show (J (i*2)).toNat<U;omega,by show (J (i*2+1)).toNat<U;omega,?_⟩;exact (jj J _ _ V (fun i hi=>(hp i hi).1.1)).2 ⟨i,by omega,by show J (i*2)=((J (i*2)).toNat:Int);omega,by show J (i*2+1)=((J (i*2+1)).toNat:Int);omega⟩
theorem CL {U V:Nat} {J:Nat→Int} (hp:fv U V J):EN U (fun c=>cZ J c V) (uJ J V):=fun a c=>by
 constructor
 · intro h;exact CM hp (Nat.le_refl _) h
 · rintro ⟨h1,h2,h3⟩;obtain ⟨i,hi,h4,h5⟩:=(jj J c a V (fun i hi=>(hp i hi).1.1)).1 h3;unfold uJ;exact List.mem_map.2 ⟨i,List.mem_range.2 hi,by rw[h4,h5,Int.toNat_natCast,Int.toNat_natCast]⟩
section
variable (O:Int) (U:Nat) (Z:Nat→Int) (V:Nat) (J:Nat→Int)
theorem Jf (hl:U≤10) (hd:1≤O∧O≤100) (hv:mY U Z) (hp:fv U V J) (hk:ll U (fun c=>cZ J c V)=false):mX U (cj O U Z) (fun c=>cZ J c V):=by
 refine ⟨hl,fun j=>?_,fun j hj=>?_,fun c hc=>v7 J c U V (fun i hi=>(hp i hi).1),fun c hc=>?_,hk⟩
 · unfold cj;by_cases h:j<2*U
   · rw[if_pos h];obtain ⟨v1,v2,v3,v4,v5,v6⟩:=He hv (show j / 2<U by omega);have q1:=mC (a:=Z (j / 2*4+3)-Z (j / 2*4+1)) hd.1 (K:=1000) wO wO (by decide);have q2:=mC (a:=Z (j / 2*4)-Z (j / 2*4+2)) hd.1 (K:=1000) wO wO (by decide);split<;>omega
   · rw[if_neg h];omega
 · unfold cj;rw[if_neg wO]
 · cases e:cZ J c V with
   | zero=>rfl
   | succ m =>
     exfalso;have:∃ a,(cZ J c V).testBit a=true:=by
      apply Classical.byContradiction;intro hn;have:cZ J c V=0:=by
       apply Nat.eq_of_testBit_eq;intro i;rw[Nat.zero_testBit];cases e:(cZ J c V).testBit i with
       | false=>rfl
       | true=>exact absurd ⟨i,e⟩ hn
      omega
     obtain ⟨a,ha⟩:=this;obtain ⟨i,hi,h4,h5⟩:=(jj J c a V (fun i hi=>(hp i hi).1.1)).1 ha;have:=hp i hi;omega
variable (n:Nat) (H:ab)
theorem Rw (h1:1≤U) (hl:U≤10) (hb:V≤1000) (hS:mX U (cj O U Z) (fun c=>cZ J c V)) (hp:fv U V J) (z:Nat→Int) (t':Nat) (hr:Bd U (fun c=>cZ J c V) (cj O U Z) t' z) (t:Int):exec (bO n 57 81) (.block 4 (.loop (part Tryd.f57 [1,1,1,0,1,0,0,1,0,0,1,0,0]))) (AY (vS 1 (U-1) U) t (ofNat 0)) (dA O U Z V J [vP (U-1) (2*U) z]::H) =
 some (.normal,AY (vS 1 (U-1) U) t (ofNat V)++[(33,.bool false)],dA O U Z V J [vP (U-1) (2*U) (kQ z (uJ J V))]::H):=by
 refine fZ (n:=n) (f:=57) (nt:=81) (c:=part Tryd.f57 [1,1,1,0,1,0,0,1,0,0,1,0,0]) 4 (fun j=>AY (vS 1 (U-1) U) t (j:Int)) (fun j=>dA O U Z V J [vP (U-1) (2*U) (kQ z (uJ J j))]::H) V (_,_) wO (fun j hj=>?_) ?_
 · obtain ⟨⟨p1,p2⟩,p3,p4⟩:=hp j hj
   have hs:Bd U (fun c=>cZ J c V) (cj O U Z) t' (kQ z (uJ J j)):=(oC hS.nob _ hr (fun p hp'=>CM hp wO hp')).1
   have e9:kQ z (uJ J (j+1))=Az (kQ z (uJ J j)) (J (j*2)).toNat (J (j*2+1)).toNat:=by rw[Iu,xe];rfl
   generalize hR:kQ z (uJ J j)=R at *
   have bc:=pF (K:=100000) wO hS.win hs (J (j*2+1)).toNat wO
   have ba:=pF (K:=100000) wO hS.win hs (J (j*2)).toNat wO
   have ec:aQ .i64 (j:Int) (ofNat 1)=((j+1:Nat):Int):=eg wO
   have ei:aq 0 (j:Int) 2=j*2:=by rw[bP];omega
   have T:=Pe n O U Z V J H t (j:Int) (U-1) U (2*U) R
   have es:Nat.succ (j*2)=j*2+1:=rfl
   have e1:aq 0 (J (j*2+1)) 2=2*(J (j*2+1)).toNat:=by rw[bP];omega
   have e2:aq 0 (J (j*2)) 2=2*(J (j*2)).toNat:=by rw[bP];omega
   rw[ei,es,e1,e2,aC,aC,ec,xu,xu] at T
   generalize hA:(J (j*2)).toNat=A at *
   generalize hC:(J (j*2+1)).toNat=C at *
   have e4:aQ .i64 (R (2*A)) (ofNat 1)=R (2*A)+1:=xF (by show _≤R (2*A)+1;omega) (by show R (2*A)+1≤_;omega)
   rw[e4] at T
   have e5:nb (R (2*C)) (R (2*A)+1)=max (R (2*C)) (R (2*A)+1):=by rw[mM];omega
   rw[e5] at T
   have e6:AA R (2*C) (max (R (2*C)) (R (2*A)+1)) (2*C+1)=R (2*C+1):=by unfold AA;rw[if_neg wO]
   have e7:bH .i64 (AA R (2*C) (max (R (2*C)) (R (2*A)+1)) (2*C+1)) (ofNat 1)=AA R (2*C) (max (R (2*C)) (R (2*A)+1)) (2*C+1)-1:=by
    rw[e6];exact od (by show _≤R (2*C+1)-1;omega) (by show R (2*C+1)-1≤_;omega)
   rw[e7] at T
   have e8:∀ x y:Int,qY x y=min x y:=fun x y=>by rw[mN];omega
   rw[e8] at T
   refine av T (aw _) (aj _ _) (ai _ _) ?_
   have q1:b8 (j:Int) V=true:=by simp (disch:=omega) only[nV,nW];omega
   have q2:b8 (ofNat 0) 2=true:=by simp (disch:=omega) only[nV,nW];omega
   have q3:b8 (ofNat 1) 2=true:=by simp (disch:=omega) only[nV,nW];omega
   have q4:bR (j*2) (bD V 2)=true:=by simp (disch:=omega) only[nV,nW];omega
   have q5:bR (j*2+1) (bD V 2)=true:=by simp (disch:=omega) only[nV,nW];omega
   have q6:b8 (J (j*2+1)) U=true:=by simp (disch:=omega) only[nV,nW];omega
   have q7:b8 (J (j*2)) U=true:=by simp (disch:=omega) only[nV,nW];omega
   have qv:cu (U-1) (U-1)=true:=by simp (disch:=omega) only[nV,nW]
   have q8:bR (2*C) (2*U)=true:=by simp (disch:=omega) only[nV,nW];omega
   have q9:bR (2*A) (2*U)=true:=by simp (disch:=omega) only[nV,nW];omega
   have q10:bR (2*A+1) (2*U)=true:=by simp (disch:=omega) only[nV,nW];omega
   have q11:bR (2*C+1) (2*U)=true:=by simp (disch:=omega) only[nV,nW];omega
   have qa:bL (dO (U-1) (U-1)) (dO (U-1) (Nat.succ (U-1)))=true:=by rw[bW,iS,iS,decide_eq_true (Nat.le_refl _),decide_eq_true wO];rfl
   refine Tr.ae (fun h0=>?_) wJ
   refine Tr.aa q1 (Tr.aa q2 (Tr.aa q4 (Tr.aa q1 (Tr.aa q3 (Tr.aa q5 (Tr.aa q6 (Tr.aa qv (Tr.aa q8 (Tr.aa q7 (Tr.aa qv (Tr.aa q9 (Tr.aa q6 (Tr.aa qv (Tr.aa q8 (Tr.aa qa (Tr.aa q7 (Tr.aa qv (Tr.aa q10 (Tr.aa q6 (Tr.aa qv (Tr.aa q11 (Tr.aa q7 (Tr.aa qv (Tr.aa q10 (Tr.aa qa ?_)))))))))))))))))))))))))
   refine Tr.ag ⟨rfl,?_⟩
   rw[e9];rfl
 · obtain ⟨x,h1,rfl⟩:=av (Q:=fun x=>x=(.exit 4,AY (vS 1 (U-1) U) t (ofNat V)++[(33,.bool false)],dA O U Z V J [vP (U-1) (2*U) (kQ z (uJ J V))]::H)) (Pe n O U Z V J H t (ofNat V) (U-1) U (2*U) (kQ z (uJ J V))) (aw _) (aj _ _) (ai _ _) (by
    refine Tr.ae wJ (fun h0=>Tr.ag rfl))
   exact h1
theorem RA (h1:1≤U) (hl:U≤10) (hb:V≤1000) (hS:mX U (cj O U Z) (fun c=>cZ J c V)) (hp:fv U V J):exec (bO n 57 81) (.block 2 (.loop (part Tryd.f57 [1,1,1,0,1,0,0]))) (ya (vS 1 (U-1) U) (ofNat 0)) (dA O U Z V J [vP (U-1) (2*U) (cj O U Z)]::H) =
 some (.normal,ya (vS 1 (U-1) U) (ofNat U)++[(26,.bool false)],dA O U Z V J [vP (U-1) (2*U) (fk (uJ J V) (cj O U Z) U)]::H):=by
 refine fZ (n:=n) (f:=57) (nt:=81) (c:=part Tryd.f57 [1,1,1,0,1,0,0]) 2 (fun t=>ya (vS 1 (U-1) U) (t:Int)) (fun t=>dA O U Z V J [vP (U-1) (2*U) (fk (uJ J V) (cj O U Z) t)]::H) U (_,_) wO (fun t ht=>?_) ?_
 · have hbd:=kR (w:=cj O U Z) hS.nob (CL hp) t
   have ec:aQ .i64 (t:Int) (ofNat 1)=((t+1:Nat):Int):=eg wO
   have T:=SI n O U Z V J H (t:Int) (U-1) U (2*U) (fk (uJ J V) (cj O U Z) t) (fk (uJ J V) (cj O U Z) (t+1))
   rw[ec] at T
   refine av T (aw _) (aM (aj _ _) Ns (fun x h=>by rw[← Tr.af h];simp only[dY.st,aG];exact Rw O U Z V J n H h1 hl hb hS hp _ t hbd (t:Int))) (ai _ _) ?_
   exact Tr.ae (fun h0=>Tr.ak ⟨rfl,rfl⟩ (Tr.ag ⟨rfl,rfl⟩)) wJ
 · obtain ⟨x,h1,rfl⟩:=av (Q:=fun x=>x=(.exit 2,ya (vS 1 (U-1) U) (ofNat U)++[(26,.bool false)],dA O U Z V J [vP (U-1) (2*U) (fk (uJ J V) (cj O U Z) U)]::H)) (Pf n O U Z V J H (ofNat U) (U-1) U (2*U) (fk (uJ J V) (cj O U Z) U)) (aw _) (bN (aj _ _) 4) (ai _ _) (by
    refine Tr.ae wJ (fun h0=>Tr.ag rfl))
   exact h1
noncomputable def K8 (U:Nat) (r:Nat→Int):AV:=.slcT none (.M [.arr .i64 r (bD U 2)]) 2 U false
theorem T6 (h1:1≤U) (hl:U≤10) (hb:V≤1000) (hd:1≤O∧O≤100) (hv:mY U Z) (hp:fv U V J) (hk:ll U (fun c=>cZ J c V)=false):cd (n+3) (.fn 57) [bk O U Z V J] H=some (K8 U (dN U (fun c=>cZ J c V) (cj O U Z)),H):=by
 have hS:=Jf O U Z V J hl hd hv hp hk;have e1:=Rr n O U Z V J H h1 hl hd hv;have e2:=RA O U Z V J (n+2) H h1 hl hb hS hp;rw[AI (Nat.le_refl U) (kR (w:=cj O U Z) hS.nob (CL hp) U)] at e2;refine bB (n:=n+2) Tryd.func57 rfl rfl rfl (Xj (n+2) O U Z V J H (U-1) U (2*U) (cj O U Z) (dN U (fun c=>cZ J c V) (cj O U Z))) (aw _) (aM (aM (aj _ _) Nq (fun x h=>by rw[← Tr.af h];simp only[dY.st,aG];exact e1)) Nr (fun x h=>by rw[← Tr.af h];simp only[dY.st,aG];exact e2)) (ai _ _) ?_;refine Tr.ak ⟨rfl,rfl⟩ (Tr.ak ⟨rfl,rfl⟩ (Tr.aa wG (Tr.aa (by rw[iP,jt];exact decide_eq_true wO) (Tr.ag ⟨?_,rfl⟩))));rw[fc];rfl
end
end Go.Eng
end
section
namespace Go.Eng
open Go.Proofs
noncomputable def mB (n f nt d i:Nat):Cx:=⟨Tryd.prog,cd n,100000,f,nt,KtG.kt f,some (d,i)⟩
section
variable (n s k:Nat) (P:Nat→Int)
end
theorem nB {n f nt d i:Nat} {c:Code} {callR:bt} {bl:eW} {rg:ou} {fr:aA} {H:ab} {T:Tr dY} (e:aH (mB n f nt d i) callR bl rg c (hints fr) H=T) (hC:callR.Ok (cd n)) (hB:bl.Ok (mB n f nt d i) c) (hR:rg.Ok (mB n f nt d i) c) {y:Ex×aA×ab} (h:T.all fun x=>x.st=y):exec (mB n f nt d i) c fr H=some y:=by
 obtain ⟨x,h1,rfl⟩:=h;have:=fJ (cx:=mB n f nt d i) hC c hB hR (hints fr) H x (by rw[e];exact h1);rw[aG] at this;exact this
theorem AU {n f nt d i:Nat} {c:Code} {callR:bt} {bl:eW} {rg:ou} {fr:aA} {H:ab} {T:Tr dY} {Q:Ex×aA×ab→Prop} (e:aH (mB n f nt d i) callR bl rg c (hints fr) H=T) (hC:callR.Ok (cd n)) (hB:bl.Ok (mB n f nt d i) c) (hR:rg.Ok (mB n f nt d i) c) (h:T.all fun x=>Q x.st):∃ y,exec (mB n f nt d i) c fr H=some y∧Q y:=by
 obtain ⟨x,h1,h2⟩:=h;have:=fJ (cx:=mB n f nt d i) hC c hB hR (hints fr) H x (by rw[e];exact h1);rw[aG] at this;exact ⟨_,this,h2⟩
section
variable (n s k:Nat) (P:Nat→Int) (H:ab)
end
end Go.Eng
end
section
namespace Go.Eng
open Go.Proofs Go.Eng.Gall
theorem S2 (n:Nat) (O:Int) (U:Nat) (Z:Nat→Int) (V:Nat) (J:Nat→Int) (W B:Nat→Int) (G:ab) (C:List AV→Prop):bu Tryd.prog (cd (n+2)) 100000 49 Tryd.f49 (KtG.kt 49) (il (ng (tX aJ 22 [bk O U Z V J] (.int .i64 (Int.ofNat 0))) 62 (fun x=>some (C x,shV O U Z V J W B))) n 2) aS aR [(bk O U Z V J,none),(.nils,none)] G =
 Tr.reqP ([bk O U Z V J]=[bk O U Z V J]) (Tr.ite (bU (cK (Int.ofNat 0) (Int.ofNat 0))) (Tr.ok ((AV.tup [AV.nilp,iI 0],none),G)) (Tr.reqP (C [bk O U Z V J]) (Tr.ok ((AV.tup [shV O U Z V J W B,iI 0],none),G)))):=by kernel_rfl
end Go.Eng
end
section
namespace Go.Eng
open Go.Proofs Go.Eng.Gall
theorem FG {p:Nat→Bool} {k:Nat}:dz p k=false↔∀ j,j<k→p j=false:=⟨mD,FH⟩
theorem wK {L:List Nat} (hn:L.Nodup) {n:Nat} (h:∀ x ∈ L,x<n):mask L<2 ^ n:=by
 refine Nat.lt_pow_two_of_testBit _ fun i hi=>?_;rw[eF hn];exact decide_eq_false fun hm=>by have:=h i hm;omega
def Jj (W:Nat→Int) (c:Int) (p:Int):Bool:=decide (W (2*c.toNat)≤p) && decide (p≤W (2*c.toNat+1))
theorem Da {V U:Nat} {J:Nat→Int} (hp:fv U V J) (a c:Nat):rF V J (a:Int) (c:Int)=(cZ J c V).testBit a:=by
 unfold rF;rw[Bool.eq_iff_iff,dI,jj J c a V (fun i hi=>(hp i hi).1.1)];constructor
 · rintro ⟨i,hi,he⟩;unfold ij at he;rw[Bool.and_eq_true,decide_eq_true_iff,decide_eq_true_iff] at he;exact ⟨i,hi,he.1.symm,he.2.symm⟩
 · rintro ⟨i,hi,he⟩;refine ⟨i,hi,?_⟩;unfold ij;rw[Bool.and_eq_true,decide_eq_true_iff,decide_eq_true_iff];exact ⟨he.1.symm,he.2.symm⟩
end Go.Eng
end
section
namespace Go.Eng
open Go.Proofs Go.Eng.Gall
end Go.Eng
end
section
namespace Go.Eng
open Go.Proofs Go.Eng.Gall
theorem Uy:∀ b,(0,b) ∈ aE (bx Tryd.f89)→b=.loop (part Tryd.f89 [1,0,1,0,0]):=dK (by kernel_rfl)
theorem pH {O:Int} {U:Nat} {Z:Nat→Int} {V:Nat} {J:Nat→Int} (h:c7 O U Z V J=0):(1≤U∧U≤10)∧V≤40∧(1≤O∧O≤100)∧mY U Z∧fv U V J∧ll U (fun c=>cZ J c V)=false:=by
 unfold c7 at h;split at h
 · cases h
 · rename_i h1;split at h
   · cases h
   · rename_i h2;split at h
     · cases h
     · rename_i h3;split at h
       · cases h
       · rename_i h4;exact ⟨by omega,by omega,by omega,mD (by simpa using fun q=>h2 (.inr (.inr q))),px (by simpa using h3),by simpa using h4⟩
section
variable (n:Nat) (O:Int) (U:Nat) (Z:Nat→Int) (V:Nat) (J:Nat→Int) (H:ab)
end
end Go.Eng
end
section
namespace Go.Eng
open Go.Proofs Go.Eng.Gall
section
variable (n:Nat) (O:Int) (U:Nat) (Z:Nat→Int) (V:Nat) (J:Nat→Int) (H:ab)
theorem Lj (hb:V≤1000) (h0:c7 O U Z V J=0):cd (n+14) (.fn 49) [bk O U Z V J,.nils] H=some (.tup [Ng O U Z V J,.int .i64 (Int.ofNat 0)],H):=by
 obtain ⟨h1,h2,h3,h4,h5,_⟩:=pH h0;refine bB (n:=n+13) Tryd.func49 rfl rfl rfl (S2 (n+11) O U Z V J (cj O U Z) (mZ V J) H (fun x=>x=[bk O U Z V J])) (lU _ (n+11) 2 (fun q=>Cr (b7 (bh _) (fun H=>by
  rw[show n+11+q=n+q+11 by omega];have:=T3 (n+q) O U Z V J H wO hb;rw[h0] at this;exact this)) (fun A H hA=>by
   subst hA;rw[show n+11+q=n+q+4+7 by omega];exact T7 (n+q+4) O U Z V J H h1.2 hb h3 h4 h5))) (aj _ _) (ai _ _) ?_
 refine Tr.ak rfl (Tr.ae (fun q=>by simp[aO,bf] at q) (fun q=>Tr.ak rfl (Tr.ag ⟨rfl,rfl⟩)))
variable (W B:Nat→Int)
end
section
variable (n:Nat) (r:Row) (G:ab) (m:Nat) (z S:Nat→Int) (R:Row)
end
section
variable (n:Nat) (O:Int) (U:Nat) (Z:Nat→Int) (V:Nat) (J:Nat→Int) (W B:Nat→Int) (r:Row) (G:ab) (m:Nat) (z:Nat→Int)
end
end Go.Eng
end
section
namespace Go.Eng
open Go.Proofs Go.Eng.Gall
theorem Xt (n:Nat) (O:Int) (U:Nat) (Z:Nat→Int) (V:Nat) (J:Nat→Int) (H:ab) (c p:Int):bu Tryd.prog (cd (n+1)) 100000 78 Tryd.f78 (KtG.kt 78) (il aJ n 1) aS aR [(bk O U Z V J,none),(.int .i64 c,none),(.int .i64 p,none)] H =
 Tr.req (b8 c U) (Tr.req (bR (aq 0 c 4) (bD U 4)) (Tr.req (bR (ar (aq 0 c 4) 1) (bD U 4)) (Tr.req (b8 c U) (Tr.req (bR (aq 0 c 4) (bD U 4)) (Tr.req (bR (ar (aq 0 c 4) 1) (bD U 4)) (Tr.req (bR (ar (aq 0 c 4) 2) (bD U 4)) (Tr.req (bR (ar (aq 0 c 4) 3) (bD U 4)) (Tr.req (bL (dO 0 0) (dO 0 1)) (Tr.req (bL (dO 0 0) (dO 0 1)) (Tr.ite (cU (Z (ar (aq 0 c 4) 2)) (bH .i64 (Z (aq 0 c 4)) (wM .i64 p O))) (Tr.ok ((AV.bool (cU (bH .i64 (Z (ar (aq 0 c 4) 1)) (wM .i64 p O)) (Z (ar (aq 0 c 4) 3))),none),H)) (Tr.ok ((AV.bool false,some 1),H)))))))))))):=by kernel_rfl
end Go.Eng
end
section
namespace Go.Eng
open Go.Proofs Go.Eng.Gall
section
variable (n:Nat) (O:Int) (U:Nat) (Z:Nat→Int) (V:Nat) (J:Nat→Int) (H:ab) (m:Nat) (z:Nat→Int)
theorem O5 (hd:1≤O) {c:Nat} (hc:c<U) {p:Int} (hp:0≤p∧p<U):Jj (cj O U Z) (c:Int) p=(decide (Z (c*4+2)≤Z (c*4)-p*O) && decide (Z (c*4+1)-p*O≤Z (c*4+3))):=by
 unfold Jj cj;rw[Int.toNat_natCast,if_pos wO,if_pos wO,if_pos wO,if_neg wO,show 2*c / 2=c by omega,show (2*c+1) / 2=c by omega,Bool.and_comm];have e1:p≤(Z (c*4)-Z (c*4+2)) / O↔p*O≤Z (c*4)-Z (c*4+2):=Int.le_ediv_iff_mul_le wO;have e2:-p≤(Z (c*4+3)-Z (c*4+1)) / O↔-p*O≤Z (c*4+3)-Z (c*4+1):=Int.le_ediv_iff_mul_le wO;rw[Int.neg_mul] at e2;generalize (Z (c*4)-Z (c*4+2)) / O=A at *;generalize (Z (c*4+3)-Z (c*4+1)) / O=D at *;generalize p*O=Q at *;congr 1
 · rw[decide_eq_decide];omega
 · rw[decide_eq_decide];omega
theorem US (hd:1≤O∧O≤100) (hl:U≤10) (hv:mY U Z) (c p:Nat) (hc:c<U) (hp:p<U):cd (n+2) (.fn 78) [bk O U Z V J,.int .i64 (c:Int),.int .i64 (p:Int)] H=some (.bool (Jj (cj O U Z) (c:Int) (p:Int)),H):=by
 obtain ⟨v1,v2,v3,v4,v5,v6⟩:=He hv hc;have hm0:0≤(p:Int)*O:=Int.mul_nonneg wO wO;have hm1:(p:Int)*O≤10*100:=Int.mul_le_mul wO wO wO wO;have em:wM .i64 (p:Int) O=(p:Int)*O:=by rw[mO];exact fW wO wO
 have ei:aq 0 (c:Int) 4=c*4:=by rw[bP];omega
 have T:=Xt n O U Z V J H (c:Int) (p:Int);rw[ei,aC,aC,aC,em,od wO wO,od wO wO] at T;refine bB (n:=n+1) Tryd.func78 rfl rfl rfl T (gI n 1) (aj _ _) (ai _ _) ?_;rw[O5 O U Z hd.1 hc ⟨by omega,by omega⟩];refine Tr.aa wG (Tr.aa wG (Tr.aa wG (Tr.aa wG (Tr.aa wG (Tr.aa wG (Tr.aa wG (Tr.aa wG (Tr.aa wG (Tr.aa wG (Tr.ae (fun q=>Tr.ag ⟨?_,rfl⟩) (fun q=>Tr.ag ⟨?_,rfl⟩)))))))))));all_goals rw[a7] at q
 · rw[q,a7,Bool.true_and]
 · rw[q,Bool.false_and]
end
end Go.Eng
end
section
namespace Go.Eng
open Go.Proofs Go.Eng.Gall
end Go.Eng
end
section
namespace Go.Eng
open Go.Proofs Go.Eng.Gall
section
variable (n:Nat) (O:Int) (U:Nat) (Z:Nat→Int) (V:Nat) (J:Nat→Int) (H:ab)
variable (m:Nat) (z:Nat→Int) (W B:Nat→Int)
end
end Go.Eng
end
section
namespace Go.Eng
open Go.Proofs Go.Eng.Gall
end Go.Eng
end
section
namespace Go.Eng
open Go.Proofs Go.Eng.Gall
end Go.Eng
end
section
namespace Go.Eng
open Go.Proofs Go.Eng.Gall
section
variable (O:Int) (U:Nat) (Z:Nat→Int) (V:Nat) (J:Nat→Int)
end
end Go.Eng
end
section
namespace Go.Eng
open Go.Proofs Go.Eng.Gall
section
variable (O:Int) (U:Nat) (Z:Nat→Int) (V:Nat) (J:Nat→Int)
variable (n:Nat) (H:ab) (m:Nat) (z:Nat→Int) (w:Int)
end
end Go.Eng
end
