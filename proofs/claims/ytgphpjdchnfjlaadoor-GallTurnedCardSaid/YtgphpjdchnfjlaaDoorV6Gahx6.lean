/- Gall: bounds, the program's, whole. -/
import Derived.Test.YtgphpjdchnfjlaaDoorV6Gacx5
import Derived.Test.YtgphpjdchnfjlaaDoorV6EngRnFx7
set_option linter.unusedVariables false
set_option linter.unusedSimpArgs false
set_option maxRecDepth 100000
section
namespace Go.Eng
open Int (ofNat)
open Go.Proofs Go.Eng.Gall
section
variable (n:Nat) (O:Int) (U:Nat) (Z:Nat→Int) (V:Nat) (J:Nat→Int) (W:Nat→Int) (b:Nat→Nat) (H:aa)
theorem Ta (hS:gy U W b) (q r:Nat→Int) (t':Nat) (hr:Bd U b W t' r) (t:Int):exec (bN (n+1) 56 69) (.block 2 (.loop (part Tryd.f56 [1,1,0,1,0,0,1,1,0,0,1,0,1,0,0]))) (yF (shV O U Z V J W (bI b)) U t (bI b) (ofNat 0)) (fD [df r,df q]::H) =
 some (.normal,yF (shV O U Z V J W (bI b)) U t (bI b) (ofNat 10)++[(26,.bool false)],fD [df (oL r (mg b 10)),df q]::H):=by
 refine fQ (n:=n+1) (f:=56) (nt:=69) (c:=part Tryd.f56 [1,1,0,1,0,0,1,1,0,0,1,0,1,0,0]) 2 (fun c=>yF (shV O U Z V J W (bI b)) U t (bI b) (c:Int)) (fun c=>fD [df (oL r (mg b c)),df q]::H) 10 (_,_) wO (fun c hc=>?_) ?_
 · have hs:Bd U b W t' (oL r (mg b c)):=(rQ hS.nob _ hr (fun p hp=>by
    obtain ⟨a,d⟩:=p;have:=(DX b c (fun d _=>hS.lt d) a d).1 hp;obtain ⟨h1,h2⟩:=hS.bit this.2;exact ⟨h2,h1,this.2⟩)).1
   have ec:bm .i64 (c:Int) (ofNat 1)=((c+1:Nat):Int):=eg wO
   have T:=Ul (n+1) O U Z V J W (bI b) H (oL r (mg b c)) q (oL r (mg b (c+1))) t (c:Int) 0
   rw[ec,BQ] at T
   have hx:=Tc n O U Z V J W b H hS q (oL r (mg b c)) t' hs t c hc
   rw[← D3] at hx
   refine aw T (aA _) (az (ai _ _) O9 (fun x h=>by rw[← Tr.ae h];simp only[db.st,aq];exact hx)) (aj _ _) ?_
   refine Tr.af (fun h0=>?_) wJ
   exact Tr.ab wG (Tr.ab wG (Tr.al ⟨rfl,rfl⟩ (Tr.ag ⟨rfl,rfl⟩)))
 · obtain ⟨x,h1,rfl⟩:=aw (Q:=fun x=>x=(.exit 2,yF (shV O U Z V J W (bI b)) U t (bI b) (ofNat 10)++[(26,.bool false)],fD [df (oL r (mg b 10)),df q]::H)) (QZ (n+1) O U Z V J W (bI b) H (oL r (mg b 10)) q t) (aA _) (c8 (ai _ _) 4) (aj _ _) (by
    refine Tr.af wJ (fun h0=>Tr.ag rfl))
   exact h1
theorem MM (hS:gy U W b) {t:Nat} {r:Nat→Int} (hr:Bd U b W t r):∀ j,20≤j→r j=0:=fun j hj=>by
 rw[hr.out j (by have:=hS.len;omega)];exact hS.zer j hj
theorem N5 (hS:gy U W b) (t:Nat) (ht:t<U):∃ x,exec (bN (n+1) 56 69) (part Tryd.f56 [1,1,0,1,0,0]) (nD (shV O U Z V J W (bI b)) U (t:Int)) (fD [df (iM (mg b 10) W t)]::H)=some x ∧
 if ml (iM (mg b 10) W (t+1)) (iM (mg b 10) W t) 20=true then x=(.exit 0,nD (shV O U Z V J W (bI b)) U (t:Int)++[(66,.bool true)],fD [df (iM (mg b 10) W (t+1)),df (iM (mg b 10) W t)]::H)
 else x.1=.normal∧tidy 2 x.2.1 x.2.2=(nD (shV O U Z V J W (bI b)) U ((t+1:Nat):Int),fD [df (iM (mg b 10) W (t+1))]::H):=by
 have hb:=pO (w:=W) hS.nob hS.all t
 have ec:bm .i64 (t:Int) (ofNat 1)=((t+1:Nat):Int):=eg (by have:=hS.len;omega)
 have T:=Uk (n+1) O U Z V J W (bI b) H (iM (mg b 10) W t) (iM (mg b 10) W (t+1)) (t:Int)
 rw[ec,sN (MM U W b hS hb)] at T
 refine aw T (aA _) (az (ai _ _) O8 (fun x h=>by rw[← Tr.ae h];simp only[db.st,aq];exact Ta n O U Z V J W b H hS (iM (mg b 10) W t) (iM (mg b 10) W t) t hb (t:Int))) (aj _ _) ?_
 refine Tr.af (fun h0=>?_) wJ
 refine Tr.ab wG (Tr.al ⟨rfl,rfl⟩ (Tr.af (fun q=>Tr.ag ?_) (fun q=>Tr.ag ?_)))
 · rw[if_pos q];rfl
 · rw[if_neg (by rw[q];decide)];exact ⟨rfl,rfl⟩
theorem Wd (hS:gy U W b):cd (n+2) (.fn 56) [shV O U Z V J W (bI b)] H=some (.agg (.M [.arr .i64 (jL U b W) 20]),H):=by
 have hl:=hS.len;have hz:∀ j,20≤j→jL U b W j=0:=fun j hj=>by unfold jL;rw[if_neg wO];exact hS.zer j hj
 rcases sX (fun t=>t<U∧ml (iM (mg b 10) W (t+1)) (iM (mg b 10) W t) 20=true) U with h | ⟨T,h1,⟨_,h2⟩,h3⟩
 · have hx:exec (bN (n+1) 56 69) (.block 0 (.loop (part Tryd.f56 [1,1,0,1,0,0]))) (nD (shV O U Z V J W (bI b)) U (ofNat 0)) (fD [df W]::H)=some (.normal,nD (shV O U Z V J W (bI b)) U (ofNat U)++[(19,.bool false)],fD [df (iM (mg b 10) W U)]::H):=by
    refine fQ (n:=n+1) (f:=56) (nt:=69) (c:=part Tryd.f56 [1,1,0,1,0,0]) 0 (fun t=>nD (shV O U Z V J W (bI b)) U (t:Int)) (fun t=>fD [df (iM (mg b 10) W t)]::H) U (_,_) wO (fun t ht=>?_) ?_
    · obtain ⟨x,x1,x2⟩:=N5 n O U Z V J W b H hS t ht;rw[if_neg (fun q=>h t ht ⟨ht,q⟩)] at x2;exact ⟨x,x1,x2⟩
    · obtain ⟨x,h1,rfl⟩:=aw (Q:=fun x=>x=(.exit 0,nD (shV O U Z V J W (bI b)) U (ofNat U)++[(19,.bool false)],fD [df (iM (mg b 10) W U)]::H)) (QY (n+1) O U Z V J W (bI b) H (iM (mg b 10) W U) (ofNat U)) (aA _) (c8 (ai _ _) 2) (aj _ _) (by
       refine Tr.af wJ (fun h0=>Tr.ag rfl))
      exact h1
   have he:=FX (Nat.le_refl U) (pO (w:=W) hS.nob hS.all U);rw[he] at hx;have YY:=UA (n+1) O U Z V J W (bI b) H (jL U b W);rw[sN hS.zer,sN hz] at YY;refine bF (n:=n+1) Tryd.func56 rfl rfl rfl YY (aA _) (az (ai _ _) KX (fun x h=>by rw[← Tr.ae h];simp only[db.st,aq];exact hx)) (aj _ _) ?_;exact Tr.ab wG (Tr.al ⟨rfl,rfl⟩ (Tr.ab wG (Tr.ag ⟨rfl,rfl⟩)))
 · have hbT:=pO (w:=W) hS.nob hS.all T;have hbT1:=pO (w:=W) hS.nob hS.all (T+1);have heq:iM (mg b 10) W (T+1)=iM (mg b 10) W T:=by
    funext j;by_cases hj:j<20
    · exact vN h2 j hj
    · rw[MM U W b hS hbT1 j wO,MM U W b hS hbT j wO]
   have he:iM (mg b 10) W (T+1)=jL U b W:=by
    rw[heq];exact IZ hS.nob hS.all hbT heq
   have hx:exec (bN (n+1) 56 69) (.block 0 (.loop (part Tryd.f56 [1,1,0,1,0,0]))) (nD (shV O U Z V J W (bI b)) U (ofNat 0)) (fD [df W]::H)=some (.normal,nD (shV O U Z V J W (bI b)) U (T:Int)++[(66,.bool true)],fD [df (iM (mg b 10) W (T+1)),df (iM (mg b 10) W T)]::H):=by
    refine fQ (n:=n+1) (f:=56) (nt:=69) (c:=part Tryd.f56 [1,1,0,1,0,0]) 0 (fun t=>nD (shV O U Z V J W (bI b)) U (t:Int)) (fun t=>fD [df (iM (mg b 10) W t)]::H) T (_,_) wO (fun t ht=>?_) ?_
    · obtain ⟨x,x1,x2⟩:=N5 n O U Z V J W b H hS t wO;rw[if_neg (fun q=>h3 t ht ⟨by omega,q⟩)] at x2;exact ⟨x,x1,x2⟩
    · obtain ⟨x,x1,x2⟩:=N5 n O U Z V J W b H hS T h1;rw[if_pos h2] at x2;subst x2;exact x1
   rw[he] at hx;have YY:=UB (n+1) O U Z V J W (bI b) H (jL U b W) (iM (mg b 10) W T) (T:Int);rw[sN hS.zer,sN hz] at YY;refine bF (n:=n+1) Tryd.func56 rfl rfl rfl YY (aA _) (az (ai _ _) KX (fun x h=>by rw[← Tr.ae h];simp only[db.st,aq];exact hx)) (aj _ _) ?_;exact Tr.ab wG (Tr.al ⟨rfl,rfl⟩ (Tr.ab wG (Tr.ag ⟨rfl,rfl⟩)))
end
end Go.Eng
end
section
namespace Go.Eng
open Go.Proofs Go.Eng.Gall
end Go.Eng
end
section
namespace Go.Eng
open Go.Proofs Go.Eng.Gall
theorem CX {a b:Int} (hb:1≤b) {K:Int} (h1:-K≤a) (h2:a≤K) (hK:0≤K):-K-b≤a / b∧a / b≤K:=by
 have h7:=Int.mul_ediv_add_emod a b;have h3:=Int.emod_nonneg a (show b≠0 by omega);have h4:=Int.emod_lt_of_pos a (show 0<b by omega);constructor
 · apply Classical.byContradiction;intro hc;have h8:b*(a / b)≤1*(a / b):=Int.mul_le_mul_of_nonpos_right hb wO;omega
 · exact Int.le_trans (Int.ediv_le_ediv wO h2) (Int.ediv_le_self b hK)
section
variable (n:Nat) (O:Int) (U:Nat) (Z:Nat→Int) (V:Nat) (J:Nat→Int) (H:aa)
end
end Go.Eng
end
section
namespace Go.Eng
open Go.Proofs Go.Eng.Gall
section
variable (O:Int) (U:Nat) (Z:Nat→Int) (V:Nat) (J:Nat→Int)
theorem H9 (hl:U≤10) (hd:1≤O∧O≤100) (hv:wU U Z) (hp:fW U V J) (hk:mf U (fun c=>fA J c V)=false):gy U (dg O U Z) (fun c=>fA J c V):=by
 refine ⟨hl,fun j=>?_,fun j hj=>?_,fun c hc=>qf J c U V (fun i hi=>(hp i hi).1),fun c hc=>?_,hk⟩
 · unfold dg;by_cases h:j<2*U
   · rw[if_pos h];obtain ⟨v1,v2,v3,v4,v5,v6⟩:=OL hv (show j / 2<U by omega);have q1:=CX (a:=Z (j / 2*4+3)-Z (j / 2*4+1)) hd.1 (K:=1000) wO wO (by decide);have q2:=CX (a:=Z (j / 2*4)-Z (j / 2*4+2)) hd.1 (K:=1000) wO wO (by decide);split<;>omega
   · rw[if_neg h];omega
 · unfold dg;rw[if_neg wO]
 · cases e:fA J c V with
   | zero=>rfl
   | succ m =>
     exfalso;have:∃ a,(fA J c V).testBit a=true:=by
      apply Classical.byContradiction;intro hn;have:fA J c V=0:=by
       apply Nat.eq_of_testBit_eq;intro i;rw[Nat.zero_testBit];cases e:(fA J c V).testBit i with
       | false=>rfl
       | true=>exact absurd ⟨i,e⟩ hn
      omega
     obtain ⟨a,ha⟩:=this;obtain ⟨i,hi,h4,h5⟩:=(m9 J c a V (fun i hi=>(hp i hi).1.1)).1 ha;have:=hp i hi;omega
variable (n:Nat) (H:aa)
end
end Go.Eng
end
section
namespace Go.Eng
open Int (ofNat)
open Go.Proofs
noncomputable def iR (n f nt d i:Nat):Cx:=⟨Tryd.prog,cd n,100000,f,nt,KtG.kt f,some (d,i)⟩
noncomputable def BG (k:Nat) (P:Nat→Int) (j:Int):aD:=[(0,.yld 1 1),(5,aF k P false),(6,.int .i64 (ofNat k)),(7,.int .i64 j)]
noncomputable def oS (s:Nat) (A:AV):AV:=.fn (.func 96) [] [.ptrT (some s) (.G [A]) 0]
noncomputable def nN (s:Nat) (A:AV):aD:=[(2,.ptr 0 0 0 0),(6,oS (s+1) A)]
noncomputable def Ny (b:Nat×ak):bB:=⟨false,[(0,.row (.G [.nils])),b]⟩
noncomputable def G1 (v k:Nat) (a:Nat→Int) (b:Nat×ak):bB:=⟨false,[(0,.row (.G [.slc 0 2 v 0 1 k none])),b,(v,.row (.M [.arr .i64 a k]))]⟩
theorem t96 (n k:Nat) (P:Nat→Int) (G G':aa) (j x:Int):aJ (bN n 96 16) (QF (il aK n 0) 1 1 [.int .i64 x] (ay::G) (.ok (.bool true,ay::G'))) aS aR (part Tryd.f96 [1,0,0]) (hints (BG k P j)) (ay::G) =
 Tr.ite (bE j (ofNat k)) (Tr.req (cQ j k) (Tr.req (cK (au 0 j 1) k) (Tr.reqP ([AV.int .i64 (P (au 0 j 1))]=[AV.int .i64 x]∧ay::G=ay::G) (Tr.ite (aQ true) (Tr.ok (Ex.ret,[(0,AV.yld 1 1,none),(5,aF k P false,none),(6,iI k,none),(7,AV.int .i64 j,none),(14,AV.bool true,some 1)],ay::G')) (Tr.ok (Ex.normal,[(0,AV.yld 1 1,none),(5,aF k P false,none),(6,iI k,none),(7,AV.int .i64 (bm .i64 j (ofNat 1)),none)],ay::G')))))) (Tr.ok (Ex.exit 0,[(0,AV.yld 1 1,none),(5,aF k P false,none),(6,iI k,none),(7,AV.int .i64 j,none),(8,AV.bool false,some 1)],ay::G)):=by kernel_rfl
theorem Uo (n k:Nat) (P:Nat→Int) (G:aa) (j:Int):aJ (bN n 96 16) (il aK n 0) aS aR (part Tryd.f96 [1,0,0]) (hints (BG k P j)) (ay::G) =
 Tr.ite (bE j (ofNat k)) (Tr.req (cQ j k) (Tr.req (cK (au 0 j 1) k) Tr.bad)) (Tr.ok (Ex.exit 0,[(0,AV.yld 1 1,none),(5,aF k P false,none),(6,iI k,none),(7,AV.int .i64 j,none),(8,AV.bool false,some 1)],ay::G)):=by kernel_rfl
theorem YR (n s k:Nat) (P:Nat→Int) (G G':aa):bo Tryd.prog (cd n) 100000 96 Tryd.f96 (KtG.kt 96) (il aK n 0) (bP aS 0 (BG k P (ofNat 0)) (ay::G) (.ok (.normal,hints (BG k P (ofNat k)++[(8,.bool false)]),ay::G'))) aR [(.yld 0 1,none),(.ptrT (some s) (.G [aF k P false]) 0,none)] G =
 Tr.reqP ([(0,AV.yld 1 1),(5,aF k P false),(6,iI k),(7,iI 0)]=[(0,AV.yld 1 1),(5,aF k P false),(6,iI k),(7,iI 0)]∧ay::G=ay::G) (Tr.ok ((AV.tup [],none),G')):=by kernel_rfl
theorem Lx (n s k:Nat) (P:Nat→Int) (bs:List (Nat×ak)) (H:aa) (x:Int):aJ (iR n 100 13 2 1) (il aK n 0) aS aR (part Tryd.f100 [1,0,1,0,0]) (hints [(2,.ptr 2 0 0 0),(6,oS (s+3) (aF k P false)),(7,.int .i64 x)]) (ay::ay::⟨false,bs⟩::H) =
 Tr.ok (Ex.normal,[(2,AV.ptr 2 0 0 0,none),(5,AV.int .i64 x,none)],ay::ay::(bh bs)::H):=by kernel_rfl
theorem QL (n:Nat) (L:iO) (H:aa) (x:Int):aJ (iR n 100 13 2 1) (il aK n 0) aS aR (part Tryd.f100 [1,0,1,0,1]) (hints [(2,.ptr 2 0 0 0),(5,.int .i64 x)]) (ay::ay::Ny (0,.loop L)::H) =
 Tr.req (eT 0 1 8) (Tr.req (cg 0 0) (Tr.req (eU 1 1) (Tr.ok (Ex.normal,[],(bh [(0,ak.row (Row.I .i64 [x])),(0,ak.dead)])::ay::(bh [(0,ak.row (Row.G [AV.slc 0 2 0 0 1 1 none])),(0,ak.loop L),(0,ak.row (rM (aC [x]) 1))])::H)))):=by kernel_rfl
theorem QM (n v k:Nat) (b:Nat→Int) (L:iO) (H:aa) (x:Int):aJ (iR n 100 13 2 1) (il aK n 0) aS aR (part Tryd.f100 [1,0,1,0,1]) (hints [(2,.ptr 2 0 0 0),(5,.int .i64 x)]) (ay::ay::G1 v k b (0,.loop L)::H) =
 Tr.req (eT k 1 8) (Tr.req (cg 0 0) (Tr.req (eU 1 1) (Tr.req (cg v v) (Tr.req (cg (ar 0 k) k) (Tr.ok (Ex.normal,[],(bh [(0,ak.row (Row.I .i64 [x]))])::ay::(bh [(0,ak.row (Row.G [AV.slc 0 2 (Nat.succ v) 0 1 (ar k 1) none])),(0,ak.loop L),(Nat.succ v,ak.row (rM (mb (jI b 0) k (aC [x])) (ar k 1)))])::H)))))):=by kernel_rfl
theorem UR (n s v k m:Nat) (P b:Nat→Int) (H:aa):aJ (bN n 100 13) (il aK n 0) aS (HO aR (fun _=>true) (nN s (aF k P false)) (⟨false,[(0,.row (.G [.nils]))]⟩::H) (.ok (.normal,hints (nN s (aF k P false)),G1 v m b (0,.dead)::H))) (aZ Tryd.f100) (hints [(0,.nils),(1,oS (s+1) (aF k P false))]) (ay::H) =
 (fun (Z0:aD)=>Tr.reqP (Z0=Z0∧(bh [(0,ak.row (Row.G [AV.nils]))])::H=(bh [(0,ak.row (Row.G [AV.nils]))])::H) (Tr.ok (Ex.ret,[(4,AV.slc 0 2 v 0 1 m none,none)],(bh [(0,ak.row (Row.G [AV.slc 0 2 v 0 1 m none])),(0,ak.dead),(v,ak.row (rM b m))])::H))) [(2,AV.ptr 0 0 0 0),(6,AV.fn (Fn.func 96) [] [AV.ptrT (some (Nat.succ s)) (Row.G [aF k P false]) 0])]:=by kernel_rfl
theorem Rr (n s k:Nat) (P:Nat→Int) (H:aa):bo Tryd.prog (cd n) 100000 100 Tryd.f100 (KtG.kt 100) (il aK n 0) aS (HO aR (fun _=>true) (nN s (aF k P false)) (⟨false,[(0,.row (.G [.nils]))]⟩::H) (.ok (.normal,hints (nN s (aF k P false)),Ny (0,.dead)::H))) [(.nils,none),(oS s (aF k P false),none)] H =
 (fun (Z0:aD)=>Tr.reqP (Z0=Z0∧(bh [(0,ak.row (Row.G [AV.nils]))])::H=(bh [(0,ak.row (Row.G [AV.nils]))])::H) (Tr.ok ((AV.nils,none),H))) [(2,AV.ptr 0 0 0 0),(6,AV.fn (Fn.func 96) [] [AV.ptrT (some (Nat.succ s)) (Row.G [aF k P false]) 0])]:=by kernel_rfl
theorem Rx (n s k:Nat) (P:Nat→Int) (H:aa):aJ (bN n 100 13) (il aK n 0) aS (HO aR (fun _=>true) (nN s (aF k P false)) (⟨false,[(0,.row (.G [.nils]))]⟩::H) (.ok (.normal,hints (nN s (aF k P false)),Ny (0,.dead)::H))) (aZ Tryd.f100) (hints [(0,.nils),(1,oS (s+1) (aF k P false))]) (ay::H) =
 (fun (Z0:aD)=>Tr.reqP (Z0=Z0∧(bh [(0,ak.row (Row.G [AV.nils]))])::H=(bh [(0,ak.row (Row.G [AV.nils]))])::H) (Tr.ok (Ex.ret,[(4,AV.nils,none)],(bh [(0,ak.row (Row.G [AV.nils])),(0,ak.dead)])::H))) [(2,AV.ptr 0 0 0 0),(6,AV.fn (Fn.func 96) [] [AV.ptrT (some (Nat.succ s)) (Row.G [aF k P false]) 0])]:=by kernel_rfl
theorem YU (n s k m:Nat) (P b:Nat→Int) (H:aa):aJ (bN n 94 5) (il (rS aK 100 [.nils,oS (s+1) (aF k P false)] (ay::H) (.ok (.slc 0 0 0 0 1 m none,gv 0 m b::H))) n 0) aS aR (aZ Tryd.f94) (hints [(0,oS (s+1) (aF k P false))]) (ay::H) =
 (fun (Z0:List AV)=>Tr.reqP (Z0=Z0∧ay::H=ay::H) (Tr.ok (Ex.ret,[(2,AV.slc 0 0 0 0 1 m none,none)],(bh [(0,ak.row (rM b m))])::H))) [AV.nils,AV.fn (Fn.func 96) [] [AV.ptrT (some (Nat.succ s)) (Row.G [aF k P false]) 0]]:=by kernel_rfl
theorem UN (n s k:Nat) (P:Nat→Int) (H:aa):bo Tryd.prog (cd n) 100000 94 Tryd.f94 (KtG.kt 94) (il (rS aK 100 [.nils,oS (s+1) (aF k P false)] (ay::H) (.ok (.nils,ay::H))) n 0) aS aR [(oS s (aF k P false),none)] H =
 (fun (Z0:List AV)=>Tr.reqP (Z0=Z0∧ay::H=ay::H) (Tr.ok ((AV.nils,none),H))) [AV.nils,AV.fn (Fn.func 96) [] [AV.ptrT (some (Nat.succ s)) (Row.G [aF k P false]) 0]]:=by kernel_rfl
theorem US (n s k:Nat) (P:Nat→Int) (H:aa):aJ (bN n 94 5) (il (rS aK 100 [.nils,oS (s+1) (aF k P false)] (ay::H) (.ok (.nils,ay::H))) n 0) aS aR (aZ Tryd.f94) (hints [(0,oS (s+1) (aF k P false))]) (ay::H) =
 (fun (Z0:List AV)=>Tr.reqP (Z0=Z0∧ay::H=ay::H) (Tr.ok (Ex.ret,[(2,AV.nils,none)],ay::H))) [AV.nils,AV.fn (Fn.func 96) [] [AV.ptrT (some (Nat.succ s)) (Row.G [aF k P false]) 0]]:=by kernel_rfl
theorem YJ (n s k:Nat) (P b c:Nat→Int) (H:aa):bo Tryd.prog (cd n) 100000 75 Tryd.f75 (KtG.kt 75) (il (rS (rS aK 94 [oS (s+1) (aF k P false)] (ay::H) (.ok (.slc 0 0 0 0 1 k none,gv 0 k b::H))) 95 [.slc 0 0 0 0 1 k none] (gv 0 k b::H) (.ok (.tup [],gv 0 k c::H))) n 0) aS aR [(oS s (aF k P false),none)] H =
 Tr.reqP ([AV.fn (Fn.func 96) [] [AV.ptrT (some (Nat.succ s)) (Row.G [aF k P false]) 0]]=[AV.fn (Fn.func 96) [] [AV.ptrT (some (Nat.succ s)) (Row.G [aF k P false]) 0]]∧ay::H=ay::H) (Tr.reqP ([AV.slc 0 0 0 0 1 k none]=[AV.slc 0 0 0 0 1 k none]∧(bh [(0,ak.row (rM b k))])::H=(bh [(0,ak.row (rM b k))])::H) (Tr.req (cg 0 0) (Tr.req (dN 0 k 0 k) (Tr.ok ((aF k (jI c 0) false,none),H))))):=by kernel_rfl
theorem UJ (n s k:Nat) (P:Nat→Int) (H:aa):bo Tryd.prog (cd n) 100000 75 Tryd.f75 (KtG.kt 75) (il (rS (rS aK 94 [oS (s+1) (aF k P false)] (ay::H) (.ok (.nils,ay::H))) 95 [.nils] (ay::H) (.ok (.tup [],ay::H))) n 0) aS aR [(oS s (aF k P false),none)] H =
 Tr.reqP ([AV.fn (Fn.func 96) [] [AV.ptrT (some (Nat.succ s)) (Row.G [aF k P false]) 0]]=[AV.fn (Fn.func 96) [] [AV.ptrT (some (Nat.succ s)) (Row.G [aF k P false]) 0]]∧ay::H=ay::H) (Tr.reqP ([AV.nils]=[AV.nils]∧ay::H=ay::H) (Tr.ok ((AV.nils,none),H))):=by kernel_rfl
theorem YK (n k:Nat) (P:Nat→Int) (H:aa):bo Tryd.prog (cd n) 100000 76 Tryd.f76 (KtG.kt 76) (il aK n 0) aS aR [(aF k P false,none)] H =
 Tr.ok ((AV.fn (Fn.func 96) [] [AV.ptrT (some 0) (Row.G [aF k P false]) 0],none),H):=by kernel_rfl
theorem UO (n:Nat) (H:aa):bo Tryd.prog (cd (n+9)) 100000 95 Tryd.f95 (KtG.kt 95) (il aK n 9) aS aR [(.nils,none)] H =
 Tr.ok ((AV.tup [],none),H):=by kernel_rfl
theorem V8:∀ b,(0,b) ∈ aP (aZ Tryd.f96)→b=.loop (part Tryd.f96 [1,0,0]):=eA (by kernel_rfl)
section
variable (n s k:Nat) (P:Nat→Int)
theorem Wv (St:Nat→aa) (hk:k≤1000) (hr:∀ j,j<k→cd n (.round 1 1) [.int .i64 (P j)] (ay::St j)=some (.bool true,ay::St (j+1))) :
 cd (n+1) (.fn 96) [.yld 0 1,.ptrT (some s) (.G [aF k P false]) 0] (St 0)=some (.tup [],St k):=by
 have hx:=fQ (n:=n) (f:=96) (nt:=16) (c:=part Tryd.f96 [1,0,0]) 0 (fun j=>BG k P (j:Int)) (fun j=>ay::St j) k (BG k P (ofNat k)++[(8,.bool false)],ay::St k) wO (fun j hj=>?_) ?_
 · refine bF (n:=n) Tryd.func96 rfl rfl rfl (YR n s k P (St 0) (St k)) (aA _) (az (ai _ _) V8 (fun x h=>by rw[← Tr.ae h];simp only[db.st,aq];exact hx)) (aj _ _) ?_
   exact Tr.al ⟨rfl,rfl⟩ (Tr.ag ⟨rfl,rfl⟩)
 · refine aw (t96 n k P (St j) (St (j+1)) (j:Int) (P j)) (uw (aA n) (fun x hy=>by rw[← Tr.ae hy];exact hr j hj)) (ai _ _) (aj _ _) ?_
   rw[BQ,eg wO]
   generalize St (j+1)=G' at *
   generalize St j=G at *
   exact wF
 · obtain ⟨x,h1,rfl⟩:=aw (Q:=fun x=>x=(.exit 0,BG k P (ofNat k)++[(8,.bool false)],ay::St k)) (Uo n k P (St k) (ofNat k)) (aA n) (ai _ _) (aj _ _) (by
    refine Tr.af (fun hc=>?_) (fun hc=>Tr.ag rfl);simp (disch:=omega) only[nV,nW] at hc;omega)
   exact h1
end
theorem pP {n d i:Nat} {args:List AV} {H H2 R:aa} {l l2:iO} {fr fr1 fr2:aD} {lv:bB}
 (hg:aB H d i=(0,.loop l)) (hl:aM H d=false) (hs:l.state=.ready) (hp:jZ l.nt (kX (d+1) l.fr) l.params (args.map (m6 1))=some fr)
 (h1:exec (iR n l.fn l.nt (d+1) i) l.assign fr (ay::H)=some (.normal,fr1,ay::H))
 (h2:exec (iR n l.fn l.nt (d+1) i) l.body fr1 (dD (ay::H) (d+1) i (0,.loop { l with state:=.busy }))=some (.normal,fr2,lv::H2)) (hg2:aB H2 d i=(0,.loop l2)) (hR:R=dD H2 d i (0,.loop { l2 with state:=.ready,pending:=none })) :
 cd (n+1) (.round d i) args H=some (.bool true,R):=by
 rw[hR]
 exact zZ (P:=Tryd.prog) (ora:=iy) (KT:=KtG.kt) (fu:=100000) (e:=.normal) hg hl hs hp h1 (by rw[show aB (ay::H) (d+1) i=aB H d i from rfl];exact hg) hs h2 hg2
theorem iE {n f nt d i:Nat} {c:Code} {callR:bw} {bl:eV} {rg:nZ} {fr:aD} {H:aa} {T:Tr db} (e:aJ (iR n f nt d i) callR bl rg c (hints fr) H=T) (hC:callR.Ok (cd n)) (hB:bl.Ok (iR n f nt d i) c) (hR:rg.Ok (iR n f nt d i) c) {y:Ex×aD×aa} (h:T.all fun x=>x.st=y):exec (iR n f nt d i) c fr H=some y:=by
 obtain ⟨x,h1,rfl⟩:=h;have:=ga (cx:=iR n f nt d i) hC c hB hR (hints fr) H x (by rw[e];exact h1);rw[aq] at this;exact this
theorem mB {n f nt d i:Nat} {c:Code} {callR:bw} {bl:eV} {rg:nZ} {fr:aD} {H:aa} {T:Tr db} {Q:Ex×aD×aa→Prop} (e:aJ (iR n f nt d i) callR bl rg c (hints fr) H=T) (hC:callR.Ok (cd n)) (hB:bl.Ok (iR n f nt d i) c) (hR:rg.Ok (iR n f nt d i) c) (h:T.all fun x=>Q x.st):∃ y,exec (iR n f nt d i) c fr H=some y∧Q y:=by
 obtain ⟨x,h1,h2⟩:=h;have:=ga (cx:=iR n f nt d i) hC c hB hR (hints fr) H x (by rw[e];exact h1);rw[aq] at this;exact ⟨_,this,h2⟩
noncomputable def qC:Code:=part Tryd.f100 [1,0,1,0,0]
noncomputable def xy:Code:=part Tryd.f100 [1,0,1,0,1]
theorem T8:dO (aZ Tryd.f100)=[(.tmp 6,#[7],qC,xy)]:=by kernel_rfl
noncomputable def dY (s:Nat) (A:AV):iO:={ state:=.ready,pending:=none,fn:=100,nt:=13,fr:=nN s A,params:=[7],assign:=qC,body:=xy }
noncomputable def Qj (b:Nat×ak):List Int→bB
 | []=>Ny b
 | a::r=>G1 r.length (r.length+1) (aC (a::r)) b
theorem QB (n s k:Nat) (P:Nat→Int) (L:List Int) (H:aa) (x:Int) (hL:L.length≤1000) :
 cd (n+1) (.round 1 1) [.int .i64 x] (ay::Qj (0,.loop (dY s (aF k P false))) L::H)=some (.bool true,ay::Qj (0,.loop (dY s (aF k P false))) (L++[x])::H):=by
 cases L with
 | nil =>
   have h1:exec (iR n 100 13 2 1) qC [(2,.ptr 2 0 0 0),(6,oS (s+3) (aF k P false)),(7,.int .i64 x)] (ay::ay::Ny (0,.loop (dY s (aF k P false)))::H)=some (.normal,[(2,.ptr 2 0 0 0),(5,.int .i64 x)],ay::ay::Ny (0,.loop (dY s (aF k P false)))::H) :=
    iE (Lx n s k P _ H x) (aA n) (ai _ _) (aj _ _) (Tr.ag rfl)
   obtain ⟨y,h2,h3⟩:=mB (Q:=fun y=>y=(.normal,[],⟨false,[(0,.row (.I .i64 [x])),(0,.dead)]⟩::ay::G1 0 1 (aC [x]) (0,.loop { dY s (aF k P false) with state:=.busy })::H)) (QL n { dY s (aF k P false) with state:=.busy } H x) (aA n) (ai _ _) (aj _ _) (by
    generalize dY s (aF k P false)=L at *;exact wF)
   subst h3
   exact pP (l:=dY s (aF k P false)) (l2:={ dY s (aF k P false) with state:=.busy }) rfl rfl rfl rfl h1 h2 rfl rfl
 | cons a r =>
   simp only[List.length_cons] at hL
   have h1:exec (iR n 100 13 2 1) qC [(2,.ptr 2 0 0 0),(6,oS (s+3) (aF k P false)),(7,.int .i64 x)] (ay::ay::G1 r.length (r.length+1) (aC (a::r)) (0,.loop (dY s (aF k P false)))::H)=some (.normal,[(2,.ptr 2 0 0 0),(5,.int .i64 x)],ay::ay::G1 r.length (r.length+1) (aC (a::r)) (0,.loop (dY s (aF k P false)))::H) :=
    iE (Lx n s k P _ H x) (aA n) (ai _ _) (aj _ _) (Tr.ag rfl)
   have e1:=nm (a::r) x
   simp only[List.length_cons] at e1
   have e3:ar (r.length+1) 1=r.length+1+1:=by rw[aI]
   obtain ⟨y,h2,h3⟩:=mB (Q:=fun y=>y=(.normal,[],⟨false,[(0,.row (.I .i64 [x]))]⟩::ay::G1 (r.length+1) (r.length+1+1) (aC (a::r++[x])) (0,.loop { dY s (aF k P false) with state:=.busy })::H)) (QM n r.length (r.length+1) (aC (a::r)) { dY s (aF k P false) with state:=.busy } H x) (aA n) (ai _ _) (aj _ _) (by
    rw[e1,e3];generalize dY s (aF k P false)=L at *;generalize aC (a::r++[x])=Y at *;exact wF)
   subst h3
   have e4:(r++[x]).length=r.length+1:=by simp
   refine pP (l:=dY s (aF k P false)) (l2:={ dY s (aF k P false) with state:=.busy }) rfl rfl rfl rfl h1 h2 rfl ?_
   show ay::G1 (r++[x]).length ((r++[x]).length+1) (aC (a::(r++[x]))) _::H=_
   rw[e4];rfl
def kx (P:Nat→Int) (k:Nat):List Int:=(List.range k).map P
theorem Kq (P:Nat→Int) (k:Nat):kx P (k+1)=kx P k++[P k]:=by unfold kx;rw[List.range_succ,List.map_append];rfl
theorem jc (P:Nat→Int) (k:Nat):(kx P k).length=k:=by simp[kx]
theorem Hv {n f:Nat} {args:List AV} {H:aa} {x:AV×aa} (hf:f=94∨f=100) (h:nS Tryd.prog KtG.kt 100000 f (cd n) args H=some x):cd (n+1) (.fn f) args H=some x:=by
 refine oZ ?_;have e:iy (cd n) f args H=(match nS Tryd.prog KtG.kt 100000 f (cd n) args H with
  | some x=>some x
  | none=>uj [⟨15,[],.bool true⟩] (cd n) f args H):=by rcases hf with rfl | rfl<;>rfl
 rw[e,h]
theorem Hu {n f:Nat} {args:List AV} {H:aa} (hf:f=94∨f=100) (h:nS Tryd.prog KtG.kt 100000 f (cd n) args H=none):iy (cd n) f args H=none:=by
 have e:iy (cd n) f args H=(match nS Tryd.prog KtG.kt 100000 f (cd n) args H with
  | some x=>some x
  | none=>uj [⟨15,[],.bool true⟩] (cd n) f args H):=by rcases hf with rfl | rfl<;>rfl
 rw[e,h];rcases hf with rfl | rfl<;>exact Lo rfl rfl _ _ _
theorem GG {n f:Nat} {args:List AV} {l1:bB} {H:aa} {fn:Func} {c:Code} (h94:f=94∨f=100) (hf:Tryd.prog.funcs[f]?=some fn) (hb:fn.body=some c) (hle:Nat.ble args.length fn.ntmps=true) {e:Ex} {fr:aD} {l:bB} {j ver off sz len:Nat} {cap:Option Nat} {q:Row}
 (h:exec (bN n f fn.ntmps) c (ev 0 args) (⟨false,[]⟩::l1::H)=some (e,fr,l::l1::H)) (he:e=.normal∨e=.ret) (hv:gM Tryd.prog fr (l::l1::H) fn.results.toList=some [.slc 0 j ver off sz len cap]) (hq:c6 (l::l1::H) 0 j ver=some q) (h0:l.lock=false) (h1:l1.lock=false) :
 cd (n+1) (.fn f) args (l1::H)=some (.slc 0 l1.bs.length 0 off sz len cap,bC (l1::H) 0 (.row (jM 1 q))):=by
 refine Hv h94 ?_
 unfold nS
 rw[hf];dsimp only
 rw[hb];dsimp only
 rw[if_pos hle,eR]
 rw[show exec (⟨Tryd.prog,cd n,100000,f,fn.ntmps,KtG.kt f,none⟩:Cx) c (ev 0 args) (⟨false,[]⟩::l1::H)=_ from h]
 dsimp only
 rcases he with rfl | rfl<;>(simp only[hv,hq,h0,h1,Bool.or_self,Bool.false_eq_true,if_false])
theorem Db {n f:Nat} {args:List HV} {l1:bB} {H:aa} {fn:Func} {c:Code} (h94:f=94∨f=100) (hf:Tryd.prog.funcs[f]?=some fn) (hb:fn.body=some c) (hle:Nat.ble args.length fn.ntmps=true) {e:Ex} {fr:aD} {l:bB}
 (h:exec (bN n f fn.ntmps) c (ev 0 (kd args)) (⟨false,[]⟩::l1::H)=some (e,fr,l::l1::H)) (he:e=.normal∨e=.ret) (hv:gM Tryd.prog fr (l::l1::H) fn.results.toList=some [.nils])
 {callR:bw} {bl:eV} {rg:nZ} {T:Tr (HV×aa)} (et:bo Tryd.prog (cd n) 100000 f fn (KtG.kt f) callR bl rg args (l1::H)=T) (hC:callR.Ok (cd n)) (hB:bl.Ok (bN n f fn.ntmps) (aZ fn)) (hR:rg.Ok (bN n f fn.ntmps) (aZ fn)) (hT:T.all fun y=>y.1.1=.nils∧y.2=l1::H):cd (n+1) (.fn f) (kd args) (l1::H)=some (.nils,l1::H):=by
 have hl:(kd args).length=args.length:=by unfold kd;rw[jW];exact List.length_map ..
 have ho:nS Tryd.prog KtG.kt 100000 f (cd n) (kd args) (l1::H)=none:=by
  unfold nS;rw[hf];dsimp only;rw[hb];dsimp only;rw[if_pos (by rw[hl];exact hle),eR];rw[show exec (⟨Tryd.prog,cd n,100000,f,fn.ntmps,KtG.kt f,none⟩:Cx) c (ev 0 (kd args)) (⟨false,[]⟩::l1::H)=_ from h];dsimp only;rcases he with rfl | rfl<;>simp only[hv]
 obtain ⟨y,h1,h2,h3⟩:=hT
 have:=oY hf (by rw[hb];rfl) (Hu h94 ho) hle hC hB hR (show (bo Tryd.prog (cd n) 100000 f fn (KtG.kt f) callR bl rg args (l1::H)).run=some y by rw[et];exact h1)
 rw[h2,h3] at this
 exact this
section
variable (n s k:Nat) (P:Nat→Int) (H:aa)
theorem OO (hk:k≤1000):exec (bN (n+2) 100 13) (.rangeFunc (.tmp 6) #[7] qC xy) (nN s (aF k P false)) (⟨false,[(0,.row (.G [.nils]))]⟩::H)=some (.normal,nN s (aF k P false),dS (Qj (0,.loop (dY s (aF k P false))) (kx P k)::H) 0 1) :=
 pL (cx:=bN (n+2) 100 13) (l:=dY s (aF k P false)) (f:=.tmp 6) (ps:=#[7]) (fr:=nN s (aF k P false)) (H:=⟨false,[(0,.row (.G [.nils]))]⟩::H) (g:=96) (a:=[]) (b:=[.ptrT (some (s+1)) (.G [aF k P false]) 0]) rfl rfl rfl
  (Wv (n+1) (s+1) k P (fun j=>Qj (0,.loop (dY s (aF k P false))) (kx P j)::H) hk (fun j hj=>by
    show _=some (_,ay::Qj _ (kx P (j+1))::H);rw[Kq];exact QB n s k P (kx P j) H (P j) (by rw[jc];omega))) (by
    cases e:kx P k with
    | nil=>rfl
    | cons a r=>rfl) rfl rfl
theorem Ho {c:Nat} {fr:aD} {G:aa} {Y:db} (hx:exec (bN c 100 13) (.rangeFunc (.tmp 6) #[7] qC xy) fr G=some Y.st):(HO aR (fun _=>true) fr G (.ok Y)).Ok (bN c 100 13) (aZ Tryd.f100) :=
 Ci (aj _ _) (fun f ps a b _ hm x hx2=>by
  rw[T8] at hm;simp only[List.mem_cons,Prod.mk.injEq,List.not_mem_nil,or_false] at hm;obtain ⟨rfl,rfl,rfl,rfl⟩:=hm;rw[← Tr.ae hx2];exact hx)
theorem RV (hk:k≤1000) (hk1:1≤k):cd (n+3) (.fn 100) [.nils,oS s (aF k P false)] (ay::H)=some (.slc 0 0 0 0 1 k none,gv 0 k (aC (kx P k))::H):=by
 have hx:=OO n s k P (ay::H) hk;have hl:=jc P k;cases e:kx P k with
 | nil=>rw[e] at hl;simp at hl;omega
 | cons a r =>
   rw[e] at hx hl;have hr:r.length+1=k:=by simpa using hl
   obtain ⟨x,hb,rfl⟩:=aw (Q:=fun x=>x=(.ret,[(4,.slc 0 2 r.length 0 1 (r.length+1) none)],G1 r.length (r.length+1) (aC (a::r)) (0,.dead)::ay::H)) (UR (n+2) s r.length k (r.length+1) P (aC (a::r)) (ay::H)) (aA _) (ai _ _) (Ho (by simp only[db.st,aq];exact hx)) (by
    exact wF)
   have e8:Tryd.f100.ntmps=13:=by kernel_rfl
   have eb:Tryd.f100.body=some (aZ Tryd.f100):=by kernel_rfl
   have er:Tryd.f100.results.toList=[.tmp 4]:=by kernel_rfl
   have:=GG (n:=n+2) (fn:=Tryd.f100) (c:=aZ Tryd.f100) (args:=[.nils,oS s (aF k P false)]) (l1:=ay) (H:=H) (.inr rfl) Tryd.func100 eb (by rw[e8];rfl) (e:=.ret) (fr:=[(4,.slc 0 2 r.length 0 1 (r.length+1) none)]) (l:=G1 r.length (r.length+1) (aC (a::r)) (0,.dead)) (j:=2) (ver:=r.length) (q:=.M [.arr .i64 (aC (a::r)) (r.length+1)]) (by rw[e8];exact hb) (.inr rfl) (by rw[er];rfl) (by unfold G1;simp[c6,aB,av]) rfl rfl;rw[hr] at this;exact this
theorem K4:cd (n+3) (.fn 100) [.nils,oS s (aF 0 P false)] (ay::H)=some (.nils,ay::H):=by
 have hx:=OO n s 0 P (ay::H) wO;obtain ⟨x,hb,rfl⟩:=aw (Q:=fun x=>x=(.ret,[(4,.nils)],Ny (0,.dead)::ay::H)) (Rx (n+2) s 0 P (ay::H)) (aA _) (ai _ _) (Ho (by simp only[db.st,aq];exact hx)) (by
  exact wF)
 have e8:Tryd.f100.ntmps=13:=by kernel_rfl
 have eb:Tryd.f100.body=some (aZ Tryd.f100):=by kernel_rfl
 have er:Tryd.f100.results.toList=[.tmp 4]:=by kernel_rfl
 refine Db (n:=n+2) (fn:=Tryd.f100) (c:=aZ Tryd.f100) (l1:=ay) (H:=H) (.inr rfl) Tryd.func100 eb (by rw[e8];rfl) (by rw[e8];exact hb) (.inr rfl) (by rw[er];rfl) (Rr (n+2) s 0 P (ay::H)) (aA _) (ai _ _) (Ho (by simp only[db.st,aq];exact OO n s 0 P (ay::H) wO)) ?_;exact wF
theorem Wt (hk:k≤1000) (hk1:1≤k):cd (n+4) (.fn 94) [oS s (aF k P false)] (ay::H)=some (.slc 0 0 0 0 1 k none,gv 0 k (aC (kx P k))::H):=by
 obtain ⟨x,hb,rfl⟩:=aw (Q:=fun x=>x=(.ret,[(2,.slc 0 0 0 0 1 k none)],gv 0 k (aC (kx P k))::ay::H)) (YU (n+3) s k k P (aC (kx P k)) (ay::H)) (bQ _ _ (dh (bp _) (fun x hx=>by rw[← Tr.ae hx];exact RV n (s+1) k P (ay::H) hk hk1))) (ai _ _) (aj _ _) (by
  exact wF)
 have e8:Tryd.f94.ntmps=5:=by kernel_rfl
 have eb:Tryd.f94.body=some (aZ Tryd.f94):=by kernel_rfl
 have er:Tryd.f94.results.toList=[.tmp 2]:=by kernel_rfl
 exact GG (n:=n+3) (fn:=Tryd.f94) (c:=aZ Tryd.f94) (args:=[oS s (aF k P false)]) (l1:=ay) (H:=H) (.inl rfl) Tryd.func94 eb (by rw[e8];rfl) (e:=.ret) (fr:=[(2,.slc 0 0 0 0 1 k none)]) (l:=gv 0 k (aC (kx P k))) (j:=0) (ver:=0) (q:=.M [.arr .i64 (aC (kx P k)) k]) (by rw[e8];exact hb) (.inr rfl) (by rw[er];rfl) (by unfold gv;simp[c6,aB,av]) rfl rfl
theorem R6:cd (n+4) (.fn 94) [oS s (aF 0 P false)] (ay::H)=some (.nils,ay::H):=by
 obtain ⟨x,hb,rfl⟩:=aw (Q:=fun x=>x=(.ret,[(2,.nils)],ay::ay::H)) (US (n+3) s 0 P (ay::H)) (bQ _ _ (dh (bp _) (fun x hx=>by rw[← Tr.ae hx];exact K4 n (s+1) P (ay::H)))) (ai _ _) (aj _ _) (by
  exact wF)
 have e8:Tryd.f94.ntmps=5:=by kernel_rfl
 have eb:Tryd.f94.body=some (aZ Tryd.f94):=by kernel_rfl
 have er:Tryd.f94.results.toList=[.tmp 2]:=by kernel_rfl
 refine Db (n:=n+3) (fn:=Tryd.f94) (c:=aZ Tryd.f94) (l1:=ay) (H:=H) (.inl rfl) Tryd.func94 eb (by rw[e8];rfl) (by rw[e8];exact hb) (.inr rfl) (by rw[er];rfl) (UN (n+3) s 0 P (ay::H)) (bQ _ _ (dh (bp _) (fun x hx=>by rw[← Tr.ae hx];exact K4 n (s+1) P (ay::H)))) (ai _ _) (aj _ _) ?_;exact wF
theorem JM (A:List Int):((List.range A.length).map fun q=>aC A (0+q))=A:=by
 apply List.ext_getElem (by simp);intro i h1 h2;simp only[List.getElem_map,List.getElem_range,Nat.zero_add,kj,List.getD_eq_getElem?_getD,List.getElem?_eq_getElem h2,Option.getD_some]
theorem lT (L:List Int):(gw L).length=L.length:=List.length_mergeSort L
theorem Ob (A:List Int):FM gw (aC A) 0 A.length=aC (gw A):=by
 funext x;have hl:(gw A).length=A.length:=lT A;unfold FM;rw[JM,kj,kj];by_cases h:x<A.length
 · rw[if_pos wO,Nat.sub_zero]
 · rw[if_neg wO,List.getD_eq_getElem?_getD,List.getD_eq_getElem?_getD,List.getElem?_eq_none wO,List.getElem?_eq_none wO]
theorem Wu (k:Nat) (a:Nat→Int) (h1:0<k) (h2:k<4611686018427387904):cd (n+1) (.fn 95) [.slc 0 0 0 0 1 k none] (gv 0 k a::H)=some (.tup [],gv 0 k (FM gw a 0 k)::H):=by
 refine oZ ?_;show HS gw [.slc 0 0 0 0 1 k none] (gv 0 k a::H)=_;rw[show HS gw [.slc 0 0 0 0 1 k none] (gv 0 k a::H)=(if aM (gv 0 k a::H) 0=false∧0<k∧k<4611686018427387904∧0+k≤k then some (.tup [],dD (gv 0 k a::H) 0 0 (0,.row (.M [.arr .i64 (FM gw a 0 k) k]))) else none) from rfl];rw[if_pos ⟨rfl,h1,h2,by omega⟩];rfl
noncomputable def Oh (P:Nat→Int) (k:Nat):AV:=dA (gw (kx P k))
theorem Wk (hk:k≤1000):cd (n+11) (.fn 75) [oS s (aF k P false)] H=some (Oh P k,H):=by
 cases k with
 | zero =>
   have h95:cd (n+10) (.fn 95) [.nils] (ay::H)=some (.tup [],ay::H):=by
    refine ph (n:=n+9) Tryd.func95 rfl (fun _ _=>rfl) rfl (UO n (ay::H)) (cD n 9) (ai _ _) (aj _ _) ?_;exact Tr.ag ⟨rfl,rfl⟩
   have e0:Oh P 0=.nils:=by
    have h:gw (kx P 0)=[]:=List.eq_nil_of_length_eq_zero (by rw[lT,jc]);unfold Oh;rw[h];rfl
   rw[e0];refine bF (n:=n+10) Tryd.func75 rfl rfl rfl (UJ (n+10) s 0 P H) (bQ _ _ (dh (dh (bp _) (fun x hx=>by rw[← Tr.ae hx];exact R6 (n+6) (s+1) P H)) (fun x hx=>by rw[← Tr.ae hx];exact h95))) (ai _ _) (aj _ _) ?_;exact wF
 | succ k =>
   have e:Oh P (k+1)=aF (k+1) (aC (gw (kx P (k+1)))) false:=K6 _ k (by rw[lT,jc]);have h95:=Wu (n+9) H (k+1) (aC (kx P (k+1))) wO wO;have er:=Ob (kx P (k+1));rw[jc] at er;rw[er] at h95;rw[e];refine bF (n:=n+10) Tryd.func75 rfl rfl rfl (YJ (n+10) s (k+1) P (aC (kx P (k+1))) (aC (gw (kx P (k+1)))) H) (bQ _ _ (dh (dh (bp _) (fun x hx=>by rw[← Tr.ae hx];exact Wt (n+6) (s+1) (k+1) P H hk wO)) (fun x hx=>by rw[← Tr.ae hx];exact h95))) (ai _ _) (aj _ _) ?_;rw[bU];exact wF
theorem Wm:cd (n+1) (.fn 76) [aF k P false] H=some (oS 0 (aF k P false),H):=by
 refine bF (n:=n) Tryd.func76 rfl rfl rfl (YK n k P H) (aA _) (ai _ _) (aj _ _) ?_;exact Tr.ag ⟨rfl,rfl⟩
end
end Go.Eng
end
section
namespace Go.Eng
open Int (ofNat)
open Go.Proofs Go.Eng.Gall
noncomputable def vl (m:Nat) (z S:Nat→Int) (R:Row) (j:Int):aD:=[(1,aF m z false),(2,.ptr 0 0 0 0),(5,.ptrT none R 0),(7,aF m S false),(26,aF m S false),(27,.int .i64 (ofNat m)),(28,.int .i64 j)]
noncomputable def xf (m:Nat) (z:Nat→Int) (R:Row) (j:Int):aD:=[(1,aF m z false),(5,.ptrT none R 0),(43,aF m z false),(44,.int .i64 (ofNat m)),(45,.int .i64 j)]
noncomputable def yz (m:Nat) (z:Nat→Int) (R:Row) (X j:Int):aD:=[(5,.ptrT none R 0),(12,.int .u64 X),(56,aF m z false),(57,.int .i64 (ofNat m)),(58,.int .i64 j)]
theorem Uy (n:Nat) (O:Int) (U:Nat) (Z:Nat→Int) (V:Nat) (J:Nat→Int) (W B:Nat→Int) (G:aa) (C:List AV→Prop):bo Tryd.prog (cd (n+2)) 100000 49 Tryd.f49 (KtG.kt 49) (il (gT (tX aK 22 [bj O U Z V J] (.int .i64 (ofNat 0))) 62 (fun x=>some (C x,shV O U Z V J W B))) n 2) aS aR [(bj O U Z V J,none),(.nils,none)] G =
 Tr.reqP ([bj O U Z V J]=[bj O U Z V J]) (Tr.ite (aQ (bV (ofNat 0) (ofNat 0))) (Tr.ok ((AV.tup [AV.nilp,iI 0],none),G)) (Tr.reqP (C [bj O U Z V J]) (Tr.ok ((AV.tup [shV O U Z V J W B,iI 0],none),G)))):=by kernel_rfl
theorem YH (n:Nat) (O:Int) (U:Nat) (Z:Nat→Int) (V:Nat) (J:Nat→Int) (W B:Nat→Int) (G:aa) (c p:Int):bo Tryd.prog (cd n) 100000 71 Tryd.f71 (KtG.kt 71) (il aK n 0) aS aR [(shV O U Z V J W B,none),(.int .i64 c,none),(.int .i64 p,none)] G =
 Tr.req (cQ c 10) (Tr.req (dN (au 3 c 2) 1 3 20) (Tr.req (dN (ar (au 3 c 2) 1) 1 3 20) (Tr.ite (dQ (W (c9 (au 3 c 2) 3)) p) (Tr.ok ((AV.bool (dQ p (W (c9 (ar (au 3 c 2) 1) 3))),none),G)) (Tr.ok ((AV.bool false,some 1),G))))):=by kernel_rfl
theorem QV (n:Nat) (r:Row) (G:aa) (m:Nat) (z S:Nat→Int) (R:Row) (j:Int):aJ (bN n 39 76) (il aK n 0) aS aR (part Tryd.f39 [1,1,1,1,0,1,0,0]) (hints (vl m z S R j)) (⟨false,[(0,.row r)]⟩::G) =
 Tr.ite (bE j (ofNat m)) (Tr.req (cQ j m) (Tr.req (cK (au 0 j 1) m) (Tr.ite (aQ (bV (S (au 0 j 1)) j)) (Tr.ok (Ex.ret,[(4,iI 15,some 1)],(bh [(0,ak.row r)])::G)) (Tr.ok (Ex.normal,[(1,aF m z false,none),(2,AV.ptr 0 0 0 0,none),(5,AV.ptrT none R 0,none),(7,aF m S false,none),(26,aF m S false,none),(27,iI m,none),(28,AV.int .i64 (bm .i64 j (ofNat 1)),none)],(bh [(0,ak.row r)])::G))))) (Tr.ok (Ex.exit 0,[(1,aF m z false,none),(2,AV.ptr 0 0 0 0,none),(5,AV.ptrT none R 0,none),(7,aF m S false,none),(26,aF m S false,none),(27,iI m,none),(28,AV.int .i64 j,none),(29,AV.bool false,some 1)],(bh [(0,ak.row r)])::G)):=by kernel_rfl
theorem Uj (n:Nat) (r:Row) (G:aa) (m:Nat) (z:Nat→Int) (R:Row) (j:Int) (c:Int) (q:Bool):aJ (bN n 39 76) (il (tX aK 71 [(.ptrT none R 0),.int .i64 c,.int .i64 j] (.bool q)) n 0) aS aR (part Tryd.f39 [1,1,1,1,1,1,0,1,0,0]) (hints (xf m z R j)) (⟨false,[(0,.row r)]⟩::G) =
 Tr.ite (bE j (ofNat m)) (Tr.req (cQ j m) (Tr.req (cK (au 0 j 1) m) (Tr.reqP ([AV.ptrT none R 0,AV.int .i64 (z (au 0 j 1)),AV.int .i64 j]=[AV.ptrT none R 0,AV.int .i64 c,AV.int .i64 j]) (Tr.ite (aQ q) (Tr.ok (Ex.ret,[(4,iI 21,some 1)],(bh [(0,ak.row r)])::G)) (Tr.ok (Ex.normal,[(1,aF m z false,none),(5,AV.ptrT none R 0,none),(43,aF m z false,none),(44,iI m,none),(45,AV.int .i64 (bm .i64 j (ofNat 1)),none)],(bh [(0,ak.row r)])::G)))))) (Tr.ok (Ex.exit 2,[(1,aF m z false,none),(5,AV.ptrT none R 0,none),(43,aF m z false,none),(44,iI m,none),(45,AV.int .i64 j,none),(46,AV.bool false,some 1)],(bh [(0,ak.row r)])::G)):=by kernel_rfl
theorem QW (n:Nat) (r:Row) (G:aa) (m:Nat) (z:Nat→Int) (R:Row) (j:Int):aJ (bN n 39 76) (il aK n 0) aS aR (part Tryd.f39 [1,1,1,1,1,1,0,1,0,0]) (hints (xf m z R j)) (⟨false,[(0,.row r)]⟩::G) =
 Tr.ite (bE j (ofNat m)) (Tr.req (cQ j m) (Tr.req (cK (au 0 j 1) m) Tr.bad)) (Tr.ok (Ex.exit 2,[(1,aF m z false,none),(5,AV.ptrT none R 0,none),(43,aF m z false,none),(44,iI m,none),(45,AV.int .i64 j,none),(46,AV.bool false,some 1)],(bh [(0,ak.row r)])::G)):=by kernel_rfl
theorem QX (n:Nat) (O:Int) (U:Nat) (Z:Nat→Int) (V:Nat) (J:Nat→Int) (W B:Nat→Int) (r:Row) (G:aa) (m:Nat) (z:Nat→Int) (X j:Int):aJ (bN n 39 76) (il aK n 0) aS aR (part Tryd.f39 [1,1,1,1,1,1,1,1,0,1,0,0]) (hints (yz m z (shR O U Z V J W B) X j)) (⟨false,[(0,.row r)]⟩::G) =
 Tr.ite (bE j (ofNat m)) (Tr.req (cQ j m) (Tr.req (cK (au 0 j 1) m) (Tr.req (cQ (z (au 0 j 1)) 10) (Tr.req (dN (au 23 (z (au 0 j 1)) 1) 1 23 10) (Tr.ite (aQ (bV (FQ IntKind.u64 (B (c9 (au 23 (z (au 0 j 1)) 1) 23)) X) (ofNat 0))) (Tr.ok (Ex.ret,[(4,iI 16,some 1)],(bh [(0,ak.row r)])::G)) (Tr.req (dQ (ofNat 0) (z (au 0 j 1))) (Tr.ok (Ex.normal,[(5,shV O U Z V J W B,none),(12,AV.int IntKind.u64 (wC IntKind.u64 X (fU IntKind.u64 (ofNat 1) (z (au 0 j 1)))),none),(56,aF m z false,none),(57,iI m,none),(58,AV.int .i64 (bm .i64 j (ofNat 1)),none)],(bh [(0,ak.row r)])::G)))))))) (Tr.ok (Ex.exit 4,[(5,shV O U Z V J W B,none),(12,AV.int IntKind.u64 X,none),(56,aF m z false,none),(57,iI m,none),(58,AV.int .i64 j,none),(59,AV.bool false,some 1)],(bh [(0,ak.row r)])::G)):=by kernel_rfl
theorem YB (n:Nat) (O:Int) (U:Nat) (Z:Nat→Int) (V:Nat) (J:Nat→Int) (H:aa) (m:Nat) (z S:Nat→Int) (R:Row) (e q r:Bool) (X:Int):bo Tryd.prog (cd n) 100000 39 Tryd.f39 (KtG.kt 39) (il (tX (tX (tX aK 49 [bj O U Z V J,.nils] (.tup [.ptrT none R 0,.int .i64 (ofNat 0)])) 76 [aF m z false] (oS 0 (aF m z false))) 75 [oS 0 (aF m z false)] (aF m S false)) n 0) (bP (bP (bP aS 0 (vl m z S R (ofNat 0)) (fS O U Z V J::H) (.ite e (.ok (.ret,[(4,.int .i64 (ofNat 15),none)],fS O U Z V J::H)) (.ok (.normal,hints (vl m z S R (ofNat m)++[(29,.bool false)]),fS O U Z V J::H)))) 2 (xf m z R (ofNat 0)) (fS O U Z V J::H) (.ite q (.ok (.ret,[(4,.int .i64 (ofNat 21),none)],fS O U Z V J::H)) (.ok (.normal,hints (xf m z R (ofNat m)++[(46,.bool false)]),fS O U Z V J::H)))) 4 (yz m z R (ofNat 0) (ofNat 0)) (fS O U Z V J::H) (.ite r (.ok (.ret,[(4,.int .i64 (ofNat 16),none)],fS O U Z V J::H)) (.ok (.normal,hints (yz m z R X (ofNat m)++[(59,.bool false)]),fS O U Z V J::H)))) aR [(bj O U Z V J,none),(aF m z false,none)] H =
 (fun (Z0:bB)=>((fun (Z1:aD)=>((fun (Z2:aD)=>((fun (Z3:aD)=>Tr.reqP ([bj O U Z V J,AV.nils]=[bj O U Z V J,AV.nils]) (Tr.ite (aQ (bV (ofNat 0) (ofNat 0))) (Tr.ok ((iI 0,none),H)) (Tr.reqP ([aF m z false]=[aF m z false]) (Tr.reqP ([AV.fn (Fn.func 96) [] [AV.ptrT (some 0) (Row.G [aF m z false]) 0]]=[AV.fn (Fn.func 96) [] [AV.ptrT (some 0) (Row.G [aF m z false]) 0]]) (Tr.reqP (Z1=Z1∧Z0::H=Z0::H) (Tr.ite e (Tr.ok ((iI 15,none),H)) (Tr.ite (aQ (bV (ofNat m) (ofNat U))) (Tr.ok ((iI 15,some 1),H)) (Tr.reqP (Z3=Z3∧Z0::H=Z0::H) (Tr.ite q (Tr.ok ((iI 21,none),H)) (Tr.reqP (Z2=Z2∧Z0::H=Z0::H) (Tr.ite r (Tr.ok ((iI 16,none),H)) (Tr.ok ((iI 0,some 1),H))))))))))))) [(1,aF m z false),(5,AV.ptrT none R 0),(43,aF m z false),(44,iI m),(45,iI 0)])) [(5,AV.ptrT none R 0),(12,AV.int IntKind.u64 (ofNat 0)),(56,aF m z false),(57,iI m),(58,iI 0)])) [(1,aF m z false),(2,AV.ptr 0 0 0 0),(5,AV.ptrT none R 0),(7,aF m S false),(26,aF m S false),(27,iI m),(28,iI 0)])) (bh [(0,b8 O U Z V J)]):=by kernel_rfl
theorem Uw (n:Nat) (O:Int) (U:Nat) (Z:Nat→Int) (V:Nat) (J:Nat→Int) (H:aa) (m:Nat) (z S:Nat→Int) (R:Row) (e:Bool):bo Tryd.prog (cd n) 100000 39 Tryd.f39 (KtG.kt 39) (il (tX (tX (tX aK 49 [bj O U Z V J,.nils] (.tup [.ptrT none R 0,.int .i64 (ofNat 0)])) 76 [aF m z false] (oS 0 (aF m z false))) 75 [oS 0 (aF m z false)] (aF m S false)) n 0) (gq (gq (bP aS 0 (vl m z S R (ofNat 0)) (fS O U Z V J::H) (.ite e (.ok (.ret,[(4,.int .i64 (ofNat 15),none)],fS O U Z V J::H)) (.ok (.normal,hints (vl m z S R (ofNat m)++[(29,.bool false)]),fS O U Z V J::H)))) 2) 4) aR [(bj O U Z V J,none),(aF m z false,none)] H =
 (fun (Z0:aD)=>Tr.reqP ([bj O U Z V J,AV.nils]=[bj O U Z V J,AV.nils]) (Tr.ite (aQ (bV (ofNat 0) (ofNat 0))) (Tr.ok ((iI 0,none),H)) (Tr.reqP ([aF m z false]=[aF m z false]) (Tr.reqP ([AV.fn (Fn.func 96) [] [AV.ptrT (some 0) (Row.G [aF m z false]) 0]]=[AV.fn (Fn.func 96) [] [AV.ptrT (some 0) (Row.G [aF m z false]) 0]]) (Tr.reqP (Z0=Z0∧(bh [(0,b8 O U Z V J)])::H=(bh [(0,b8 O U Z V J)])::H) (Tr.ite e (Tr.ok ((iI 15,none),H)) (Tr.ite (aQ (bV (ofNat m) (ofNat U))) (Tr.ok ((iI 15,some 1),H)) Tr.bad))))))) [(1,aF m z false),(2,AV.ptr 0 0 0 0),(5,AV.ptrT none R 0),(7,aF m S false),(26,aF m S false),(27,iI m),(28,iI 0)]:=by kernel_rfl
theorem Uf (n:Nat) (O:Int) (U:Nat) (Z:Nat→Int) (V:Nat) (J:Nat→Int) (H:aa) (m:Nat) (z S:Nat→Int) (R:Row):bo Tryd.prog (cd n) 100000 39 Tryd.f39 (KtG.kt 39) (il (tX (tX (tX aK 49 [bj O U Z V J,.nils] (.tup [.ptrT none R 0,.int .i64 (ofNat 0)])) 76 [aF 0 z false] (oS 0 (aF 0 z false))) 75 [oS 0 (aF 0 z false)] .nils) n 0) (gq (gq aS 2) 4) aR [(bj O U Z V J,none),(aF 0 z false,none)] H =
 Tr.reqP ([bj O U Z V J,AV.nils]=[bj O U Z V J,AV.nils]) (Tr.ite (aQ (bV (ofNat 0) (ofNat 0))) (Tr.ok ((iI 0,none),H)) (Tr.reqP ([aF 0 z false]=[aF 0 z false]) (Tr.reqP ([AV.fn (Fn.func 96) [] [AV.ptrT (some 0) (Row.G [aF 0 z false]) 0]]=[AV.fn (Fn.func 96) [] [AV.ptrT (some 0) (Row.G [aF 0 z false]) 0]]) (Tr.ite (aQ (bV (ofNat 0) (ofNat U))) (Tr.ok ((iI 15,some 1),H)) Tr.bad)))):=by kernel_rfl
end Go.Eng
end
