/- Gall: bounds, the program's, whole. -/
import Derived.Test.YtgphpjdchnfjlaaDoorV4Gacx5
import Derived.Test.YtgphpjdchnfjlaaDoorV4EngRnFx7
set_option linter.unusedVariables false
set_option linter.unusedSimpArgs false
set_option maxRecDepth 100000
section
namespace Go.Eng
open Go.Proofs Go.Eng.Gall
section
variable (n:Nat) (dr:Int) (lc:Nat) (zc:Nat→Int) (lb:Nat) (zb:Nat→Int) (W:Nat→Int) (b:Nat→Nat) (H:aa)
theorem Q5 (hS:gE lc W b) (q r:Nat→Int) (t':Nat) (hr:Bd lc b W t' r) (t:Int):exec (bP (n+1) 56 69) (.block 2 (.loop (part Tryd.f56 [1,1,0,1,0,0,1,1,0,0,1,0,1,0,0]))) (xV (shV dr lc zc lb zb W (bI b)) lc t (bI b) (Int.ofNat 0)) (fp [cZ r,cZ q]::H) =
 some (.normal,xV (shV dr lc zc lb zb W (bI b)) lc t (bI b) (Int.ofNat 10)++[(26,.bool false)],fp [cZ (oi r (lL b 10)),cZ q]::H):=by
 refine jM (n:=n+1) (f:=56) (nt:=69) (c:=part Tryd.f56 [1,1,0,1,0,0,1,1,0,0,1,0,1,0,0]) 2 (fun c=>xV (shV dr lc zc lb zb W (bI b)) lc t (bI b) (c:Int)) (fun c=>fp [cZ (oi r (lL b c)),cZ q]::H) 10 (_,_) (by omega) (fun c hc=>?_) ?_
 · have hs:Bd lc b W t' (oi r (lL b c)):=(rh hS.nob _ hr (fun p hp=>by
    obtain ⟨a,d⟩:=p;have:=(CU b c (fun d _=>hS.lt d) a d).1 hp;obtain ⟨h1,h2⟩:=hS.bit this.2;exact ⟨h2,h1,this.2⟩)).1
   have ec:a6 .i64 (c:Int) (Int.ofNat 1)=((c+1:Nat):Int):=eN (by omega)
   have T:=Sh (n+1) dr lc zc lb zb W (bI b) H (oi r (lL b c)) q (oi r (lL b (c+1))) t (c:Int) 0
   rw[ec,Aj] at T
   have hx:=Q7 n dr lc zc lb zb W b H hS q (oi r (lL b c)) t' hs t c hc
   rw[← CZ] at hx
   refine aB T (aw _) (a8 (ai _ _) Nm (fun x h=>by rw[← Tr.ab h];simp only[eC.st,aP];exact hx)) (aj _ _) ?_
   refine Tr.af (fun h0=>?_) wJ
   exact Tr.ae wG (Tr.ae wG (Tr.al ⟨rfl,rfl⟩ (Tr.ah ⟨rfl,rfl⟩)))
 · obtain ⟨x,h1,rfl⟩:=aB (Q:=fun x=>x=(.exit 2,xV (shV dr lc zc lb zb W (bI b)) lc t (bI b) (Int.ofNat 10)++[(26,.bool false)],fp [cZ (oi r (lL b 10)),cZ q]::H)) (O1 (n+1) dr lc zc lb zb W (bI b) H (oi r (lL b 10)) q t) (aw _) (cD (ai _ _) 4) (aj _ _) (by
    refine Tr.af wJ (fun h0=>Tr.ah rfl))
   exact h1
theorem Lc (hS:gE lc W b) {t:Nat} {r:Nat→Int} (hr:Bd lc b W t r):∀ j,20≤j→r j=0:=fun j hj=>by
 rw[hr.out j (by have:=hS.len;omega)];exact hS.zer j hj
theorem Mn (hS:gE lc W b) (t:Nat) (ht:t<lc):∃ x,exec (bP (n+1) 56 69) (part Tryd.f56 [1,1,0,1,0,0]) (m7 (shV dr lc zc lb zb W (bI b)) lc (t:Int)) (fp [cZ (ij (lL b 10) W t)]::H)=some x ∧
 if lP (ij (lL b 10) W (t+1)) (ij (lL b 10) W t) 20=true then x=(.exit 0,m7 (shV dr lc zc lb zb W (bI b)) lc (t:Int)++[(66,.bool true)],fp [cZ (ij (lL b 10) W (t+1)),cZ (ij (lL b 10) W t)]::H)
 else x.1=.normal∧tidy 2 x.2.1 x.2.2=(m7 (shV dr lc zc lb zb W (bI b)) lc ((t+1:Nat):Int),fp [cZ (ij (lL b 10) W (t+1))]::H):=by
 have hb:=pr (w:=W) hS.nob hS.all t
 have ec:a6 .i64 (t:Int) (Int.ofNat 1)=((t+1:Nat):Int):=eN (by have:=hS.len;omega)
 have T:=Sg (n+1) dr lc zc lb zb W (bI b) H (ij (lL b 10) W t) (ij (lL b 10) W (t+1)) (t:Int)
 rw[ec,sd (Lc lc W b hS hb)] at T
 refine aB T (aw _) (a8 (ai _ _) Nl (fun x h=>by rw[← Tr.ab h];simp only[eC.st,aP];exact Q5 n dr lc zc lb zb W b H hS (ij (lL b 10) W t) (ij (lL b 10) W t) t hb (t:Int))) (aj _ _) ?_
 refine Tr.af (fun h0=>?_) wJ
 refine Tr.ae wG (Tr.al ⟨rfl,rfl⟩ (Tr.af (fun q=>Tr.ah ?_) (fun q=>Tr.ah ?_)))
 · rw[if_pos q];rfl
 · rw[if_neg (by rw[q];decide)];exact ⟨rfl,rfl⟩
theorem Un (hS:gE lc W b):cd (n+2) (.fn 56) [shV dr lc zc lb zb W (bI b)] H=some (.agg (.M [.arr .i64 (jm lc b W) 20]),H):=by
 have hl:=hS.len;have hz:∀ j,20≤j→jm lc b W j=0:=fun j hj=>by unfold jm;rw[if_neg (by omega)];exact hS.zer j hj
 rcases sm (fun t=>t<lc∧lP (ij (lL b 10) W (t+1)) (ij (lL b 10) W t) 20=true) lc with h | ⟨T,h1,⟨_,h2⟩,h3⟩
 · have hx:exec (bP (n+1) 56 69) (.block 0 (.loop (part Tryd.f56 [1,1,0,1,0,0]))) (m7 (shV dr lc zc lb zb W (bI b)) lc (Int.ofNat 0)) (fp [cZ W]::H)=some (.normal,m7 (shV dr lc zc lb zb W (bI b)) lc (Int.ofNat lc)++[(19,.bool false)],fp [cZ (ij (lL b 10) W lc)]::H):=by
    refine jM (n:=n+1) (f:=56) (nt:=69) (c:=part Tryd.f56 [1,1,0,1,0,0]) 0 (fun t=>m7 (shV dr lc zc lb zb W (bI b)) lc (t:Int)) (fun t=>fp [cZ (ij (lL b 10) W t)]::H) lc (_,_) (by omega) (fun t ht=>?_) ?_
    · obtain ⟨x,x1,x2⟩:=Mn n dr lc zc lb zb W b H hS t ht;rw[if_neg (fun q=>h t ht ⟨ht,q⟩)] at x2;exact ⟨x,x1,x2⟩
    · obtain ⟨x,h1,rfl⟩:=aB (Q:=fun x=>x=(.exit 0,m7 (shV dr lc zc lb zb W (bI b)) lc (Int.ofNat lc)++[(19,.bool false)],fp [cZ (ij (lL b 10) W lc)]::H)) (O0 (n+1) dr lc zc lb zb W (bI b) H (ij (lL b 10) W lc) (Int.ofNat lc)) (aw _) (cD (ai _ _) 2) (aj _ _) (by
       refine Tr.af wJ (fun h0=>Tr.ah rfl))
      exact h1
   have he:=EH (Nat.le_refl lc) (pr (w:=W) hS.nob hS.all lc);rw[he] at hx;have U:=SF (n+1) dr lc zc lb zb W (bI b) H (jm lc b W);rw[sd hS.zer,sd hz] at U;refine bB (n:=n+1) Tryd.func56 rfl rfl rfl U (aw _) (a8 (ai _ _) Jy (fun x h=>by rw[← Tr.ab h];simp only[eC.st,aP];exact hx)) (aj _ _) ?_;exact Tr.ae wG (Tr.al ⟨rfl,rfl⟩ (Tr.ae wG (Tr.ah ⟨rfl,rfl⟩)))
 · have hbT:=pr (w:=W) hS.nob hS.all T;have hbT1:=pr (w:=W) hS.nob hS.all (T+1);have heq:ij (lL b 10) W (T+1)=ij (lL b 10) W T:=by
    funext j;by_cases hj:j<20
    · exact uR h2 j hj
    · rw[Lc lc W b hS hbT1 j (by omega),Lc lc W b hS hbT j (by omega)]
   have he:ij (lL b 10) W (T+1)=jm lc b W:=by
    rw[heq];exact HF hS.nob hS.all hbT heq
   have hx:exec (bP (n+1) 56 69) (.block 0 (.loop (part Tryd.f56 [1,1,0,1,0,0]))) (m7 (shV dr lc zc lb zb W (bI b)) lc (Int.ofNat 0)) (fp [cZ W]::H)=some (.normal,m7 (shV dr lc zc lb zb W (bI b)) lc (T:Int)++[(66,.bool true)],fp [cZ (ij (lL b 10) W (T+1)),cZ (ij (lL b 10) W T)]::H):=by
    refine jM (n:=n+1) (f:=56) (nt:=69) (c:=part Tryd.f56 [1,1,0,1,0,0]) 0 (fun t=>m7 (shV dr lc zc lb zb W (bI b)) lc (t:Int)) (fun t=>fp [cZ (ij (lL b 10) W t)]::H) T (_,_) (by omega) (fun t ht=>?_) ?_
    · obtain ⟨x,x1,x2⟩:=Mn n dr lc zc lb zb W b H hS t (by omega);rw[if_neg (fun q=>h3 t ht ⟨by omega,q⟩)] at x2;exact ⟨x,x1,x2⟩
    · obtain ⟨x,x1,x2⟩:=Mn n dr lc zc lb zb W b H hS T h1;rw[if_pos h2] at x2;subst x2;exact x1
   rw[he] at hx;have U:=SG (n+1) dr lc zc lb zb W (bI b) H (jm lc b W) (ij (lL b 10) W T) (T:Int);rw[sd hS.zer,sd hz] at U;refine bB (n:=n+1) Tryd.func56 rfl rfl rfl U (aw _) (a8 (ai _ _) Jy (fun x h=>by rw[← Tr.ab h];simp only[eC.st,aP];exact hx)) (aj _ _) ?_;exact Tr.ae wG (Tr.al ⟨rfl,rfl⟩ (Tr.ae wG (Tr.ah ⟨rfl,rfl⟩)))
end
end Go.Eng
end
section
namespace Go.Eng
open Go.Proofs Go.Eng.Gall
noncomputable def TZ (a b:Int):AV:=.agg (.I .i64 [a,b])
end Go.Eng
end
section
namespace Go.Eng
open Go.Proofs Go.Eng.Gall
theorem BZ {a b:Int} (hb:1≤b) {K:Int} (h1:-K≤a) (h2:a≤K) (hK:0≤K):-K-b≤a / b∧a / b≤K:=by
 have h7:=Int.mul_ediv_add_emod a b;have h3:=Int.emod_nonneg a (show b≠0 by omega);have h4:=Int.emod_lt_of_pos a (show 0<b by omega);constructor
 · apply Classical.byContradiction;intro hc;have h8:b*(a / b)≤1*(a / b):=Int.mul_le_mul_of_nonpos_right hb (by omega);omega
 · exact Int.le_trans (Int.ediv_le_ediv (by omega) h2) (Int.ediv_le_self b hK)
section
variable (n:Nat) (dr:Int) (lc:Nat) (zc:Nat→Int) (lb:Nat) (zb:Nat→Int) (H:aa)
end
end Go.Eng
end
section
namespace Go.Eng
open Go.Proofs Go.Eng.Gall
section
variable (dr:Int) (lc:Nat) (zc:Nat→Int) (lb:Nat) (zb:Nat→Int)
theorem Sc (hl:lc≤10) (hd:1≤dr∧dr≤100) (hv:vP lc zc) (hp:iq lc lb zb) (hk:lK lc (fun c=>gY zb c lb)=false):gE lc (dg dr lc zc) (fun c=>gY zb c lb):=by
 refine ⟨hl,fun j=>?_,fun j hj=>?_,fun c hc=>vS zb c lc lb (fun i hi=>(hp i hi).1),fun c hc=>?_,hk⟩
 · unfold dg;by_cases h:j<2*lc
   · rw[if_pos h];obtain ⟨v1,v2,v3,v4,v5,v6⟩:=MO hv (show j / 2<lc by omega);have q1:=BZ (a:=zc (j / 2*4+3)-zc (j / 2*4+1)) hd.1 (K:=1000) (by omega) (by omega) (by decide);have q2:=BZ (a:=zc (j / 2*4)-zc (j / 2*4+2)) hd.1 (K:=1000) (by omega) (by omega) (by decide);split<;>omega
   · rw[if_neg h];omega
 · unfold dg;rw[if_neg (by omega)]
 · cases e:gY zb c lb with
   | zero=>rfl
   | succ m =>
     exfalso;have:∃ a,(gY zb c lb).testBit a=true:=by
      apply Classical.byContradiction;intro hn;have:gY zb c lb=0:=by
       apply Nat.eq_of_testBit_eq;intro i;rw[Nat.zero_testBit];cases e:(gY zb c lb).testBit i with
       | false=>rfl
       | true=>exact absurd ⟨i,e⟩ hn
      omega
     obtain ⟨a,ha⟩:=this;obtain ⟨i,hi,h4,h5⟩:=(mH zb c a lb (fun i hi=>(hp i hi).1.1)).1 ha;have:=hp i hi;omega
variable (n:Nat) (H:aa)
end
end Go.Eng
end
section
namespace Go.Eng
open Go.Proofs
noncomputable def iJ (n f nt d i:Nat):Cx:=⟨Tryd.prog,cd n,100000,f,nt,KtG.kt f,some (d,i)⟩
noncomputable def AP (k:Nat) (P:Nat→Int) (j:Int):aD:=[(0,.yld 1 1),(5,aY k P false),(6,.int .i64 (Int.ofNat k)),(7,.int .i64 j)]
noncomputable def oz (s:Nat) (A:AV):AV:=.fn (.func 96) [] [.ptrT (some s) (.G [A]) 0]
noncomputable def nm (s:Nat) (A:AV):aD:=[(2,.ptr 0 0 0 0),(6,oz (s+1) A)]
noncomputable def LU (b:Nat×an):bF:=⟨false,[(0,.row (.G [.nils])),b]⟩
noncomputable def FU (v k:Nat) (a:Nat→Int) (b:Nat×an):bF:=⟨false,[(0,.row (.G [.slc 0 2 v 0 1 k none])),b,(v,.row (.M [.arr .i64 a k]))]⟩
theorem t96 (n k:Nat) (P:Nat→Int) (G G':aa) (j x:Int):aJ (bP n 96 16) (OK (il aH n 0) 1 1 [.int .i64 x] (ar::G) (.ok (.bool true,ar::G'))) aS aR (part Tryd.f96 [1,0,0]) (hints (AP k P j)) (ar::G) =
 Tr.ite (bH j (Int.ofNat k)) (Tr.req (bR j k) (Tr.req (cH (av 0 j 1) k) (Tr.reqP ([AV.int .i64 (P (av 0 j 1))]=[AV.int .i64 x]∧ar::G=ar::G) (Tr.ite (aE true) (Tr.ok (Ex.ret,[(0,AV.yld 1 1,none),(5,aY k P false,none),(6,iI k,none),(7,AV.int .i64 j,none),(14,AV.bool true,some 1)],ar::G')) (Tr.ok (Ex.normal,[(0,AV.yld 1 1,none),(5,aY k P false,none),(6,iI k,none),(7,AV.int .i64 (a6 .i64 j (Int.ofNat 1)),none)],ar::G')))))) (Tr.ok (Ex.exit 0,[(0,AV.yld 1 1,none),(5,aY k P false,none),(6,iI k,none),(7,AV.int .i64 j,none),(8,AV.bool false,some 1)],ar::G)):=by kernel_rfl
theorem Sq (n k:Nat) (P:Nat→Int) (G:aa) (j:Int):aJ (bP n 96 16) (il aH n 0) aS aR (part Tryd.f96 [1,0,0]) (hints (AP k P j)) (ar::G) =
 Tr.ite (bH j (Int.ofNat k)) (Tr.req (bR j k) (Tr.req (cH (av 0 j 1) k) Tr.bad)) (Tr.ok (Ex.exit 0,[(0,AV.yld 1 1,none),(5,aY k P false,none),(6,iI k,none),(7,AV.int .i64 j,none),(8,AV.bool false,some 1)],ar::G)):=by kernel_rfl
theorem Xf (n s k:Nat) (P:Nat→Int) (G G':aa):bk Tryd.prog (cd n) 100000 96 Tryd.f96 (KtG.kt 96) (il aH n 0) (cM aS 0 (AP k P (Int.ofNat 0)) (ar::G) (.ok (.normal,hints (AP k P (Int.ofNat k)++[(8,.bool false)]),ar::G'))) aR [(.yld 0 1,none),(.ptrT (some s) (.G [aY k P false]) 0,none)] G =
 Tr.reqP ([(0,AV.yld 1 1),(5,aY k P false),(6,iI k),(7,iI 0)]=[(0,AV.yld 1 1),(5,aY k P false),(6,iI k),(7,iI 0)]∧ar::G=ar::G) (Tr.ok ((AV.tup [],none),G')):=by kernel_rfl
theorem J7 (n s k:Nat) (P:Nat→Int) (bs:List (Nat×an)) (H:aa) (x:Int):aJ (iJ n 100 13 2 1) (il aH n 0) aS aR (part Tryd.f100 [1,0,1,0,0]) (hints [(2,.ptr 2 0 0 0),(6,oz (s+3) (aY k P false)),(7,.int .i64 x)]) (ar::ar::⟨false,bs⟩::H) =
 Tr.ok (Ex.normal,[(2,AV.ptr 2 0 0 0,none),(5,AV.int .i64 x,none)],ar::ar::(bC bs)::H):=by kernel_rfl
theorem OQ (n:Nat) (L:im) (H:aa) (x:Int):aJ (iJ n 100 13 2 1) (il aH n 0) aS aR (part Tryd.f100 [1,0,1,0,1]) (hints [(2,.ptr 2 0 0 0),(5,.int .i64 x)]) (ar::ar::LU (0,.loop L)::H) =
 Tr.req (fU 0 1 8) (Tr.req (cj 0 0) (Tr.req (dD 1 1) (Tr.ok (Ex.normal,[],(bC [(0,an.row (Row.I .i64 [x])),(0,an.dead)])::ar::(bC [(0,an.row (Row.G [AV.slc 0 2 0 0 1 1 none])),(0,an.loop L),(0,an.row (rM (az [x]) 1))])::H)))):=by kernel_rfl
theorem OR (n v k:Nat) (b:Nat→Int) (L:im) (H:aa) (x:Int):aJ (iJ n 100 13 2 1) (il aH n 0) aS aR (part Tryd.f100 [1,0,1,0,1]) (hints [(2,.ptr 2 0 0 0),(5,.int .i64 x)]) (ar::ar::FU v k b (0,.loop L)::H) =
 Tr.req (fU k 1 8) (Tr.req (cj 0 0) (Tr.req (dD 1 1) (Tr.req (cj v v) (Tr.req (cj (aq 0 k) k) (Tr.ok (Ex.normal,[],(bC [(0,an.row (Row.I .i64 [x]))])::ar::(bC [(0,an.row (Row.G [AV.slc 0 2 (Nat.succ v) 0 1 (aq k 1) none])),(0,an.loop L),(Nat.succ v,an.row (rM (oD (dZ b 0) k (az [x])) (aq k 1)))])::H)))))):=by kernel_rfl
theorem SR (n s v k m:Nat) (P b:Nat→Int) (H:aa):aJ (bP n 100 13) (il aH n 0) aS (Hn aR (fun _=>true) (nm s (aY k P false)) (⟨false,[(0,.row (.G [.nils]))]⟩::H) (.ok (.normal,hints (nm s (aY k P false)),FU v m b (0,.dead)::H))) (aV Tryd.f100) (hints [(0,.nils),(1,oz (s+1) (aY k P false))]) (ar::H) =
 (fun (Z0:aD)=>Tr.reqP (Z0=Z0∧(bC [(0,an.row (Row.G [AV.nils]))])::H=(bC [(0,an.row (Row.G [AV.nils]))])::H) (Tr.ok (Ex.ret,[(4,AV.slc 0 2 v 0 1 m none,none)],(bC [(0,an.row (Row.G [AV.slc 0 2 v 0 1 m none])),(0,an.dead),(v,an.row (rM b m))])::H))) [(2,AV.ptr 0 0 0 0),(6,AV.fn (Fn.func 96) [] [AV.ptrT (some (Nat.succ s)) (Row.G [aY k P false]) 0])]:=by kernel_rfl
theorem Pp (n s k:Nat) (P:Nat→Int) (H:aa):bk Tryd.prog (cd n) 100000 100 Tryd.f100 (KtG.kt 100) (il aH n 0) aS (Hn aR (fun _=>true) (nm s (aY k P false)) (⟨false,[(0,.row (.G [.nils]))]⟩::H) (.ok (.normal,hints (nm s (aY k P false)),LU (0,.dead)::H))) [(.nils,none),(oz s (aY k P false),none)] H =
 (fun (Z0:aD)=>Tr.reqP (Z0=Z0∧(bC [(0,an.row (Row.G [AV.nils]))])::H=(bC [(0,an.row (Row.G [AV.nils]))])::H) (Tr.ok ((AV.nils,none),H))) [(2,AV.ptr 0 0 0 0),(6,AV.fn (Fn.func 96) [] [AV.ptrT (some (Nat.succ s)) (Row.G [aY k P false]) 0])]:=by kernel_rfl
theorem Pu (n s k:Nat) (P:Nat→Int) (H:aa):aJ (bP n 100 13) (il aH n 0) aS (Hn aR (fun _=>true) (nm s (aY k P false)) (⟨false,[(0,.row (.G [.nils]))]⟩::H) (.ok (.normal,hints (nm s (aY k P false)),LU (0,.dead)::H))) (aV Tryd.f100) (hints [(0,.nils),(1,oz (s+1) (aY k P false))]) (ar::H) =
 (fun (Z0:aD)=>Tr.reqP (Z0=Z0∧(bC [(0,an.row (Row.G [AV.nils]))])::H=(bC [(0,an.row (Row.G [AV.nils]))])::H) (Tr.ok (Ex.ret,[(4,AV.nils,none)],(bC [(0,an.row (Row.G [AV.nils])),(0,an.dead)])::H))) [(2,AV.ptr 0 0 0 0),(6,AV.fn (Fn.func 96) [] [AV.ptrT (some (Nat.succ s)) (Row.G [aY k P false]) 0])]:=by kernel_rfl
theorem Xi (n s k m:Nat) (P b:Nat→Int) (H:aa):aJ (bP n 94 5) (il (se aH 100 [.nils,oz (s+1) (aY k P false)] (ar::H) (.ok (.slc 0 0 0 0 1 m none,fZ 0 m b::H))) n 0) aS aR (aV Tryd.f94) (hints [(0,oz (s+1) (aY k P false))]) (ar::H) =
 (fun (Z0:List AV)=>Tr.reqP (Z0=Z0∧ar::H=ar::H) (Tr.ok (Ex.ret,[(2,AV.slc 0 0 0 0 1 m none,none)],(bC [(0,an.row (rM b m))])::H))) [AV.nils,AV.fn (Fn.func 96) [] [AV.ptrT (some (Nat.succ s)) (Row.G [aY k P false]) 0]]:=by kernel_rfl
theorem SN (n s k:Nat) (P:Nat→Int) (H:aa):bk Tryd.prog (cd n) 100000 94 Tryd.f94 (KtG.kt 94) (il (se aH 100 [.nils,oz (s+1) (aY k P false)] (ar::H) (.ok (.nils,ar::H))) n 0) aS aR [(oz s (aY k P false),none)] H =
 (fun (Z0:List AV)=>Tr.reqP (Z0=Z0∧ar::H=ar::H) (Tr.ok ((AV.nils,none),H))) [AV.nils,AV.fn (Fn.func 96) [] [AV.ptrT (some (Nat.succ s)) (Row.G [aY k P false]) 0]]:=by kernel_rfl
theorem SS (n s k:Nat) (P:Nat→Int) (H:aa):aJ (bP n 94 5) (il (se aH 100 [.nils,oz (s+1) (aY k P false)] (ar::H) (.ok (.nils,ar::H))) n 0) aS aR (aV Tryd.f94) (hints [(0,oz (s+1) (aY k P false))]) (ar::H) =
 (fun (Z0:List AV)=>Tr.reqP (Z0=Z0∧ar::H=ar::H) (Tr.ok (Ex.ret,[(2,AV.nils,none)],ar::H))) [AV.nils,AV.fn (Fn.func 96) [] [AV.ptrT (some (Nat.succ s)) (Row.G [aY k P false]) 0]]:=by kernel_rfl
theorem W4 (n s k:Nat) (P b c:Nat→Int) (H:aa):bk Tryd.prog (cd n) 100000 75 Tryd.f75 (KtG.kt 75) (il (se (se aH 94 [oz (s+1) (aY k P false)] (ar::H) (.ok (.slc 0 0 0 0 1 k none,fZ 0 k b::H))) 95 [.slc 0 0 0 0 1 k none] (fZ 0 k b::H) (.ok (.tup [],fZ 0 k c::H))) n 0) aS aR [(oz s (aY k P false),none)] H =
 Tr.reqP ([AV.fn (Fn.func 96) [] [AV.ptrT (some (Nat.succ s)) (Row.G [aY k P false]) 0]]=[AV.fn (Fn.func 96) [] [AV.ptrT (some (Nat.succ s)) (Row.G [aY k P false]) 0]]∧ar::H=ar::H) (Tr.reqP ([AV.slc 0 0 0 0 1 k none]=[AV.slc 0 0 0 0 1 k none]∧(bC [(0,an.row (rM b k))])::H=(bC [(0,an.row (rM b k))])::H) (Tr.req (cj 0 0) (Tr.req (dT 0 k 0 k) (Tr.ok ((aY k (dZ c 0) false,none),H))))):=by kernel_rfl
theorem SK (n s k:Nat) (P:Nat→Int) (H:aa):bk Tryd.prog (cd n) 100000 75 Tryd.f75 (KtG.kt 75) (il (se (se aH 94 [oz (s+1) (aY k P false)] (ar::H) (.ok (.nils,ar::H))) 95 [.nils] (ar::H) (.ok (.tup [],ar::H))) n 0) aS aR [(oz s (aY k P false),none)] H =
 Tr.reqP ([AV.fn (Fn.func 96) [] [AV.ptrT (some (Nat.succ s)) (Row.G [aY k P false]) 0]]=[AV.fn (Fn.func 96) [] [AV.ptrT (some (Nat.succ s)) (Row.G [aY k P false]) 0]]∧ar::H=ar::H) (Tr.reqP ([AV.nils]=[AV.nils]∧ar::H=ar::H) (Tr.ok ((AV.nils,none),H))):=by kernel_rfl
theorem W5 (n k:Nat) (P:Nat→Int) (H:aa):bk Tryd.prog (cd n) 100000 76 Tryd.f76 (KtG.kt 76) (il aH n 0) aS aR [(aY k P false,none)] H =
 Tr.ok ((AV.fn (Fn.func 96) [] [AV.ptrT (some 0) (Row.G [aY k P false]) 0],none),H):=by kernel_rfl
theorem SO (n:Nat) (H:aa):bk Tryd.prog (cd (n+9)) 100000 95 Tryd.f95 (KtG.kt 95) (il aH n 9) aS aR [(.nils,none)] H =
 Tr.ok ((AV.tup [],none),H):=by kernel_rfl
theorem Ud:∀ b,(0,b) ∈ aL (aV Tryd.f96)→b=.loop (part Tryd.f96 [1,0,0]):=ey (by kernel_rfl)
section
variable (n s k:Nat) (P:Nat→Int)
theorem UH (St:Nat→aa) (hk:k≤1000) (hr:∀ j,j<k→cd n (.round 1 1) [.int .i64 (P j)] (ar::St j)=some (.bool true,ar::St (j+1))) :
 cd (n+1) (.fn 96) [.yld 0 1,.ptrT (some s) (.G [aY k P false]) 0] (St 0)=some (.tup [],St k):=by
 have hx:=jM (n:=n) (f:=96) (nt:=16) (c:=part Tryd.f96 [1,0,0]) 0 (fun j=>AP k P (j:Int)) (fun j=>ar::St j) k (AP k P (Int.ofNat k)++[(8,.bool false)],ar::St k) (by omega) (fun j hj=>?_) ?_
 · refine bB (n:=n) Tryd.func96 rfl rfl rfl (Xf n s k P (St 0) (St k)) (aw _) (a8 (ai _ _) Ud (fun x h=>by rw[← Tr.ab h];simp only[eC.st,aP];exact hx)) (aj _ _) ?_
   exact Tr.al ⟨rfl,rfl⟩ (Tr.ah ⟨rfl,rfl⟩)
 · refine aB (t96 n k P (St j) (St (j+1)) (j:Int) (P j)) (Bj (aw n) (fun x hy=>by rw[← Tr.ab hy];exact hr j hj)) (ai _ _) (aj _ _) ?_
   rw[Aj,eN (by omega)]
   generalize St (j+1)=G' at *
   generalize St j=G at *
   exact wF
 · obtain ⟨x,h1,rfl⟩:=aB (Q:=fun x=>x=(.exit 0,AP k P (Int.ofNat k)++[(8,.bool false)],ar::St k)) (Sq n k P (St k) (Int.ofNat k)) (aw n) (ai _ _) (aj _ _) (by
    refine Tr.af (fun hc=>?_) (fun hc=>Tr.ah rfl);simp (disch:=omega) only[nV,nW] at hc;omega)
   exact h1
end
theorem yT {n d i:Nat} {args:List AV} {H H2 R:aa} {l l2:im} {fr fr1 fr2:aD} {lv:bF}
 (hg:ay H d i=(0,.loop l)) (hl:aG H d=false) (hs:l.state=.ready) (hp:jB l.nt (kC (d+1) l.fr) l.params (args.map (mE 1))=some fr)
 (h1:exec (iJ n l.fn l.nt (d+1) i) l.assign fr (ar::H)=some (.normal,fr1,ar::H))
 (h2:exec (iJ n l.fn l.nt (d+1) i) l.body fr1 (dv (ar::H) (d+1) i (0,.loop { l with state:=.busy }))=some (.normal,fr2,lv::H2)) (hg2:ay H2 d i=(0,.loop l2)) (hR:R=dv H2 d i (0,.loop { l2 with state:=.ready,pending:=none })) :
 cd (n+1) (.round d i) args H=some (.bool true,R):=by
 rw[hR]
 exact yU (P:=Tryd.prog) (ora:=gO) (KT:=KtG.kt) (fu:=100000) (e:=.normal) hg hl hs hp h1 (by rw[show ay (ar::H) (d+1) i=ay H d i from rfl];exact hg) hs h2 hg2
theorem iS {n f nt d i:Nat} {c:Code} {callR:bp} {bl:eJ} {rg:nA} {fr:aD} {H:aa} {T:Tr eC} (e:aJ (iJ n f nt d i) callR bl rg c (hints fr) H=T) (hC:callR.Ok (cd n)) (hB:bl.Ok (iJ n f nt d i) c) (hR:rg.Ok (iJ n f nt d i) c) {y:Ex×aD×aa} (h:T.all fun x=>x.st=y):exec (iJ n f nt d i) c fr H=some y:=by
 obtain ⟨x,h1,rfl⟩:=h;have:=fK (cx:=iJ n f nt d i) hC c hB hR (hints fr) H x (by rw[e];exact h1);rw[aP] at this;exact this
theorem nE {n f nt d i:Nat} {c:Code} {callR:bp} {bl:eJ} {rg:nA} {fr:aD} {H:aa} {T:Tr eC} {Q:Ex×aD×aa→Prop} (e:aJ (iJ n f nt d i) callR bl rg c (hints fr) H=T) (hC:callR.Ok (cd n)) (hB:bl.Ok (iJ n f nt d i) c) (hR:rg.Ok (iJ n f nt d i) c) (h:T.all fun x=>Q x.st):∃ y,exec (iJ n f nt d i) c fr H=some y∧Q y:=by
 obtain ⟨x,h1,h2⟩:=h;have:=fK (cx:=iJ n f nt d i) hC c hB hR (hints fr) H x (by rw[e];exact h1);rw[aP] at this;exact ⟨_,this,h2⟩
noncomputable def qa:Code:=part Tryd.f100 [1,0,1,0,0]
noncomputable def wK:Code:=part Tryd.f100 [1,0,1,0,1]
theorem R4:dG (aV Tryd.f100)=[(.tmp 6,#[7],qa,wK)]:=by kernel_rfl
noncomputable def dR (s:Nat) (A:AV):im:={ state:=.ready,pending:=none,fn:=100,nt:=13,fr:=nm s A,params:=[7],assign:=qa,body:=wK }
noncomputable def Oo (b:Nat×an):List Int→bF
 | []=>LU b
 | a::r=>FU r.length (r.length+1) (az (a::r)) b
theorem OH (n s k:Nat) (P:Nat→Int) (L:List Int) (H:aa) (x:Int) (hL:L.length≤1000) :
 cd (n+1) (.round 1 1) [.int .i64 x] (ar::Oo (0,.loop (dR s (aY k P false))) L::H)=some (.bool true,ar::Oo (0,.loop (dR s (aY k P false))) (L++[x])::H):=by
 cases L with
 | nil =>
   have h1:exec (iJ n 100 13 2 1) qa [(2,.ptr 2 0 0 0),(6,oz (s+3) (aY k P false)),(7,.int .i64 x)] (ar::ar::LU (0,.loop (dR s (aY k P false)))::H)=some (.normal,[(2,.ptr 2 0 0 0),(5,.int .i64 x)],ar::ar::LU (0,.loop (dR s (aY k P false)))::H) :=
    iS (J7 n s k P _ H x) (aw n) (ai _ _) (aj _ _) (Tr.ah rfl)
   obtain ⟨y,h2,h3⟩:=nE (Q:=fun y=>y=(.normal,[],⟨false,[(0,.row (.I .i64 [x])),(0,.dead)]⟩::ar::FU 0 1 (az [x]) (0,.loop { dR s (aY k P false) with state:=.busy })::H)) (OQ n { dR s (aY k P false) with state:=.busy } H x) (aw n) (ai _ _) (aj _ _) (by
    generalize dR s (aY k P false)=L at *;exact wF)
   subst h3
   exact yT (l:=dR s (aY k P false)) (l2:={ dR s (aY k P false) with state:=.busy }) rfl rfl rfl rfl h1 h2 rfl rfl
 | cons a r =>
   simp only[List.length_cons] at hL
   have h1:exec (iJ n 100 13 2 1) qa [(2,.ptr 2 0 0 0),(6,oz (s+3) (aY k P false)),(7,.int .i64 x)] (ar::ar::FU r.length (r.length+1) (az (a::r)) (0,.loop (dR s (aY k P false)))::H)=some (.normal,[(2,.ptr 2 0 0 0),(5,.int .i64 x)],ar::ar::FU r.length (r.length+1) (az (a::r)) (0,.loop (dR s (aY k P false)))::H) :=
    iS (J7 n s k P _ H x) (aw n) (ai _ _) (aj _ _) (Tr.ah rfl)
   have e1:=mQ (a::r) x
   simp only[List.length_cons] at e1
   have e3:aq (r.length+1) 1=r.length+1+1:=by rw[aK]
   obtain ⟨y,h2,h3⟩:=nE (Q:=fun y=>y=(.normal,[],⟨false,[(0,.row (.I .i64 [x]))]⟩::ar::FU (r.length+1) (r.length+1+1) (az (a::r++[x])) (0,.loop { dR s (aY k P false) with state:=.busy })::H)) (OR n r.length (r.length+1) (az (a::r)) { dR s (aY k P false) with state:=.busy } H x) (aw n) (ai _ _) (aj _ _) (by
    rw[e1,e3];generalize dR s (aY k P false)=L at *;generalize az (a::r++[x])=Y at *;exact wF)
   subst h3
   have e4:(r++[x]).length=r.length+1:=by simp
   refine yT (l:=dR s (aY k P false)) (l2:={ dR s (aY k P false) with state:=.busy }) rfl rfl rfl rfl h1 h2 rfl ?_
   show ar::FU (r++[x]).length ((r++[x]).length+1) (az (a::(r++[x]))) _::H=_
   rw[e4];rfl
def jX (P:Nat→Int) (k:Nat):List Int:=(List.range k).map P
theorem I4 (P:Nat→Int) (k:Nat):jX P (k+1)=jX P k++[P k]:=by unfold jX;rw[List.range_succ,List.map_append];rfl
theorem iG (P:Nat→Int) (k:Nat):(jX P k).length=k:=by simp[jX]
theorem Gs {n f:Nat} {args:List AV} {H:aa} {x:AV×aa} (hf:f=94∨f=100) (h:nu Tryd.prog KtG.kt 100000 f (cd n) args H=some x):cd (n+1) (.fn f) args H=some x:=by
 refine oI ?_;have e:gO (cd n) f args H=(match nu Tryd.prog KtG.kt 100000 f (cd n) args H with
  | some x=>some x
  | none=>tj [⟨15,[],.bool true⟩] (cd n) f args H):=by rcases hf with rfl | rfl<;>rfl
 rw[e,h]
theorem Gr {n f:Nat} {args:List AV} {H:aa} (hf:f=94∨f=100) (h:nu Tryd.prog KtG.kt 100000 f (cd n) args H=none):gO (cd n) f args H=none:=by
 have e:gO (cd n) f args H=(match nu Tryd.prog KtG.kt 100000 f (cd n) args H with
  | some x=>some x
  | none=>tj [⟨15,[],.bool true⟩] (cd n) f args H):=by rcases hf with rfl | rfl<;>rfl
 rw[e,h];rcases hf with rfl | rfl<;>exact JZ rfl rfl _ _ _
theorem Fw {n f:Nat} {args:List AV} {l1:bF} {H:aa} {fn:Func} {c:Code} (h94:f=94∨f=100) (hf:Tryd.prog.funcs[f]?=some fn) (hb:fn.body=some c) (hle:Nat.ble args.length fn.ntmps=true) {e:Ex} {fr:aD} {l:bF} {j ver off sz len:Nat} {cap:Option Nat} {q:Row}
 (h:exec (bP n f fn.ntmps) c (dY 0 args) (⟨false,[]⟩::l1::H)=some (e,fr,l::l1::H)) (he:e=.normal∨e=.ret) (hv:gq Tryd.prog fr (l::l1::H) fn.results.toList=some [.slc 0 j ver off sz len cap]) (hq:cO (l::l1::H) 0 j ver=some q) (h0:l.lock=false) (h1:l1.lock=false) :
 cd (n+1) (.fn f) args (l1::H)=some (.slc 0 l1.bs.length 0 off sz len cap,bx (l1::H) 0 (.row (jk 1 q))):=by
 refine Gs h94 ?_
 unfold nu
 rw[hf];dsimp only
 rw[hb];dsimp only
 rw[if_pos hle,eF]
 rw[show exec (⟨Tryd.prog,cd n,100000,f,fn.ntmps,KtG.kt f,none⟩:Cx) c (dY 0 args) (⟨false,[]⟩::l1::H)=_ from h]
 dsimp only
 rcases he with rfl | rfl<;>(simp only[hv,hq,h0,h1,Bool.or_self,Bool.false_eq_true,if_false])
theorem Cd {n f:Nat} {args:List HV} {l1:bF} {H:aa} {fn:Func} {c:Code} (h94:f=94∨f=100) (hf:Tryd.prog.funcs[f]?=some fn) (hb:fn.body=some c) (hle:Nat.ble args.length fn.ntmps=true) {e:Ex} {fr:aD} {l:bF}
 (h:exec (bP n f fn.ntmps) c (dY 0 (jL args)) (⟨false,[]⟩::l1::H)=some (e,fr,l::l1::H)) (he:e=.normal∨e=.ret) (hv:gq Tryd.prog fr (l::l1::H) fn.results.toList=some [.nils])
 {callR:bp} {bl:eJ} {rg:nA} {T:Tr (HV×aa)} (et:bk Tryd.prog (cd n) 100000 f fn (KtG.kt f) callR bl rg args (l1::H)=T) (hC:callR.Ok (cd n)) (hB:bl.Ok (bP n f fn.ntmps) (aV fn)) (hR:rg.Ok (bP n f fn.ntmps) (aV fn)) (hT:T.all fun y=>y.1.1=.nils∧y.2=l1::H):cd (n+1) (.fn f) (jL args) (l1::H)=some (.nils,l1::H):=by
 have hl:(jL args).length=args.length:=by unfold jL;rw[jy];exact List.length_map ..
 have ho:nu Tryd.prog KtG.kt 100000 f (cd n) (jL args) (l1::H)=none:=by
  unfold nu;rw[hf];dsimp only;rw[hb];dsimp only;rw[if_pos (by rw[hl];exact hle),eF];rw[show exec (⟨Tryd.prog,cd n,100000,f,fn.ntmps,KtG.kt f,none⟩:Cx) c (dY 0 (jL args)) (⟨false,[]⟩::l1::H)=_ from h];dsimp only;rcases he with rfl | rfl<;>simp only[hv]
 obtain ⟨y,h1,h2,h3⟩:=hT
 have:=oH hf (by rw[hb];rfl) (Gr h94 ho) hle hC hB hR (show (bk Tryd.prog (cd n) 100000 f fn (KtG.kt f) callR bl rg args (l1::H)).run=some y by rw[et];exact h1)
 rw[h2,h3] at this
 exact this
section
variable (n s k:Nat) (P:Nat→Int) (H:aa)
theorem MR (hk:k≤1000):exec (bP (n+2) 100 13) (.rangeFunc (.tmp 6) #[7] qa wK) (nm s (aY k P false)) (⟨false,[(0,.row (.G [.nils]))]⟩::H)=some (.normal,nm s (aY k P false),dK (Oo (0,.loop (dR s (aY k P false))) (jX P k)::H) 0 1) :=
 tw (cx:=bP (n+2) 100 13) (l:=dR s (aY k P false)) (f:=.tmp 6) (ps:=#[7]) (fr:=nm s (aY k P false)) (H:=⟨false,[(0,.row (.G [.nils]))]⟩::H) (g:=96) (a:=[]) (b:=[.ptrT (some (s+1)) (.G [aY k P false]) 0]) rfl rfl rfl
  (UH (n+1) (s+1) k P (fun j=>Oo (0,.loop (dR s (aY k P false))) (jX P j)::H) hk (fun j hj=>by
    show _=some (_,ar::Oo _ (jX P (j+1))::H);rw[I4];exact OH n s k P (jX P j) H (P j) (by rw[iG];omega))) (by
    cases e:jX P k with
    | nil=>rfl
    | cons a r=>rfl) rfl rfl
theorem Gk {c:Nat} {fr:aD} {G:aa} {Y:eC} (hx:exec (bP c 100 13) (.rangeFunc (.tmp 6) #[7] qa wK) fr G=some Y.st):(Hn aR (fun _=>true) fr G (.ok Y)).Ok (bP c 100 13) (aV Tryd.f100) :=
 Bm (aj _ _) (fun f ps a b _ hm x hx2=>by
  rw[R4] at hm;simp only[List.mem_cons,Prod.mk.injEq,List.not_mem_nil,or_false] at hm;obtain ⟨rfl,rfl,rfl,rfl⟩:=hm;rw[← Tr.ab hx2];exact hx)
theorem PQ (hk:k≤1000) (hk1:1≤k):cd (n+3) (.fn 100) [.nils,oz s (aY k P false)] (ar::H)=some (.slc 0 0 0 0 1 k none,fZ 0 k (az (jX P k))::H):=by
 have hx:=MR n s k P (ar::H) hk;have hl:=iG P k;cases e:jX P k with
 | nil=>rw[e] at hl;simp at hl;omega
 | cons a r =>
   rw[e] at hx hl;have hr:r.length+1=k:=by simpa using hl
   obtain ⟨x,hb,rfl⟩:=aB (Q:=fun x=>x=(.ret,[(4,.slc 0 2 r.length 0 1 (r.length+1) none)],FU r.length (r.length+1) (az (a::r)) (0,.dead)::ar::H)) (SR (n+2) s r.length k (r.length+1) P (az (a::r)) (ar::H)) (aw _) (ai _ _) (Gk (by simp only[eC.st,aP];exact hx)) (by
    exact wF)
   have e8:Tryd.f100.ntmps=13:=by kernel_rfl
   have eb:Tryd.f100.body=some (aV Tryd.f100):=by kernel_rfl
   have er:Tryd.f100.results.toList=[.tmp 4]:=by kernel_rfl
   have:=Fw (n:=n+2) (fn:=Tryd.f100) (c:=aV Tryd.f100) (args:=[.nils,oz s (aY k P false)]) (l1:=ar) (H:=H) (.inr rfl) Tryd.func100 eb (by rw[e8];rfl) (e:=.ret) (fr:=[(4,.slc 0 2 r.length 0 1 (r.length+1) none)]) (l:=FU r.length (r.length+1) (az (a::r)) (0,.dead)) (j:=2) (ver:=r.length) (q:=.M [.arr .i64 (az (a::r)) (r.length+1)]) (by rw[e8];exact hb) (.inr rfl) (by rw[er];rfl) (by unfold FU;simp[cO,ay,au]) rfl rfl;rw[hr] at this;exact this
theorem JE:cd (n+3) (.fn 100) [.nils,oz s (aY 0 P false)] (ar::H)=some (.nils,ar::H):=by
 have hx:=MR n s 0 P (ar::H) (by omega);obtain ⟨x,hb,rfl⟩:=aB (Q:=fun x=>x=(.ret,[(4,.nils)],LU (0,.dead)::ar::H)) (Pu (n+2) s 0 P (ar::H)) (aw _) (ai _ _) (Gk (by simp only[eC.st,aP];exact hx)) (by
  exact wF)
 have e8:Tryd.f100.ntmps=13:=by kernel_rfl
 have eb:Tryd.f100.body=some (aV Tryd.f100):=by kernel_rfl
 have er:Tryd.f100.results.toList=[.tmp 4]:=by kernel_rfl
 refine Cd (n:=n+2) (fn:=Tryd.f100) (c:=aV Tryd.f100) (l1:=ar) (H:=H) (.inr rfl) Tryd.func100 eb (by rw[e8];rfl) (by rw[e8];exact hb) (.inr rfl) (by rw[er];rfl) (Pp (n+2) s 0 P (ar::H)) (aw _) (ai _ _) (Gk (by simp only[eC.st,aP];exact MR n s 0 P (ar::H) (by omega))) ?_;exact wF
theorem UF (hk:k≤1000) (hk1:1≤k):cd (n+4) (.fn 94) [oz s (aY k P false)] (ar::H)=some (.slc 0 0 0 0 1 k none,fZ 0 k (az (jX P k))::H):=by
 obtain ⟨x,hb,rfl⟩:=aB (Q:=fun x=>x=(.ret,[(2,.slc 0 0 0 0 1 k none)],fZ 0 k (az (jX P k))::ar::H)) (Xi (n+3) s k k P (az (jX P k)) (ar::H)) (bM _ _ (dN (bj _) (fun x hx=>by rw[← Tr.ab hx];exact PQ n (s+1) k P (ar::H) hk hk1))) (ai _ _) (aj _ _) (by
  exact wF)
 have e8:Tryd.f94.ntmps=5:=by kernel_rfl
 have eb:Tryd.f94.body=some (aV Tryd.f94):=by kernel_rfl
 have er:Tryd.f94.results.toList=[.tmp 2]:=by kernel_rfl
 exact Fw (n:=n+3) (fn:=Tryd.f94) (c:=aV Tryd.f94) (args:=[oz s (aY k P false)]) (l1:=ar) (H:=H) (.inl rfl) Tryd.func94 eb (by rw[e8];rfl) (e:=.ret) (fr:=[(2,.slc 0 0 0 0 1 k none)]) (l:=fZ 0 k (az (jX P k))) (j:=0) (ver:=0) (q:=.M [.arr .i64 (az (jX P k)) k]) (by rw[e8];exact hb) (.inr rfl) (by rw[er];rfl) (by unfold fZ;simp[cO,ay,au]) rfl rfl
theorem P2:cd (n+4) (.fn 94) [oz s (aY 0 P false)] (ar::H)=some (.nils,ar::H):=by
 obtain ⟨x,hb,rfl⟩:=aB (Q:=fun x=>x=(.ret,[(2,.nils)],ar::ar::H)) (SS (n+3) s 0 P (ar::H)) (bM _ _ (dN (bj _) (fun x hx=>by rw[← Tr.ab hx];exact JE n (s+1) P (ar::H)))) (ai _ _) (aj _ _) (by
  exact wF)
 have e8:Tryd.f94.ntmps=5:=by kernel_rfl
 have eb:Tryd.f94.body=some (aV Tryd.f94):=by kernel_rfl
 have er:Tryd.f94.results.toList=[.tmp 2]:=by kernel_rfl
 refine Cd (n:=n+3) (fn:=Tryd.f94) (c:=aV Tryd.f94) (l1:=ar) (H:=H) (.inl rfl) Tryd.func94 eb (by rw[e8];rfl) (by rw[e8];exact hb) (.inr rfl) (by rw[er];rfl) (SN (n+3) s 0 P (ar::H)) (bM _ _ (dN (bj _) (fun x hx=>by rw[← Tr.ab hx];exact JE n (s+1) P (ar::H)))) (ai _ _) (aj _ _) ?_;exact wF
theorem It (A:List Int):((List.range A.length).map fun q=>az A (0+q))=A:=by
 apply List.ext_getElem (by simp);intro i h1 h2;simp only[List.getElem_map,List.getElem_range,Nat.zero_add,qd,List.getD_eq_getElem?_getD,List.getElem?_eq_getElem h2,Option.getD_some]
theorem lr (L:List Int):(ga L).length=L.length:=List.length_mergeSort L
theorem Mt (A:List Int):Ew ga (az A) 0 A.length=az (ga A):=by
 funext x;have hl:(ga A).length=A.length:=lr A;unfold Ew;rw[It,qd,qd];by_cases h:x<A.length
 · rw[if_pos (by omega),Nat.sub_zero]
 · rw[if_neg (by omega),List.getD_eq_getElem?_getD,List.getD_eq_getElem?_getD,List.getElem?_eq_none (by omega),List.getElem?_eq_none (by omega)]
theorem UG (k:Nat) (a:Nat→Int) (h1:0<k) (h2:k<4611686018427387904):cd (n+1) (.fn 95) [.slc 0 0 0 0 1 k none] (fZ 0 k a::H)=some (.tup [],fZ 0 k (Ew ga a 0 k)::H):=by
 refine oI ?_;show GJ ga [.slc 0 0 0 0 1 k none] (fZ 0 k a::H)=_;rw[show GJ ga [.slc 0 0 0 0 1 k none] (fZ 0 k a::H)=(if aG (fZ 0 k a::H) 0=false∧0<k∧k<4611686018427387904∧0+k≤k then some (.tup [],dv (fZ 0 k a::H) 0 0 (0,.row (.M [.arr .i64 (Ew ga a 0 k) k]))) else none) from rfl];rw[if_pos ⟨rfl,h1,h2,by omega⟩];rfl
noncomputable def MB (P:Nat→Int) (k:Nat):AV:=dA (ga (jX P k))
theorem Uv (hk:k≤1000):cd (n+11) (.fn 75) [oz s (aY k P false)] H=some (MB P k,H):=by
 cases k with
 | zero =>
   have h95:cd (n+10) (.fn 95) [.nils] (ar::H)=some (.tup [],ar::H):=by
    refine oU (n:=n+9) Tryd.func95 rfl (fun _ _=>rfl) rfl (SO n (ar::H)) (fc n 9) (ai _ _) (aj _ _) ?_;exact Tr.ah ⟨rfl,rfl⟩
   have e0:MB P 0=.nils:=by
    have h:ga (jX P 0)=[]:=List.eq_nil_of_length_eq_zero (by rw[lr,iG]);unfold MB;rw[h];rfl
   rw[e0];refine bB (n:=n+10) Tryd.func75 rfl rfl rfl (SK (n+10) s 0 P H) (bM _ _ (dN (dN (bj _) (fun x hx=>by rw[← Tr.ab hx];exact P2 (n+6) (s+1) P H)) (fun x hx=>by rw[← Tr.ab hx];exact h95))) (ai _ _) (aj _ _) ?_;exact wF
 | succ k =>
   have e:MB P (k+1)=aY (k+1) (az (ga (jX P (k+1)))) false:=JG _ k (by rw[lr,iG]);have h95:=UG (n+9) H (k+1) (az (jX P (k+1))) (by omega) (by omega);have er:=Mt (jX P (k+1));rw[iG] at er;rw[er] at h95;rw[e];refine bB (n:=n+10) Tryd.func75 rfl rfl rfl (W4 (n+10) s (k+1) P (az (jX P (k+1))) (az (ga (jX P (k+1)))) H) (bM _ _ (dN (dN (bj _) (fun x hx=>by rw[← Tr.ab hx];exact UF (n+6) (s+1) (k+1) P H hk (by omega))) (fun x hx=>by rw[← Tr.ab hx];exact h95))) (ai _ _) (aj _ _) ?_;rw[dH];exact wF
theorem Uw:cd (n+1) (.fn 76) [aY k P false] H=some (oz 0 (aY k P false),H):=by
 refine bB (n:=n) Tryd.func76 rfl rfl rfl (W5 n k P H) (aw _) (ai _ _) (aj _ _) ?_;exact Tr.ah ⟨rfl,rfl⟩
end
end Go.Eng
end
section
namespace Go.Eng
open Go.Proofs Go.Eng.Gall
noncomputable def uv (m:Nat) (z S:Nat→Int) (R:Row) (j:Int):aD:=[(1,aY m z false),(2,.ptr 0 0 0 0),(5,.ptrT none R 0),(7,aY m S false),(26,aY m S false),(27,.int .i64 (Int.ofNat m)),(28,.int .i64 j)]
noncomputable def wc (m:Nat) (z:Nat→Int) (R:Row) (j:Int):aD:=[(1,aY m z false),(5,.ptrT none R 0),(43,aY m z false),(44,.int .i64 (Int.ofNat m)),(45,.int .i64 j)]
noncomputable def xP (m:Nat) (z:Nat→Int) (R:Row) (X j:Int):aD:=[(5,.ptrT none R 0),(12,.int .u64 X),(56,aY m z false),(57,.int .i64 (Int.ofNat m)),(58,.int .i64 j)]
theorem SE (n:Nat) (dr:Int) (lc:Nat) (zc:Nat→Int) (lb:Nat) (zb:Nat→Int) (W B:Nat→Int) (G:aa) (C:List AV→Prop):bk Tryd.prog (cd (n+2)) 100000 49 Tryd.f49 (KtG.kt 49) (il (jV (tX aH 22 [bG dr lc zc lb zb] (.int .i64 (Int.ofNat 0))) 62 (fun x=>some (C x,shV dr lc zc lb zb W B))) n 2) aS aR [(bG dr lc zc lb zb,none),(.nils,none)] G =
 Tr.reqP ([bG dr lc zc lb zb]=[bG dr lc zc lb zb]) (Tr.ite (aE (bw (Int.ofNat 0) (Int.ofNat 0))) (Tr.ok ((AV.tup [AV.nilp,iI 0],none),G)) (Tr.reqP (C [bG dr lc zc lb zb]) (Tr.ok ((AV.tup [shV dr lc zc lb zb W B,iI 0],none),G)))):=by kernel_rfl
theorem W1 (n:Nat) (dr:Int) (lc:Nat) (zc:Nat→Int) (lb:Nat) (zb:Nat→Int) (W B:Nat→Int) (G:aa) (c p:Int):bk Tryd.prog (cd n) 100000 71 Tryd.f71 (KtG.kt 71) (il aH n 0) aS aR [(shV dr lc zc lb zb W B,none),(.int .i64 c,none),(.int .i64 p,none)] G =
 Tr.req (bR c 10) (Tr.req (dT (av 3 c 2) 1 3 20) (Tr.req (dT (aq (av 3 c 2) 1) 1 3 20) (Tr.ite (dJ (W (cY (av 3 c 2) 3)) p) (Tr.ok ((AV.bool (dJ p (W (cY (aq (av 3 c 2) 1) 3))),none),G)) (Tr.ok ((AV.bool false,some 1),G))))):=by kernel_rfl
theorem OX (n:Nat) (r:Row) (G:aa) (m:Nat) (z S:Nat→Int) (R:Row) (j:Int):aJ (bP n 39 76) (il aH n 0) aS aR (part Tryd.f39 [1,1,1,1,0,1,0,0]) (hints (uv m z S R j)) (⟨false,[(0,.row r)]⟩::G) =
 Tr.ite (bH j (Int.ofNat m)) (Tr.req (bR j m) (Tr.req (cH (av 0 j 1) m) (Tr.ite (aE (bw (S (av 0 j 1)) j)) (Tr.ok (Ex.ret,[(4,iI 15,some 1)],(bC [(0,an.row r)])::G)) (Tr.ok (Ex.normal,[(1,aY m z false,none),(2,AV.ptr 0 0 0 0,none),(5,AV.ptrT none R 0,none),(7,aY m S false,none),(26,aY m S false,none),(27,iI m,none),(28,AV.int .i64 (a6 .i64 j (Int.ofNat 1)),none)],(bC [(0,an.row r)])::G))))) (Tr.ok (Ex.exit 0,[(1,aY m z false,none),(2,AV.ptr 0 0 0 0,none),(5,AV.ptrT none R 0,none),(7,aY m S false,none),(26,aY m S false,none),(27,iI m,none),(28,AV.int .i64 j,none),(29,AV.bool false,some 1)],(bC [(0,an.row r)])::G)):=by kernel_rfl
theorem Sf (n:Nat) (r:Row) (G:aa) (m:Nat) (z:Nat→Int) (R:Row) (j:Int) (c:Int) (q:Bool):aJ (bP n 39 76) (il (tX aH 71 [(.ptrT none R 0),.int .i64 c,.int .i64 j] (.bool q)) n 0) aS aR (part Tryd.f39 [1,1,1,1,1,1,0,1,0,0]) (hints (wc m z R j)) (⟨false,[(0,.row r)]⟩::G) =
 Tr.ite (bH j (Int.ofNat m)) (Tr.req (bR j m) (Tr.req (cH (av 0 j 1) m) (Tr.reqP ([AV.ptrT none R 0,AV.int .i64 (z (av 0 j 1)),AV.int .i64 j]=[AV.ptrT none R 0,AV.int .i64 c,AV.int .i64 j]) (Tr.ite (aE q) (Tr.ok (Ex.ret,[(4,iI 21,some 1)],(bC [(0,an.row r)])::G)) (Tr.ok (Ex.normal,[(1,aY m z false,none),(5,AV.ptrT none R 0,none),(43,aY m z false,none),(44,iI m,none),(45,AV.int .i64 (a6 .i64 j (Int.ofNat 1)),none)],(bC [(0,an.row r)])::G)))))) (Tr.ok (Ex.exit 2,[(1,aY m z false,none),(5,AV.ptrT none R 0,none),(43,aY m z false,none),(44,iI m,none),(45,AV.int .i64 j,none),(46,AV.bool false,some 1)],(bC [(0,an.row r)])::G)):=by kernel_rfl
theorem OY (n:Nat) (r:Row) (G:aa) (m:Nat) (z:Nat→Int) (R:Row) (j:Int):aJ (bP n 39 76) (il aH n 0) aS aR (part Tryd.f39 [1,1,1,1,1,1,0,1,0,0]) (hints (wc m z R j)) (⟨false,[(0,.row r)]⟩::G) =
 Tr.ite (bH j (Int.ofNat m)) (Tr.req (bR j m) (Tr.req (cH (av 0 j 1) m) Tr.bad)) (Tr.ok (Ex.exit 2,[(1,aY m z false,none),(5,AV.ptrT none R 0,none),(43,aY m z false,none),(44,iI m,none),(45,AV.int .i64 j,none),(46,AV.bool false,some 1)],(bC [(0,an.row r)])::G)):=by kernel_rfl
theorem OZ (n:Nat) (dr:Int) (lc:Nat) (zc:Nat→Int) (lb:Nat) (zb:Nat→Int) (W B:Nat→Int) (r:Row) (G:aa) (m:Nat) (z:Nat→Int) (X j:Int):aJ (bP n 39 76) (il aH n 0) aS aR (part Tryd.f39 [1,1,1,1,1,1,1,1,0,1,0,0]) (hints (xP m z (shR dr lc zc lb zb W B) X j)) (⟨false,[(0,.row r)]⟩::G) =
 Tr.ite (bH j (Int.ofNat m)) (Tr.req (bR j m) (Tr.req (cH (av 0 j 1) m) (Tr.req (bR (z (av 0 j 1)) 10) (Tr.req (dT (av 23 (z (av 0 j 1)) 1) 1 23 10) (Tr.ite (aE (bw (Ah IntKind.u64 (B (cY (av 23 (z (av 0 j 1)) 1) 23)) X) (Int.ofNat 0))) (Tr.ok (Ex.ret,[(4,iI 16,some 1)],(bC [(0,an.row r)])::G)) (Tr.req (dJ (Int.ofNat 0) (z (av 0 j 1))) (Tr.ok (Ex.normal,[(5,shV dr lc zc lb zb W B,none),(12,AV.int IntKind.u64 (rH IntKind.u64 X (ef IntKind.u64 (Int.ofNat 1) (z (av 0 j 1)))),none),(56,aY m z false,none),(57,iI m,none),(58,AV.int .i64 (a6 .i64 j (Int.ofNat 1)),none)],(bC [(0,an.row r)])::G)))))))) (Tr.ok (Ex.exit 4,[(5,shV dr lc zc lb zb W B,none),(12,AV.int IntKind.u64 X,none),(56,aY m z false,none),(57,iI m,none),(58,AV.int .i64 j,none),(59,AV.bool false,some 1)],(bC [(0,an.row r)])::G)):=by kernel_rfl
theorem WT (n:Nat) (dr:Int) (lc:Nat) (zc:Nat→Int) (lb:Nat) (zb:Nat→Int) (H:aa) (m:Nat) (z S:Nat→Int) (R:Row) (e q r:Bool) (X:Int):bk Tryd.prog (cd n) 100000 39 Tryd.f39 (KtG.kt 39) (il (tX (tX (tX aH 49 [bG dr lc zc lb zb,.nils] (.tup [.ptrT none R 0,.int .i64 (Int.ofNat 0)])) 76 [aY m z false] (oz 0 (aY m z false))) 75 [oz 0 (aY m z false)] (aY m S false)) n 0) (cM (cM (cM aS 0 (uv m z S R (Int.ofNat 0)) (gi dr lc zc lb zb::H) (.ite e (.ok (.ret,[(4,.int .i64 (Int.ofNat 15),none)],gi dr lc zc lb zb::H)) (.ok (.normal,hints (uv m z S R (Int.ofNat m)++[(29,.bool false)]),gi dr lc zc lb zb::H)))) 2 (wc m z R (Int.ofNat 0)) (gi dr lc zc lb zb::H) (.ite q (.ok (.ret,[(4,.int .i64 (Int.ofNat 21),none)],gi dr lc zc lb zb::H)) (.ok (.normal,hints (wc m z R (Int.ofNat m)++[(46,.bool false)]),gi dr lc zc lb zb::H)))) 4 (xP m z R (Int.ofNat 0) (Int.ofNat 0)) (gi dr lc zc lb zb::H) (.ite r (.ok (.ret,[(4,.int .i64 (Int.ofNat 16),none)],gi dr lc zc lb zb::H)) (.ok (.normal,hints (xP m z R X (Int.ofNat m)++[(59,.bool false)]),gi dr lc zc lb zb::H)))) aR [(bG dr lc zc lb zb,none),(aY m z false,none)] H =
 (fun (Z0:bF)=>((fun (Z1:aD)=>((fun (Z2:aD)=>((fun (Z3:aD)=>Tr.reqP ([bG dr lc zc lb zb,AV.nils]=[bG dr lc zc lb zb,AV.nils]) (Tr.ite (aE (bw (Int.ofNat 0) (Int.ofNat 0))) (Tr.ok ((iI 0,none),H)) (Tr.reqP ([aY m z false]=[aY m z false]) (Tr.reqP ([AV.fn (Fn.func 96) [] [AV.ptrT (some 0) (Row.G [aY m z false]) 0]]=[AV.fn (Fn.func 96) [] [AV.ptrT (some 0) (Row.G [aY m z false]) 0]]) (Tr.reqP (Z1=Z1∧Z0::H=Z0::H) (Tr.ite e (Tr.ok ((iI 15,none),H)) (Tr.ite (aE (bw (Int.ofNat m) (Int.ofNat lc))) (Tr.ok ((iI 15,some 1),H)) (Tr.reqP (Z3=Z3∧Z0::H=Z0::H) (Tr.ite q (Tr.ok ((iI 21,none),H)) (Tr.reqP (Z2=Z2∧Z0::H=Z0::H) (Tr.ite r (Tr.ok ((iI 16,none),H)) (Tr.ok ((iI 0,some 1),H))))))))))))) [(1,aY m z false),(5,AV.ptrT none R 0),(43,aY m z false),(44,iI m),(45,iI 0)])) [(5,AV.ptrT none R 0),(12,AV.int IntKind.u64 (Int.ofNat 0)),(56,aY m z false),(57,iI m),(58,iI 0)])) [(1,aY m z false),(2,AV.ptr 0 0 0 0),(5,AV.ptrT none R 0),(7,aY m S false),(26,aY m S false),(27,iI m),(28,iI 0)])) (bC [(0,eV dr lc zc lb zb)]):=by kernel_rfl
theorem SC (n:Nat) (dr:Int) (lc:Nat) (zc:Nat→Int) (lb:Nat) (zb:Nat→Int) (H:aa) (m:Nat) (z S:Nat→Int) (R:Row) (e:Bool):bk Tryd.prog (cd n) 100000 39 Tryd.f39 (KtG.kt 39) (il (tX (tX (tX aH 49 [bG dr lc zc lb zb,.nils] (.tup [.ptrT none R 0,.int .i64 (Int.ofNat 0)])) 76 [aY m z false] (oz 0 (aY m z false))) 75 [oz 0 (aY m z false)] (aY m S false)) n 0) (fC (fC (cM aS 0 (uv m z S R (Int.ofNat 0)) (gi dr lc zc lb zb::H) (.ite e (.ok (.ret,[(4,.int .i64 (Int.ofNat 15),none)],gi dr lc zc lb zb::H)) (.ok (.normal,hints (uv m z S R (Int.ofNat m)++[(29,.bool false)]),gi dr lc zc lb zb::H)))) 2) 4) aR [(bG dr lc zc lb zb,none),(aY m z false,none)] H =
 (fun (Z0:aD)=>Tr.reqP ([bG dr lc zc lb zb,AV.nils]=[bG dr lc zc lb zb,AV.nils]) (Tr.ite (aE (bw (Int.ofNat 0) (Int.ofNat 0))) (Tr.ok ((iI 0,none),H)) (Tr.reqP ([aY m z false]=[aY m z false]) (Tr.reqP ([AV.fn (Fn.func 96) [] [AV.ptrT (some 0) (Row.G [aY m z false]) 0]]=[AV.fn (Fn.func 96) [] [AV.ptrT (some 0) (Row.G [aY m z false]) 0]]) (Tr.reqP (Z0=Z0∧(bC [(0,eV dr lc zc lb zb)])::H=(bC [(0,eV dr lc zc lb zb)])::H) (Tr.ite e (Tr.ok ((iI 15,none),H)) (Tr.ite (aE (bw (Int.ofNat m) (Int.ofNat lc))) (Tr.ok ((iI 15,some 1),H)) Tr.bad))))))) [(1,aY m z false),(2,AV.ptr 0 0 0 0),(5,AV.ptrT none R 0),(7,aY m S false),(26,aY m S false),(27,iI m),(28,iI 0)]:=by kernel_rfl
theorem Sb (n:Nat) (dr:Int) (lc:Nat) (zc:Nat→Int) (lb:Nat) (zb:Nat→Int) (H:aa) (m:Nat) (z S:Nat→Int) (R:Row):bk Tryd.prog (cd n) 100000 39 Tryd.f39 (KtG.kt 39) (il (tX (tX (tX aH 49 [bG dr lc zc lb zb,.nils] (.tup [.ptrT none R 0,.int .i64 (Int.ofNat 0)])) 76 [aY 0 z false] (oz 0 (aY 0 z false))) 75 [oz 0 (aY 0 z false)] .nils) n 0) (fC (fC aS 2) 4) aR [(bG dr lc zc lb zb,none),(aY 0 z false,none)] H =
 Tr.reqP ([bG dr lc zc lb zb,AV.nils]=[bG dr lc zc lb zb,AV.nils]) (Tr.ite (aE (bw (Int.ofNat 0) (Int.ofNat 0))) (Tr.ok ((iI 0,none),H)) (Tr.reqP ([aY 0 z false]=[aY 0 z false]) (Tr.reqP ([AV.fn (Fn.func 96) [] [AV.ptrT (some 0) (Row.G [aY 0 z false]) 0]]=[AV.fn (Fn.func 96) [] [AV.ptrT (some 0) (Row.G [aY 0 z false]) 0]]) (Tr.ite (aE (bw (Int.ofNat 0) (Int.ofNat lc))) (Tr.ok ((iI 15,some 1),H)) Tr.bad)))):=by kernel_rfl
end Go.Eng
end
