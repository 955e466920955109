/- Gall: bounds, the program's, whole. -/
import Derived.Test.YtgphpjdchnfjlaaDoorV5Gacx5
import Derived.Test.YtgphpjdchnfjlaaDoorV5EngRnFx7
set_option linter.unusedVariables false
set_option linter.unusedSimpArgs false
set_option maxRecDepth 100000
section
namespace Go.Eng
open Int (ofNat)
open Go.Proofs Go.Eng.Gall
section
variable (n:Nat) (O:Int) (U:Nat) (Z:Nat→Int) (V:Nat) (J:Nat→Int) (W:Nat→Int) (b:Nat→Nat) (H:aa)
theorem Sq (hS:eN U W b) (q r:Nat→Int) (t':Nat) (hr:Bd U b W t' r) (t:Int):exec (bJ (n+1) 56 69) (.block 2 (.loop (part Tryd.f56 [1,1,0,1,0,0,1,1,0,0,1,0,1,0,0]))) (yA (shV O U Z V J W (bI b)) U t (bI b) (ofNat 0)) (fE [dj r,dj q]::H) =
 some (.normal,yA (shV O U Z V J W (bI b)) U t (bI b) (ofNat 10)++[(26,.bool false)],fE [dj (oK r (me b 10)),dj q]::H):=by
 refine jh (n:=n+1) (f:=56) (nt:=69) (c:=part Tryd.f56 [1,1,0,1,0,0,1,1,0,0,1,0,1,0,0]) 2 (fun c=>yA (shV O U Z V J W (bI b)) U t (bI b) (c:Int)) (fun c=>fE [dj (oK r (me b c)),dj q]::H) 10 (_,_) wO (fun c hc=>?_) ?_
 · have hs:Bd U b W t' (oK r (me b c)):=(rK hS.nob _ hr (fun p hp=>by
    obtain ⟨a,d⟩:=p;have:=(DF b c (fun d _=>hS.lt d) a d).1 hp;obtain ⟨h1,h2⟩:=hS.bit this.2;exact ⟨h2,h1,this.2⟩)).1
   have ec:bj .i64 (c:Int) (ofNat 1)=((c+1:Nat):Int):=dO wO
   have T:=TJ (n+1) O U Z V J W (bI b) H (oK r (me b c)) q (oK r (me b (c+1))) t (c:Int) 0
   rw[ec,uP] at T
   have hx:=Ss n O U Z V J W b H hS q (oK r (me b c)) t' hs t c hc
   rw[← DL] at hx
   refine aA T (aw _) (aU (ah _ _) Od (fun x h=>by rw[← Tr.af h];simp only[ev.st,aN];exact hx)) (aj _ _) ?_
   refine Tr.ae (fun h0=>?_) wJ
   exact Tr.ab wG (Tr.ab wG (Tr.ak ⟨rfl,rfl⟩ (Tr.ag ⟨rfl,rfl⟩)))
 · obtain ⟨x,h1,rfl⟩:=aA (Q:=fun x=>x=(.exit 2,yA (shV O U Z V J W (bI b)) U t (bI b) (ofNat 10)++[(26,.bool false)],fE [dj (oK r (me b 10)),dj q]::H)) (P6 (n+1) O U Z V J W (bI b) H (oK r (me b 10)) q t) (aw _) (b9 (ah _ _) 4) (aj _ _) (by
    refine Tr.ae wJ (fun h0=>Tr.ag rfl))
   exact h1
theorem LV (hS:eN U W b) {t:Nat} {r:Nat→Int} (hr:Bd U b W t r):∀ j,20≤j→r j=0:=fun j hj=>by
 rw[hr.out j (by have:=hS.len;omega)];exact hS.zer j hj
theorem Nh (hS:eN U W b) (t:Nat) (ht:t<U):∃ x,exec (bJ (n+1) 56 69) (part Tryd.f56 [1,1,0,1,0,0]) (nA (shV O U Z V J W (bI b)) U (t:Int)) (fE [dj (iJ (me b 10) W t)]::H)=some x ∧
 if mi (iJ (me b 10) W (t+1)) (iJ (me b 10) W t) 20=true then x=(.exit 0,nA (shV O U Z V J W (bI b)) U (t:Int)++[(66,.bool true)],fE [dj (iJ (me b 10) W (t+1)),dj (iJ (me b 10) W t)]::H)
 else x.1=.normal∧tidy 2 x.2.1 x.2.2=(nA (shV O U Z V J W (bI b)) U ((t+1:Nat):Int),fE [dj (iJ (me b 10) W (t+1))]::H):=by
 have hb:=pO (w:=W) hS.nob hS.all t
 have ec:bj .i64 (t:Int) (ofNat 1)=((t+1:Nat):Int):=dO (by have:=hS.len;omega)
 have T:=TI (n+1) O U Z V J W (bI b) H (iJ (me b 10) W t) (iJ (me b 10) W (t+1)) (t:Int)
 rw[ec,sI (LV U W b hS hb)] at T
 refine aA T (aw _) (aU (ah _ _) Oc (fun x h=>by rw[← Tr.af h];simp only[ev.st,aN];exact Sq n O U Z V J W b H hS (iJ (me b 10) W t) (iJ (me b 10) W t) t hb (t:Int))) (aj _ _) ?_
 refine Tr.ae (fun h0=>?_) wJ
 refine Tr.ab wG (Tr.ak ⟨rfl,rfl⟩ (Tr.ae (fun q=>Tr.ag ?_) (fun q=>Tr.ag ?_)))
 · rw[if_pos q];rfl
 · rw[if_neg (by rw[q];decide)];exact ⟨rfl,rfl⟩
theorem Vk (hS:eN U W b):cd (n+2) (.fn 56) [shV O U Z V J W (bI b)] H=some (.agg (.M [.arr .i64 (eU U b W) 20]),H):=by
 have hl:=hS.len;have hz:∀ j,20≤j→eU U b W j=0:=fun j hj=>by unfold eU;rw[if_neg wO];exact hS.zer j hj
 rcases sP (fun t=>t<U∧mi (iJ (me b 10) W (t+1)) (iJ (me b 10) W t) 20=true) U with h | ⟨T,h1,⟨_,h2⟩,h3⟩
 · have hx:exec (bJ (n+1) 56 69) (.block 0 (.loop (part Tryd.f56 [1,1,0,1,0,0]))) (nA (shV O U Z V J W (bI b)) U (ofNat 0)) (fE [dj W]::H)=some (.normal,nA (shV O U Z V J W (bI b)) U (ofNat U)++[(19,.bool false)],fE [dj (iJ (me b 10) W U)]::H):=by
    refine jh (n:=n+1) (f:=56) (nt:=69) (c:=part Tryd.f56 [1,1,0,1,0,0]) 0 (fun t=>nA (shV O U Z V J W (bI b)) U (t:Int)) (fun t=>fE [dj (iJ (me b 10) W t)]::H) U (_,_) wO (fun t ht=>?_) ?_
    · obtain ⟨x,x1,x2⟩:=Nh n O U Z V J W b H hS t ht;rw[if_neg (fun q=>h t ht ⟨ht,q⟩)] at x2;exact ⟨x,x1,x2⟩
    · obtain ⟨x,h1,rfl⟩:=aA (Q:=fun x=>x=(.exit 0,nA (shV O U Z V J W (bI b)) U (ofNat U)++[(19,.bool false)],fE [dj (iJ (me b 10) W U)]::H)) (P5 (n+1) O U Z V J W (bI b) H (iJ (me b 10) W U) (ofNat U)) (aw _) (b9 (ah _ _) 2) (aj _ _) (by
       refine Tr.ae wJ (fun h0=>Tr.ag rfl))
      exact h1
   have he:=FH (Nat.le_refl U) (pO (w:=W) hS.nob hS.all U);rw[he] at hx;have Y9:=T8 (n+1) O U Z V J W (bI b) H (eU U b W);rw[sI hS.zer,sI hz] at Y9;refine bp (n:=n+1) Tryd.func56 rfl rfl rfl Y9 (aw _) (aU (ah _ _) Kh (fun x h=>by rw[← Tr.af h];simp only[ev.st,aN];exact hx)) (aj _ _) ?_;exact Tr.ab wG (Tr.ak ⟨rfl,rfl⟩ (Tr.ab wG (Tr.ag ⟨rfl,rfl⟩)))
 · have hbT:=pO (w:=W) hS.nob hS.all T;have hbT1:=pO (w:=W) hS.nob hS.all (T+1);have heq:iJ (me b 10) W (T+1)=iJ (me b 10) W T:=by
    funext j;by_cases hj:j<20
    · exact vF h2 j hj
    · rw[LV U W b hS hbT1 j wO,LV U W b hS hbT j wO]
   have he:iJ (me b 10) W (T+1)=eU U b W:=by
    rw[heq];exact Iz hS.nob hS.all hbT heq
   have hx:exec (bJ (n+1) 56 69) (.block 0 (.loop (part Tryd.f56 [1,1,0,1,0,0]))) (nA (shV O U Z V J W (bI b)) U (ofNat 0)) (fE [dj W]::H)=some (.normal,nA (shV O U Z V J W (bI b)) U (T:Int)++[(66,.bool true)],fE [dj (iJ (me b 10) W (T+1)),dj (iJ (me b 10) W T)]::H):=by
    refine jh (n:=n+1) (f:=56) (nt:=69) (c:=part Tryd.f56 [1,1,0,1,0,0]) 0 (fun t=>nA (shV O U Z V J W (bI b)) U (t:Int)) (fun t=>fE [dj (iJ (me b 10) W t)]::H) T (_,_) wO (fun t ht=>?_) ?_
    · obtain ⟨x,x1,x2⟩:=Nh n O U Z V J W b H hS t wO;rw[if_neg (fun q=>h3 t ht ⟨by omega,q⟩)] at x2;exact ⟨x,x1,x2⟩
    · obtain ⟨x,x1,x2⟩:=Nh n O U Z V J W b H hS T h1;rw[if_pos h2] at x2;subst x2;exact x1
   rw[he] at hx;have Y9:=T9 (n+1) O U Z V J W (bI b) H (eU U b W) (iJ (me b 10) W T) (T:Int);rw[sI hS.zer,sI hz] at Y9;refine bp (n:=n+1) Tryd.func56 rfl rfl rfl Y9 (aw _) (aU (ah _ _) Kh (fun x h=>by rw[← Tr.af h];simp only[ev.st,aN];exact hx)) (aj _ _) ?_;exact Tr.ab wG (Tr.ak ⟨rfl,rfl⟩ (Tr.ab wG (Tr.ag ⟨rfl,rfl⟩)))
end
end Go.Eng
end
section
namespace Go.Eng
open Go.Proofs Go.Eng.Gall
noncomputable def VD (a b:Int):AV:=.agg (.I .i64 [a,b])
end Go.Eng
end
section
namespace Go.Eng
open Go.Proofs Go.Eng.Gall
theorem CK {a b:Int} (hb:1≤b) {K:Int} (h1:-K≤a) (h2:a≤K) (hK:0≤K):-K-b≤a / b∧a / b≤K:=by
 have h7:=Int.mul_ediv_add_emod a b;have h3:=Int.emod_nonneg a (show b≠0 by omega);have h4:=Int.emod_lt_of_pos a (show 0<b by omega);constructor
 · apply Classical.byContradiction;intro hc;have h8:b*(a / b)≤1*(a / b):=Int.mul_le_mul_of_nonpos_right hb wO;omega
 · exact Int.le_trans (Int.ediv_le_ediv wO h2) (Int.ediv_le_self b hK)
section
variable (n:Nat) (O:Int) (U:Nat) (Z:Nat→Int) (V:Nat) (J:Nat→Int) (H:aa)
end
end Go.Eng
end
section
namespace Go.Eng
open Go.Proofs Go.Eng.Gall
section
variable (O:Int) (U:Nat) (Z:Nat→Int) (V:Nat) (J:Nat→Int)
theorem Ca (hl:U≤10) (hd:1≤O∧O≤100) (hv:wH U Z) (hp:iL U V J) (hk:ma U (fun c=>dq J c V)=false):eN U (bR O U Z) (fun c=>dq J c V):=by
 refine ⟨hl,fun j=>?_,fun j hj=>?_,fun c hc=>qc J c U V (fun i hi=>(hp i hi).1),fun c hc=>?_,hk⟩
 · unfold bR;by_cases h:j<2*U
   · rw[if_pos h];obtain ⟨v1,v2,v3,v4,v5,v6⟩:=H5 hv (show j / 2<U by omega);have q1:=CK (a:=Z (j / 2*4+3)-Z (j / 2*4+1)) hd.1 (K:=1000) wO wO (by decide);have q2:=CK (a:=Z (j / 2*4)-Z (j / 2*4+2)) hd.1 (K:=1000) wO wO (by decide);split<;>omega
   · rw[if_neg h];omega
 · unfold bR;rw[if_neg wO]
 · cases e:dq J c V with
   | zero=>rfl
   | succ m =>
     exfalso;have:∃ a,(dq J c V).testBit a=true:=by
      apply Classical.byContradiction;intro hn;have:dq J c V=0:=by
       apply Nat.eq_of_testBit_eq;intro i;rw[Nat.zero_testBit];cases e:(dq J c V).testBit i with
       | false=>rfl
       | true=>exact absurd ⟨i,e⟩ hn
      omega
     obtain ⟨a,ha⟩:=this;obtain ⟨i,hi,h4,h5⟩:=(m7 J c a V (fun i hi=>(hp i hi).1.1)).1 ha;have:=hp i hi;omega
variable (n:Nat) (H:aa)
end
end Go.Eng
end
section
namespace Go.Eng
open Int (ofNat)
open Go.Proofs
noncomputable def gw (n f nt d i:Nat):Cx:=⟨Tryd.prog,cd n,100000,f,nt,KtG.kt f,some (d,i)⟩
noncomputable def Bx (k:Nat) (P:Nat→Int) (j:Int):aD:=[(0,.yld 1 1),(5,aP k P false),(6,.int .i64 (ofNat k)),(7,.int .i64 j)]
noncomputable def oR (s:Nat) (A:AV):AV:=.fn (.func 96) [] [.ptrT (some s) (.G [A]) 0]
noncomputable def nL (s:Nat) (A:AV):aD:=[(2,.ptr 0 0 0 0),(6,oR (s+1) A)]
noncomputable def MC (b:Nat×al):bC:=⟨false,[(0,.row (.G [.nils])),b]⟩
noncomputable def GJ (v k:Nat) (a:Nat→Int) (b:Nat×al):bC:=⟨false,[(0,.row (.G [.slc 0 2 v 0 1 k none])),b,(v,.row (.M [.arr .i64 a k]))]⟩
theorem t96 (n k:Nat) (P:Nat→Int) (G G':aa) (j x:Int):aF (bJ n 96 16) (NY (il aC n 0) 1 1 [.int .i64 x] (ao::G) (.ok (.bool true,ao::G'))) aK aJ (part Tryd.f96 [1,0,0]) (hints (Bx k P j)) (ao::G) =
 Tr.ite (bF j (ofNat k)) (Tr.req (cu j k) (Tr.req (bX (aq 0 j 1) k) (Tr.reqP ([AV.int .i64 (P (aq 0 j 1))]=[AV.int .i64 x]∧ao::G=ao::G) (Tr.ite (bf true) (Tr.ok (Ex.ret,[(0,AV.yld 1 1,none),(5,aP k P false,none),(6,iI k,none),(7,AV.int .i64 j,none),(14,AV.bool true,some 1)],ao::G')) (Tr.ok (Ex.normal,[(0,AV.yld 1 1,none),(5,aP k P false,none),(6,iI k,none),(7,AV.int .i64 (bj .i64 j (ofNat 1)),none)],ao::G')))))) (Tr.ok (Ex.exit 0,[(0,AV.yld 1 1,none),(5,aP k P false,none),(6,iI k,none),(7,AV.int .i64 j,none),(8,AV.bool false,some 1)],ao::G)):=by kernel_rfl
theorem TT (n k:Nat) (P:Nat→Int) (G:aa) (j:Int):aF (bJ n 96 16) (il aC n 0) aK aJ (part Tryd.f96 [1,0,0]) (hints (Bx k P j)) (ao::G) =
 Tr.ite (bF j (ofNat k)) (Tr.req (cu j k) (Tr.req (bX (aq 0 j 1) k) Tr.bad)) (Tr.ok (Ex.exit 0,[(0,AV.yld 1 1,none),(5,aP k P false,none),(6,iI k,none),(7,AV.int .i64 j,none),(8,AV.bool false,some 1)],ao::G)):=by kernel_rfl
theorem Y0 (n s k:Nat) (P:Nat→Int) (G G':aa):aZ Tryd.prog (cd n) 100000 96 Tryd.f96 (KtG.kt 96) (il aC n 0) (cE aK 0 (Bx k P (ofNat 0)) (ao::G) (.ok (.normal,hints (Bx k P (ofNat k)++[(8,.bool false)]),ao::G'))) aJ [(.yld 0 1,none),(.ptrT (some s) (.G [aP k P false]) 0,none)] G =
 Tr.reqP ([(0,AV.yld 1 1),(5,aP k P false),(6,iI k),(7,iI 0)]=[(0,AV.yld 1 1),(5,aP k P false),(6,iI k),(7,iI 0)]∧ao::G=ao::G) (Tr.ok ((AV.tup [],none),G')):=by kernel_rfl
theorem KW (n s k:Nat) (P:Nat→Int) (bs:List (Nat×al)) (H:aa) (x:Int):aF (gw n 100 13 2 1) (il aC n 0) aK aJ (part Tryd.f100 [1,0,1,0,0]) (hints [(2,.ptr 2 0 0 0),(6,oR (s+3) (aP k P false)),(7,.int .i64 x)]) (ao::ao::⟨false,bs⟩::H) =
 Tr.ok (Ex.normal,[(2,AV.ptr 2 0 0 0,none),(5,AV.int .i64 x,none)],ao::ao::(bm bs)::H):=by kernel_rfl
theorem PT (n:Nat) (L:gu) (H:aa) (x:Int):aF (gw n 100 13 2 1) (il aC n 0) aK aJ (part Tryd.f100 [1,0,1,0,1]) (hints [(2,.ptr 2 0 0 0),(5,.int .i64 x)]) (ao::ao::MC (0,.loop L)::H) =
 Tr.req (iv 0 1 8) (Tr.req (cH 0 0) (Tr.req (dW 1 1) (Tr.ok (Ex.normal,[],(bm [(0,al.row (Row.I .i64 [x])),(0,al.dead)])::ao::(bm [(0,al.row (Row.G [AV.slc 0 2 0 0 1 1 none])),(0,al.loop L),(0,al.row (rM (az [x]) 1))])::H)))):=by kernel_rfl
theorem PU (n v k:Nat) (b:Nat→Int) (L:gu) (H:aa) (x:Int):aF (gw n 100 13 2 1) (il aC n 0) aK aJ (part Tryd.f100 [1,0,1,0,1]) (hints [(2,.ptr 2 0 0 0),(5,.int .i64 x)]) (ao::ao::GJ v k b (0,.loop L)::H) =
 Tr.req (iv k 1 8) (Tr.req (cH 0 0) (Tr.req (dW 1 1) (Tr.req (cH v v) (Tr.req (cH (au 0 k) k) (Tr.ok (Ex.normal,[],(bm [(0,al.row (Row.I .i64 [x]))])::ao::(bm [(0,al.row (Row.G [AV.slc 0 2 (Nat.succ v) 0 1 (au k 1) none])),(0,al.loop L),(Nat.succ v,al.row (rM (qb (qO b 0) k (az [x])) (au k 1)))])::H)))))):=by kernel_rfl
theorem Ut (n s v k m:Nat) (P b:Nat→Int) (H:aa):aF (bJ n 100 13) (il aC n 0) aK (EY aJ (fun _=>true) (nL s (aP k P false)) (⟨false,[(0,.row (.G [.nils]))]⟩::H) (.ok (.normal,hints (nL s (aP k P false)),GJ v m b (0,.dead)::H))) (aW Tryd.f100) (hints [(0,.nils),(1,oR (s+1) (aP k P false))]) (ao::H) =
 (fun (Z0:aD)=>Tr.reqP (Z0=Z0∧(bm [(0,al.row (Row.G [AV.nils]))])::H=(bm [(0,al.row (Row.G [AV.nils]))])::H) (Tr.ok (Ex.ret,[(4,AV.slc 0 2 v 0 1 m none,none)],(bm [(0,al.row (Row.G [AV.slc 0 2 v 0 1 m none])),(0,al.dead),(v,al.row (rM b m))])::H))) [(2,AV.ptr 0 0 0 0),(6,AV.fn (Fn.func 96) [] [AV.ptrT (some (Nat.succ s)) (Row.G [aP k P false]) 0])]:=by kernel_rfl
theorem Qw (n s k:Nat) (P:Nat→Int) (H:aa):aZ Tryd.prog (cd n) 100000 100 Tryd.f100 (KtG.kt 100) (il aC n 0) aK (EY aJ (fun _=>true) (nL s (aP k P false)) (⟨false,[(0,.row (.G [.nils]))]⟩::H) (.ok (.normal,hints (nL s (aP k P false)),MC (0,.dead)::H))) [(.nils,none),(oR s (aP k P false),none)] H =
 (fun (Z0:aD)=>Tr.reqP (Z0=Z0∧(bm [(0,al.row (Row.G [AV.nils]))])::H=(bm [(0,al.row (Row.G [AV.nils]))])::H) (Tr.ok ((AV.nils,none),H))) [(2,AV.ptr 0 0 0 0),(6,AV.fn (Fn.func 96) [] [AV.ptrT (some (Nat.succ s)) (Row.G [aP k P false]) 0])]:=by kernel_rfl
theorem QC (n s k:Nat) (P:Nat→Int) (H:aa):aF (bJ n 100 13) (il aC n 0) aK (EY aJ (fun _=>true) (nL s (aP k P false)) (⟨false,[(0,.row (.G [.nils]))]⟩::H) (.ok (.normal,hints (nL s (aP k P false)),MC (0,.dead)::H))) (aW Tryd.f100) (hints [(0,.nils),(1,oR (s+1) (aP k P false))]) (ao::H) =
 (fun (Z0:aD)=>Tr.reqP (Z0=Z0∧(bm [(0,al.row (Row.G [AV.nils]))])::H=(bm [(0,al.row (Row.G [AV.nils]))])::H) (Tr.ok (Ex.ret,[(4,AV.nils,none)],(bm [(0,al.row (Row.G [AV.nils])),(0,al.dead)])::H))) [(2,AV.ptr 0 0 0 0),(6,AV.fn (Fn.func 96) [] [AV.ptrT (some (Nat.succ s)) (Row.G [aP k P false]) 0])]:=by kernel_rfl
theorem Y3 (n s k m:Nat) (P b:Nat→Int) (H:aa):aF (bJ n 94 5) (il (kX aC 100 [.nils,oR (s+1) (aP k P false)] (ao::H) (.ok (.slc 0 0 0 0 1 m none,gq 0 m b::H))) n 0) aK aJ (aW Tryd.f94) (hints [(0,oR (s+1) (aP k P false))]) (ao::H) =
 (fun (Z0:List AV)=>Tr.reqP (Z0=Z0∧ao::H=ao::H) (Tr.ok (Ex.ret,[(2,AV.slc 0 0 0 0 1 m none,none)],(bm [(0,al.row (rM b m))])::H))) [AV.nils,AV.fn (Fn.func 96) [] [AV.ptrT (some (Nat.succ s)) (Row.G [aP k P false]) 0]]:=by kernel_rfl
theorem Up (n s k:Nat) (P:Nat→Int) (H:aa):aZ Tryd.prog (cd n) 100000 94 Tryd.f94 (KtG.kt 94) (il (kX aC 100 [.nils,oR (s+1) (aP k P false)] (ao::H) (.ok (.nils,ao::H))) n 0) aK aJ [(oR s (aP k P false),none)] H =
 (fun (Z0:List AV)=>Tr.reqP (Z0=Z0∧ao::H=ao::H) (Tr.ok ((AV.nils,none),H))) [AV.nils,AV.fn (Fn.func 96) [] [AV.ptrT (some (Nat.succ s)) (Row.G [aP k P false]) 0]]:=by kernel_rfl
theorem Uu (n s k:Nat) (P:Nat→Int) (H:aa):aF (bJ n 94 5) (il (kX aC 100 [.nils,oR (s+1) (aP k P false)] (ao::H) (.ok (.nils,ao::H))) n 0) aK aJ (aW Tryd.f94) (hints [(0,oR (s+1) (aP k P false))]) (ao::H) =
 (fun (Z0:List AV)=>Tr.reqP (Z0=Z0∧ao::H=ao::H) (Tr.ok (Ex.ret,[(2,AV.nils,none)],ao::H))) [AV.nils,AV.fn (Fn.func 96) [] [AV.ptrT (some (Nat.succ s)) (Row.G [aP k P false]) 0]]:=by kernel_rfl
theorem YJ (n s k:Nat) (P b c:Nat→Int) (H:aa):aZ Tryd.prog (cd n) 100000 75 Tryd.f75 (KtG.kt 75) (il (kX (kX aC 94 [oR (s+1) (aP k P false)] (ao::H) (.ok (.slc 0 0 0 0 1 k none,gq 0 k b::H))) 95 [.slc 0 0 0 0 1 k none] (gq 0 k b::H) (.ok (.tup [],gq 0 k c::H))) n 0) aK aJ [(oR s (aP k P false),none)] H =
 Tr.reqP ([AV.fn (Fn.func 96) [] [AV.ptrT (some (Nat.succ s)) (Row.G [aP k P false]) 0]]=[AV.fn (Fn.func 96) [] [AV.ptrT (some (Nat.succ s)) (Row.G [aP k P false]) 0]]∧ao::H=ao::H) (Tr.reqP ([AV.slc 0 0 0 0 1 k none]=[AV.slc 0 0 0 0 1 k none]∧(bm [(0,al.row (rM b k))])::H=(bm [(0,al.row (rM b k))])::H) (Tr.req (cH 0 0) (Tr.req (dP 0 k 0 k) (Tr.ok ((aP k (qO c 0) false,none),H))))):=by kernel_rfl
theorem Uj (n s k:Nat) (P:Nat→Int) (H:aa):aZ Tryd.prog (cd n) 100000 75 Tryd.f75 (KtG.kt 75) (il (kX (kX aC 94 [oR (s+1) (aP k P false)] (ao::H) (.ok (.nils,ao::H))) 95 [.nils] (ao::H) (.ok (.tup [],ao::H))) n 0) aK aJ [(oR s (aP k P false),none)] H =
 Tr.reqP ([AV.fn (Fn.func 96) [] [AV.ptrT (some (Nat.succ s)) (Row.G [aP k P false]) 0]]=[AV.fn (Fn.func 96) [] [AV.ptrT (some (Nat.succ s)) (Row.G [aP k P false]) 0]]∧ao::H=ao::H) (Tr.reqP ([AV.nils]=[AV.nils]∧ao::H=ao::H) (Tr.ok ((AV.nils,none),H))):=by kernel_rfl
theorem YK (n k:Nat) (P:Nat→Int) (H:aa):aZ Tryd.prog (cd n) 100000 76 Tryd.f76 (KtG.kt 76) (il aC n 0) aK aJ [(aP k P false,none)] H =
 Tr.ok ((AV.fn (Fn.func 96) [] [AV.ptrT (some 0) (Row.G [aP k P false]) 0],none),H):=by kernel_rfl
theorem Uq (n:Nat) (H:aa):aZ Tryd.prog (cd (n+9)) 100000 95 Tryd.f95 (KtG.kt 95) (il aC n 9) aK aJ [(.nils,none)] H =
 Tr.ok ((AV.tup [],none),H):=by kernel_rfl
theorem VR:∀ b,(0,b) ∈ aI (aW Tryd.f96)→b=.loop (part Tryd.f96 [1,0,0]):=dJ (by kernel_rfl)
section
variable (n s k:Nat) (P:Nat→Int)
theorem Wn (St:Nat→aa) (hk:k≤1000) (hr:∀ j,j<k→cd n (.round 1 1) [.int .i64 (P j)] (ao::St j)=some (.bool true,ao::St (j+1))) :
 cd (n+1) (.fn 96) [.yld 0 1,.ptrT (some s) (.G [aP k P false]) 0] (St 0)=some (.tup [],St k):=by
 have hx:=jh (n:=n) (f:=96) (nt:=16) (c:=part Tryd.f96 [1,0,0]) 0 (fun j=>Bx k P (j:Int)) (fun j=>ao::St j) k (Bx k P (ofNat k)++[(8,.bool false)],ao::St k) wO (fun j hj=>?_) ?_
 · refine bp (n:=n) Tryd.func96 rfl rfl rfl (Y0 n s k P (St 0) (St k)) (aw _) (aU (ah _ _) VR (fun x h=>by rw[← Tr.af h];simp only[ev.st,aN];exact hx)) (aj _ _) ?_
   exact Tr.ak ⟨rfl,rfl⟩ (Tr.ag ⟨rfl,rfl⟩)
 · refine aA (t96 n k P (St j) (St (j+1)) (j:Int) (P j)) (qJ (aw n) (fun x hy=>by rw[← Tr.af hy];exact hr j hj)) (ah _ _) (aj _ _) ?_
   rw[uP,dO wO]
   generalize St (j+1)=G' at *
   generalize St j=G at *
   exact wF
 · obtain ⟨x,h1,rfl⟩:=aA (Q:=fun x=>x=(.exit 0,Bx k P (ofNat k)++[(8,.bool false)],ao::St k)) (TT n k P (St k) (ofNat k)) (aw n) (ah _ _) (aj _ _) (by
    refine Tr.ae (fun hc=>?_) (fun hc=>Tr.ag rfl);simp (disch:=omega) only[nV,nW] at hc;omega)
   exact h1
end
theorem pP {n d i:Nat} {args:List AV} {H H2 R:aa} {l l2:gu} {fr fr1 fr2:aD} {lv:bC}
 (hg:aB H d i=(0,.loop l)) (hl:aM H d=false) (hs:l.state=.ready) (hp:ju l.nt (jU (d+1) l.fr) l.params (args.map (mf 1))=some fr)
 (h1:exec (gw n l.fn l.nt (d+1) i) l.assign fr (ao::H)=some (.normal,fr1,ao::H))
 (h2:exec (gw n l.fn l.nt (d+1) i) l.body fr1 (dD (ao::H) (d+1) i (0,.loop { l with state:=.busy }))=some (.normal,fr2,lv::H2)) (hg2:aB H2 d i=(0,.loop l2)) (hR:R=dD H2 d i (0,.loop { l2 with state:=.ready,pending:=none })) :
 cd (n+1) (.round d i) args H=some (.bool true,R):=by
 rw[hR]
 exact uo (P:=Tryd.prog) (ora:=gL) (KT:=KtG.kt) (fu:=100000) (e:=.normal) hg hl hs hp h1 (by rw[show aB (ao::H) (d+1) i=aB H d i from rfl];exact hg) hs h2 hg2
theorem fW {n f nt d i:Nat} {c:Code} {callR:bx} {bl:eV} {rg:nZ} {fr:aD} {H:aa} {T:Tr ev} (e:aF (gw n f nt d i) callR bl rg c (hints fr) H=T) (hC:callR.Ok (cd n)) (hB:bl.Ok (gw n f nt d i) c) (hR:rg.Ok (gw n f nt d i) c) {y:Ex×aD×aa} (h:T.all fun x=>x.st=y):exec (gw n f nt d i) c fr H=some y:=by
 obtain ⟨x,h1,rfl⟩:=h;have:=fX (cx:=gw n f nt d i) hC c hB hR (hints fr) H x (by rw[e];exact h1);rw[aN] at this;exact this
theorem j0 {n f nt d i:Nat} {c:Code} {callR:bx} {bl:eV} {rg:nZ} {fr:aD} {H:aa} {T:Tr ev} {Q:Ex×aD×aa→Prop} (e:aF (gw n f nt d i) callR bl rg c (hints fr) H=T) (hC:callR.Ok (cd n)) (hB:bl.Ok (gw n f nt d i) c) (hR:rg.Ok (gw n f nt d i) c) (h:T.all fun x=>Q x.st):∃ y,exec (gw n f nt d i) c fr H=some y∧Q y:=by
 obtain ⟨x,h1,h2⟩:=h;have:=fX (cx:=gw n f nt d i) hC c hB hR (hints fr) H x (by rw[e];exact h1);rw[aN] at this;exact ⟨_,this,h2⟩
noncomputable def qy:Code:=part Tryd.f100 [1,0,1,0,0]
noncomputable def xn:Code:=part Tryd.f100 [1,0,1,0,1]
theorem Tq:dH (aW Tryd.f100)=[(.tmp 6,#[7],qy,xn)]:=by kernel_rfl
noncomputable def eh (s:Nat) (A:AV):gu:={ state:=.ready,pending:=none,fn:=100,nt:=13,fr:=nL s A,params:=[7],assign:=qy,body:=xn }
noncomputable def Pp (b:Nat×al):List Int→bC
 | []=>MC b
 | a::r=>GJ r.length (r.length+1) (az (a::r)) b
theorem PJ (n s k:Nat) (P:Nat→Int) (L:List Int) (H:aa) (x:Int) (hL:L.length≤1000) :
 cd (n+1) (.round 1 1) [.int .i64 x] (ao::Pp (0,.loop (eh s (aP k P false))) L::H)=some (.bool true,ao::Pp (0,.loop (eh s (aP k P false))) (L++[x])::H):=by
 cases L with
 | nil =>
   have h1:exec (gw n 100 13 2 1) qy [(2,.ptr 2 0 0 0),(6,oR (s+3) (aP k P false)),(7,.int .i64 x)] (ao::ao::MC (0,.loop (eh s (aP k P false)))::H)=some (.normal,[(2,.ptr 2 0 0 0),(5,.int .i64 x)],ao::ao::MC (0,.loop (eh s (aP k P false)))::H) :=
    fW (KW n s k P _ H x) (aw n) (ah _ _) (aj _ _) (Tr.ag rfl)
   obtain ⟨y,h2,h3⟩:=j0 (Q:=fun y=>y=(.normal,[],⟨false,[(0,.row (.I .i64 [x])),(0,.dead)]⟩::ao::GJ 0 1 (az [x]) (0,.loop { eh s (aP k P false) with state:=.busy })::H)) (PT n { eh s (aP k P false) with state:=.busy } H x) (aw n) (ah _ _) (aj _ _) (by
    generalize eh s (aP k P false)=L at *;exact wF)
   subst h3
   exact pP (l:=eh s (aP k P false)) (l2:={ eh s (aP k P false) with state:=.busy }) rfl rfl rfl rfl h1 h2 rfl rfl
 | cons a r =>
   simp only[List.length_cons] at hL
   have h1:exec (gw n 100 13 2 1) qy [(2,.ptr 2 0 0 0),(6,oR (s+3) (aP k P false)),(7,.int .i64 x)] (ao::ao::GJ r.length (r.length+1) (az (a::r)) (0,.loop (eh s (aP k P false)))::H)=some (.normal,[(2,.ptr 2 0 0 0),(5,.int .i64 x)],ao::ao::GJ r.length (r.length+1) (az (a::r)) (0,.loop (eh s (aP k P false)))::H) :=
    fW (KW n s k P _ H x) (aw n) (ah _ _) (aj _ _) (Tr.ag rfl)
   have e1:=lu (a::r) x
   simp only[List.length_cons] at e1
   have e3:au (r.length+1) 1=r.length+1+1:=by rw[aH]
   obtain ⟨y,h2,h3⟩:=j0 (Q:=fun y=>y=(.normal,[],⟨false,[(0,.row (.I .i64 [x]))]⟩::ao::GJ (r.length+1) (r.length+1+1) (az (a::r++[x])) (0,.loop { eh s (aP k P false) with state:=.busy })::H)) (PU n r.length (r.length+1) (az (a::r)) { eh s (aP k P false) with state:=.busy } H x) (aw n) (ah _ _) (aj _ _) (by
    rw[e1,e3];generalize eh s (aP k P false)=L at *;generalize az (a::r++[x])=Y at *;exact wF)
   subst h3
   have e4:(r++[x]).length=r.length+1:=by simp
   refine pP (l:=eh s (aP k P false)) (l2:={ eh s (aP k P false) with state:=.busy }) rfl rfl rfl rfl h1 h2 rfl ?_
   show ao::GJ (r++[x]).length ((r++[x]).length+1) (az (a::(r++[x]))) _::H=_
   rw[e4];rfl
def kf (P:Nat→Int) (k:Nat):List Int:=(List.range k).map P
theorem JN (P:Nat→Int) (k:Nat):kf P (k+1)=kf P k++[P k]:=by unfold kf;rw[List.range_succ,List.map_append];rfl
theorem iW (P:Nat→Int) (k:Nat):(kf P k).length=k:=by simp[kf]
theorem He {n f:Nat} {args:List AV} {H:aa} {x:AV×aa} (hf:f=94∨f=100) (h:nR Tryd.prog KtG.kt 100000 f (cd n) args H=some x):cd (n+1) (.fn f) args H=some x:=by
 refine oZ ?_;have e:gL (cd n) f args H=(match nR Tryd.prog KtG.kt 100000 f (cd n) args H with
  | some x=>some x
  | none=>tY [⟨15,[],.bool true⟩] (cd n) f args H):=by rcases hf with rfl | rfl<;>rfl
 rw[e,h]
theorem Hd {n f:Nat} {args:List AV} {H:aa} (hf:f=94∨f=100) (h:nR Tryd.prog KtG.kt 100000 f (cd n) args H=none):gL (cd n) f args H=none:=by
 have e:gL (cd n) f args H=(match nR Tryd.prog KtG.kt 100000 f (cd n) args H with
  | some x=>some x
  | none=>tY [⟨15,[],.bool true⟩] (cd n) f args H):=by rcases hf with rfl | rfl<;>rfl
 rw[e,h];rcases hf with rfl | rfl<;>exact KM rfl rfl _ _ _
theorem Gk {n f:Nat} {args:List AV} {l1:bC} {H:aa} {fn:Func} {c:Code} (h94:f=94∨f=100) (hf:Tryd.prog.funcs[f]?=some fn) (hb:fn.body=some c) (hle:Nat.ble args.length fn.ntmps=true) {e:Ex} {fr:aD} {l:bC} {j ver off sz len:Nat} {cap:Option Nat} {q:Row}
 (h:exec (bJ n f fn.ntmps) c (eE 0 args) (⟨false,[]⟩::l1::H)=some (e,fr,l::l1::H)) (he:e=.normal∨e=.ret) (hv:gN Tryd.prog fr (l::l1::H) fn.results.toList=some [.slc 0 j ver off sz len cap]) (hq:c8 (l::l1::H) 0 j ver=some q) (h0:l.lock=false) (h1:l1.lock=false) :
 cd (n+1) (.fn f) args (l1::H)=some (.slc 0 l1.bs.length 0 off sz len cap,bE (l1::H) 0 (.row (jA 1 q))):=by
 refine He h94 ?_
 unfold nR
 rw[hf];dsimp only
 rw[hb];dsimp only
 rw[if_pos hle,eR]
 rw[show exec (⟨Tryd.prog,cd n,100000,f,fn.ntmps,KtG.kt f,none⟩:Cx) c (eE 0 args) (⟨false,[]⟩::l1::H)=_ from h]
 dsimp only
 rcases he with rfl | rfl<;>(simp only[hv,hq,h0,h1,Bool.or_self,Bool.false_eq_true,if_false])
theorem CW {n f:Nat} {args:List HV} {l1:bC} {H:aa} {fn:Func} {c:Code} (h94:f=94∨f=100) (hf:Tryd.prog.funcs[f]?=some fn) (hb:fn.body=some c) (hle:Nat.ble args.length fn.ntmps=true) {e:Ex} {fr:aD} {l:bC}
 (h:exec (bJ n f fn.ntmps) c (eE 0 (jY args)) (⟨false,[]⟩::l1::H)=some (e,fr,l::l1::H)) (he:e=.normal∨e=.ret) (hv:gN Tryd.prog fr (l::l1::H) fn.results.toList=some [.nils])
 {callR:bx} {bl:eV} {rg:nZ} {T:Tr (HV×aa)} (et:aZ Tryd.prog (cd n) 100000 f fn (KtG.kt f) callR bl rg args (l1::H)=T) (hC:callR.Ok (cd n)) (hB:bl.Ok (bJ n f fn.ntmps) (aW fn)) (hR:rg.Ok (bJ n f fn.ntmps) (aW fn)) (hT:T.all fun y=>y.1.1=.nils∧y.2=l1::H):cd (n+1) (.fn f) (jY args) (l1::H)=some (.nils,l1::H):=by
 have hl:(jY args).length=args.length:=by unfold jY;rw[jK];exact List.length_map ..
 have ho:nR Tryd.prog KtG.kt 100000 f (cd n) (jY args) (l1::H)=none:=by
  unfold nR;rw[hf];dsimp only;rw[hb];dsimp only;rw[if_pos (by rw[hl];exact hle),eR];rw[show exec (⟨Tryd.prog,cd n,100000,f,fn.ntmps,KtG.kt f,none⟩:Cx) c (eE 0 (jY args)) (⟨false,[]⟩::l1::H)=_ from h];dsimp only;rcases he with rfl | rfl<;>simp only[hv]
 obtain ⟨y,h1,h2,h3⟩:=hT
 have:=oY hf (by rw[hb];rfl) (Hd h94 ho) hle hC hB hR (show (aZ Tryd.prog (cd n) 100000 f fn (KtG.kt f) callR bl rg args (l1::H)).run=some y by rw[et];exact h1)
 rw[h2,h3] at this
 exact this
section
variable (n s k:Nat) (P:Nat→Int) (H:aa)
theorem NN (hk:k≤1000):exec (bJ (n+2) 100 13) (.rangeFunc (.tmp 6) #[7] qy xn) (nL s (aP k P false)) (⟨false,[(0,.row (.G [.nils]))]⟩::H)=some (.normal,nL s (aP k P false),dR (Pp (0,.loop (eh s (aP k P false))) (kf P k)::H) 0 1) :=
 mV (cx:=bJ (n+2) 100 13) (l:=eh s (aP k P false)) (f:=.tmp 6) (ps:=#[7]) (fr:=nL s (aP k P false)) (H:=⟨false,[(0,.row (.G [.nils]))]⟩::H) (g:=96) (a:=[]) (b:=[.ptrT (some (s+1)) (.G [aP k P false]) 0]) rfl rfl rfl
  (Wn (n+1) (s+1) k P (fun j=>Pp (0,.loop (eh s (aP k P false))) (kf P j)::H) hk (fun j hj=>by
    show _=some (_,ao::Pp _ (kf P (j+1))::H);rw[JN];exact PJ n s k P (kf P j) H (P j) (by rw[iW];omega))) (by
    cases e:kf P k with
    | nil=>rfl
    | cons a r=>rfl) rfl rfl
theorem G6 {c:Nat} {fr:aD} {G:aa} {Y:ev} (hx:exec (bJ c 100 13) (.rangeFunc (.tmp 6) #[7] qy xn) fr G=some Y.st):(EY aJ (fun _=>true) fr G (.ok Y)).Ok (bJ c 100 13) (aW Tryd.f100) :=
 xL (aj _ _) (fun f ps a b _ hm x hx2=>by
  rw[Tq] at hm;simp only[List.mem_cons,Prod.mk.injEq,List.not_mem_nil,or_false] at hm;obtain ⟨rfl,rfl,rfl,rfl⟩:=hm;rw[← Tr.af hx2];exact hx)
theorem Q5 (hk:k≤1000) (hk1:1≤k):cd (n+3) (.fn 100) [.nils,oR s (aP k P false)] (ao::H)=some (.slc 0 0 0 0 1 k none,gq 0 k (az (kf P k))::H):=by
 have hx:=NN n s k P (ao::H) hk;have hl:=iW P k;cases e:kf P k with
 | nil=>rw[e] at hl;simp at hl;omega
 | cons a r =>
   rw[e] at hx hl;have hr:r.length+1=k:=by simpa using hl
   obtain ⟨x,hb,rfl⟩:=aA (Q:=fun x=>x=(.ret,[(4,.slc 0 2 r.length 0 1 (r.length+1) none)],GJ r.length (r.length+1) (az (a::r)) (0,.dead)::ao::H)) (Ut (n+2) s r.length k (r.length+1) P (az (a::r)) (ao::H)) (aw _) (ah _ _) (G6 (by simp only[ev.st,aN];exact hx)) (by
    exact wF)
   have e8:Tryd.f100.ntmps=13:=by kernel_rfl
   have eb:Tryd.f100.body=some (aW Tryd.f100):=by kernel_rfl
   have er:Tryd.f100.results.toList=[.tmp 4]:=by kernel_rfl
   have:=Gk (n:=n+2) (fn:=Tryd.f100) (c:=aW Tryd.f100) (args:=[.nils,oR s (aP k P false)]) (l1:=ao) (H:=H) (.inr rfl) Tryd.func100 eb (by rw[e8];rfl) (e:=.ret) (fr:=[(4,.slc 0 2 r.length 0 1 (r.length+1) none)]) (l:=GJ r.length (r.length+1) (az (a::r)) (0,.dead)) (j:=2) (ver:=r.length) (q:=.M [.arr .i64 (az (a::r)) (r.length+1)]) (by rw[e8];exact hb) (.inr rfl) (by rw[er];rfl) (by unfold GJ;simp[c8,aB,ay]) rfl rfl;rw[hr] at this;exact this
theorem Kp:cd (n+3) (.fn 100) [.nils,oR s (aP 0 P false)] (ao::H)=some (.nils,ao::H):=by
 have hx:=NN n s 0 P (ao::H) wO;obtain ⟨x,hb,rfl⟩:=aA (Q:=fun x=>x=(.ret,[(4,.nils)],MC (0,.dead)::ao::H)) (QC (n+2) s 0 P (ao::H)) (aw _) (ah _ _) (G6 (by simp only[ev.st,aN];exact hx)) (by
  exact wF)
 have e8:Tryd.f100.ntmps=13:=by kernel_rfl
 have eb:Tryd.f100.body=some (aW Tryd.f100):=by kernel_rfl
 have er:Tryd.f100.results.toList=[.tmp 4]:=by kernel_rfl
 refine CW (n:=n+2) (fn:=Tryd.f100) (c:=aW Tryd.f100) (l1:=ao) (H:=H) (.inr rfl) Tryd.func100 eb (by rw[e8];rfl) (by rw[e8];exact hb) (.inr rfl) (by rw[er];rfl) (Qw (n+2) s 0 P (ao::H)) (aw _) (ah _ _) (G6 (by simp only[ev.st,aN];exact NN n s 0 P (ao::H) wO)) ?_;exact wF
theorem Wk (hk:k≤1000) (hk1:1≤k):cd (n+4) (.fn 94) [oR s (aP k P false)] (ao::H)=some (.slc 0 0 0 0 1 k none,gq 0 k (az (kf P k))::H):=by
 obtain ⟨x,hb,rfl⟩:=aA (Q:=fun x=>x=(.ret,[(2,.slc 0 0 0 0 1 k none)],gq 0 k (az (kf P k))::ao::H)) (Y3 (n+3) s k k P (az (kf P k)) (ao::H)) (bw _ _ (bN (aR _) (fun x hx=>by rw[← Tr.af hx];exact Q5 n (s+1) k P (ao::H) hk hk1))) (ah _ _) (aj _ _) (by
  exact wF)
 have e8:Tryd.f94.ntmps=5:=by kernel_rfl
 have eb:Tryd.f94.body=some (aW Tryd.f94):=by kernel_rfl
 have er:Tryd.f94.results.toList=[.tmp 2]:=by kernel_rfl
 exact Gk (n:=n+3) (fn:=Tryd.f94) (c:=aW Tryd.f94) (args:=[oR s (aP k P false)]) (l1:=ao) (H:=H) (.inl rfl) Tryd.func94 eb (by rw[e8];rfl) (e:=.ret) (fr:=[(2,.slc 0 0 0 0 1 k none)]) (l:=gq 0 k (az (kf P k))) (j:=0) (ver:=0) (q:=.M [.arr .i64 (az (kf P k)) k]) (by rw[e8];exact hb) (.inr rfl) (by rw[er];rfl) (by unfold gq;simp[c8,aB,ay]) rfl rfl
theorem Ri:cd (n+4) (.fn 94) [oR s (aP 0 P false)] (ao::H)=some (.nils,ao::H):=by
 obtain ⟨x,hb,rfl⟩:=aA (Q:=fun x=>x=(.ret,[(2,.nils)],ao::ao::H)) (Uu (n+3) s 0 P (ao::H)) (bw _ _ (bN (aR _) (fun x hx=>by rw[← Tr.af hx];exact Kp n (s+1) P (ao::H)))) (ah _ _) (aj _ _) (by
  exact wF)
 have e8:Tryd.f94.ntmps=5:=by kernel_rfl
 have eb:Tryd.f94.body=some (aW Tryd.f94):=by kernel_rfl
 have er:Tryd.f94.results.toList=[.tmp 2]:=by kernel_rfl
 refine CW (n:=n+3) (fn:=Tryd.f94) (c:=aW Tryd.f94) (l1:=ao) (H:=H) (.inl rfl) Tryd.func94 eb (by rw[e8];rfl) (by rw[e8];exact hb) (.inr rfl) (by rw[er];rfl) (Up (n+3) s 0 P (ao::H)) (bw _ _ (bN (aR _) (fun x hx=>by rw[← Tr.af hx];exact Kp n (s+1) P (ao::H)))) (ah _ _) (aj _ _) ?_;exact wF
theorem Jf (A:List Int):((List.range A.length).map fun q=>az A (0+q))=A:=by
 apply List.ext_getElem (by simp);intro i h1 h2;simp only[List.getElem_map,List.getElem_range,Nat.zero_add,qC,List.getD_eq_getElem?_getD,List.getElem?_eq_getElem h2,Option.getD_some]
theorem lL (L:List Int):(gr L).length=L.length:=List.length_mergeSort L
theorem No (A:List Int):Fy gr (az A) 0 A.length=az (gr A):=by
 funext x;have hl:(gr A).length=A.length:=lL A;unfold Fy;rw[Jf,qC,qC];by_cases h:x<A.length
 · rw[if_pos wO,Nat.sub_zero]
 · rw[if_neg wO,List.getD_eq_getElem?_getD,List.getD_eq_getElem?_getD,List.getElem?_eq_none wO,List.getElem?_eq_none wO]
theorem Wm (k:Nat) (a:Nat→Int) (h1:0<k) (h2:k<4611686018427387904):cd (n+1) (.fn 95) [.slc 0 0 0 0 1 k none] (gq 0 k a::H)=some (.tup [],gq 0 k (Fy gr a 0 k)::H):=by
 refine oZ ?_;show Hw gr [.slc 0 0 0 0 1 k none] (gq 0 k a::H)=_;rw[show Hw gr [.slc 0 0 0 0 1 k none] (gq 0 k a::H)=(if aM (gq 0 k a::H) 0=false∧0<k∧k<4611686018427387904∧0+k≤k then some (.tup [],dD (gq 0 k a::H) 0 0 (0,.row (.M [.arr .i64 (Fy gr a 0 k) k]))) else none) from rfl];rw[if_pos ⟨rfl,h1,h2,by omega⟩];rfl
noncomputable def Nu (P:Nat→Int) (k:Nat):AV:=dA (gr (kf P k))
theorem V6 (hk:k≤1000):cd (n+11) (.fn 75) [oR s (aP k P false)] H=some (Nu P k,H):=by
 cases k with
 | zero =>
   have h95:cd (n+10) (.fn 95) [.nils] (ao::H)=some (.tup [],ao::H):=by
    refine pj (n:=n+9) Tryd.func95 rfl (fun _ _=>rfl) rfl (Uq n (ao::H)) (dT n 9) (ah _ _) (aj _ _) ?_;exact Tr.ag ⟨rfl,rfl⟩
   have e0:Nu P 0=.nils:=by
    have h:gr (kf P 0)=[]:=List.eq_nil_of_length_eq_zero (by rw[lL,iW]);unfold Nu;rw[h];rfl
   rw[e0];refine bp (n:=n+10) Tryd.func75 rfl rfl rfl (Uj (n+10) s 0 P H) (bw _ _ (bN (bN (aR _) (fun x hx=>by rw[← Tr.af hx];exact Ri (n+6) (s+1) P H)) (fun x hx=>by rw[← Tr.af hx];exact h95))) (ah _ _) (aj _ _) ?_;exact wF
 | succ k =>
   have e:Nu P (k+1)=aP (k+1) (az (gr (kf P (k+1)))) false:=Kr _ k (by rw[lL,iW]);have h95:=Wm (n+9) H (k+1) (az (kf P (k+1))) wO wO;have er:=No (kf P (k+1));rw[iW] at er;rw[er] at h95;rw[e];refine bp (n:=n+10) Tryd.func75 rfl rfl rfl (YJ (n+10) s (k+1) P (az (kf P (k+1))) (az (gr (kf P (k+1)))) H) (bw _ _ (bN (bN (aR _) (fun x hx=>by rw[← Tr.af hx];exact Wk (n+6) (s+1) (k+1) P H hk wO)) (fun x hx=>by rw[← Tr.af hx];exact h95))) (ah _ _) (aj _ _) ?_;rw[iz];exact wF
theorem V7:cd (n+1) (.fn 76) [aP k P false] H=some (oR 0 (aP k P false),H):=by
 refine bp (n:=n) Tryd.func76 rfl rfl rfl (YK n k P H) (aw _) (ah _ _) (aj _ _) ?_;exact Tr.ag ⟨rfl,rfl⟩
end
end Go.Eng
end
section
namespace Go.Eng
open Int (ofNat)
open Go.Proofs Go.Eng.Gall
noncomputable def vc (m:Nat) (z S:Nat→Int) (R:Row) (j:Int):aD:=[(1,aP m z false),(2,.ptr 0 0 0 0),(5,.ptrT none R 0),(7,aP m S false),(26,aP m S false),(27,.int .i64 (ofNat m)),(28,.int .i64 j)]
noncomputable def wW (m:Nat) (z:Nat→Int) (R:Row) (j:Int):aD:=[(1,aP m z false),(5,.ptrT none R 0),(43,aP m z false),(44,.int .i64 (ofNat m)),(45,.int .i64 j)]
noncomputable def yt (m:Nat) (z:Nat→Int) (R:Row) (X j:Int):aD:=[(5,.ptrT none R 0),(12,.int .u64 X),(56,aP m z false),(57,.int .i64 (ofNat m)),(58,.int .i64 j)]
theorem T6 (n:Nat) (O:Int) (U:Nat) (Z:Nat→Int) (V:Nat) (J:Nat→Int) (W B:Nat→Int) (G:aa) (C:List AV→Prop):aZ Tryd.prog (cd (n+2)) 100000 49 Tryd.f49 (KtG.kt 49) (il (mc (tX aC 22 [bt O U Z V J] (.int .i64 (ofNat 0))) 62 (fun x=>some (C x,shV O U Z V J W B))) n 2) aK aJ [(bt O U Z V J,none),(.nils,none)] G =
 Tr.reqP ([bt O U Z V J]=[bt O U Z V J]) (Tr.ite (bf (cq (ofNat 0) (ofNat 0))) (Tr.ok ((AV.tup [AV.nilp,iI 0],none),G)) (Tr.reqP (C [bt O U Z V J]) (Tr.ok ((AV.tup [shV O U Z V J W B,iI 0],none),G)))):=by kernel_rfl
theorem YG (n:Nat) (O:Int) (U:Nat) (Z:Nat→Int) (V:Nat) (J:Nat→Int) (W B:Nat→Int) (G:aa) (c p:Int):aZ Tryd.prog (cd n) 100000 71 Tryd.f71 (KtG.kt 71) (il aC n 0) aK aJ [(shV O U Z V J W B,none),(.int .i64 c,none),(.int .i64 p,none)] G =
 Tr.req (cu c 10) (Tr.req (dP (aq 3 c 2) 1 3 20) (Tr.req (dP (au (aq 3 c 2) 1) 1 3 20) (Tr.ite (di (W (bQ (aq 3 c 2) 3)) p) (Tr.ok ((AV.bool (di p (W (bQ (au (aq 3 c 2) 1) 3))),none),G)) (Tr.ok ((AV.bool false,some 1),G))))):=by kernel_rfl
theorem PZ (n:Nat) (r:Row) (G:aa) (m:Nat) (z S:Nat→Int) (R:Row) (j:Int):aF (bJ n 39 76) (il aC n 0) aK aJ (part Tryd.f39 [1,1,1,1,0,1,0,0]) (hints (vc m z S R j)) (⟨false,[(0,.row r)]⟩::G) =
 Tr.ite (bF j (ofNat m)) (Tr.req (cu j m) (Tr.req (bX (aq 0 j 1) m) (Tr.ite (bf (cq (S (aq 0 j 1)) j)) (Tr.ok (Ex.ret,[(4,iI 15,some 1)],(bm [(0,al.row r)])::G)) (Tr.ok (Ex.normal,[(1,aP m z false,none),(2,AV.ptr 0 0 0 0,none),(5,AV.ptrT none R 0,none),(7,aP m S false,none),(26,aP m S false,none),(27,iI m,none),(28,AV.int .i64 (bj .i64 j (ofNat 1)),none)],(bm [(0,al.row r)])::G))))) (Tr.ok (Ex.exit 0,[(1,aP m z false,none),(2,AV.ptr 0 0 0 0,none),(5,AV.ptrT none R 0,none),(7,aP m S false,none),(26,aP m S false,none),(27,iI m,none),(28,AV.int .i64 j,none),(29,AV.bool false,some 1)],(bm [(0,al.row r)])::G)):=by kernel_rfl
theorem TE (n:Nat) (r:Row) (G:aa) (m:Nat) (z:Nat→Int) (R:Row) (j:Int) (c:Int) (q:Bool):aF (bJ n 39 76) (il (tX aC 71 [(.ptrT none R 0),.int .i64 c,.int .i64 j] (.bool q)) n 0) aK aJ (part Tryd.f39 [1,1,1,1,1,1,0,1,0,0]) (hints (wW m z R j)) (⟨false,[(0,.row r)]⟩::G) =
 Tr.ite (bF j (ofNat m)) (Tr.req (cu j m) (Tr.req (bX (aq 0 j 1) m) (Tr.reqP ([AV.ptrT none R 0,AV.int .i64 (z (aq 0 j 1)),AV.int .i64 j]=[AV.ptrT none R 0,AV.int .i64 c,AV.int .i64 j]) (Tr.ite (bf q) (Tr.ok (Ex.ret,[(4,iI 21,some 1)],(bm [(0,al.row r)])::G)) (Tr.ok (Ex.normal,[(1,aP m z false,none),(5,AV.ptrT none R 0,none),(43,aP m z false,none),(44,iI m,none),(45,AV.int .i64 (bj .i64 j (ofNat 1)),none)],(bm [(0,al.row r)])::G)))))) (Tr.ok (Ex.exit 2,[(1,aP m z false,none),(5,AV.ptrT none R 0,none),(43,aP m z false,none),(44,iI m,none),(45,AV.int .i64 j,none),(46,AV.bool false,some 1)],(bm [(0,al.row r)])::G)):=by kernel_rfl
theorem P0 (n:Nat) (r:Row) (G:aa) (m:Nat) (z:Nat→Int) (R:Row) (j:Int):aF (bJ n 39 76) (il aC n 0) aK aJ (part Tryd.f39 [1,1,1,1,1,1,0,1,0,0]) (hints (wW m z R j)) (⟨false,[(0,.row r)]⟩::G) =
 Tr.ite (bF j (ofNat m)) (Tr.req (cu j m) (Tr.req (bX (aq 0 j 1) m) Tr.bad)) (Tr.ok (Ex.exit 2,[(1,aP m z false,none),(5,AV.ptrT none R 0,none),(43,aP m z false,none),(44,iI m,none),(45,AV.int .i64 j,none),(46,AV.bool false,some 1)],(bm [(0,al.row r)])::G)):=by kernel_rfl
theorem P1 (n:Nat) (O:Int) (U:Nat) (Z:Nat→Int) (V:Nat) (J:Nat→Int) (W B:Nat→Int) (r:Row) (G:aa) (m:Nat) (z:Nat→Int) (X j:Int):aF (bJ n 39 76) (il aC n 0) aK aJ (part Tryd.f39 [1,1,1,1,1,1,1,1,0,1,0,0]) (hints (yt m z (shR O U Z V J W B) X j)) (⟨false,[(0,.row r)]⟩::G) =
 Tr.ite (bF j (ofNat m)) (Tr.req (cu j m) (Tr.req (bX (aq 0 j 1) m) (Tr.req (cu (z (aq 0 j 1)) 10) (Tr.req (dP (aq 23 (z (aq 0 j 1)) 1) 1 23 10) (Tr.ite (bf (cq (A3 IntKind.u64 (B (bQ (aq 23 (z (aq 0 j 1)) 1) 23)) X) (ofNat 0))) (Tr.ok (Ex.ret,[(4,iI 16,some 1)],(bm [(0,al.row r)])::G)) (Tr.req (di (ofNat 0) (z (aq 0 j 1))) (Tr.ok (Ex.normal,[(5,shV O U Z V J W B,none),(12,AV.int IntKind.u64 (sf IntKind.u64 X (eC IntKind.u64 (ofNat 1) (z (aq 0 j 1)))),none),(56,aP m z false,none),(57,iI m,none),(58,AV.int .i64 (bj .i64 j (ofNat 1)),none)],(bm [(0,al.row r)])::G)))))))) (Tr.ok (Ex.exit 4,[(5,shV O U Z V J W B,none),(12,AV.int IntKind.u64 X,none),(56,aP m z false,none),(57,iI m,none),(58,AV.int .i64 j,none),(59,AV.bool false,some 1)],(bm [(0,al.row r)])::G)):=by kernel_rfl
theorem Yw (n:Nat) (O:Int) (U:Nat) (Z:Nat→Int) (V:Nat) (J:Nat→Int) (H:aa) (m:Nat) (z S:Nat→Int) (R:Row) (e q r:Bool) (X:Int):aZ Tryd.prog (cd n) 100000 39 Tryd.f39 (KtG.kt 39) (il (tX (tX (tX aC 49 [bt O U Z V J,.nils] (.tup [.ptrT none R 0,.int .i64 (ofNat 0)])) 76 [aP m z false] (oR 0 (aP m z false))) 75 [oR 0 (aP m z false)] (aP m S false)) n 0) (cE (cE (cE aK 0 (vc m z S R (ofNat 0)) (bU O U Z V J::H) (.ite e (.ok (.ret,[(4,.int .i64 (ofNat 15),none)],bU O U Z V J::H)) (.ok (.normal,hints (vc m z S R (ofNat m)++[(29,.bool false)]),bU O U Z V J::H)))) 2 (wW m z R (ofNat 0)) (bU O U Z V J::H) (.ite q (.ok (.ret,[(4,.int .i64 (ofNat 21),none)],bU O U Z V J::H)) (.ok (.normal,hints (wW m z R (ofNat m)++[(46,.bool false)]),bU O U Z V J::H)))) 4 (yt m z R (ofNat 0) (ofNat 0)) (bU O U Z V J::H) (.ite r (.ok (.ret,[(4,.int .i64 (ofNat 16),none)],bU O U Z V J::H)) (.ok (.normal,hints (yt m z R X (ofNat m)++[(59,.bool false)]),bU O U Z V J::H)))) aJ [(bt O U Z V J,none),(aP m z false,none)] H =
 (fun (Z0:bC)=>((fun (Z1:aD)=>((fun (Z2:aD)=>((fun (Z3:aD)=>Tr.reqP ([bt O U Z V J,AV.nils]=[bt O U Z V J,AV.nils]) (Tr.ite (bf (cq (ofNat 0) (ofNat 0))) (Tr.ok ((iI 0,none),H)) (Tr.reqP ([aP m z false]=[aP m z false]) (Tr.reqP ([AV.fn (Fn.func 96) [] [AV.ptrT (some 0) (Row.G [aP m z false]) 0]]=[AV.fn (Fn.func 96) [] [AV.ptrT (some 0) (Row.G [aP m z false]) 0]]) (Tr.reqP (Z1=Z1∧Z0::H=Z0::H) (Tr.ite e (Tr.ok ((iI 15,none),H)) (Tr.ite (bf (cq (ofNat m) (ofNat U))) (Tr.ok ((iI 15,some 1),H)) (Tr.reqP (Z3=Z3∧Z0::H=Z0::H) (Tr.ite q (Tr.ok ((iI 21,none),H)) (Tr.reqP (Z2=Z2∧Z0::H=Z0::H) (Tr.ite r (Tr.ok ((iI 16,none),H)) (Tr.ok ((iI 0,some 1),H))))))))))))) [(1,aP m z false),(5,AV.ptrT none R 0),(43,aP m z false),(44,iI m),(45,iI 0)])) [(5,AV.ptrT none R 0),(12,AV.int IntKind.u64 (ofNat 0)),(56,aP m z false),(57,iI m),(58,iI 0)])) [(1,aP m z false),(2,AV.ptr 0 0 0 0),(5,AV.ptrT none R 0),(7,aP m S false),(26,aP m S false),(27,iI m),(28,iI 0)])) (bm [(0,dc O U Z V J)]):=by kernel_rfl
theorem T4 (n:Nat) (O:Int) (U:Nat) (Z:Nat→Int) (V:Nat) (J:Nat→Int) (H:aa) (m:Nat) (z S:Nat→Int) (R:Row) (e:Bool):aZ Tryd.prog (cd n) 100000 39 Tryd.f39 (KtG.kt 39) (il (tX (tX (tX aC 49 [bt O U Z V J,.nils] (.tup [.ptrT none R 0,.int .i64 (ofNat 0)])) 76 [aP m z false] (oR 0 (aP m z false))) 75 [oR 0 (aP m z false)] (aP m S false)) n 0) (eI (eI (cE aK 0 (vc m z S R (ofNat 0)) (bU O U Z V J::H) (.ite e (.ok (.ret,[(4,.int .i64 (ofNat 15),none)],bU O U Z V J::H)) (.ok (.normal,hints (vc m z S R (ofNat m)++[(29,.bool false)]),bU O U Z V J::H)))) 2) 4) aJ [(bt O U Z V J,none),(aP m z false,none)] H =
 (fun (Z0:aD)=>Tr.reqP ([bt O U Z V J,AV.nils]=[bt O U Z V J,AV.nils]) (Tr.ite (bf (cq (ofNat 0) (ofNat 0))) (Tr.ok ((iI 0,none),H)) (Tr.reqP ([aP m z false]=[aP m z false]) (Tr.reqP ([AV.fn (Fn.func 96) [] [AV.ptrT (some 0) (Row.G [aP m z false]) 0]]=[AV.fn (Fn.func 96) [] [AV.ptrT (some 0) (Row.G [aP m z false]) 0]]) (Tr.reqP (Z0=Z0∧(bm [(0,dc O U Z V J)])::H=(bm [(0,dc O U Z V J)])::H) (Tr.ite e (Tr.ok ((iI 15,none),H)) (Tr.ite (bf (cq (ofNat m) (ofNat U))) (Tr.ok ((iI 15,some 1),H)) Tr.bad))))))) [(1,aP m z false),(2,AV.ptr 0 0 0 0),(5,AV.ptrT none R 0),(7,aP m S false),(26,aP m S false),(27,iI m),(28,iI 0)]:=by kernel_rfl
theorem Tz (n:Nat) (O:Int) (U:Nat) (Z:Nat→Int) (V:Nat) (J:Nat→Int) (H:aa) (m:Nat) (z S:Nat→Int) (R:Row):aZ Tryd.prog (cd n) 100000 39 Tryd.f39 (KtG.kt 39) (il (tX (tX (tX aC 49 [bt O U Z V J,.nils] (.tup [.ptrT none R 0,.int .i64 (ofNat 0)])) 76 [aP 0 z false] (oR 0 (aP 0 z false))) 75 [oR 0 (aP 0 z false)] .nils) n 0) (eI (eI aK 2) 4) aJ [(bt O U Z V J,none),(aP 0 z false,none)] H =
 Tr.reqP ([bt O U Z V J,AV.nils]=[bt O U Z V J,AV.nils]) (Tr.ite (bf (cq (ofNat 0) (ofNat 0))) (Tr.ok ((iI 0,none),H)) (Tr.reqP ([aP 0 z false]=[aP 0 z false]) (Tr.reqP ([AV.fn (Fn.func 96) [] [AV.ptrT (some 0) (Row.G [aP 0 z false]) 0]]=[AV.fn (Fn.func 96) [] [AV.ptrT (some 0) (Row.G [aP 0 z false]) 0]]) (Tr.ite (bf (cq (ofNat 0) (ofNat U))) (Tr.ok ((iI 15,some 1),H)) Tr.bad)))):=by kernel_rfl
end Go.Eng
end
