/- Gall: bounds, the program's, whole. -/
import Derived.Test.YtgphpjdchnfjlaaDoorV6Gacx5
import Derived.Test.YtgphpjdchnfjlaaDoorV6EngRnFx7
set_option linter.unusedVariables false
set_option linter.unusedSimpArgs false
set_option maxRecDepth 100000
section
namespace Go.Eng
open Int (ofNat)
open Go.Proofs Go.Eng.Gall
section
variable (n:Nat) (O:Int) (U:Nat) (Z:Nat→Int) (V:Nat) (J:Nat→Int) (W:Nat→Int) (b:Nat→Nat) (H:aa)
theorem Rp (hS:gm U W b) (q r:Nat→Int) (t':Nat) (hr:Bd U b W t' r) (t:Int):exec (bP (n+1) 56 69) (.block 2 (.loop (part Tryd.f56 [1,1,0,1,0,0,1,1,0,0,1,0,1,0,0]))) (yd (shV O U Z V J W (bI b)) U t (bI b) (ofNat 0)) (fw [db r,db q]::H) =
 some (.normal,yd (shV O U Z V J W (bI b)) U t (bI b) (ofNat 10)++[(26,.bool false)],fw [db (oK r (l7 b 10)),db q]::H):=by
 refine jY (n:=n+1) (f:=56) (nt:=69) (c:=part Tryd.f56 [1,1,0,1,0,0,1,1,0,0,1,0,1,0,0]) 2 (fun c=>yd (shV O U Z V J W (bI b)) U t (bI b) (c:Int)) (fun c=>fw [db (oK r (l7 b c)),db q]::H) 10 (_,_) wO (fun c hc=>?_) ?_
 · have hs:Bd U b W t' (oK r (l7 b c)):=(rF hS.nob _ hr (fun p hp=>by
    obtain ⟨a,d⟩:=p;have:=(Dg b c (fun d _=>hS.lt d) a d).1 hp;obtain ⟨h1,h2⟩:=hS.bit this.2;exact ⟨h2,h1,this.2⟩)).1
   have ec:bh .i64 (c:Int) (ofNat 1)=((c+1:Nat):Int):=fI wO
   have T:=SA (n+1) O U Z V J W (bI b) H (oK r (l7 b c)) q (oK r (l7 b (c+1))) t (c:Int) 0
   rw[ec,Be] at T
   have hx:=Rr n O U Z V J W b H hS q (oK r (l7 b c)) t' hs t c hc
   rw[← Dm] at hx
   refine aI T (aA _) (bf (aj _ _) NG (fun x h=>by rw[← Tr.ab h];simp only[eD.st,aP];exact hx)) (ak _ _) ?_
   refine Tr.af (fun h0=>?_) wJ
   exact Tr.ae wG (Tr.ae wG (Tr.an ⟨rfl,rfl⟩ (Tr.ai ⟨rfl,rfl⟩)))
 · obtain ⟨x,h1,rfl⟩:=aI (Q:=fun x=>x=(.exit 2,yd (shV O U Z V J W (bI b)) U t (bI b) (ofNat 10)++[(26,.bool false)],fw [db (oK r (l7 b 10)),db q]::H)) (Po (n+1) O U Z V J W (bI b) H (oK r (l7 b 10)) q t) (aA _) (cY (aj _ _) 4) (ak _ _) (by
    refine Tr.af wJ (fun h0=>Tr.ai rfl))
   exact h1
theorem Lv (hS:gm U W b) {t:Nat} {r:Nat→Int} (hr:Bd U b W t r):∀ j,20≤j→r j=0:=fun j hj=>by
 rw[hr.out j (by have:=hS.len;omega)];exact hS.zer j hj
theorem MG (hS:gm U W b) (t:Nat) (ht:t<U):∃ x,exec (bP (n+1) 56 69) (part Tryd.f56 [1,1,0,1,0,0]) (nA (shV O U Z V J W (bI b)) U (t:Int)) (fw [db (iv (l7 b 10) W t)]::H)=some x ∧
 if mc (iv (l7 b 10) W (t+1)) (iv (l7 b 10) W t) 20=true then x=(.exit 0,nA (shV O U Z V J W (bI b)) U (t:Int)++[(66,.bool true)],fw [db (iv (l7 b 10) W (t+1)),db (iv (l7 b 10) W t)]::H)
 else x.1=.normal∧tidy 2 x.2.1 x.2.2=(nA (shV O U Z V J W (bI b)) U ((t+1:Nat):Int),fw [db (iv (l7 b 10) W (t+1))]::H):=by
 have hb:=pO (w:=W) hS.nob hS.all t
 have ec:bh .i64 (t:Int) (ofNat 1)=((t+1:Nat):Int):=fI (by have:=hS.len;omega)
 have T:=Sz (n+1) O U Z V J W (bI b) H (iv (l7 b 10) W t) (iv (l7 b 10) W (t+1)) (t:Int)
 rw[ec,sC (Lv U W b hS hb)] at T
 refine aI T (aA _) (bf (aj _ _) NF (fun x h=>by rw[← Tr.ab h];simp only[eD.st,aP];exact Rp n O U Z V J W b H hS (iv (l7 b 10) W t) (iv (l7 b 10) W t) t hb (t:Int))) (ak _ _) ?_
 refine Tr.af (fun h0=>?_) wJ
 refine Tr.ae wG (Tr.an ⟨rfl,rfl⟩ (Tr.af (fun q=>Tr.ai ?_) (fun q=>Tr.ai ?_)))
 · rw[if_pos q];rfl
 · rw[if_neg (by rw[q];decide)];exact ⟨rfl,rfl⟩
theorem Ut (hS:gm U W b):cd (n+2) (.fn 56) [shV O U Z V J W (bI b)] H=some (.agg (.M [.arr .i64 (jz U b W) 20]),H):=by
 have hl:=hS.len;have hz:∀ j,20≤j→jz U b W j=0:=fun j hj=>by unfold jz;rw[if_neg wO];exact hS.zer j hj
 rcases sJ (fun t=>t<U∧mc (iv (l7 b 10) W (t+1)) (iv (l7 b 10) W t) 20=true) U with h | ⟨T,h1,⟨_,h2⟩,h3⟩
 · have hx:exec (bP (n+1) 56 69) (.block 0 (.loop (part Tryd.f56 [1,1,0,1,0,0]))) (nA (shV O U Z V J W (bI b)) U (ofNat 0)) (fw [db W]::H)=some (.normal,nA (shV O U Z V J W (bI b)) U (ofNat U)++[(19,.bool false)],fw [db (iv (l7 b 10) W U)]::H):=by
    refine jY (n:=n+1) (f:=56) (nt:=69) (c:=part Tryd.f56 [1,1,0,1,0,0]) 0 (fun t=>nA (shV O U Z V J W (bI b)) U (t:Int)) (fun t=>fw [db (iv (l7 b 10) W t)]::H) U (_,_) wO (fun t ht=>?_) ?_
    · obtain ⟨x,x1,x2⟩:=MG n O U Z V J W b H hS t ht;rw[if_neg (fun q=>h t ht ⟨ht,q⟩)] at x2;exact ⟨x,x1,x2⟩
    · obtain ⟨x,h1,rfl⟩:=aI (Q:=fun x=>x=(.exit 0,nA (shV O U Z V J W (bI b)) U (ofNat U)++[(19,.bool false)],fw [db (iv (l7 b 10) W U)]::H)) (Pn (n+1) O U Z V J W (bI b) H (iv (l7 b 10) W U) (ofNat U)) (aA _) (cY (aj _ _) 2) (ak _ _) (by
       refine Tr.af wJ (fun h0=>Tr.ai rfl))
      exact h1
   have he:=Fe (Nat.le_refl U) (pO (w:=W) hS.nob hS.all U);rw[he] at hx;have Xt:=SW (n+1) O U Z V J W (bI b) H (jz U b W);rw[sC hS.zer,sC hz] at Xt;refine bU (n:=n+1) Tryd.func56 rfl rfl rfl Xt (aA _) (bf (aj _ _) JW (fun x h=>by rw[← Tr.ab h];simp only[eD.st,aP];exact hx)) (ak _ _) ?_;exact Tr.ae wG (Tr.an ⟨rfl,rfl⟩ (Tr.ae wG (Tr.ai ⟨rfl,rfl⟩)))
 · have hbT:=pO (w:=W) hS.nob hS.all T;have hbT1:=pO (w:=W) hS.nob hS.all (T+1);have heq:iv (l7 b 10) W (T+1)=iv (l7 b 10) W T:=by
    funext j;by_cases hj:j<20
    · exact vp h2 j hj
    · rw[Lv U W b hS hbT1 j wO,Lv U W b hS hbT j wO]
   have he:iv (l7 b 10) W (T+1)=jz U b W:=by
    rw[heq];exact H7 hS.nob hS.all hbT heq
   have hx:exec (bP (n+1) 56 69) (.block 0 (.loop (part Tryd.f56 [1,1,0,1,0,0]))) (nA (shV O U Z V J W (bI b)) U (ofNat 0)) (fw [db W]::H)=some (.normal,nA (shV O U Z V J W (bI b)) U (T:Int)++[(66,.bool true)],fw [db (iv (l7 b 10) W (T+1)),db (iv (l7 b 10) W T)]::H):=by
    refine jY (n:=n+1) (f:=56) (nt:=69) (c:=part Tryd.f56 [1,1,0,1,0,0]) 0 (fun t=>nA (shV O U Z V J W (bI b)) U (t:Int)) (fun t=>fw [db (iv (l7 b 10) W t)]::H) T (_,_) wO (fun t ht=>?_) ?_
    · obtain ⟨x,x1,x2⟩:=MG n O U Z V J W b H hS t wO;rw[if_neg (fun q=>h3 t ht ⟨by omega,q⟩)] at x2;exact ⟨x,x1,x2⟩
    · obtain ⟨x,x1,x2⟩:=MG n O U Z V J W b H hS T h1;rw[if_pos h2] at x2;subst x2;exact x1
   rw[he] at hx;have Xt:=SX (n+1) O U Z V J W (bI b) H (jz U b W) (iv (l7 b 10) W T) (T:Int);rw[sC hS.zer,sC hz] at Xt;refine bU (n:=n+1) Tryd.func56 rfl rfl rfl Xt (aA _) (bf (aj _ _) JW (fun x h=>by rw[← Tr.ab h];simp only[eD.st,aP];exact hx)) (ak _ _) ?_;exact Tr.ae wG (Tr.an ⟨rfl,rfl⟩ (Tr.ae wG (Tr.ai ⟨rfl,rfl⟩)))
end
end Go.Eng
end
section
namespace Go.Eng
open Go.Proofs Go.Eng.Gall
end Go.Eng
end
section
namespace Go.Eng
open Go.Proofs Go.Eng.Gall
theorem Ck {a b:Int} (hb:1≤b) {K:Int} (h1:-K≤a) (h2:a≤K) (hK:0≤K):-K-b≤a / b∧a / b≤K:=by
 have h7:=Int.mul_ediv_add_emod a b;have h3:=Int.emod_nonneg a (show b≠0 by omega);have h4:=Int.emod_lt_of_pos a (show 0<b by omega);constructor
 · apply Classical.byContradiction;intro hc;have h8:b*(a / b)≤1*(a / b):=Int.mul_le_mul_of_nonpos_right hb wO;omega
 · exact Int.le_trans (Int.ediv_le_ediv wO h2) (Int.ediv_le_self b hK)
section
variable (n:Nat) (O:Int) (U:Nat) (Z:Nat→Int) (V:Nat) (J:Nat→Int) (H:aa)
end
end Go.Eng
end
section
namespace Go.Eng
open Go.Proofs Go.Eng.Gall
section
variable (O:Int) (U:Nat) (Z:Nat→Int) (V:Nat) (J:Nat→Int)
theorem Pb (hl:U≤10) (hd:1≤O∧O≤100) (hv:uN U Z) (hp:fB U V J) (hk:l6 U (fun c=>gf J c V)=false):gm U (ev O U Z) (fun c=>gf J c V):=by
 refine ⟨hl,fun j=>?_,fun j hj=>?_,fun c hc=>kR J c U V (fun i hi=>(hp i hi).1),fun c hc=>?_,hk⟩
 · unfold ev;by_cases h:j<2*U
   · rw[if_pos h];obtain ⟨v1,v2,v3,v4,v5,v6⟩:=JO hv (show j / 2<U by omega);have q1:=Ck (a:=Z (j / 2*4+3)-Z (j / 2*4+1)) hd.1 (K:=1000) wO wO (by decide);have q2:=Ck (a:=Z (j / 2*4)-Z (j / 2*4+2)) hd.1 (K:=1000) wO wO (by decide);split<;>omega
   · rw[if_neg h];omega
 · unfold ev;rw[if_neg wO]
 · cases e:gf J c V with
   | zero=>rfl
   | succ m =>
     exfalso;have:∃ a,(gf J c V).testBit a=true:=by
      apply Classical.byContradiction;intro hn;have:gf J c V=0:=by
       apply Nat.eq_of_testBit_eq;intro i;rw[Nat.zero_testBit];cases e:(gf J c V).testBit i with
       | false=>rfl
       | true=>exact absurd ⟨i,e⟩ hn
      omega
     obtain ⟨a,ha⟩:=this;obtain ⟨i,hi,h4,h5⟩:=(m4 J c a V (fun i hi=>(hp i hi).1.1)).1 ha;have:=hp i hi;omega
variable (n:Nat) (H:aa)
end
end Go.Eng
end
section
namespace Go.Eng
open Int (ofNat)
open Go.Proofs
noncomputable def iQ (n f nt d i:Nat):Cx:=⟨Tryd.prog,cd n,100000,f,nt,KtG.kt f,some (d,i)⟩
noncomputable def A3 (k:Nat) (P:Nat→Int) (j:Int):aE:=[(0,.yld 1 1),(5,bk k P false),(6,.int .i64 (ofNat k)),(7,.int .i64 j)]
noncomputable def oR (s:Nat) (A:AV):AV:=.fn (.func 96) [] [.ptrT (some s) (.G [A]) 0]
noncomputable def nM (s:Nat) (A:AV):aE:=[(2,.ptr 0 0 0 0),(6,oR (s+1) A)]
noncomputable def Me (b:Nat×ao):bK:=⟨false,[(0,.row (.G [.nils])),b]⟩
noncomputable def Gi (v k:Nat) (a:Nat→Int) (b:Nat×ao):bK:=⟨false,[(0,.row (.G [.slc 0 2 v 0 1 k none])),b,(v,.row (.M [.arr .i64 a k]))]⟩
theorem t96 (n k:Nat) (P:Nat→Int) (G G':aa) (j x:Int):aJ (bP n 96 16) (O7 (il aM n 0) 1 1 [.int .i64 x] (aw::G) (.ok (.bool true,aw::G'))) aV aR (part Tryd.f96 [1,0,0]) (hints (A3 k P j)) (aw::G) =
 Tr.ite (bQ j (ofNat k)) (Tr.req (bL j k) (Tr.req (bt (au 0 j 1) k) (Tr.reqP ([AV.int .i64 (P (au 0 j 1))]=[AV.int .i64 x]∧aw::G=aw::G) (Tr.ite (bD true) (Tr.ok (Ex.ret,[(0,AV.yld 1 1,none),(5,bk k P false,none),(6,iI k,none),(7,AV.int .i64 j,none),(14,AV.bool true,some 1)],aw::G')) (Tr.ok (Ex.normal,[(0,AV.yld 1 1,none),(5,bk k P false,none),(6,iI k,none),(7,AV.int .i64 (bh .i64 j (ofNat 1)),none)],aw::G')))))) (Tr.ok (Ex.exit 0,[(0,AV.yld 1 1,none),(5,bk k P false,none),(6,iI k,none),(7,AV.int .i64 j,none),(8,AV.bool false,some 1)],aw::G)):=by kernel_rfl
theorem SN (n k:Nat) (P:Nat→Int) (G:aa) (j:Int):aJ (bP n 96 16) (il aM n 0) aV aR (part Tryd.f96 [1,0,0]) (hints (A3 k P j)) (aw::G) =
 Tr.ite (bQ j (ofNat k)) (Tr.req (bL j k) (Tr.req (bt (au 0 j 1) k) Tr.bad)) (Tr.ok (Ex.exit 0,[(0,AV.yld 1 1,none),(5,bk k P false,none),(6,iI k,none),(7,AV.int .i64 j,none),(8,AV.bool false,some 1)],aw::G)):=by kernel_rfl
theorem Xm (n s k:Nat) (P:Nat→Int) (G G':aa):bz Tryd.prog (cd n) 100000 96 Tryd.f96 (KtG.kt 96) (il aM n 0) (c9 aV 0 (A3 k P (ofNat 0)) (aw::G) (.ok (.normal,hints (A3 k P (ofNat k)++[(8,.bool false)]),aw::G'))) aR [(.yld 0 1,none),(.ptrT (some s) (.G [bk k P false]) 0,none)] G =
 Tr.reqP ([(0,AV.yld 1 1),(5,bk k P false),(6,iI k),(7,iI 0)]=[(0,AV.yld 1 1),(5,bk k P false),(6,iI k),(7,iI 0)]∧aw::G=aw::G) (Tr.ok ((AV.tup [],none),G')):=by kernel_rfl
theorem Ku (n s k:Nat) (P:Nat→Int) (bs:List (Nat×ao)) (H:aa) (x:Int):aJ (iQ n 100 13 2 1) (il aM n 0) aV aR (part Tryd.f100 [1,0,1,0,0]) (hints [(2,.ptr 2 0 0 0),(6,oR (s+3) (bk k P false)),(7,.int .i64 x)]) (aw::aw::⟨false,bs⟩::H) =
 Tr.ok (Ex.normal,[(2,AV.ptr 2 0 0 0,none),(5,AV.int .i64 x,none)],aw::aw::(bO bs)::H):=by kernel_rfl
theorem Pe (n:Nat) (L:iy) (H:aa) (x:Int):aJ (iQ n 100 13 2 1) (il aM n 0) aV aR (part Tryd.f100 [1,0,1,0,1]) (hints [(2,.ptr 2 0 0 0),(5,.int .i64 x)]) (aw::aw::Me (0,.loop L)::H) =
 Tr.req (da 0 1 8) (Tr.req (aU 0 0) (Tr.req (bH 1 1) (Tr.ok (Ex.normal,[],(bO [(0,ao.row (Row.I .i64 [x])),(0,ao.dead)])::aw::(bO [(0,ao.row (Row.G [AV.slc 0 2 0 0 1 1 none])),(0,ao.loop L),(0,ao.row (rM (ar [x]) 1))])::H)))):=by kernel_rfl
theorem Pf (n v k:Nat) (b:Nat→Int) (L:iy) (H:aa) (x:Int):aJ (iQ n 100 13 2 1) (il aM n 0) aV aR (part Tryd.f100 [1,0,1,0,1]) (hints [(2,.ptr 2 0 0 0),(5,.int .i64 x)]) (aw::aw::Gi v k b (0,.loop L)::H) =
 Tr.req (da k 1 8) (Tr.req (aU 0 0) (Tr.req (bH 1 1) (Tr.req (aU v v) (Tr.req (aU (ah 0 k) k) (Tr.ok (Ex.normal,[],(bO [(0,ao.row (Row.I .i64 [x]))])::aw::(bO [(0,ao.row (Row.G [AV.slc 0 2 (Nat.succ v) 0 1 (ah k 1) none])),(0,ao.loop L),(Nat.succ v,ao.row (rM (bJ (iO b 0) k (ar [x])) (ah k 1)))])::H)))))):=by kernel_rfl
theorem S8 (n s v k m:Nat) (P b:Nat→Int) (H:aa):aJ (bP n 100 13) (il aM n 0) aV (HN aR (fun _=>true) (nM s (bk k P false)) (⟨false,[(0,.row (.G [.nils]))]⟩::H) (.ok (.normal,hints (nM s (bk k P false)),Gi v m b (0,.dead)::H))) (a7 Tryd.f100) (hints [(0,.nils),(1,oR (s+1) (bk k P false))]) (aw::H) =
 (fun (Z0:aE)=>Tr.reqP (Z0=Z0∧(bO [(0,ao.row (Row.G [AV.nils]))])::H=(bO [(0,ao.row (Row.G [AV.nils]))])::H) (Tr.ok (Ex.ret,[(4,AV.slc 0 2 v 0 1 m none,none)],(bO [(0,ao.row (Row.G [AV.slc 0 2 v 0 1 m none])),(0,ao.dead),(v,ao.row (rM b m))])::H))) [(2,AV.ptr 0 0 0 0),(6,AV.fn (Fn.func 96) [] [AV.ptrT (some (Nat.succ s)) (Row.G [bk k P false]) 0])]:=by kernel_rfl
theorem PL (n s k:Nat) (P:Nat→Int) (H:aa):bz Tryd.prog (cd n) 100000 100 Tryd.f100 (KtG.kt 100) (il aM n 0) aV (HN aR (fun _=>true) (nM s (bk k P false)) (⟨false,[(0,.row (.G [.nils]))]⟩::H) (.ok (.normal,hints (nM s (bk k P false)),Me (0,.dead)::H))) [(.nils,none),(oR s (bk k P false),none)] H =
 (fun (Z0:aE)=>Tr.reqP (Z0=Z0∧(bO [(0,ao.row (Row.G [AV.nils]))])::H=(bO [(0,ao.row (Row.G [AV.nils]))])::H) (Tr.ok ((AV.nils,none),H))) [(2,AV.ptr 0 0 0 0),(6,AV.fn (Fn.func 96) [] [AV.ptrT (some (Nat.succ s)) (Row.G [bk k P false]) 0])]:=by kernel_rfl
theorem PR (n s k:Nat) (P:Nat→Int) (H:aa):aJ (bP n 100 13) (il aM n 0) aV (HN aR (fun _=>true) (nM s (bk k P false)) (⟨false,[(0,.row (.G [.nils]))]⟩::H) (.ok (.normal,hints (nM s (bk k P false)),Me (0,.dead)::H))) (a7 Tryd.f100) (hints [(0,.nils),(1,oR (s+1) (bk k P false))]) (aw::H) =
 (fun (Z0:aE)=>Tr.reqP (Z0=Z0∧(bO [(0,ao.row (Row.G [AV.nils]))])::H=(bO [(0,ao.row (Row.G [AV.nils]))])::H) (Tr.ok (Ex.ret,[(4,AV.nils,none)],(bO [(0,ao.row (Row.G [AV.nils])),(0,ao.dead)])::H))) [(2,AV.ptr 0 0 0 0),(6,AV.fn (Fn.func 96) [] [AV.ptrT (some (Nat.succ s)) (Row.G [bk k P false]) 0])]:=by kernel_rfl
theorem Xp (n s k m:Nat) (P b:Nat→Int) (H:aa):aJ (bP n 94 5) (il (xI aM 100 [.nils,oR (s+1) (bk k P false)] (aw::H) (.ok (.slc 0 0 0 0 1 m none,gi 0 m b::H))) n 0) aV aR (a7 Tryd.f94) (hints [(0,oR (s+1) (bk k P false))]) (aw::H) =
 (fun (Z0:List AV)=>Tr.reqP (Z0=Z0∧aw::H=aw::H) (Tr.ok (Ex.ret,[(2,AV.slc 0 0 0 0 1 m none,none)],(bO [(0,ao.row (rM b m))])::H))) [AV.nils,AV.fn (Fn.func 96) [] [AV.ptrT (some (Nat.succ s)) (Row.G [bk k P false]) 0]]:=by kernel_rfl
theorem S4 (n s k:Nat) (P:Nat→Int) (H:aa):bz Tryd.prog (cd n) 100000 94 Tryd.f94 (KtG.kt 94) (il (xI aM 100 [.nils,oR (s+1) (bk k P false)] (aw::H) (.ok (.nils,aw::H))) n 0) aV aR [(oR s (bk k P false),none)] H =
 (fun (Z0:List AV)=>Tr.reqP (Z0=Z0∧aw::H=aw::H) (Tr.ok ((AV.nils,none),H))) [AV.nils,AV.fn (Fn.func 96) [] [AV.ptrT (some (Nat.succ s)) (Row.G [bk k P false]) 0]]:=by kernel_rfl
theorem S9 (n s k:Nat) (P:Nat→Int) (H:aa):aJ (bP n 94 5) (il (xI aM 100 [.nils,oR (s+1) (bk k P false)] (aw::H) (.ok (.nils,aw::H))) n 0) aV aR (a7 Tryd.f94) (hints [(0,oR (s+1) (bk k P false))]) (aw::H) =
 (fun (Z0:List AV)=>Tr.reqP (Z0=Z0∧aw::H=aw::H) (Tr.ok (Ex.ret,[(2,AV.nils,none)],aw::H))) [AV.nils,AV.fn (Fn.func 96) [] [AV.ptrT (some (Nat.succ s)) (Row.G [bk k P false]) 0]]:=by kernel_rfl
theorem Xb (n s k:Nat) (P b c:Nat→Int) (H:aa):bz Tryd.prog (cd n) 100000 75 Tryd.f75 (KtG.kt 75) (il (xI (xI aM 94 [oR (s+1) (bk k P false)] (aw::H) (.ok (.slc 0 0 0 0 1 k none,gi 0 k b::H))) 95 [.slc 0 0 0 0 1 k none] (gi 0 k b::H) (.ok (.tup [],gi 0 k c::H))) n 0) aV aR [(oR s (bk k P false),none)] H =
 Tr.reqP ([AV.fn (Fn.func 96) [] [AV.ptrT (some (Nat.succ s)) (Row.G [bk k P false]) 0]]=[AV.fn (Fn.func 96) [] [AV.ptrT (some (Nat.succ s)) (Row.G [bk k P false]) 0]]∧aw::H=aw::H) (Tr.reqP ([AV.slc 0 0 0 0 1 k none]=[AV.slc 0 0 0 0 1 k none]∧(bO [(0,ao.row (rM b k))])::H=(bO [(0,ao.row (rM b k))])::H) (Tr.req (aU 0 0) (Tr.req (dX 0 k 0 k) (Tr.ok ((bk k (iO c 0) false,none),H))))):=by kernel_rfl
theorem S1 (n s k:Nat) (P:Nat→Int) (H:aa):bz Tryd.prog (cd n) 100000 75 Tryd.f75 (KtG.kt 75) (il (xI (xI aM 94 [oR (s+1) (bk k P false)] (aw::H) (.ok (.nils,aw::H))) 95 [.nils] (aw::H) (.ok (.tup [],aw::H))) n 0) aV aR [(oR s (bk k P false),none)] H =
 Tr.reqP ([AV.fn (Fn.func 96) [] [AV.ptrT (some (Nat.succ s)) (Row.G [bk k P false]) 0]]=[AV.fn (Fn.func 96) [] [AV.ptrT (some (Nat.succ s)) (Row.G [bk k P false]) 0]]∧aw::H=aw::H) (Tr.reqP ([AV.nils]=[AV.nils]∧aw::H=aw::H) (Tr.ok ((AV.nils,none),H))):=by kernel_rfl
theorem Xc (n k:Nat) (P:Nat→Int) (H:aa):bz Tryd.prog (cd n) 100000 76 Tryd.f76 (KtG.kt 76) (il aM n 0) aV aR [(bk k P false,none)] H =
 Tr.ok ((AV.fn (Fn.func 96) [] [AV.ptrT (some 0) (Row.G [bk k P false]) 0],none),H):=by kernel_rfl
theorem S5 (n:Nat) (H:aa):bz Tryd.prog (cd (n+9)) 100000 95 Tryd.f95 (KtG.kt 95) (il aM n 9) aV aR [(.nils,none)] H =
 Tr.ok ((AV.tup [],none),H):=by kernel_rfl
theorem Uo:∀ b,(0,b) ∈ aO (a7 Tryd.f96)→b=.loop (part Tryd.f96 [1,0,0]):=eP (by kernel_rfl)
section
variable (n s k:Nat) (P:Nat→Int)
theorem UN (St:Nat→aa) (hk:k≤1000) (hr:∀ j,j<k→cd n (.round 1 1) [.int .i64 (P j)] (aw::St j)=some (.bool true,aw::St (j+1))) :
 cd (n+1) (.fn 96) [.yld 0 1,.ptrT (some s) (.G [bk k P false]) 0] (St 0)=some (.tup [],St k):=by
 have hx:=jY (n:=n) (f:=96) (nt:=16) (c:=part Tryd.f96 [1,0,0]) 0 (fun j=>A3 k P (j:Int)) (fun j=>aw::St j) k (A3 k P (ofNat k)++[(8,.bool false)],aw::St k) wO (fun j hj=>?_) ?_
 · refine bU (n:=n) Tryd.func96 rfl rfl rfl (Xm n s k P (St 0) (St k)) (aA _) (bf (aj _ _) Uo (fun x h=>by rw[← Tr.ab h];simp only[eD.st,aP];exact hx)) (ak _ _) ?_
   exact Tr.an ⟨rfl,rfl⟩ (Tr.ai ⟨rfl,rfl⟩)
 · refine aI (t96 n k P (St j) (St (j+1)) (j:Int) (P j)) (BA (aA n) (fun x hy=>by rw[← Tr.ab hy];exact hr j hj)) (aj _ _) (ak _ _) ?_
   rw[Be,fI wO]
   generalize St (j+1)=G' at *
   generalize St j=G at *
   exact wF
 · obtain ⟨x,h1,rfl⟩:=aI (Q:=fun x=>x=(.exit 0,A3 k P (ofNat k)++[(8,.bool false)],aw::St k)) (SN n k P (St k) (ofNat k)) (aA n) (aj _ _) (ak _ _) (by
    refine Tr.af (fun hc=>?_) (fun hc=>Tr.ai rfl);simp (disch:=omega) only[nV,nW] at hc;omega)
   exact h1
end
theorem zm {n d i:Nat} {args:List AV} {H H2 R:aa} {l l2:iy} {fr fr1 fr2:aE} {lv:bK}
 (hg:az H d i=(0,.loop l)) (hl:aK H d=false) (hs:l.state=.ready) (hp:jL l.nt (kN (d+1) l.fr) l.params (args.map (mX 1))=some fr)
 (h1:exec (iQ n l.fn l.nt (d+1) i) l.assign fr (aw::H)=some (.normal,fr1,aw::H))
 (h2:exec (iQ n l.fn l.nt (d+1) i) l.body fr1 (dB (aw::H) (d+1) i (0,.loop { l with state:=.busy }))=some (.normal,fr2,lv::H2)) (hg2:az H2 d i=(0,.loop l2)) (hR:R=dB H2 d i (0,.loop { l2 with state:=.ready,pending:=none })) :
 cd (n+1) (.round d i) args H=some (.bool true,R):=by
 rw[hR]
 exact zn (P:=Tryd.prog) (ora:=ia) (KT:=KtG.kt) (fu:=100000) (e:=.normal) hg hl hs hp h1 (by rw[show az (aw::H) (d+1) i=az H d i from rfl];exact hg) hs h2 hg2
theorem ja {n f nt d i:Nat} {c:Code} {callR:bp} {bl:eE} {rg:nJ} {fr:aE} {H:aa} {T:Tr eD} (e:aJ (iQ n f nt d i) callR bl rg c (hints fr) H=T) (hC:callR.Ok (cd n)) (hB:bl.Ok (iQ n f nt d i) c) (hR:rg.Ok (iQ n f nt d i) c) {y:Ex×aE×aa} (h:T.all fun x=>x.st=y):exec (iQ n f nt d i) c fr H=some y:=by
 obtain ⟨x,h1,rfl⟩:=h;have:=fe (cx:=iQ n f nt d i) hC c hB hR (hints fr) H x (by rw[e];exact h1);rw[aP] at this;exact this
theorem oc {n f nt d i:Nat} {c:Code} {callR:bp} {bl:eE} {rg:nJ} {fr:aE} {H:aa} {T:Tr eD} {Q:Ex×aE×aa→Prop} (e:aJ (iQ n f nt d i) callR bl rg c (hints fr) H=T) (hC:callR.Ok (cd n)) (hB:bl.Ok (iQ n f nt d i) c) (hR:rg.Ok (iQ n f nt d i) c) (h:T.all fun x=>Q x.st):∃ y,exec (iQ n f nt d i) c fr H=some y∧Q y:=by
 obtain ⟨x,h1,h2⟩:=h;have:=fe (cx:=iQ n f nt d i) hC c hB hR (hints fr) H x (by rw[e];exact h1);rw[aP] at this;exact ⟨_,this,h2⟩
noncomputable def qq:Code:=part Tryd.f100 [1,0,1,0,0]
noncomputable def wY:Code:=part Tryd.f100 [1,0,1,0,1]
theorem Sm:dK (a7 Tryd.f100)=[(.tmp 6,#[7],qq,wY)]:=by kernel_rfl
noncomputable def dV (s:Nat) (A:AV):iy:={ state:=.ready,pending:=none,fn:=100,nt:=13,fr:=nM s A,params:=[7],assign:=qq,body:=wY }
noncomputable def OO (b:Nat×ao):List Int→bK
 | []=>Me b
 | a::r=>Gi r.length (r.length+1) (ar (a::r)) b
theorem O4 (n s k:Nat) (P:Nat→Int) (L:List Int) (H:aa) (x:Int) (hL:L.length≤1000) :
 cd (n+1) (.round 1 1) [.int .i64 x] (aw::OO (0,.loop (dV s (bk k P false))) L::H)=some (.bool true,aw::OO (0,.loop (dV s (bk k P false))) (L++[x])::H):=by
 cases L with
 | nil =>
   have h1:exec (iQ n 100 13 2 1) qq [(2,.ptr 2 0 0 0),(6,oR (s+3) (bk k P false)),(7,.int .i64 x)] (aw::aw::Me (0,.loop (dV s (bk k P false)))::H)=some (.normal,[(2,.ptr 2 0 0 0),(5,.int .i64 x)],aw::aw::Me (0,.loop (dV s (bk k P false)))::H) :=
    ja (Ku n s k P _ H x) (aA n) (aj _ _) (ak _ _) (Tr.ai rfl)
   obtain ⟨y,h2,h3⟩:=oc (Q:=fun y=>y=(.normal,[],⟨false,[(0,.row (.I .i64 [x])),(0,.dead)]⟩::aw::Gi 0 1 (ar [x]) (0,.loop { dV s (bk k P false) with state:=.busy })::H)) (Pe n { dV s (bk k P false) with state:=.busy } H x) (aA n) (aj _ _) (ak _ _) (by
    generalize dV s (bk k P false)=L at *;exact wF)
   subst h3
   exact zm (l:=dV s (bk k P false)) (l2:={ dV s (bk k P false) with state:=.busy }) rfl rfl rfl rfl h1 h2 rfl rfl
 | cons a r =>
   simp only[List.length_cons] at hL
   have h1:exec (iQ n 100 13 2 1) qq [(2,.ptr 2 0 0 0),(6,oR (s+3) (bk k P false)),(7,.int .i64 x)] (aw::aw::Gi r.length (r.length+1) (ar (a::r)) (0,.loop (dV s (bk k P false)))::H)=some (.normal,[(2,.ptr 2 0 0 0),(5,.int .i64 x)],aw::aw::Gi r.length (r.length+1) (ar (a::r)) (0,.loop (dV s (bk k P false)))::H) :=
    ja (Ku n s k P _ H x) (aA n) (aj _ _) (ak _ _) (Tr.ai rfl)
   have e1:=ng (a::r) x
   simp only[List.length_cons] at e1
   have e3:ah (r.length+1) 1=r.length+1+1:=by rw[aF]
   obtain ⟨y,h2,h3⟩:=oc (Q:=fun y=>y=(.normal,[],⟨false,[(0,.row (.I .i64 [x]))]⟩::aw::Gi (r.length+1) (r.length+1+1) (ar (a::r++[x])) (0,.loop { dV s (bk k P false) with state:=.busy })::H)) (Pf n r.length (r.length+1) (ar (a::r)) { dV s (bk k P false) with state:=.busy } H x) (aA n) (aj _ _) (ak _ _) (by
    rw[e1,e3];generalize dV s (bk k P false)=L at *;generalize ar (a::r++[x])=Y at *;exact wF)
   subst h3
   have e4:(r++[x]).length=r.length+1:=by simp
   refine zm (l:=dV s (bk k P false)) (l2:={ dV s (bk k P false) with state:=.busy }) rfl rfl rfl rfl h1 h2 rfl ?_
   show aw::Gi (r++[x]).length ((r++[x]).length+1) (ar (a::(r++[x]))) _::H=_
   rw[e4];rfl
def kd (P:Nat→Int) (k:Nat):List Int:=(List.range k).map P
theorem Jr (P:Nat→Int) (k:Nat):kd P (k+1)=kd P k++[P k]:=by unfold kd;rw[List.range_succ,List.map_append];rfl
theorem iM (P:Nat→Int) (k:Nat):(kd P k).length=k:=by simp[kd]
theorem GN {n f:Nat} {args:List AV} {H:aa} {x:AV×aa} (hf:f=94∨f=100) (h:nS Tryd.prog KtG.kt 100000 f (cd n) args H=some x):cd (n+1) (.fn f) args H=some x:=by
 refine oZ ?_;have e:ia (cd n) f args H=(match nS Tryd.prog KtG.kt 100000 f (cd n) args H with
  | some x=>some x
  | none=>tP [⟨15,[],.bool true⟩] (cd n) f args H):=by rcases hf with rfl | rfl<;>rfl
 rw[e,h]
theorem GM {n f:Nat} {args:List AV} {H:aa} (hf:f=94∨f=100) (h:nS Tryd.prog KtG.kt 100000 f (cd n) args H=none):ia (cd n) f args H=none:=by
 have e:ia (cd n) f args H=(match nS Tryd.prog KtG.kt 100000 f (cd n) args H with
  | some x=>some x
  | none=>tP [⟨15,[],.bool true⟩] (cd n) f args H):=by rcases hf with rfl | rfl<;>rfl
 rw[e,h];rcases hf with rfl | rfl<;>exact Kl rfl rfl _ _ _
theorem FT {n f:Nat} {args:List AV} {l1:bK} {H:aa} {fn:Func} {c:Code} (h94:f=94∨f=100) (hf:Tryd.prog.funcs[f]?=some fn) (hb:fn.body=some c) (hle:Nat.ble args.length fn.ntmps=true) {e:Ex} {fr:aE} {l:bK} {j ver off sz len:Nat} {cap:Option Nat} {q:Row}
 (h:exec (bP n f fn.ntmps) c (eh 0 args) (⟨false,[]⟩::l1::H)=some (e,fr,l::l1::H)) (he:e=.normal∨e=.ret) (hv:gy Tryd.prog fr (l::l1::H) fn.results.toList=some [.slc 0 j ver off sz len cap]) (hq:cX (l::l1::H) 0 j ver=some q) (h0:l.lock=false) (h1:l1.lock=false) :
 cd (n+1) (.fn f) args (l1::H)=some (.slc 0 l1.bs.length 0 off sz len cap,bB (l1::H) 0 (.row (jx 1 q))):=by
 refine GN h94 ?_
 unfold nS
 rw[hf];dsimp only
 rw[hb];dsimp only
 rw[if_pos hle,eJ]
 rw[show exec (⟨Tryd.prog,cd n,100000,f,fn.ntmps,KtG.kt f,none⟩:Cx) c (eh 0 args) (⟨false,[]⟩::l1::H)=_ from h]
 dsimp only
 rcases he with rfl | rfl<;>(simp only[hv,hq,h0,h1,Bool.or_self,Bool.false_eq_true,if_false])
theorem Cv {n f:Nat} {args:List HV} {l1:bK} {H:aa} {fn:Func} {c:Code} (h94:f=94∨f=100) (hf:Tryd.prog.funcs[f]?=some fn) (hb:fn.body=some c) (hle:Nat.ble args.length fn.ntmps=true) {e:Ex} {fr:aE} {l:bK}
 (h:exec (bP n f fn.ntmps) c (eh 0 (jW args)) (⟨false,[]⟩::l1::H)=some (e,fr,l::l1::H)) (he:e=.normal∨e=.ret) (hv:gy Tryd.prog fr (l::l1::H) fn.results.toList=some [.nils])
 {callR:bp} {bl:eE} {rg:nJ} {T:Tr (HV×aa)} (et:bz Tryd.prog (cd n) 100000 f fn (KtG.kt f) callR bl rg args (l1::H)=T) (hC:callR.Ok (cd n)) (hB:bl.Ok (bP n f fn.ntmps) (a7 fn)) (hR:rg.Ok (bP n f fn.ntmps) (a7 fn)) (hT:T.all fun y=>y.1.1=.nils∧y.2=l1::H):cd (n+1) (.fn f) (jW args) (l1::H)=some (.nils,l1::H):=by
 have hl:(jW args).length=args.length:=by unfold jW;rw[jI];exact List.length_map ..
 have ho:nS Tryd.prog KtG.kt 100000 f (cd n) (jW args) (l1::H)=none:=by
  unfold nS;rw[hf];dsimp only;rw[hb];dsimp only;rw[if_pos (by rw[hl];exact hle),eJ];rw[show exec (⟨Tryd.prog,cd n,100000,f,fn.ntmps,KtG.kt f,none⟩:Cx) c (eh 0 (jW args)) (⟨false,[]⟩::l1::H)=_ from h];dsimp only;rcases he with rfl | rfl<;>simp only[hv]
 obtain ⟨y,h1,h2,h3⟩:=hT
 have:=oY hf (by rw[hb];rfl) (GM h94 ho) hle hC hB hR (show (bz Tryd.prog (cd n) 100000 f fn (KtG.kt f) callR bl rg args (l1::H)).run=some y by rw[et];exact h1)
 rw[h2,h3] at this
 exact this
section
variable (n s k:Nat) (P:Nat→Int) (H:aa)
theorem Nh (hk:k≤1000):exec (bP (n+2) 100 13) (.rangeFunc (.tmp 6) #[7] qq wY) (nM s (bk k P false)) (⟨false,[(0,.row (.G [.nils]))]⟩::H)=some (.normal,nM s (bk k P false),dN (OO (0,.loop (dV s (bk k P false))) (kd P k)::H) 0 1) :=
 ub (cx:=bP (n+2) 100 13) (l:=dV s (bk k P false)) (f:=.tmp 6) (ps:=#[7]) (fr:=nM s (bk k P false)) (H:=⟨false,[(0,.row (.G [.nils]))]⟩::H) (g:=96) (a:=[]) (b:=[.ptrT (some (s+1)) (.G [bk k P false]) 0]) rfl rfl rfl
  (UN (n+1) (s+1) k P (fun j=>OO (0,.loop (dV s (bk k P false))) (kd P j)::H) hk (fun j hj=>by
    show _=some (_,aw::OO _ (kd P (j+1))::H);rw[Jr];exact O4 n s k P (kd P j) H (P j) (by rw[iM];omega))) (by
    cases e:kd P k with
    | nil=>rfl
    | cons a r=>rfl) rfl rfl
theorem GG {c:Nat} {fr:aE} {G:aa} {Y:eD} (hx:exec (bP c 100 13) (.rangeFunc (.tmp 6) #[7] qq wY) fr G=some Y.st):(HN aR (fun _=>true) fr G (.ok Y)).Ok (bP c 100 13) (a7 Tryd.f100) :=
 BC (ak _ _) (fun f ps a b _ hm x hx2=>by
  rw[Sm] at hm;simp only[List.mem_cons,Prod.mk.injEq,List.not_mem_nil,or_false] at hm;obtain ⟨rfl,rfl,rfl,rfl⟩:=hm;rw[← Tr.ab hx2];exact hx)
theorem Qg (hk:k≤1000) (hk1:1≤k):cd (n+3) (.fn 100) [.nils,oR s (bk k P false)] (aw::H)=some (.slc 0 0 0 0 1 k none,gi 0 k (ar (kd P k))::H):=by
 have hx:=Nh n s k P (aw::H) hk;have hl:=iM P k;cases e:kd P k with
 | nil=>rw[e] at hl;simp at hl;omega
 | cons a r =>
   rw[e] at hx hl;have hr:r.length+1=k:=by simpa using hl
   obtain ⟨x,hb,rfl⟩:=aI (Q:=fun x=>x=(.ret,[(4,.slc 0 2 r.length 0 1 (r.length+1) none)],Gi r.length (r.length+1) (ar (a::r)) (0,.dead)::aw::H)) (S8 (n+2) s r.length k (r.length+1) P (ar (a::r)) (aw::H)) (aA _) (aj _ _) (GG (by simp only[eD.st,aP];exact hx)) (by
    exact wF)
   have e8:Tryd.f100.ntmps=13:=by kernel_rfl
   have eb:Tryd.f100.body=some (a7 Tryd.f100):=by kernel_rfl
   have er:Tryd.f100.results.toList=[.tmp 4]:=by kernel_rfl
   have:=FT (n:=n+2) (fn:=Tryd.f100) (c:=a7 Tryd.f100) (args:=[.nils,oR s (bk k P false)]) (l1:=aw) (H:=H) (.inr rfl) Tryd.func100 eb (by rw[e8];rfl) (e:=.ret) (fr:=[(4,.slc 0 2 r.length 0 1 (r.length+1) none)]) (l:=Gi r.length (r.length+1) (ar (a::r)) (0,.dead)) (j:=2) (ver:=r.length) (q:=.M [.arr .i64 (ar (a::r)) (r.length+1)]) (by rw[e8];exact hb) (.inr rfl) (by rw[er];rfl) (by unfold Gi;simp[cX,az,av]) rfl rfl;rw[hr] at this;exact this
theorem J2:cd (n+3) (.fn 100) [.nils,oR s (bk 0 P false)] (aw::H)=some (.nils,aw::H):=by
 have hx:=Nh n s 0 P (aw::H) wO;obtain ⟨x,hb,rfl⟩:=aI (Q:=fun x=>x=(.ret,[(4,.nils)],Me (0,.dead)::aw::H)) (PR (n+2) s 0 P (aw::H)) (aA _) (aj _ _) (GG (by simp only[eD.st,aP];exact hx)) (by
  exact wF)
 have e8:Tryd.f100.ntmps=13:=by kernel_rfl
 have eb:Tryd.f100.body=some (a7 Tryd.f100):=by kernel_rfl
 have er:Tryd.f100.results.toList=[.tmp 4]:=by kernel_rfl
 refine Cv (n:=n+2) (fn:=Tryd.f100) (c:=a7 Tryd.f100) (l1:=aw) (H:=H) (.inr rfl) Tryd.func100 eb (by rw[e8];rfl) (by rw[e8];exact hb) (.inr rfl) (by rw[er];rfl) (PL (n+2) s 0 P (aw::H)) (aA _) (aj _ _) (GG (by simp only[eD.st,aP];exact Nh n s 0 P (aw::H) wO)) ?_;exact wF
theorem UL (hk:k≤1000) (hk1:1≤k):cd (n+4) (.fn 94) [oR s (bk k P false)] (aw::H)=some (.slc 0 0 0 0 1 k none,gi 0 k (ar (kd P k))::H):=by
 obtain ⟨x,hb,rfl⟩:=aI (Q:=fun x=>x=(.ret,[(2,.slc 0 0 0 0 1 k none)],gi 0 k (ar (kd P k))::aw::H)) (Xp (n+3) s k k P (ar (kd P k)) (aw::H)) (bV _ _ (fq (bo _) (fun x hx=>by rw[← Tr.ab hx];exact Qg n (s+1) k P (aw::H) hk hk1))) (aj _ _) (ak _ _) (by
  exact wF)
 have e8:Tryd.f94.ntmps=5:=by kernel_rfl
 have eb:Tryd.f94.body=some (a7 Tryd.f94):=by kernel_rfl
 have er:Tryd.f94.results.toList=[.tmp 2]:=by kernel_rfl
 exact FT (n:=n+3) (fn:=Tryd.f94) (c:=a7 Tryd.f94) (args:=[oR s (bk k P false)]) (l1:=aw) (H:=H) (.inl rfl) Tryd.func94 eb (by rw[e8];rfl) (e:=.ret) (fr:=[(2,.slc 0 0 0 0 1 k none)]) (l:=gi 0 k (ar (kd P k))) (j:=0) (ver:=0) (q:=.M [.arr .i64 (ar (kd P k)) k]) (by rw[e8];exact hb) (.inr rfl) (by rw[er];rfl) (by unfold gi;simp[cX,az,av]) rfl rfl
theorem Qn:cd (n+4) (.fn 94) [oR s (bk 0 P false)] (aw::H)=some (.nils,aw::H):=by
 obtain ⟨x,hb,rfl⟩:=aI (Q:=fun x=>x=(.ret,[(2,.nils)],aw::aw::H)) (S9 (n+3) s 0 P (aw::H)) (bV _ _ (fq (bo _) (fun x hx=>by rw[← Tr.ab hx];exact J2 n (s+1) P (aw::H)))) (aj _ _) (ak _ _) (by
  exact wF)
 have e8:Tryd.f94.ntmps=5:=by kernel_rfl
 have eb:Tryd.f94.body=some (a7 Tryd.f94):=by kernel_rfl
 have er:Tryd.f94.results.toList=[.tmp 2]:=by kernel_rfl
 refine Cv (n:=n+3) (fn:=Tryd.f94) (c:=a7 Tryd.f94) (l1:=aw) (H:=H) (.inl rfl) Tryd.func94 eb (by rw[e8];rfl) (by rw[e8];exact hb) (.inr rfl) (by rw[er];rfl) (S4 (n+3) s 0 P (aw::H)) (bV _ _ (fq (bo _) (fun x hx=>by rw[← Tr.ab hx];exact J2 n (s+1) P (aw::H)))) (aj _ _) (ak _ _) ?_;exact wF
theorem IP (A:List Int):((List.range A.length).map fun q=>ar A (0+q))=A:=by
 apply List.ext_getElem (by simp);intro i h1 h2;simp only[List.getElem_map,List.getElem_range,Nat.zero_add,qw,List.getD_eq_getElem?_getD,List.getElem?_eq_getElem h2,Option.getD_some]
theorem lO (L:List Int):(gk L).length=L.length:=List.length_mergeSort L
theorem MN (A:List Int):EV gk (ar A) 0 A.length=ar (gk A):=by
 funext x;have hl:(gk A).length=A.length:=lO A;unfold EV;rw[IP,qw,qw];by_cases h:x<A.length
 · rw[if_pos wO,Nat.sub_zero]
 · rw[if_neg wO,List.getD_eq_getElem?_getD,List.getD_eq_getElem?_getD,List.getElem?_eq_none wO,List.getElem?_eq_none wO]
theorem UM (k:Nat) (a:Nat→Int) (h1:0<k) (h2:k<4611686018427387904):cd (n+1) (.fn 95) [.slc 0 0 0 0 1 k none] (gi 0 k a::H)=some (.tup [],gi 0 k (EV gk a 0 k)::H):=by
 refine oZ ?_;show G4 gk [.slc 0 0 0 0 1 k none] (gi 0 k a::H)=_;rw[show G4 gk [.slc 0 0 0 0 1 k none] (gi 0 k a::H)=(if aK (gi 0 k a::H) 0=false∧0<k∧k<4611686018427387904∧0+k≤k then some (.tup [],dB (gi 0 k a::H) 0 0 (0,.row (.M [.arr .i64 (EV gk a 0 k) k]))) else none) from rfl];rw[if_pos ⟨rfl,h1,h2,by omega⟩];rfl
noncomputable def MU (P:Nat→Int) (k:Nat):AV:=dA (gk (kd P k))
theorem UB (hk:k≤1000):cd (n+11) (.fn 75) [oR s (bk k P false)] H=some (MU P k,H):=by
 cases k with
 | zero =>
   have h95:cd (n+10) (.fn 95) [.nils] (aw::H)=some (.tup [],aw::H):=by
    refine ph (n:=n+9) Tryd.func95 rfl (fun _ _=>rfl) rfl (S5 n (aw::H)) (iA n 9) (aj _ _) (ak _ _) ?_;exact Tr.ai ⟨rfl,rfl⟩
   have e0:MU P 0=.nils:=by
    have h:gk (kd P 0)=[]:=List.eq_nil_of_length_eq_zero (by rw[lO,iM]);unfold MU;rw[h];rfl
   rw[e0];refine bU (n:=n+10) Tryd.func75 rfl rfl rfl (S1 (n+10) s 0 P H) (bV _ _ (fq (fq (bo _) (fun x hx=>by rw[← Tr.ab hx];exact Qn (n+6) (s+1) P H)) (fun x hx=>by rw[← Tr.ab hx];exact h95))) (aj _ _) (ak _ _) ?_;exact wF
 | succ k =>
   have e:MU P (k+1)=bk (k+1) (ar (gk (kd P (k+1)))) false:=J4 _ k (by rw[lO,iM]);have h95:=UM (n+9) H (k+1) (ar (kd P (k+1))) wO wO;have er:=MN (kd P (k+1));rw[iM] at er;rw[er] at h95;rw[e];refine bU (n:=n+10) Tryd.func75 rfl rfl rfl (Xb (n+10) s (k+1) P (ar (kd P (k+1))) (ar (gk (kd P (k+1)))) H) (bV _ _ (fq (fq (bo _) (fun x hx=>by rw[← Tr.ab hx];exact UL (n+6) (s+1) (k+1) P H hk wO)) (fun x hx=>by rw[← Tr.ab hx];exact h95))) (aj _ _) (ak _ _) ?_;rw[fj];exact wF
theorem UC:cd (n+1) (.fn 76) [bk k P false] H=some (oR 0 (bk k P false),H):=by
 refine bU (n:=n) Tryd.func76 rfl rfl rfl (Xc n k P H) (aA _) (aj _ _) (ak _ _) ?_;exact Tr.ai ⟨rfl,rfl⟩
end
end Go.Eng
end
section
namespace Go.Eng
open Int (ofNat)
open Go.Proofs Go.Eng.Gall
noncomputable def uR (m:Nat) (z S:Nat→Int) (R:Row) (j:Int):aE:=[(1,bk m z false),(2,.ptr 0 0 0 0),(5,.ptrT none R 0),(7,bk m S false),(26,bk m S false),(27,.int .i64 (ofNat m)),(28,.int .i64 j)]
noncomputable def wC (m:Nat) (z:Nat→Int) (R:Row) (j:Int):aE:=[(1,bk m z false),(5,.ptrT none R 0),(43,bk m z false),(44,.int .i64 (ofNat m)),(45,.int .i64 j)]
noncomputable def x7 (m:Nat) (z:Nat→Int) (R:Row) (X j:Int):aE:=[(5,.ptrT none R 0),(12,.int .u64 X),(56,bk m z false),(57,.int .i64 (ofNat m)),(58,.int .i64 j)]
theorem SV (n:Nat) (O:Int) (U:Nat) (Z:Nat→Int) (V:Nat) (J:Nat→Int) (W B:Nat→Int) (G:aa) (C:List AV→Prop):bz Tryd.prog (cd (n+2)) 100000 49 Tryd.f49 (KtG.kt 49) (il (iz (tX aM 22 [bX O U Z V J] (.int .i64 (ofNat 0))) 62 (fun x=>some (C x,shV O U Z V J W B))) n 2) aV aR [(bX O U Z V J,none),(.nils,none)] G =
 Tr.reqP ([bX O U Z V J]=[bX O U Z V J]) (Tr.ite (bD (c7 (ofNat 0) (ofNat 0))) (Tr.ok ((AV.tup [AV.nilp,iI 0],none),G)) (Tr.reqP (C [bX O U Z V J]) (Tr.ok ((AV.tup [shV O U Z V J W B,iI 0],none),G)))):=by kernel_rfl
theorem W8 (n:Nat) (O:Int) (U:Nat) (Z:Nat→Int) (V:Nat) (J:Nat→Int) (W B:Nat→Int) (G:aa) (c p:Int):bz Tryd.prog (cd n) 100000 71 Tryd.f71 (KtG.kt 71) (il aM n 0) aV aR [(shV O U Z V J W B,none),(.int .i64 c,none),(.int .i64 p,none)] G =
 Tr.req (bL c 10) (Tr.req (dX (au 3 c 2) 1 3 20) (Tr.req (dX (ah (au 3 c 2) 1) 1 3 20) (Tr.ite (dS (W (dx (au 3 c 2) 3)) p) (Tr.ok ((AV.bool (dS p (W (dx (ah (au 3 c 2) 1) 3))),none),G)) (Tr.ok ((AV.bool false,some 1),G))))):=by kernel_rfl
theorem Pk (n:Nat) (r:Row) (G:aa) (m:Nat) (z S:Nat→Int) (R:Row) (j:Int):aJ (bP n 39 76) (il aM n 0) aV aR (part Tryd.f39 [1,1,1,1,0,1,0,0]) (hints (uR m z S R j)) (⟨false,[(0,.row r)]⟩::G) =
 Tr.ite (bQ j (ofNat m)) (Tr.req (bL j m) (Tr.req (bt (au 0 j 1) m) (Tr.ite (bD (c7 (S (au 0 j 1)) j)) (Tr.ok (Ex.ret,[(4,iI 15,some 1)],(bO [(0,ao.row r)])::G)) (Tr.ok (Ex.normal,[(1,bk m z false,none),(2,AV.ptr 0 0 0 0,none),(5,AV.ptrT none R 0,none),(7,bk m S false,none),(26,bk m S false,none),(27,iI m,none),(28,AV.int .i64 (bh .i64 j (ofNat 1)),none)],(bO [(0,ao.row r)])::G))))) (Tr.ok (Ex.exit 0,[(1,bk m z false,none),(2,AV.ptr 0 0 0 0,none),(5,AV.ptrT none R 0,none),(7,bk m S false,none),(26,bk m S false,none),(27,iI m,none),(28,AV.int .i64 j,none),(29,AV.bool false,some 1)],(bO [(0,ao.row r)])::G)):=by kernel_rfl
theorem Sy (n:Nat) (r:Row) (G:aa) (m:Nat) (z:Nat→Int) (R:Row) (j:Int) (c:Int) (q:Bool):aJ (bP n 39 76) (il (tX aM 71 [(.ptrT none R 0),.int .i64 c,.int .i64 j] (.bool q)) n 0) aV aR (part Tryd.f39 [1,1,1,1,1,1,0,1,0,0]) (hints (wC m z R j)) (⟨false,[(0,.row r)]⟩::G) =
 Tr.ite (bQ j (ofNat m)) (Tr.req (bL j m) (Tr.req (bt (au 0 j 1) m) (Tr.reqP ([AV.ptrT none R 0,AV.int .i64 (z (au 0 j 1)),AV.int .i64 j]=[AV.ptrT none R 0,AV.int .i64 c,AV.int .i64 j]) (Tr.ite (bD q) (Tr.ok (Ex.ret,[(4,iI 21,some 1)],(bO [(0,ao.row r)])::G)) (Tr.ok (Ex.normal,[(1,bk m z false,none),(5,AV.ptrT none R 0,none),(43,bk m z false,none),(44,iI m,none),(45,AV.int .i64 (bh .i64 j (ofNat 1)),none)],(bO [(0,ao.row r)])::G)))))) (Tr.ok (Ex.exit 2,[(1,bk m z false,none),(5,AV.ptrT none R 0,none),(43,bk m z false,none),(44,iI m,none),(45,AV.int .i64 j,none),(46,AV.bool false,some 1)],(bO [(0,ao.row r)])::G)):=by kernel_rfl
theorem Pl (n:Nat) (r:Row) (G:aa) (m:Nat) (z:Nat→Int) (R:Row) (j:Int):aJ (bP n 39 76) (il aM n 0) aV aR (part Tryd.f39 [1,1,1,1,1,1,0,1,0,0]) (hints (wC m z R j)) (⟨false,[(0,.row r)]⟩::G) =
 Tr.ite (bQ j (ofNat m)) (Tr.req (bL j m) (Tr.req (bt (au 0 j 1) m) Tr.bad)) (Tr.ok (Ex.exit 2,[(1,bk m z false,none),(5,AV.ptrT none R 0,none),(43,bk m z false,none),(44,iI m,none),(45,AV.int .i64 j,none),(46,AV.bool false,some 1)],(bO [(0,ao.row r)])::G)):=by kernel_rfl
theorem Pm (n:Nat) (O:Int) (U:Nat) (Z:Nat→Int) (V:Nat) (J:Nat→Int) (W B:Nat→Int) (r:Row) (G:aa) (m:Nat) (z:Nat→Int) (X j:Int):aJ (bP n 39 76) (il aM n 0) aV aR (part Tryd.f39 [1,1,1,1,1,1,1,1,0,1,0,0]) (hints (x7 m z (shR O U Z V J W B) X j)) (⟨false,[(0,.row r)]⟩::G) =
 Tr.ite (bQ j (ofNat m)) (Tr.req (bL j m) (Tr.req (bt (au 0 j 1) m) (Tr.req (bL (z (au 0 j 1)) 10) (Tr.req (dX (au 23 (z (au 0 j 1)) 1) 1 23 10) (Tr.ite (bD (c7 (AB IntKind.u64 (B (dx (au 23 (z (au 0 j 1)) 1) 23)) X) (ofNat 0))) (Tr.ok (Ex.ret,[(4,iI 16,some 1)],(bO [(0,ao.row r)])::G)) (Tr.req (dS (ofNat 0) (z (au 0 j 1))) (Tr.ok (Ex.normal,[(5,shV O U Z V J W B,none),(12,AV.int IntKind.u64 (r8 IntKind.u64 X (ep IntKind.u64 (ofNat 1) (z (au 0 j 1)))),none),(56,bk m z false,none),(57,iI m,none),(58,AV.int .i64 (bh .i64 j (ofNat 1)),none)],(bO [(0,ao.row r)])::G)))))))) (Tr.ok (Ex.exit 4,[(5,shV O U Z V J W B,none),(12,AV.int IntKind.u64 X,none),(56,bk m z false,none),(57,iI m,none),(58,AV.int .i64 j,none),(59,AV.bool false,some 1)],(bO [(0,ao.row r)])::G)):=by kernel_rfl
theorem W2 (n:Nat) (O:Int) (U:Nat) (Z:Nat→Int) (V:Nat) (J:Nat→Int) (H:aa) (m:Nat) (z S:Nat→Int) (R:Row) (e q r:Bool) (X:Int):bz Tryd.prog (cd n) 100000 39 Tryd.f39 (KtG.kt 39) (il (tX (tX (tX aM 49 [bX O U Z V J,.nils] (.tup [.ptrT none R 0,.int .i64 (ofNat 0)])) 76 [bk m z false] (oR 0 (bk m z false))) 75 [oR 0 (bk m z false)] (bk m S false)) n 0) (c9 (c9 (c9 aV 0 (uR m z S R (ofNat 0)) (mG O U Z V J::H) (.ite e (.ok (.ret,[(4,.int .i64 (ofNat 15),none)],mG O U Z V J::H)) (.ok (.normal,hints (uR m z S R (ofNat m)++[(29,.bool false)]),mG O U Z V J::H)))) 2 (wC m z R (ofNat 0)) (mG O U Z V J::H) (.ite q (.ok (.ret,[(4,.int .i64 (ofNat 21),none)],mG O U Z V J::H)) (.ok (.normal,hints (wC m z R (ofNat m)++[(46,.bool false)]),mG O U Z V J::H)))) 4 (x7 m z R (ofNat 0) (ofNat 0)) (mG O U Z V J::H) (.ite r (.ok (.ret,[(4,.int .i64 (ofNat 16),none)],mG O U Z V J::H)) (.ok (.normal,hints (x7 m z R X (ofNat m)++[(59,.bool false)]),mG O U Z V J::H)))) aR [(bX O U Z V J,none),(bk m z false,none)] H =
 (fun (Z0:bK)=>((fun (Z1:aE)=>((fun (Z2:aE)=>((fun (Z3:aE)=>Tr.reqP ([bX O U Z V J,AV.nils]=[bX O U Z V J,AV.nils]) (Tr.ite (bD (c7 (ofNat 0) (ofNat 0))) (Tr.ok ((iI 0,none),H)) (Tr.reqP ([bk m z false]=[bk m z false]) (Tr.reqP ([AV.fn (Fn.func 96) [] [AV.ptrT (some 0) (Row.G [bk m z false]) 0]]=[AV.fn (Fn.func 96) [] [AV.ptrT (some 0) (Row.G [bk m z false]) 0]]) (Tr.reqP (Z1=Z1∧Z0::H=Z0::H) (Tr.ite e (Tr.ok ((iI 15,none),H)) (Tr.ite (bD (c7 (ofNat m) (ofNat U))) (Tr.ok ((iI 15,some 1),H)) (Tr.reqP (Z3=Z3∧Z0::H=Z0::H) (Tr.ite q (Tr.ok ((iI 21,none),H)) (Tr.reqP (Z2=Z2∧Z0::H=Z0::H) (Tr.ite r (Tr.ok ((iI 16,none),H)) (Tr.ok ((iI 0,some 1),H))))))))))))) [(1,bk m z false),(5,AV.ptrT none R 0),(43,bk m z false),(44,iI m),(45,iI 0)])) [(5,AV.ptrT none R 0),(12,AV.int IntKind.u64 (ofNat 0)),(56,bk m z false),(57,iI m),(58,iI 0)])) [(1,bk m z false),(2,AV.ptr 0 0 0 0),(5,AV.ptrT none R 0),(7,bk m S false),(26,bk m S false),(27,iI m),(28,iI 0)])) (bO [(0,fT O U Z V J)]):=by kernel_rfl
theorem SS (n:Nat) (O:Int) (U:Nat) (Z:Nat→Int) (V:Nat) (J:Nat→Int) (H:aa) (m:Nat) (z S:Nat→Int) (R:Row) (e:Bool):bz Tryd.prog (cd n) 100000 39 Tryd.f39 (KtG.kt 39) (il (tX (tX (tX aM 49 [bX O U Z V J,.nils] (.tup [.ptrT none R 0,.int .i64 (ofNat 0)])) 76 [bk m z false] (oR 0 (bk m z false))) 75 [oR 0 (bk m z false)] (bk m S false)) n 0) (gb (gb (c9 aV 0 (uR m z S R (ofNat 0)) (mG O U Z V J::H) (.ite e (.ok (.ret,[(4,.int .i64 (ofNat 15),none)],mG O U Z V J::H)) (.ok (.normal,hints (uR m z S R (ofNat m)++[(29,.bool false)]),mG O U Z V J::H)))) 2) 4) aR [(bX O U Z V J,none),(bk m z false,none)] H =
 (fun (Z0:aE)=>Tr.reqP ([bX O U Z V J,AV.nils]=[bX O U Z V J,AV.nils]) (Tr.ite (bD (c7 (ofNat 0) (ofNat 0))) (Tr.ok ((iI 0,none),H)) (Tr.reqP ([bk m z false]=[bk m z false]) (Tr.reqP ([AV.fn (Fn.func 96) [] [AV.ptrT (some 0) (Row.G [bk m z false]) 0]]=[AV.fn (Fn.func 96) [] [AV.ptrT (some 0) (Row.G [bk m z false]) 0]]) (Tr.reqP (Z0=Z0∧(bO [(0,fT O U Z V J)])::H=(bO [(0,fT O U Z V J)])::H) (Tr.ite e (Tr.ok ((iI 15,none),H)) (Tr.ite (bD (c7 (ofNat m) (ofNat U))) (Tr.ok ((iI 15,some 1),H)) Tr.bad))))))) [(1,bk m z false),(2,AV.ptr 0 0 0 0),(5,AV.ptrT none R 0),(7,bk m S false),(26,bk m S false),(27,iI m),(28,iI 0)]:=by kernel_rfl
theorem Sv (n:Nat) (O:Int) (U:Nat) (Z:Nat→Int) (V:Nat) (J:Nat→Int) (H:aa) (m:Nat) (z S:Nat→Int) (R:Row):bz Tryd.prog (cd n) 100000 39 Tryd.f39 (KtG.kt 39) (il (tX (tX (tX aM 49 [bX O U Z V J,.nils] (.tup [.ptrT none R 0,.int .i64 (ofNat 0)])) 76 [bk 0 z false] (oR 0 (bk 0 z false))) 75 [oR 0 (bk 0 z false)] .nils) n 0) (gb (gb aV 2) 4) aR [(bX O U Z V J,none),(bk 0 z false,none)] H =
 Tr.reqP ([bX O U Z V J,AV.nils]=[bX O U Z V J,AV.nils]) (Tr.ite (bD (c7 (ofNat 0) (ofNat 0))) (Tr.ok ((iI 0,none),H)) (Tr.reqP ([bk 0 z false]=[bk 0 z false]) (Tr.reqP ([AV.fn (Fn.func 96) [] [AV.ptrT (some 0) (Row.G [bk 0 z false]) 0]]=[AV.fn (Fn.func 96) [] [AV.ptrT (some 0) (Row.G [bk 0 z false]) 0]]) (Tr.ite (bD (c7 (ofNat 0) (ofNat U))) (Tr.ok ((iI 15,some 1),H)) Tr.bad)))):=by kernel_rfl
end Go.Eng
end
