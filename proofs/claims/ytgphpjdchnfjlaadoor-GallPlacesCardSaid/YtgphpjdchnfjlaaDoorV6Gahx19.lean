/- Gall: bounds, the program's, whole. -/
import Derived.Test.YtgphpjdchnfjlaaDoorV6Gacx5
import Derived.Test.YtgphpjdchnfjlaaDoorV6EngRnFx7
import Derived.Test.YtgphpjdchnfjlaaDoorV6Ga8x4
set_option linter.unusedVariables false
set_option linter.unusedSimpArgs false
set_option maxRecDepth 100000
section
namespace Go.Eng
open Int (ofNat)
open Go.Proofs Go.Eng.Gall
section
variable (n:Nat) (O:Int) (U:Nat) (Z:Nat→Int) (V:Nat) (J:Nat→Int) (W:Nat→Int) (b:Nat→Nat) (H:ab)
theorem Rw (hS:gH U W b) (q r:Nat→Int) (t':Nat) (hr:Bd U b W t' r) (t:Int):exec (bQ (n+1) 56 69) (.block 2 (.loop (part Tryd.f56 [1,1,0,1,0,0,1,1,0,0,1,0,1,0,0]))) (xZ (shV O U Z V J W (bI b)) U t (bI b) (ofNat 0)) (fx [db r,db q]::H) =
 some (.normal,xZ (shV O U Z V J W (bI b)) U t (bI b) (ofNat 10)++[(26,.bool false)],fx [db (oc r (lL b 10)),db q]::H):=by
 refine ig (n:=n+1) (f:=56) (nt:=69) (c:=part Tryd.f56 [1,1,0,1,0,0,1,1,0,0,1,0,1,0,0]) 2 (fun c=>xZ (shV O U Z V J W (bI b)) U t (bI b) (c:Int)) (fun c=>fx [db (oc r (lL b c)),db q]::H) 10 (_,_) wO (fun c hc=>?_) ?_
 · have hs:Bd U b W t' (oc r (lL b c)):=(rb hS.nob _ hr (fun p hp=>by
    obtain ⟨a,d⟩:=p;have:=(Df b c (fun d _=>hS.lt d) a d).1 hp;obtain ⟨h1,h2⟩:=hS.bit this.2;exact ⟨h2,h1,this.2⟩)).1
   have ec:bm .i64 (c:Int) (ofNat 1)=((c+1:Nat):Int):=eX wO
   have T:=SL (n+1) O U Z V J W (bI b) H (oc r (lL b c)) q (oc r (lL b (c+1))) t (c:Int) 0
   rw[ec,yf] at T
   have hx:=Ry n O U Z V J W b H hS q (oc r (lL b c)) t' hs t c hc
   rw[← Dj] at hx
   refine aB T (ay _) (aZ (aj _ _) Ny (fun x h=>by rw[← Tr.ae h];simp only[eB.st,aL];exact hx)) (ak _ _) ?_
   refine Tr.af (fun h0=>?_) wJ
   exact Tr.aa wG (Tr.aa wG (Tr.ai ⟨rfl,rfl⟩ (Tr.ag ⟨rfl,rfl⟩)))
 · obtain ⟨x,h1,rfl⟩:=aB (Q:=fun x=>x=(.exit 2,xZ (shV O U Z V J W (bI b)) U t (bI b) (ofNat 10)++[(26,.bool false)],fx [db (oc r (lL b 10)),db q]::H)) (Pg (n+1) O U Z V J W (bI b) H (oc r (lL b 10)) q t) (ay _) (cY (aj _ _) 4) (ak _ _) (by
    refine Tr.af wJ (fun h0=>Tr.ag rfl))
   exact h1
theorem Ls (hS:gH U W b) {t:Nat} {r:Nat→Int} (hr:Bd U b W t r):∀ j,20≤j→r j=0:=fun j hj=>by
 rw[hr.out j (by have:=hS.len;omega)];exact hS.zer j hj
theorem MC (hS:gH U W b) (t:Nat) (ht:t<U):∃ x,exec (bQ (n+1) 56 69) (part Tryd.f56 [1,1,0,1,0,0]) (m6 (shV O U Z V J W (bI b)) U (t:Int)) (fx [db (iu (lL b 10) W t)]::H)=some x ∧
 if lP (iu (lL b 10) W (t+1)) (iu (lL b 10) W t) 20=true then x=(.exit 0,m6 (shV O U Z V J W (bI b)) U (t:Int)++[(66,.bool true)],fx [db (iu (lL b 10) W (t+1)),db (iu (lL b 10) W t)]::H)
 else x.1=.normal∧tidy 2 x.2.1 x.2.2=(m6 (shV O U Z V J W (bI b)) U ((t+1:Nat):Int),fx [db (iu (lL b 10) W (t+1))]::H):=by
 have hb:=pj (w:=W) hS.nob hS.all t
 have ec:bm .i64 (t:Int) (ofNat 1)=((t+1:Nat):Int):=eX (by have:=hS.len;omega)
 have T:=SK (n+1) O U Z V J W (bI b) H (iu (lL b 10) W t) (iu (lL b 10) W (t+1)) (t:Int)
 rw[ec,sg (Ls U W b hS hb)] at T
 refine aB T (ay _) (aZ (aj _ _) Nx (fun x h=>by rw[← Tr.ae h];simp only[eB.st,aL];exact Rw n O U Z V J W b H hS (iu (lL b 10) W t) (iu (lL b 10) W t) t hb (t:Int))) (ak _ _) ?_
 refine Tr.af (fun h0=>?_) wJ
 refine Tr.aa wG (Tr.ai ⟨rfl,rfl⟩ (Tr.af (fun q=>Tr.ag ?_) (fun q=>Tr.ag ?_)))
 · rw[if_pos q];rfl
 · rw[if_neg (by rw[q];decide)];exact ⟨rfl,rfl⟩
theorem UY (hS:gH U W b):cd (n+2) (.fn 56) [shV O U Z V J W (bI b)] H=some (.agg (.M [.arr .i64 (gK U b W) 20]),H):=by
 have hl:=hS.len;have hz:∀ j,20≤j→gK U b W j=0:=fun j hj=>by unfold gK;rw[if_neg wO];exact hS.zer j hj
 rcases so (fun t=>t<U∧lP (iu (lL b 10) W (t+1)) (iu (lL b 10) W t) 20=true) U with h | ⟨T,h1,⟨_,h2⟩,h3⟩
 · have hx:exec (bQ (n+1) 56 69) (.block 0 (.loop (part Tryd.f56 [1,1,0,1,0,0]))) (m6 (shV O U Z V J W (bI b)) U (ofNat 0)) (fx [db W]::H)=some (.normal,m6 (shV O U Z V J W (bI b)) U (ofNat U)++[(19,.bool false)],fx [db (iu (lL b 10) W U)]::H):=by
    refine ig (n:=n+1) (f:=56) (nt:=69) (c:=part Tryd.f56 [1,1,0,1,0,0]) 0 (fun t=>m6 (shV O U Z V J W (bI b)) U (t:Int)) (fun t=>fx [db (iu (lL b 10) W t)]::H) U (_,_) wO (fun t ht=>?_) ?_
    · obtain ⟨x,x1,x2⟩:=MC n O U Z V J W b H hS t ht;rw[if_neg (fun q=>h t ht ⟨ht,q⟩)] at x2;exact ⟨x,x1,x2⟩
    · obtain ⟨x,h1,rfl⟩:=aB (Q:=fun x=>x=(.exit 0,m6 (shV O U Z V J W (bI b)) U (ofNat U)++[(19,.bool false)],fx [db (iu (lL b 10) W U)]::H)) (Pf (n+1) O U Z V J W (bI b) H (iu (lL b 10) W U) (ofNat U)) (ay _) (cY (aj _ _) 2) (ak _ _) (by
       refine Tr.af wJ (fun h0=>Tr.ag rfl))
      exact h1
   have he:=Fb (Nat.le_refl U) (pj (w:=W) hS.nob hS.all U);rw[he] at hx;have XO:=Tb (n+1) O U Z V J W (bI b) H (gK U b W);rw[sg hS.zer,sg hz] at XO;refine bj (n:=n+1) Tryd.func56 rfl rfl rfl XO (ay _) (aZ (aj _ _) JU (fun x h=>by rw[← Tr.ae h];simp only[eB.st,aL];exact hx)) (ak _ _) ?_;exact Tr.aa wG (Tr.ai ⟨rfl,rfl⟩ (Tr.aa wG (Tr.ag ⟨rfl,rfl⟩)))
 · have hbT:=pj (w:=W) hS.nob hS.all T;have hbT1:=pj (w:=W) hS.nob hS.all (T+1);have heq:iu (lL b 10) W (T+1)=iu (lL b 10) W T:=by
    funext j;by_cases hj:j<20
    · exact uY h2 j hj
    · rw[Ls U W b hS hbT1 j wO,Ls U W b hS hbT j wO]
   have he:iu (lL b 10) W (T+1)=gK U b W:=by
    rw[heq];exact HS hS.nob hS.all hbT heq
   have hx:exec (bQ (n+1) 56 69) (.block 0 (.loop (part Tryd.f56 [1,1,0,1,0,0]))) (m6 (shV O U Z V J W (bI b)) U (ofNat 0)) (fx [db W]::H)=some (.normal,m6 (shV O U Z V J W (bI b)) U (T:Int)++[(66,.bool true)],fx [db (iu (lL b 10) W (T+1)),db (iu (lL b 10) W T)]::H):=by
    refine ig (n:=n+1) (f:=56) (nt:=69) (c:=part Tryd.f56 [1,1,0,1,0,0]) 0 (fun t=>m6 (shV O U Z V J W (bI b)) U (t:Int)) (fun t=>fx [db (iu (lL b 10) W t)]::H) T (_,_) wO (fun t ht=>?_) ?_
    · obtain ⟨x,x1,x2⟩:=MC n O U Z V J W b H hS t wO;rw[if_neg (fun q=>h3 t ht ⟨by omega,q⟩)] at x2;exact ⟨x,x1,x2⟩
    · obtain ⟨x,x1,x2⟩:=MC n O U Z V J W b H hS T h1;rw[if_pos h2] at x2;subst x2;exact x1
   rw[he] at hx;have XO:=Tc (n+1) O U Z V J W (bI b) H (gK U b W) (iu (lL b 10) W T) (T:Int);rw[sg hS.zer,sg hz] at XO;refine bj (n:=n+1) Tryd.func56 rfl rfl rfl XO (ay _) (aZ (aj _ _) JU (fun x h=>by rw[← Tr.ae h];simp only[eB.st,aL];exact hx)) (ak _ _) ?_;exact Tr.aa wG (Tr.ai ⟨rfl,rfl⟩ (Tr.aa wG (Tr.ag ⟨rfl,rfl⟩)))
end
end Go.Eng
end
section
namespace Go.Eng
open Go.Proofs Go.Eng.Gall
end Go.Eng
end
section
namespace Go.Eng
open Go.Proofs Go.Eng.Gall
theorem Ci {a b:Int} (hb:1≤b) {K:Int} (h1:-K≤a) (h2:a≤K) (hK:0≤K):-K-b≤a / b∧a / b≤K:=by
 have h7:=Int.mul_ediv_add_emod a b;have h3:=Int.emod_nonneg a (show b≠0 by omega);have h4:=Int.emod_lt_of_pos a (show 0<b by omega);constructor
 · apply Classical.byContradiction;intro hc;have h8:b*(a / b)≤1*(a / b):=Int.mul_le_mul_of_nonpos_right hb wO;omega
 · exact Int.le_trans (Int.ediv_le_ediv wO h2) (Int.ediv_le_self b hK)
section
variable (n:Nat) (O:Int) (U:Nat) (Z:Nat→Int) (V:Nat) (J:Nat→Int) (H:ab)
end
end Go.Eng
end
section
namespace Go.Eng
open Go.Proofs Go.Eng.Gall
section
variable (O:Int) (U:Nat) (Z:Nat→Int) (V:Nat) (J:Nat→Int)
theorem zn (hl:U≤10) (hd:1≤O∧O≤100) (hv:qQ U Z) (hp:gI U V J) (hk:iK U (fun c=>cZ J c V)=false):gH U (c9 O U Z) (fun c=>cZ J c V):=by
 refine ⟨hl,fun j=>?_,fun j hj=>?_,fun c hc=>nu J c U V (fun i hi=>(hp i hi).1),fun c hc=>?_,hk⟩
 · unfold c9;by_cases h:j<2*U
   · rw[if_pos h];obtain ⟨v1,v2,v3,v4,v5,v6⟩:=M8 hv (show j / 2<U by omega);have q1:=Ci (a:=Z (j / 2*4+3)-Z (j / 2*4+1)) hd.1 (K:=1000) wO wO (by decide);have q2:=Ci (a:=Z (j / 2*4)-Z (j / 2*4+2)) hd.1 (K:=1000) wO wO (by decide);split<;>omega
   · rw[if_neg h];omega
 · unfold c9;rw[if_neg wO]
 · cases e:cZ J c V with
   | zero=>rfl
   | succ m =>
     exfalso;have:∃ a,(cZ J c V).testBit a=true:=by
      apply Classical.byContradiction;intro hn;have:cZ J c V=0:=by
       apply Nat.eq_of_testBit_eq;intro i;rw[Nat.zero_testBit];cases e:(cZ J c V).testBit i with
       | false=>rfl
       | true=>exact absurd ⟨i,e⟩ hn
      omega
     obtain ⟨a,ha⟩:=this;obtain ⟨i,hi,h4,h5⟩:=(mJ J c a V (fun i hi=>(hp i hi).1.1)).1 ha;have:=hp i hi;omega
variable (n:Nat) (H:ab)
end
end Go.Eng
end
section
namespace Go.Eng
open Go.Proofs
noncomputable def jx (n f nt d i:Nat):Cx:=⟨Tryd.prog,cd n,100000,f,nt,KtG.kt f,some (d,i)⟩
section
variable (n s k:Nat) (P:Nat→Int)
end
theorem ze {n d i:Nat} {args:List AV} {H H2 R:ab} {l l2:jY} {fr fr1 fr2:aC} {lv:bG}
 (hg:az H d i=(0,.loop l)) (hl:aK H d=false) (hs:l.state=.ready) (hp:jD l.nt (kD (d+1) l.fr) l.params (args.map (mH 1))=some fr)
 (h1:exec (jx n l.fn l.nt (d+1) i) l.assign fr (av::H)=some (.normal,fr1,av::H))
 (h2:exec (jx n l.fn l.nt (d+1) i) l.body fr1 (dG (av::H) (d+1) i (0,.loop { l with state:=.busy }))=some (.normal,fr2,lv::H2)) (hg2:az H2 d i=(0,.loop l2)) (hR:R=dG H2 d i (0,.loop { l2 with state:=.ready,pending:=none })) :
 cd (n+1) (.round d i) args H=some (.bool true,R):=by
 rw[hR]
 exact zf (P:=Tryd.prog) (ora:=jf) (KT:=KtG.kt) (fu:=100000) (e:=.normal) hg hl hs hp h1 (by rw[show az (av::H) (d+1) i=az H d i from rfl];exact hg) hs h2 hg2
theorem jN {n f nt d i:Nat} {c:Code} {callR:bt} {bl:eV} {rg:om} {fr:aC} {H:ab} {T:Tr eB} (e:aS (jx n f nt d i) callR bl rg c (hints fr) H=T) (hC:callR.Ok (cd n)) (hB:bl.Ok (jx n f nt d i) c) (hR:rg.Ok (jx n f nt d i) c) {y:Ex×aC×ab} (h:T.all fun x=>x.st=y):exec (jx n f nt d i) c fr H=some y:=by
 obtain ⟨x,h1,rfl⟩:=h;have:=fQ (cx:=jx n f nt d i) hC c hB hR (hints fr) H x (by rw[e];exact h1);rw[aL] at this;exact this
theorem pK {n f nt d i:Nat} {c:Code} {callR:bt} {bl:eV} {rg:om} {fr:aC} {H:ab} {T:Tr eB} {Q:Ex×aC×ab→Prop} (e:aS (jx n f nt d i) callR bl rg c (hints fr) H=T) (hC:callR.Ok (cd n)) (hB:bl.Ok (jx n f nt d i) c) (hR:rg.Ok (jx n f nt d i) c) (h:T.all fun x=>Q x.st):∃ y,exec (jx n f nt d i) c fr H=some y∧Q y:=by
 obtain ⟨x,h1,h2⟩:=h;have:=fQ (cx:=jx n f nt d i) hC c hB hR (hints fr) H x (by rw[e];exact h1);rw[aL] at this;exact ⟨_,this,h2⟩
section
variable (n s k:Nat) (P:Nat→Int) (H:ab)
end
end Go.Eng
end
section
namespace Go.Eng
open Go.Proofs Go.Eng.Gall
theorem S8 (n:Nat) (O:Int) (U:Nat) (Z:Nat→Int) (V:Nat) (J:Nat→Int) (W B:Nat→Int) (G:ab) (C:List AV→Prop):bg Tryd.prog (cd (n+2)) 100000 49 Tryd.f49 (KtG.kt 49) (il (lW (tX aF 22 [a8 O U Z V J] (.int .i64 (Int.ofNat 0))) 62 (fun x=>some (C x,shV O U Z V J W B))) n 2) aR aQ [(a8 O U Z V J,none),(.nils,none)] G =
 Tr.reqP ([a8 O U Z V J]=[a8 O U Z V J]) (Tr.ite (bF (b9 (Int.ofNat 0) (Int.ofNat 0))) (Tr.ok ((AV.tup [AV.nilp,iI 0],none),G)) (Tr.reqP (C [a8 O U Z V J]) (Tr.ok ((AV.tup [shV O U Z V J W B,iI 0],none),G)))):=by kernel_rfl
end Go.Eng
end
section
namespace Go.Eng
open Go.Proofs Go.Eng.Gall
theorem wE {L:List Nat} (hn:L.Nodup) {n:Nat} (h:∀ x ∈ L,x<n):mask L<2 ^ n:=by
 refine Nat.lt_pow_two_of_testBit _ fun i hi=>?_;rw[eI hn];exact decide_eq_false fun hm=>by have:=h i hm;omega
def vR (W:Nat→Int) (c:Int) (p:Int):Bool:=decide (W (2*c.toNat)≤p) && decide (p≤W (2*c.toNat+1))
theorem De {V U:Nat} {J:Nat→Int} (hp:gI U V J) (a c:Nat):rG V J (a:Int) (c:Int)=(cZ J c V).testBit a:=by
 unfold rG;rw[Bool.eq_iff_iff,dJ,mJ J c a V (fun i hi=>(hp i hi).1.1)];constructor
 · rintro ⟨i,hi,he⟩;unfold iz at he;rw[Bool.and_eq_true,decide_eq_true_iff,decide_eq_true_iff] at he;exact ⟨i,hi,he.1.symm,he.2.symm⟩
 · rintro ⟨i,hi,he⟩;refine ⟨i,hi,?_⟩;unfold iz;rw[Bool.and_eq_true,decide_eq_true_iff,decide_eq_true_iff];exact ⟨he.1.symm,he.2.symm⟩
end Go.Eng
end
section
namespace Go.Eng
open Go.Proofs Go.Eng.Gall
noncomputable def jr (d:Nat):AV:=.fn (.func 80) [] [.ptr d 0 0 0]
end Go.Eng
end
section
namespace Go.Eng
open Go.Proofs Go.Eng.Gall
theorem P8:∀ b,(0,b) ∈ aP (bA Tryd.f89)→b=.loop (part Tryd.f89 [1,0,1,0,0]):=eN (by kernel_rfl)
def nz (O:Int) (U:Nat) (Z:Nat→Int) (V:Nat) (J:Nat→Int) (c:Int):Int:=if cu O U Z V J=0 then (if c<0∨(U:Int)≤c then 2 else 0) else cu O U Z V J
theorem jM {O:Int} {U:Nat} {Z:Nat→Int} {V:Nat} {J:Nat→Int} (h:cu O U Z V J=0):(1≤U∧U≤10)∧V≤40∧(1≤O∧O≤100)∧qQ U Z∧gI U V J∧iK U (fun c=>cZ J c V)=false:=by
 unfold cu at h;split at h
 · cases h
 · rename_i h1;split at h
   · cases h
   · rename_i h2;split at h
     · cases h
     · rename_i h3;split at h
       · cases h
       · rename_i h4;exact ⟨by omega,by omega,by omega,wc (by simpa using fun q=>h2 (.inr (.inr q))),px (by simpa using h3),by simpa using h4⟩
theorem Iq {O:Int} {U:Nat} {Z:Nat→Int} {V:Nat} {J:Nat→Int} {c:Int} (h:nz O U Z V J c=0):cu O U Z V J=0∧0≤c∧c<U:=by
 unfold nz at h;split at h
 · rename_i h1;split at h
   · cases h
   · exact ⟨h1,by omega,by omega⟩
 · rename_i h1;exact absurd h h1
section
variable (n:Nat) (O:Int) (U:Nat) (Z:Nat→Int) (V:Nat) (J:Nat→Int) (H:ab)
noncomputable def OV (c:Int):AV:=if nz O U Z V J c=0 then .tup [HD O U Z V J,.int .i64 0] else .tup [.nilp,.int .i64 (nz O U Z V J c)]
end
end Go.Eng
end
section
namespace Go.Eng
open Go.Proofs Go.Eng.Gall
section
variable (n:Nat) (O:Int) (U:Nat) (Z:Nat→Int) (V:Nat) (J:Nat→Int) (H:ab)
theorem Qi (hb:V≤1000) (h0:cu O U Z V J=0):cd (n+14) (.fn 49) [a8 O U Z V J,.nils] H=some (.tup [HD O U Z V J,.int .i64 (Int.ofNat 0)],H):=by
 obtain ⟨h1,h2,h3,h4,h5,_⟩:=jM h0;refine bj (n:=n+13) Tryd.func49 rfl rfl rfl (S8 (n+11) O U Z V J (c9 O U Z) (ia V J) H (fun x=>x=[a8 O U Z V J])) (lF _ (n+11) 2 (fun q=>oR (bO (aN _) (fun H=>by
  rw[show n+11+q=n+q+11 by omega];have:=NG (n+q) O U Z V J H wO hb;rw[h0] at this;exact this)) (fun A H hA=>by
   subst hA;rw[show n+11+q=n+q+4+7 by omega];exact PS (n+q+4) O U Z V J H h1.2 hb h3 h4 h5))) (aj _ _) (ak _ _) ?_
 refine Tr.ai rfl (Tr.af (fun q=>by simp[ar,aE] at q) (fun q=>Tr.ai rfl (Tr.ag ⟨rfl,rfl⟩)))
variable (W B:Nat→Int)
end
section
variable (n:Nat) (r:Row) (G:ab) (m:Nat) (z S:Nat→Int) (R:Row)
end
section
variable (n:Nat) (O:Int) (U:Nat) (Z:Nat→Int) (V:Nat) (J:Nat→Int) (W B:Nat→Int) (r:Row) (G:ab) (m:Nat) (z:Nat→Int)
end
end Go.Eng
end
section
namespace Go.Eng
open Go.Proofs Go.Eng.Gall
theorem XB (n:Nat) (O:Int) (U:Nat) (Z:Nat→Int) (V:Nat) (J:Nat→Int) (H:ab) (c p:Int):bg Tryd.prog (cd (n+1)) 100000 78 Tryd.f78 (KtG.kt 78) (il aF n 1) aR aQ [(a8 O U Z V J,none),(.int .i64 c,none),(.int .i64 p,none)] H =
 Tr.req (c6 c U) (Tr.req (cK (aw 0 c 4) (cG U 4)) (Tr.req (cK (au (aw 0 c 4) 1) (cG U 4)) (Tr.req (c6 c U) (Tr.req (cK (aw 0 c 4) (cG U 4)) (Tr.req (cK (au (aw 0 c 4) 1) (cG U 4)) (Tr.req (cK (au (aw 0 c 4) 2) (cG U 4)) (Tr.req (cK (au (aw 0 c 4) 3) (cG U 4)) (Tr.req (bV (fp 0 0) (fp 0 1)) (Tr.req (bV (fp 0 0) (fp 0 1)) (Tr.ite (dp (Z (au (aw 0 c 4) 2)) (bX .i64 (Z (aw 0 c 4)) (Bm .i64 p O))) (Tr.ok ((AV.bool (dp (bX .i64 (Z (au (aw 0 c 4) 1)) (Bm .i64 p O)) (Z (au (aw 0 c 4) 3))),none),H)) (Tr.ok ((AV.bool false,some 1),H)))))))))))):=by kernel_rfl
end Go.Eng
end
section
namespace Go.Eng
open Go.Proofs Go.Eng.Gall
section
variable (n:Nat) (O:Int) (U:Nat) (Z:Nat→Int) (V:Nat) (J:Nat→Int) (H:ab) (m:Nat) (z:Nat→Int)
theorem O8 (hd:1≤O) {c:Nat} (hc:c<U) {p:Int} (hp:0≤p∧p<U):vR (c9 O U Z) (c:Int) p=(decide (Z (c*4+2)≤Z (c*4)-p*O) && decide (Z (c*4+1)-p*O≤Z (c*4+3))):=by
 unfold vR c9;rw[Int.toNat_natCast,if_pos wO,if_pos wO,if_pos wO,if_neg wO,show 2*c / 2=c by omega,show (2*c+1) / 2=c by omega,Bool.and_comm];have e1:p≤(Z (c*4)-Z (c*4+2)) / O↔p*O≤Z (c*4)-Z (c*4+2):=Int.le_ediv_iff_mul_le wO;have e2:-p≤(Z (c*4+3)-Z (c*4+1)) / O↔-p*O≤Z (c*4+3)-Z (c*4+1):=Int.le_ediv_iff_mul_le wO;rw[Int.neg_mul] at e2;generalize (Z (c*4)-Z (c*4+2)) / O=A at *;generalize (Z (c*4+3)-Z (c*4+1)) / O=D at *;generalize p*O=Q at *;congr 1
 · rw[decide_eq_decide];omega
 · rw[decide_eq_decide];omega
theorem U3 (hd:1≤O∧O≤100) (hl:U≤10) (hv:qQ U Z) (c p:Nat) (hc:c<U) (hp:p<U):cd (n+2) (.fn 78) [a8 O U Z V J,.int .i64 (c:Int),.int .i64 (p:Int)] H=some (.bool (vR (c9 O U Z) (c:Int) (p:Int)),H):=by
 obtain ⟨v1,v2,v3,v4,v5,v6⟩:=M8 hv hc;have hm0:0≤(p:Int)*O:=Int.mul_nonneg wO wO;have hm1:(p:Int)*O≤10*100:=Int.mul_le_mul wO wO wO wO;have em:Bm .i64 (p:Int) O=(p:Int)*O:=by rw[pc];exact iy wO wO
 have ei:aw 0 (c:Int) 4=c*4:=by rw[bJ];omega
 have T:=XB n O U Z V J H (c:Int) (p:Int);rw[ei,aM,aM,aM,em,BB wO wO,BB wO wO] at T;refine bj (n:=n+1) Tryd.func78 rfl rfl rfl T (ff n 1) (aj _ _) (ak _ _) ?_;rw[O8 O U Z hd.1 hc ⟨by omega,by omega⟩];refine Tr.aa wG (Tr.aa wG (Tr.aa wG (Tr.aa wG (Tr.aa wG (Tr.aa wG (Tr.aa wG (Tr.aa wG (Tr.aa wG (Tr.aa wG (Tr.af (fun q=>Tr.ag ⟨?_,rfl⟩) (fun q=>Tr.ag ⟨?_,rfl⟩)))))))))));all_goals rw[bh] at q
 · rw[q,bh,Bool.true_and]
 · rw[q,Bool.false_and]
end
end Go.Eng
end
section
namespace Go.Eng
open Go.Proofs Go.Eng.Gall
noncomputable def IH (r:Row) (v k:Nat) (y:Nat→Int):bG:=⟨false,[(0,.row r),(v,.row (.M [.arr .i64 y k]))]⟩
end Go.Eng
end
section
namespace Go.Eng
open Go.Proofs Go.Eng.Gall
section
variable (n:Nat) (O:Int) (U:Nat) (Z:Nat→Int) (V:Nat) (J:Nat→Int) (H:ab)
noncomputable def PZ:Row:=.G [.int .i64 O,slA 4 U Z,slA 2 V J]
variable (m:Nat) (z:Nat→Int) (W B:Nat→Int)
end
end Go.Eng
end
section
namespace Go.Eng
open Go.Proofs Go.Eng.Gall
end Go.Eng
end
section
namespace Go.Eng
open Go.Proofs Go.Eng.Gall
end Go.Eng
end
section
namespace Go.Eng
open Go.Proofs Go.Eng.Gall
section
variable (O:Int) (U:Nat) (Z:Nat→Int) (V:Nat) (J:Nat→Int)
end
end Go.Eng
end
section
namespace Go.Eng
open Go.Proofs Go.Eng.Gall
section
variable (O:Int) (U:Nat) (Z:Nat→Int) (V:Nat) (J:Nat→Int)
variable (n:Nat) (H:ab) (m:Nat) (z:Nat→Int) (w:Int)
end
end Go.Eng
end
section
namespace Go.Eng
open Int (ofNat)
open Go.Proofs Go.Eng.Gall
noncomputable def kP (R:Row) (u:Bool) (U:Nat) (i:Int):aC:=[(0,.ptrT none R 0),(2,.ptr 0 0 0 0),(4,.ptr 0 1 0 0),(5,.ptr 0 2 0 0),(6,.bool u),(19,.int .i64 (ofNat U)),(20,.int .i64 i)]
noncomputable def ie (R:Row) (u:Bool) (U:Nat) (i k:Int):aC:=[(0,.ptrT none R 0),(2,.ptr 0 0 0 0),(4,.ptr 0 1 0 0),(5,.ptr 0 2 0 0),(6,.bool u),(7,.int .i64 i),(19,.int .i64 (ofNat U)),(20,.int .i64 i),(28,.int .i64 (ofNat U)),(29,.int .i64 k)]
noncomputable def gk (R:Row) (u:Bool) (U:Nat) (i k c:Int):aC:=[(0,.ptrT none R 0),(2,.ptr 0 0 0 0),(4,.ptr 0 1 0 0),(5,.ptr 0 2 0 0),(6,.bool u),(7,.int .i64 i),(9,.ptr 0 3 0 0),(19,.int .i64 (ofNat U)),(20,.int .i64 i),(28,.int .i64 (ofNat U)),(29,.int .i64 k),(46,.int .i64 (ofNat U)),(47,.int .i64 c)]
noncomputable def Ly (q:Nat→Int) (f t:Int) (A:AV):List (Nat×an):=[(0,.row (.G [.int .i64 (ofNat 0),.int .i64 (ofNat 0),.nils])),(0,.row (.M [.arr .i64 q 20])),(0,.row (.G [.int .i64 f,.int .i64 t,A]))]
noncomputable def eZ (q:Nat→Int) (f t:Int) (A:AV):bG:=⟨false,Ly q f t A⟩
noncomputable def yx (q:Nat→Int) (f t:Int) (A:AV) (F T:Int):bG:=⟨false,Ly q f t A++[(0,.row (.G [.int .i64 F,.int .i64 T,.nils]))]⟩
noncomputable def Bj (q:Nat→Int) (f t:Int) (A:AV) (F T:Int) (c:Nat) (y:Nat→Int):bG:=⟨false,Ly q f t A++[(0,.row (.G [.int .i64 F,.int .i64 T,.slc 0 4 0 0 1 c none])),(0,.row (.M [.arr .i64 y c]))]⟩
theorem Kj (n:Nat) (H:ab) (q:Nat→Int) (R:Row) (u:Bool) (f t:Int) (m:Nat) (y:Nat→Int) (U:Nat) (i k c F T:Int):aS (bQ n 65 128) (il aF n 0) aR aQ (part Tryd.f65 [1,0,1,1,1,1,0,1,0,0,1,1,0,0,1,1,0,0,1,1,0,0,1,1,0,1,0,0]) (hints (gk R u U i k c)) (yx q f t .nils F T::H) =
 (fun (Z0:aH)=>((fun (Z1:bG)=>Tr.ite (bM c (ofNat U)) (Tr.req (c6 c 10) (Tr.req (cg 0 0) (Tr.req (cK (aw 0 c 2) 20) (Tr.ite (dp F (q (aw 0 c 2))) (Tr.req (c6 c 10) (Tr.req (cg 0 0) (Tr.req (cK (au (aw 0 c 2) 1) 20) (Tr.ite (dp (q (au (aw 0 c 2) 1)) T) (Tr.req (kH (ofNat 0) 0) (Tr.req (kH (ofNat 0) (bY (ofNat 0))) (Tr.req (ji 0 1 8) (Tr.req (cg 0 0) (Tr.req (fp 1 1) (Tr.ok (Ex.normal,Z0,(bz [(0,an.row (Row.G [iI 0,iI 0,AV.nils])),(0,an.row (rM q 20)),(0,an.row (Row.G [AV.int .i64 f,AV.int .i64 t,AV.nils])),(0,an.row (Row.G [AV.int .i64 F,AV.int .i64 T,AV.slc 0 5 0 0 1 1 none])),(0,an.row (Row.I .i64 [c])),(0,an.row (rM (aI [c]) 1))])::H))))))) (Tr.ok (Ex.normal,Z0,Z1::H)))))) (Tr.ok (Ex.normal,Z0,Z1::H)))))) (Tr.ok (Ex.exit 4,[(0,AV.ptrT none R 0,none),(2,AV.ptr 0 0 0 0,none),(4,AV.ptr 0 1 0 0,none),(5,AV.ptr 0 2 0 0,none),(6,AV.bool u,none),(7,AV.int .i64 i,none),(9,AV.ptr 0 3 0 0,none),(19,iI U,none),(20,AV.int .i64 i,none),(28,iI U,none),(29,AV.int .i64 k,none),(46,iI U,none),(47,AV.int .i64 c,none),(48,AV.bool false,some 1)],Z1::H))) (bz [(0,an.row (Row.G [iI 0,iI 0,AV.nils])),(0,an.row (rM q 20)),(0,an.row (Row.G [AV.int .i64 f,AV.int .i64 t,AV.nils])),(0,an.row (Row.G [AV.int .i64 F,AV.int .i64 T,AV.nils]))]))) [(0,AV.ptrT none R 0,none),(2,AV.ptr 0 0 0 0,none),(4,AV.ptr 0 1 0 0,none),(5,AV.ptr 0 2 0 0,none),(6,AV.bool u,none),(7,AV.int .i64 i,none),(9,AV.ptr 0 3 0 0,none),(19,iI U,none),(20,AV.int .i64 i,none),(28,iI U,none),(29,AV.int .i64 k,none),(46,iI U,none),(47,AV.int .i64 (bm .i64 c (ofNat 1)),none)]:=by kernel_rfl
theorem Kk (n:Nat) (H:ab) (q:Nat→Int) (R:Row) (u:Bool) (f t:Int) (m:Nat) (y:Nat→Int) (U:Nat) (i k c F T:Int) (g:Nat) (x:Nat→Int):aS (bQ n 65 128) (il aF n 0) aR aQ (part Tryd.f65 [1,0,1,1,1,1,0,1,0,0,1,1,0,0,1,1,0,0,1,1,0,0,1,1,0,1,0,0]) (hints (gk R u U i k c)) (Bj q f t .nils F T g x::H) =
 (fun (Z0:aH)=>((fun (Z1:bG)=>Tr.ite (bM c (ofNat U)) (Tr.req (c6 c 10) (Tr.req (cg 0 0) (Tr.req (cK (aw 0 c 2) 20) (Tr.ite (dp F (q (aw 0 c 2))) (Tr.req (c6 c 10) (Tr.req (cg 0 0) (Tr.req (cK (au (aw 0 c 2) 1) 20) (Tr.ite (dp (q (au (aw 0 c 2) 1)) T) (Tr.req (kH (ofNat g) g) (Tr.req (kH (ofNat g) (bY (ofNat g))) (Tr.req (ji (bY (ofNat g)) 1 8) (Tr.req (cg 0 0) (Tr.req (fp 1 1) (Tr.ite (cK (bY (ofNat g)) (au (bY (ofNat g)) 1)) (Tr.req (cg 0 0) (Tr.req (fp (bY (ofNat g)) (bY (ofNat g))) (Tr.req (eD 0 (bY (ofNat g)) 0 g) (Tr.ok (Ex.normal,Z0,(bz [(0,an.row (Row.G [iI 0,iI 0,AV.nils])),(0,an.row (rM q 20)),(0,an.row (Row.G [AV.int .i64 f,AV.int .i64 t,AV.nils])),(0,an.row (Row.G [AV.int .i64 F,AV.int .i64 T,AV.slc 0 6 0 0 1 (au (bY (ofNat g)) 1) none])),(0,an.row (rM x g)),(0,an.row (Row.I .i64 [c])),(0,an.row (rM (rV (rJ x 0) (bY (ofNat g)) (aI [c])) (au (bY (ofNat g)) 1)))])::H))))) (Tr.req (cg 0 0) (Tr.req (cK (au 0 (bY (ofNat g))) g) (Tr.ok (Ex.normal,Z0,(bz [(0,an.row (Row.G [iI 0,iI 0,AV.nils])),(0,an.row (rM q 20)),(0,an.row (Row.G [AV.int .i64 f,AV.int .i64 t,AV.nils])),(0,an.row (Row.G [AV.int .i64 F,AV.int .i64 T,AV.slc 0 4 0 0 1 (au (bY (ofNat g)) 1) (some (bY (ofNat g)))])),(0,an.row (rM (dc x (au 0 (bY (ofNat g))) c) g)),(0,an.row (Row.I .i64 [c]))])::H)))))))))) (Tr.ok (Ex.normal,Z0,Z1::H)))))) (Tr.ok (Ex.normal,Z0,Z1::H)))))) (Tr.ok (Ex.exit 4,[(0,AV.ptrT none R 0,none),(2,AV.ptr 0 0 0 0,none),(4,AV.ptr 0 1 0 0,none),(5,AV.ptr 0 2 0 0,none),(6,AV.bool u,none),(7,AV.int .i64 i,none),(9,AV.ptr 0 3 0 0,none),(19,iI U,none),(20,AV.int .i64 i,none),(28,iI U,none),(29,AV.int .i64 k,none),(46,iI U,none),(47,AV.int .i64 c,none),(48,AV.bool false,some 1)],Z1::H))) (bz [(0,an.row (Row.G [iI 0,iI 0,AV.nils])),(0,an.row (rM q 20)),(0,an.row (Row.G [AV.int .i64 f,AV.int .i64 t,AV.nils])),(0,an.row (Row.G [AV.int .i64 F,AV.int .i64 T,AV.slc 0 4 0 0 1 g none])),(0,an.row (rM x g))]))) [(0,AV.ptrT none R 0,none),(2,AV.ptr 0 0 0 0,none),(4,AV.ptr 0 1 0 0,none),(5,AV.ptr 0 2 0 0,none),(6,AV.bool u,none),(7,AV.int .i64 i,none),(9,AV.ptr 0 3 0 0,none),(19,iI U,none),(20,AV.int .i64 i,none),(28,iI U,none),(29,AV.int .i64 k,none),(46,iI U,none),(47,AV.int .i64 (bm .i64 c (ofNat 1)),none)]:=by kernel_rfl
theorem Kl (n:Nat) (H:ab) (q:Nat→Int) (R:Row) (u:Bool) (f t:Int) (m:Nat) (y:Nat→Int) (U:Nat) (i k c F T:Int):aS (bQ n 65 128) (il aF n 0) aR aQ (part Tryd.f65 [1,0,1,1,1,1,0,1,0,0,1,1,0,0,1,1,0,0,1,1,0,0,1,1,0,1,0,0]) (hints (gk R u U i k c)) (yx q f t (cw m y false) F T::H) =
 (fun (Z0:aH)=>((fun (Z1:bG)=>Tr.ite (bM c (ofNat U)) (Tr.req (c6 c 10) (Tr.req (cg 0 0) (Tr.req (cK (aw 0 c 2) 20) (Tr.ite (dp F (q (aw 0 c 2))) (Tr.req (c6 c 10) (Tr.req (cg 0 0) (Tr.req (cK (au (aw 0 c 2) 1) 20) (Tr.ite (dp (q (au (aw 0 c 2) 1)) T) (Tr.req (kH (ofNat 0) 0) (Tr.req (kH (ofNat 0) (bY (ofNat 0))) (Tr.req (ji 0 1 8) (Tr.req (cg 0 0) (Tr.req (fp 1 1) (Tr.ok (Ex.normal,Z0,(bz [(0,an.row (Row.G [iI 0,iI 0,AV.nils])),(0,an.row (rM q 20)),(0,an.row (Row.G [AV.int .i64 f,AV.int .i64 t,cw m y false])),(0,an.row (Row.G [AV.int .i64 F,AV.int .i64 T,AV.slc 0 5 0 0 1 1 none])),(0,an.row (Row.I .i64 [c])),(0,an.row (rM (aI [c]) 1))])::H))))))) (Tr.ok (Ex.normal,Z0,Z1::H)))))) (Tr.ok (Ex.normal,Z0,Z1::H)))))) (Tr.ok (Ex.exit 4,[(0,AV.ptrT none R 0,none),(2,AV.ptr 0 0 0 0,none),(4,AV.ptr 0 1 0 0,none),(5,AV.ptr 0 2 0 0,none),(6,AV.bool u,none),(7,AV.int .i64 i,none),(9,AV.ptr 0 3 0 0,none),(19,iI U,none),(20,AV.int .i64 i,none),(28,iI U,none),(29,AV.int .i64 k,none),(46,iI U,none),(47,AV.int .i64 c,none),(48,AV.bool false,some 1)],Z1::H))) (bz [(0,an.row (Row.G [iI 0,iI 0,AV.nils])),(0,an.row (rM q 20)),(0,an.row (Row.G [AV.int .i64 f,AV.int .i64 t,cw m y false])),(0,an.row (Row.G [AV.int .i64 F,AV.int .i64 T,AV.nils]))]))) [(0,AV.ptrT none R 0,none),(2,AV.ptr 0 0 0 0,none),(4,AV.ptr 0 1 0 0,none),(5,AV.ptr 0 2 0 0,none),(6,AV.bool u,none),(7,AV.int .i64 i,none),(9,AV.ptr 0 3 0 0,none),(19,iI U,none),(20,AV.int .i64 i,none),(28,iI U,none),(29,AV.int .i64 k,none),(46,iI U,none),(47,AV.int .i64 (bm .i64 c (ofNat 1)),none)]:=by kernel_rfl
theorem Km (n:Nat) (H:ab) (q:Nat→Int) (R:Row) (u:Bool) (f t:Int) (m:Nat) (y:Nat→Int) (U:Nat) (i k c F T:Int) (g:Nat) (x:Nat→Int):aS (bQ n 65 128) (il aF n 0) aR aQ (part Tryd.f65 [1,0,1,1,1,1,0,1,0,0,1,1,0,0,1,1,0,0,1,1,0,0,1,1,0,1,0,0]) (hints (gk R u U i k c)) (Bj q f t (cw m y false) F T g x::H) =
 (fun (Z0:aH)=>((fun (Z1:bG)=>Tr.ite (bM c (ofNat U)) (Tr.req (c6 c 10) (Tr.req (cg 0 0) (Tr.req (cK (aw 0 c 2) 20) (Tr.ite (dp F (q (aw 0 c 2))) (Tr.req (c6 c 10) (Tr.req (cg 0 0) (Tr.req (cK (au (aw 0 c 2) 1) 20) (Tr.ite (dp (q (au (aw 0 c 2) 1)) T) (Tr.req (kH (ofNat g) g) (Tr.req (kH (ofNat g) (bY (ofNat g))) (Tr.req (ji (bY (ofNat g)) 1 8) (Tr.req (cg 0 0) (Tr.req (fp 1 1) (Tr.ite (cK (bY (ofNat g)) (au (bY (ofNat g)) 1)) (Tr.req (cg 0 0) (Tr.req (fp (bY (ofNat g)) (bY (ofNat g))) (Tr.req (eD 0 (bY (ofNat g)) 0 g) (Tr.ok (Ex.normal,Z0,(bz [(0,an.row (Row.G [iI 0,iI 0,AV.nils])),(0,an.row (rM q 20)),(0,an.row (Row.G [AV.int .i64 f,AV.int .i64 t,cw m y false])),(0,an.row (Row.G [AV.int .i64 F,AV.int .i64 T,AV.slc 0 6 0 0 1 (au (bY (ofNat g)) 1) none])),(0,an.row (rM x g)),(0,an.row (Row.I .i64 [c])),(0,an.row (rM (rV (rJ x 0) (bY (ofNat g)) (aI [c])) (au (bY (ofNat g)) 1)))])::H))))) (Tr.req (cg 0 0) (Tr.req (cK (au 0 (bY (ofNat g))) g) (Tr.ok (Ex.normal,Z0,(bz [(0,an.row (Row.G [iI 0,iI 0,AV.nils])),(0,an.row (rM q 20)),(0,an.row (Row.G [AV.int .i64 f,AV.int .i64 t,cw m y false])),(0,an.row (Row.G [AV.int .i64 F,AV.int .i64 T,AV.slc 0 4 0 0 1 (au (bY (ofNat g)) 1) (some (bY (ofNat g)))])),(0,an.row (rM (dc x (au 0 (bY (ofNat g))) c) g)),(0,an.row (Row.I .i64 [c]))])::H)))))))))) (Tr.ok (Ex.normal,Z0,Z1::H)))))) (Tr.ok (Ex.normal,Z0,Z1::H)))))) (Tr.ok (Ex.exit 4,[(0,AV.ptrT none R 0,none),(2,AV.ptr 0 0 0 0,none),(4,AV.ptr 0 1 0 0,none),(5,AV.ptr 0 2 0 0,none),(6,AV.bool u,none),(7,AV.int .i64 i,none),(9,AV.ptr 0 3 0 0,none),(19,iI U,none),(20,AV.int .i64 i,none),(28,iI U,none),(29,AV.int .i64 k,none),(46,iI U,none),(47,AV.int .i64 c,none),(48,AV.bool false,some 1)],Z1::H))) (bz [(0,an.row (Row.G [iI 0,iI 0,AV.nils])),(0,an.row (rM q 20)),(0,an.row (Row.G [AV.int .i64 f,AV.int .i64 t,cw m y false])),(0,an.row (Row.G [AV.int .i64 F,AV.int .i64 T,AV.slc 0 4 0 0 1 g none])),(0,an.row (rM x g))]))) [(0,AV.ptrT none R 0,none),(2,AV.ptr 0 0 0 0,none),(4,AV.ptr 0 1 0 0,none),(5,AV.ptr 0 2 0 0,none),(6,AV.bool u,none),(7,AV.int .i64 i,none),(9,AV.ptr 0 3 0 0,none),(19,iI U,none),(20,AV.int .i64 i,none),(28,iI U,none),(29,AV.int .i64 k,none),(46,iI U,none),(47,AV.int .i64 (bm .i64 c (ofNat 1)),none)]:=by kernel_rfl
end Go.Eng
end
