/- Gall: the first right order: the contracts. -/
import Derived.Test.YtgphpjdchnfjlaaDoorV3Gp10x11
set_option linter.unusedVariables false
set_option linter.unusedSimpArgs false
set_option maxRecDepth 100000
section
namespace Go.Eng
open Go.Proofs Go.Eng.Gall
theorem Vu:∀ b,(0,b) ∈ aE (aV Tryd.f92)→b=.loop (part Tryd.f92 [1,0,1,0,0]):=dz (by kernel_rfl)
theorem QN:∀ b,(0,b) ∈ aE (aV Tryd.f90)→b=.loop (part Tryd.f90 [1,0,0]):=dz (by kernel_rfl)
section
variable (n:Nat) (dr:Int) (lc:Nat) (zc:Nat→Int) (lb:Nat) (zb:Nat→Int)
theorem V0 (H:ab) (p:Nat→Bool) (hl:lc≤1000) (h93:∀ j,j<lc→cd n (.fn 93) [.int .i64 (j:Int),.ptr 3 4 0 0,.ptr 3 0 0 0,.ptr 1 0 0 0,.ptr 3 1 0 0] (au::H)=some (.bool (p j),au::H)) :
 cd (n+1) (.fn 92) [slA 4 lc zc,Ei 0] H=some (.int .i64 ((if cC p lc=true then fN p lc 0 else 0:Nat):Int),H):=by
 have lp:=eA (n:=n) (f:=92) (nt:=16) (c:=part Tryd.f92 [1,0,1,0,0]) 0 (fun j=>Bu lc (j:Int)) (fun _=>au::H) lc p (fun j=>([(4,.int .i64 (j:Int))],au::H)) (Bu lc (Int.ofNat lc)++[(9,.bool false)],au::H) (by omega) (fun j hj=>?_) ?_
 · refine br (n:=n) Tryd.func92 rfl rfl rfl (YJ n lc zc H (cC p lc) (fN p lc 0:Nat)) (av n) (aP (ai _ _) Vu (fun x hx=>b7 hx lp)) (aj _ _) ?_
   refine Tr.ak ⟨rfl,rfl⟩ (Tr.ae (fun q=>Tr.ag ⟨?_,rfl⟩) (fun q=>Tr.ag ⟨?_,rfl⟩))
   · rw[if_pos q]
   · rw[if_neg (by rw[q];decide)];rfl
 · have T:=t92 n lc H (j:Int) (p j)
   rw[dJ (by omega)] at T
   refine ay T (bo _ _ (ew (aW _) (fun x hy=>by rw[← Tr.af hy];exact h93 j hj))) (ai _ _) (aj _ _) ?_
   refine Tr.ae (fun _=>Tr.ak ⟨rfl,rfl⟩ (Tr.ae (fun q=>Tr.ag ?_) (fun q=>Tr.ag ?_))) wJ
   · rw[if_pos q];rfl
   · rw[if_neg (by rw[q];decide)];exact ⟨rfl,rfl⟩
 · obtain ⟨x,h1,rfl⟩:=ay (Q:=fun x=>x=(.exit 0,Bu lc (Int.ofNat lc)++[(9,.bool false)],au::H)) (TC n lc H (Int.ofNat lc)) (av n) (ai _ _) (aj _ _) (by
    refine Tr.ae wJ (fun h0=>Tr.ag rfl))
   exact h1
theorem KG (W:Nat→Int) (g:Nat→Nat) (HH:ab) (i:Nat) (hr:cX HH 0 i 0=some (shR dr lc zc lb zb W (bI g))) (hS:fM lc W g):∃ f t,cd (n+4) (.fn 65) [.ptr 0 i 0 0] HH=some (.tup [.agg (.G [.int .i64 f,.int .i64 t,.undef]),.bool (!zq lc g W)],HH):=by
 have h:=UY n dr lc zc lb zb W [⟨true,[]⟩] g hS;have e:=MQ (.inr rfl) hr rfl h;unfold zq;cases hc:kD (qB (dx lc g W)) lc lc with
 | none =>
   rw[hc] at e;exact ⟨Int.ofNat 0,Int.ofNat 0,o5 e⟩
 | some v =>
   obtain ⟨f,t⟩:=v;rw[hc] at e;exact ⟨f,t,o5 e⟩
variable (W:Nat→Int) (g:Nat→Nat) (H:ab)
theorem Px (k:Nat) (c:Nat):vo W (c:Int) (k:Int)=(c8 (W (2*c)) (k:Int) && c8 (k:Int) (W (2*c+1))):=by
 unfold vo;rw[bf,bf];rfl
theorem V1 (hS:fM lc W g) (L:List Nat) (hd:L.Nodup) (hL:∀ x ∈ L,x<lc) (hk:L.length<lc) (b2 b3:Nat×an) (rest:List (Nat×an)) (c:Nat) (hc:c<lc) :
 cd (n+5) (.fn 93) [.int .i64 (c:Int),.ptr 3 4 0 0,.ptr 3 0 0 0,.ptr 1 0 0 0,.ptr 3 1 0 0] (au::x6 (L.length:Int)::au::H7 (shR dr lc zc lb zb W (bI g)) (shR dr lc zc lb zb (nM W L) (bI g)) b2 b3 (mask L:Int) rest::H)=some (.bool (pq lc g W L c),au::x6 (L.length:Int)::au::H7 (shR dr lc zc lb zb W (bI g)) (shR dr lc zc lb zb (nM W L) (bI g)) b2 b3 (mask L:Int) rest::H):=by
 have hlc:=hS.len
 have hm:mask L<2 ^ lc:=nj hd hL
 have hm62:mask L<2 ^ 62:=Nat.lt_of_lt_of_le hm (Nat.pow_le_pow_right (by omega) (by omega))
 have h71:∀ H,cd (n+4) (.fn 71) [shV dr lc zc lb zb W (bI g),.int .i64 (c:Int),.int .i64 (L.length:Int)] H=some (.bool (vo W (c:Int) (L.length:Int)),H):=fun H=>UZ (n+3) dr lc zc lb zb H W (bI g) (c:Int) L.length (by omega)
 have e1:dC (aq 23 (c:Int) 1) 23=c:=by rw[bG,dv];omega
 have e2:dC (aq 3 (c:Int) 2) 3=2*c:=by rw[bG,dv];omega
 have e3:dC (ar (aq 3 (c:Int) 2) 1) 3=2*c+1:=by rw[bG,aI,dv];omega
 have E:pq lc g W L c=(!(mask L).testBit c && (cw (AY .u64 (bI g c) (mask L:Int)) (Int.ofNat 0) && vo W (c:Int) (L.length:Int)) && zq lc g (nM W (L++[c]))):=by
  unfold pq Q.okW;rw[Px]
 have B1:cw (l9 .u64 (mask L:Int) (eh .u64 (Int.ofNat 1) (c:Int))) (Int.ofNat 0)=!(mask L).testBit c:=Q.A8 hm62 (by omega)
 by_cases hb:(mask L).testBit c=true
 · have T:=TY (n+4) dr lc zc lb zb W (nM W L) (bI g) H b2 b3 (mask L:Int) (L.length:Int) (c:Int) rest (vo W (c:Int) (L.length:Int))
   rw[B1,hb] at T
   rw[E,hb]
   refine br (n:=n+4) Tryd.func93 rfl rfl rfl T (bo _ _ (pR (bR (aW _) h71))) (ai _ _) (aj _ _) ?_
   refine Tr.aa wG (Tr.ae (fun _=>Tr.ag ⟨rfl,rfl⟩) (fun q=>by simp[aB] at q))
 · have hb:(mask L).testBit c=false:=by simpa using hb
   have hnm:c ∉ L:=fun h=>by rw[cN hd,decide_eq_true h] at hb;cases hb
   have hd2:(L++[c]).Nodup:=by
    rw[List.nodup_append];exact ⟨hd,by simp,fun x hx y hy he=>by rw[List.mem_singleton] at hy;rw[hy] at he;rw[he] at hx;exact hnm hx⟩
   have hL2:∀ x ∈ L++[c],x<lc:=by
    intro x hx;rcases List.mem_append.1 hx with hx | hx
    · exact hL x hx
    · rw[List.mem_singleton] at hx;omega
   have hS2:fM lc (nM W (L++[c])) g:=Km hS (by rw[List.length_append];simp;omega) hL2
   obtain ⟨f,t,h65⟩:=KG n dr lc zc lb zb (nM W (L++[c])) g (⟨false,[(0,.row (shR dr lc zc lb zb (nM W (L++[c])) (bI g)))]⟩::au::x6 (L.length:Int)::au::H7 (shR dr lc zc lb zb W (bI g)) (shR dr lc zc lb zb (nM W L) (bI g)) b2 b3 (mask L:Int) rest::H) 0 rfl hS2
   have T:=YK (n+4) dr lc zc lb zb W (nM W L) (bI g) H b2 b3 (mask L:Int) (L.length:Int) (c:Int) rest (vo W (c:Int) (L.length:Int)) (!zq lc g (nM W (L++[c]))) f t
   rw[B1,hb,e1,e2,e3,← Gi hnm] at T
   rw[E,hb]
   refine br (n:=n+4) Tryd.func93 rfl rfl rfl T (bo _ _ (ew (bR (aW _) h71) (fun x hy=>by rw[← Tr.af hy];exact h65))) (ai _ _) (aj _ _) ?_
   clear T h65 h71
   have ei:aq 23 (c:Int) 1=23+c:=by rw[bG];omega
   have ej:aq 3 (c:Int) 2=3+c*2:=by rw[bG];omega
   rw[ei,ej]
   refine Tr.aa wG (Tr.ae (fun q=>by simp[aB] at q) (fun _=>Tr.aa wG (Tr.aa wG (Tr.ae (fun q=>Tr.ag ⟨?_,rfl⟩) (fun q=>?_)))))
   all_goals rw[aB] at q
   · have q:(!cw (AY .u64 (bI g c) (mask L:Int)) (Int.ofNat 0))=true:=q
     rw[Bool.not_eq_true'] at q
     rw[q];rfl
   have q:(!cw (AY .u64 (bI g c) (mask L:Int)) (Int.ofNat 0))=false:=q
   rw[Bool.not_eq_false'] at q
   rw[q]
   refine Tr.ak rfl (Tr.ae (fun q2=>Tr.ag ⟨?_,rfl⟩) (fun q2=>?_))
   all_goals rw[aB] at q2
   · rw[Bool.not_eq_true'] at q2
     rw[q2];rfl
   rw[Bool.not_eq_false'] at q2
   rw[q2]
   refine Tr.aa wG (Tr.aa wG (Tr.aa wG (Tr.aa wG (Tr.ak ⟨rfl,rfl⟩ (Tr.ag ⟨?_,rfl⟩)))))
   rw[aB,Bool.not_not];rfl
theorem QY (W B:Nat→Int) (St:Nat→ab) (hk:lc≤1000) (hr:∀ j,j<lc→cd n (.round 1 5) [.int .i64 (j:Int)] (au::St j)=some (.bool true,au::St (j+1))) :
 cd (n+1) (.fn 90) [.yld 0 5,.ptrT (some 0) (.G [shV dr lc zc lb zb W B]) 0] (St 0)=some (.tup [],St lc):=by
 have hx:=iG (n:=n) (f:=90) (nt:=18) (c:=part Tryd.f90 [1,0,0]) 0 (fun j=>lT lc (j:Int)) (fun j=>au::St j) lc (lT lc (Int.ofNat lc)++[(11,.bool false)],au::St lc) (by omega) (fun j hj=>?_) ?_
 · refine br (n:=n) Tryd.func90 rfl rfl rfl (TX n dr lc zc lb zb W B (St 0) (St lc)) (av _) (aP (ai _ _) QN (fun x h=>by rw[← Tr.af h];simp only[eI.st,aT];exact hx)) (aj _ _) ?_
   exact Tr.ak ⟨rfl,rfl⟩ (Tr.ag ⟨rfl,rfl⟩)
 · refine ay (Tz n lc (j:Int) (St j) (St (j+1))) (BY (av n) (fun x hy=>by rw[← Tr.af hy];exact hr j hj)) (ai _ _) (aj _ _) ?_
   rw[dJ (by omega)]
   generalize St (j+1)=G' at *
   generalize St j=G at *
   exact wF
 · obtain ⟨x,h1,rfl⟩:=ay (Q:=fun x=>x=(.exit 0,lT lc (Int.ofNat lc)++[(11,.bool false)],au::St lc)) (TA n lc (Int.ofNat lc) (St lc)) (av n) (ai _ _) (aj _ _) (by
    refine Tr.ae (fun hc=>?_) (fun hc=>Tr.ag rfl);simp (disch:=omega) only[nV,nW] at hc;omega)
   exact h1
end
end Go.Eng
end
section
namespace Go.Eng
open Go.Proofs Go.Eng.Gall
theorem wk {n d i:Nat} {args:List AV} {H H2 R:ab} {l l2:iB} {fr fr1 fr2:aF} {lv lv1:bF}
 (hg:aA H d i=(0,.loop l)) (hl:aN H d=false) (hs:l.state=.ready) (hp:jK l.nt (kL (d+1) l.fr) l.params (args.map (mU 1))=some fr)
 (h1:exec (iQ n l.fn l.nt (d+1) i) l.assign fr (au::H)=some (.normal,fr1,lv1::H))
 (h2:exec (iQ n l.fn l.nt (d+1) i) l.body fr1 (dF (lv1::H) (d+1) i (0,.loop { l with state:=.busy }))=some (.normal,fr2,lv::H2)) (hg2:aA H2 d i=(0,.loop l2)) (hR:R=dF H2 d i (0,.loop { l2 with state:=.ready,pending:=none })) :
 cd (n+1) (.round d i) args H=some (.bool true,R):=by
 rw[hR]
 exact zO (P:=Tryd.prog) (ora:=ia) (KT:=KtG.kt) (fu:=100000) (e:=.normal) hg hl hs hp h1 (by rw[show aA (lv1::H) (d+1) i=aA H d i from rfl];exact hg) hs h2 hg2
noncomputable def vT:Code:=part Tryd.f74 [1,1,1,1,1,0,1,0,0]
noncomputable def Db:Code:=part Tryd.f74 [1,1,1,1,1,0,1,0,1]
theorem X2:dP (aV Tryd.f74)=[(.tmp 19,#[20],vT,Db)]:=by kernel_rfl
noncomputable def fb (R:Row):iB:={ state:=.ready,pending:=none,fn:=74,nt:=43,fr:=El R,params:=[20],assign:=vT,body:=Db }
def lj (L:List Nat):List Int:=L.map fun x:Nat=>(x:Int)
noncomputable def Qw (R:Row) (X:List Nat→Row) (a b:AV) (K:Nat×an):List Nat→bF
 | []=>Mw R (X []) a b (Int.ofNat 0) K
 | c::r=>H6 R (X (c::r)) a b (mask (c::r):Int) K r.length (r.length+1) (az (lj (c::r)))
section
variable (n:Nat) (dr:Int) (lc:Nat) (zc:Nat→Int) (lb:Nat) (zb:Nat→Int) (W:Nat→Int) (g:Nat→Nat) (H:ab)
noncomputable def A0 (L:List Nat):Row:=shR dr lc zc lb zb (nM W L) (bI g)
theorem Jo {L:List Nat} (hd:L.Nodup) (hm:mask L<2 ^ 62) {c:Nat} (hc:c<62) (hno:c ∉ L):sa .u64 (mask L:Int) (eh .u64 (Int.ofNat 1) (c:Int))=(mask (L++[c]):Int):=by
 rw[mI];exact Q.A9 hm hc (by rw[cN hd];exact decide_eq_false hno)
theorem Td (hS:fM lc W g) (hW:∀ c,c<lc→0≤W (2*c)∧W (2*c+1)<lc) (a b:AV) {k:Nat} (hk:k<lc) (hB:NK lc g W k (eO lc g W k)) :
 cd (n+7) (.round 1 5) [.int .i64 (k:Int)] (au::Qw (shR dr lc zc lb zb W (bI g)) (A0 dr lc zc lb zb W g) a b (0,.loop (fb (shR dr lc zc lb zb W (bI g)))) (eO lc g W k)::H)=some (.bool true,au::Qw (shR dr lc zc lb zb W (bI g)) (A0 dr lc zc lb zb W g) a b (0,.loop (fb (shR dr lc zc lb zb W (bI g)))) (eO lc g W (k+1))::H):=by
 obtain ⟨hx,hf,hgo,hB1⟩:=wW hS hW hB hk
 have e:eO lc g W (k+1)=eO lc g W k++[fN (pq lc g W (eO lc g W k)) lc 0]:=by
  show eO lc g W k++[if cC (pq lc g W (eO lc g W k)) lc=true then fN (pq lc g W (eO lc g W k)) lc 0 else 0]=_;rw[if_pos hx]
 have hlc:=hS.len
 have h92:∀ (b2 b3:Nat×an) (rest:List (Nat×an)),cd (n+6) (.fn 92) [slA 4 lc zc,Ei 0] (x6 (k:Int)::au::H7 (shR dr lc zc lb zb W (bI g)) (A0 dr lc zc lb zb W g (eO lc g W k)) b2 b3 (mask (eO lc g W k):Int) rest::H)=some (.int .i64 (fN (pq lc g W (eO lc g W k)) lc 0:Nat),x6 (k:Int)::au::H7 (shR dr lc zc lb zb W (bI g)) (A0 dr lc zc lb zb W g (eO lc g W k)) b2 b3 (mask (eO lc g W k):Int) rest::H):=fun b2 b3 rest=>by
  have:=V0 (n+5) lc zc (x6 (k:Int)::au::H7 (shR dr lc zc lb zb W (bI g)) (A0 dr lc zc lb zb W g (eO lc g W k)) b2 b3 (mask (eO lc g W k):Int) rest::H) (pq lc g W (eO lc g W k)) (by omega) (fun j hj=>by
   have:=V1 n dr lc zc lb zb W g H hS (eO lc g W k) hB.nd hB.lt (by rw[hB.len];exact hk) b2 b3 rest j hj;rw[hB.len] at this;exact this)
  rw[if_pos hx] at this;exact this
 rw[e] at hB1 ⊢
 generalize fN (pq lc g W (eO lc g W k)) lc 0=c at *
 have hlen:=hB.len
 generalize eO lc g W k=L at *
 have hnm:c ∉ L:=fun h=>by
  have:=hB1.nd;rw[List.nodup_append] at this;exact this.2.2 c h c (by simp) rfl
 have hm62:mask L<2 ^ 62:=Nat.lt_of_lt_of_le (nj hB.nd hB.lt) (Nat.pow_le_pow_right (by omega) (by omega))
 have eo:=Jo hB.nd hm62 (show c<62 by omega) hnm
 have ex:=Gi (W:=W) hnm
 have e2:dC (aq 3 (c:Int) 2) 3=2*c:=by rw[bG,dv];omega
 have e3:dC (ar (aq 3 (c:Int) 2) 1) 3=2*c+1:=by rw[bG,aI,dv];omega
 have ej:aq 3 (c:Int) 2=3+c*2:=by rw[bG];omega
 have e1:=nh (lj L) (c:Int)
 cases L with
 | nil =>
   obtain rfl:k=0:=hlen.symm
   have ex':dQ (dQ (nM W []) (2*c) (Int.ofNat 0)) (2*c+1) (Int.ofNat 0)=nM W [c]:=ex.symm
   have eo':sa .u64 (Int.ofNat 0) (eh .u64 (Int.ofNat 1) (c:Int))=(mask [c]:Int):=eo
   have h1:exec (iQ (n+6) 74 43 2 5) vT [(1,.ptr 2 0 0 0),(3,.ptr 2 1 0 0),(6,.ptr 2 3 0 0),(7,.ptr 2 4 0 0),(19,Ns 2 (shR dr lc zc lb zb W (bI g))),(20,.int .i64 (Int.ofNat 0))] (au::au::Mw (shR dr lc zc lb zb W (bI g)) (A0 dr lc zc lb zb W g []) a b (Int.ofNat 0) (0,.loop (fb (shR dr lc zc lb zb W (bI g))))::H)=some (.normal,[(1,.ptr 2 0 0 0),(3,.ptr 2 1 0 0),(6,.ptr 2 3 0 0),(7,.ptr 2 4 0 0),(8,.ptr 0 0 0 0)],x6 (Int.ofNat 0)::au::Mw (shR dr lc zc lb zb W (bI g)) (A0 dr lc zc lb zb W g []) a b (Int.ofNat 0) (0,.loop (fb (shR dr lc zc lb zb W (bI g))))::H) :=
    iZ (PY (n+6) _ _ H (Int.ofNat 0)) (av _) (ai _ _) (aj _ _) (Tr.ag rfl)
   have T:=Tv (n+6) dr lc zc lb zb W (nM W []) (bI g) H a b (Int.ofNat 0) (Int.ofNat 0) (c:Int) (0,.loop { fb (shR dr lc zc lb zb W (bI g)) with state:=.busy })
   rw[e2,e3,ex',eo',ej] at T
   obtain ⟨y,h2,h3⟩:=od (Q:=fun y=>y=(.normal,[],⟨false,[(0,.row (.I .i64 [Int.ofNat 0])),(0,.row (.I .i64 [(c:Int)])),(0,.dead)]⟩::au::H6 (shR dr lc zc lb zb W (bI g)) (A0 dr lc zc lb zb W g [c]) a b (mask [c]:Int) (0,.loop { fb (shR dr lc zc lb zb W (bI g)) with state:=.busy }) 0 1 (az [(c:Int)])::H)) T (bo _ _ (ew (aW _) (fun x hy=>by rw[← Tr.af hy];exact h92 (0,.row (.G [a,b,.undef])) (0,.row (.G [.nils])) [(0,.loop { fb (shR dr lc zc lb zb W (bI g)) with state:=.busy })]))) (ai _ _) (aj _ _) (by
    clear T h92 h1;generalize fb (shR dr lc zc lb zb W (bI g))=L at *;exact wF)
   subst h3
   exact wk (l:=fb (shR dr lc zc lb zb W (bI g))) (l2:={ fb (shR dr lc zc lb zb W (bI g)) with state:=.busy }) rfl rfl rfl rfl h1 h2 rfl rfl
 | cons x r =>
   have hk':(x::r).length=k:=hlen
   have hrl:r.length+1=k:=hlen
   rw[hk'] at ex
   have ex':=ex.symm
   have e1':nZ (pZ (az (lj (x::r))) 0) (r.length+1) (az [(c:Int)])=az (lj (x::r++[c])):=by
    have:(lj (x::r)).length=r.length+1:=by simp[lj]
    rw[this] at e1;rw[e1];simp[lj]
   have h1:exec (iQ (n+6) 74 43 2 5) vT [(1,.ptr 2 0 0 0),(3,.ptr 2 1 0 0),(6,.ptr 2 3 0 0),(7,.ptr 2 4 0 0),(19,Ns 2 (shR dr lc zc lb zb W (bI g))),(20,.int .i64 (k:Int))] (au::au::H6 (shR dr lc zc lb zb W (bI g)) (A0 dr lc zc lb zb W g (x::r)) a b (mask (x::r):Int) (0,.loop (fb (shR dr lc zc lb zb W (bI g)))) r.length (r.length+1) (az (lj (x::r)))::H)=some (.normal,[(1,.ptr 2 0 0 0),(3,.ptr 2 1 0 0),(6,.ptr 2 3 0 0),(7,.ptr 2 4 0 0),(8,.ptr 0 0 0 0)],x6 (k:Int)::au::H6 (shR dr lc zc lb zb W (bI g)) (A0 dr lc zc lb zb W g (x::r)) a b (mask (x::r):Int) (0,.loop (fb (shR dr lc zc lb zb W (bI g)))) r.length (r.length+1) (az (lj (x::r)))::H) :=
    iZ (PY (n+6) _ _ H (k:Int)) (av _) (ai _ _) (aj _ _) (Tr.ag rfl)
   have T:=Tw (n+6) dr lc zc lb zb W (nM W (x::r)) (bI g) H a b (mask (x::r):Int) (k:Int) (c:Int) (0,.loop { fb (shR dr lc zc lb zb W (bI g)) with state:=.busy }) r.length (r.length+1) (az (lj (x::r)))
   have e5:ar (r.length+1) 1=r.length+1+1:=by rw[aI]
   rw[e2,e3,ex',eo,e1',e5,ej] at T
   obtain ⟨y,h2,h3⟩:=od (Q:=fun y=>y=(.normal,[],⟨false,[(0,.row (.I .i64 [(k:Int)])),(0,.row (.I .i64 [(c:Int)]))]⟩::au::H6 (shR dr lc zc lb zb W (bI g)) (A0 dr lc zc lb zb W g (x::r++[c])) a b (mask (x::r++[c]):Int) (0,.loop { fb (shR dr lc zc lb zb W (bI g)) with state:=.busy }) (r.length+1) (r.length+1+1) (az (lj (x::r++[c])))::H)) T (bo _ _ (ew (aW _) (fun y hy=>by rw[← Tr.af hy];exact h92 (0,.row (.G [a,b,.undef])) (0,.row (.G [.slc 0 6 r.length 0 1 (r.length+1) none])) [(0,.loop { fb (shR dr lc zc lb zb W (bI g)) with state:=.busy }),(r.length,.row (.M [.arr .i64 (az (lj (x::r))) (r.length+1)]))]))) (ai _ _) (aj _ _) (by
    clear T h92 h1;have hkl:r.length≤20:=by omega
    generalize fb (shR dr lc zc lb zb W (bI g))=L at *;generalize az (lj (x::r++[c]))=Y at *;exact wF)
   subst h3
   have e4:(r++[c]).length=r.length+1:=by simp
   refine wk (l:=fb (shR dr lc zc lb zb W (bI g))) (l2:={ fb (shR dr lc zc lb zb W (bI g)) with state:=.busy }) rfl rfl rfl rfl h1 h2 rfl ?_
   show au::H6 _ _ _ _ _ _ (r++[c]).length ((r++[c]).length+1) (az (lj (x::(r++[c]))))::H=_
   rw[e4];rfl
theorem YP (hS:fM lc W g) (hW:∀ c,c<lc→0≤W (2*c)∧W (2*c+1)<lc) (h0:zq lc g W=true) (a b:AV):exec (bL (n+8) 74 43) (.rangeFunc (.tmp 19) #[20] vT Db) (El (shR dr lc zc lb zb W (bI g))) (⟨false,FF (shR dr lc zc lb zb W (bI g)) (shR dr lc zc lb zb W (bI g)) a b .nils (Int.ofNat 0)⟩::H)=some (.normal,El (shR dr lc zc lb zb W (bI g)),dS (Qw (shR dr lc zc lb zb W (bI g)) (A0 dr lc zc lb zb W g) a b (0,.loop (fb (shR dr lc zc lb zb W (bI g)))) (eO lc g W lc)::H) 0 5):=by
 have e0:A0 dr lc zc lb zb W g []=shR dr lc zc lb zb W (bI g):=by unfold A0;rw[Gj]
 have h:=QY (n+7) dr lc zc lb zb W (bI g) (fun k=>Qw (shR dr lc zc lb zb W (bI g)) (A0 dr lc zc lb zb W g) a b (0,.loop (fb (shR dr lc zc lb zb W (bI g)))) (eO lc g W k)::H) (by have:=hS.len;omega) (fun j hj=>Td n dr lc zc lb zb W g H hS hW a b hj (mj hS hW h0 j (by omega)));have h':cd (n+8) (.fn 90) [.yld 0 5,.ptrT (some 0) (.G [shV dr lc zc lb zb W (bI g)]) 0] (Mw (shR dr lc zc lb zb W (bI g)) (A0 dr lc zc lb zb W g []) a b (Int.ofNat 0) (0,.loop (fb (shR dr lc zc lb zb W (bI g))))::H)=_:=h;rw[e0] at h';refine tW (cx:=bL (n+8) 74 43) (l:=fb (shR dr lc zc lb zb W (bI g))) (f:=.tmp 19) (ps:=#[20]) (fr:=El (shR dr lc zc lb zb W (bI g))) (H:=⟨false,FF (shR dr lc zc lb zb W (bI g)) (shR dr lc zc lb zb W (bI g)) a b .nils (Int.ofNat 0)⟩::H) (g:=90) (a:=[]) (b:=[.ptrT (some 0) (.G [shV dr lc zc lb zb W (bI g)]) 0]) rfl rfl rfl h' ?_ rfl rfl;cases eO lc g W lc with
 | nil=>rfl
 | cons x r=>rfl
theorem S8 {c:Nat} {fr:aF} {G:ab} {Y:eI} (hx:exec (bL c 74 43) (.rangeFunc (.tmp 19) #[20] vT Db) fr G=some Y.st):(Ib aJ (fun _=>true) fr G (.ok Y)).Ok (bL c 74 43) (aV Tryd.f74) :=
 B0 (aj _ _) (fun f ps a b _ hm x hx2=>by
  rw[X2] at hm;simp only[List.mem_cons,Prod.mk.injEq,List.not_mem_nil,or_false] at hm;obtain ⟨rfl,rfl,rfl,rfl⟩:=hm;rw[← Tr.af hx2];exact hx)
theorem VP (hS:fM lc W g) (hW:∀ c,c<lc→0≤W (2*c)∧W (2*c+1)<lc) (hl:1≤lc):cd (n+9) (.fn 74) [shV dr lc zc lb zb W (bI g)] H=some (if zq lc g W=true then aK lc (az (lj (eO lc g W lc))) false else .nils,H):=by
 obtain ⟨f,t,h65⟩:=KG (n+4) dr lc zc lb zb W g (⟨false,[(0,.row (.G [shV dr lc zc lb zb W (bI g)])),(0,.row (shR dr lc zc lb zb W (bI g)))]⟩::H) 1 rfl hS;have h70:∀ H,cd (n+8) (.fn 70) [shV dr lc zc lb zb W (bI g)] H=some (Ns 0 (shR dr lc zc lb zb W (bI g)),H):=fun H=>by
  refine br (n:=n+7) Tryd.func70 rfl rfl rfl (Vh (n+7) dr lc zc lb zb W (bI g) H) (av _) (ai _ _) (aj _ _) ?_;exact Tr.ag ⟨rfl,rfl⟩
 by_cases h0:zq lc g W=true
 · rw[if_pos h0];rw[h0] at h65;have hlen:=(mj hS hW h0 lc (Nat.le_refl _)).len;have hx:=YP n dr lc zc lb zb W g H hS hW h0 (.int .i64 f) (.int .i64 t);cases hL:eO lc g W lc with
   | nil=>rw[hL] at hlen;simp at hlen;omega
   | cons x r =>
     rw[hL] at hx hlen;have hr:r.length+1=lc:=by simpa using hlen
     have T:=Yx (n+8) dr lc zc lb zb W (nM W (x::r)) (bI g) H f t (mask (x::r):Int) r.length (r.length+1) (az (lj (x::r)));rw[fq] at T;refine br (n:=n+8) Tryd.func74 rfl rfl rfl T (bo _ _ (ew (bR (aW _) h70) (fun y hy=>by rw[← Tr.af hy];exact h65))) (ai _ _) (S8 (by simp only[eI.st,aT];exact hx)) ?_;clear T hx h65 h70;rw[← hr];refine Tr.ak ⟨rfl,rfl⟩ (Tr.ae (fun q=>by cases q) (fun _=>Tr.ak rfl (Tr.ak ⟨rfl,rfl⟩ ?_)));exact wF
 · rw[if_neg h0];have h0:zq lc g W=false:=by simpa using h0
   rw[h0] at h65;refine br (n:=n+8) Tryd.func74 rfl rfl rfl (TU (n+8) dr lc zc lb zb W (bI g) H f t) (bo _ _ (ew (bR (aW _) h70) (fun y hy=>by rw[← Tr.af hy];exact h65))) (ai _ _) (aj _ _) ?_;exact Tr.ak ⟨rfl,rfl⟩ (Tr.ae (fun _=>Tr.ag ⟨rfl,rfl⟩) (fun q=>by cases q))
end
end Go.Eng
end
section
namespace Go.Eng
open Go.Proofs Go.Eng.Gall
theorem F8 {f:FuncId} {fn:Func} {n:Nat} (h30:f=30∨f=38) (hf:Tryd.prog.funcs[f]?=some fn) (hb:fn.body.isSome=true) {args:List HV} (hle:Nat.ble args.length fn.ntmps=true) {H:ab} {callR:bt} {bl:eS} {rg:nY} {T:Tr (HV×ab)}
 (e:bj Tryd.prog (cd n) 100000 f fn (KtG.kt f) callR bl rg args H=T) (hC:callR.Ok (cd n)) (hB:bl.Ok (bL n f fn.ntmps) (aV fn)) (hR:rg.Ok (bL n f fn.ntmps) (aV fn)) {v:AV} {H':ab} (h:T.all fun y=>EF y.1.1=v∧y.2=H'):cd (n+1) (.fn f) (jU args) H=some (v,H'):=by
 obtain ⟨y,h1,h2,h3⟩:=h
 have:=xM (P:=Tryd.prog) (KT:=KtG.kt) (fu:=100000) (f:=f) (call:=cd n) (fn:=fn) hf hb hle hC hB hR (by rw[e];exact h1)
 refine o5 ?_
 have e2:ia (cd n) f (jU args) H=MJ (oL Tryd.prog KtG.kt 100000 f (cd n) (jU args) H):=by rcases h30 with rfl | rfl<;>rfl
 rw[e2,this]
 show some (EF y.1.1,y.2)=_
 rw[h2,h3]
section
variable (n:Nat) (dr:Int) (lc:Nat) (zc:Nat→Int) (lb:Nat) (zb:Nat→Int) (H:ab)
noncomputable def uF:List Nat:=eO lc (fun c=>cH zb c lb) (bK dr lc zc) lc
noncomputable def Pl:AV:=if xv dr lc zc lb zb=none then .tup [aK lc (az (lj (uF dr lc zc lb zb))) false,.int .i64 0] else .tup [.nils,.int .i64 13]
theorem IB {L:List Int} {m:Nat} (h:L.length=m):kT (fun _=>Int.ofNat 0) 0 (az L) m=az L:=by
 rw[rP];funext j;unfold wL;by_cases e:j<m
 · simp[e]
 · simp[e,qE,List.getD_eq_getElem?_getD,List.getElem?_eq_none (show L.length≤j by omega)]
theorem VC (hb:lb≤1000) (h0:dg dr lc zc lb zb=0):cd (n+15) (.fn 38) [bn dr lc zc lb zb] H=some (Pl dr lc zc lb zb,H):=by
 obtain ⟨h1,h2,h3,h4,h5,h6⟩:=kg h0;have hS:=B9 dr lc zc lb zb h1.2 h3 h4 h5 h6;have h49:=fun H=>D8 n dr lc zc lb zb H hb h0;have h74:∀ H,cd (n+14) (.fn 74) [shV dr lc zc lb zb (bK dr lc zc) (fR lb zb)] H=_:=fun H=>VP (n+5) dr lc zc lb zb (bK dr lc zc) (fun c=>cH zb c lb) H hS wA h1.1;have en:zq lc (fun c=>cH zb c lb) (bK dr lc zc)=(xv dr lc zc lb zb).isNone:=rfl;unfold Pl;rw[en] at h74;by_cases hp:xv dr lc zc lb zb=none
 · rw[if_pos hp];rw[hp] at h74;have h74:∀ H,cd (n+14) (.fn 74) [shV dr lc zc lb zb (bK dr lc zc) (fR lb zb)] H=some (aK lc (az (lj (uF dr lc zc lb zb))) false,H):=h74;have hlen:(lj (uF dr lc zc lb zb)).length=lc:=by
    unfold lj uF;rw[List.length_map,(mj hS wA (by rw[en,hp];rfl) lc (Nat.le_refl _)).len]
   have T:=Yh (n+14) dr lc zc lb zb (bK dr lc zc) (fR lb zb) H lc (az (lj (uF dr lc zc lb zb)));have e1:b5 (Int.ofNat lc)=lc:=by rw[j6];rfl
   have e2:xk lc lc=lc:=by rw[xl];omega
   rw[e1,e2,IB hlen,fq] at T;refine F8 (n:=n+14) (.inr rfl) Tryd.func38 rfl rfl T (bo _ _ (bR (bR (aW _) h49) h74)) (ai _ _) (aj _ _) ?_;clear T h49 h74;generalize az (lj (uF dr lc zc lb zb))=Y;refine Tr.ak rfl (Tr.ae (fun q=>by simp[aB,aQ] at q) (fun _=>Tr.ak rfl (Tr.aa wG (Tr.ae (fun q=>by cases q) (fun _=>?_)))));exact wF
 · rw[if_neg hp];have hp:¬ (xv dr lc zc lb zb).isNone=true:=by rwa [Option.isNone_iff_eq_none]
   rw[if_neg hp] at h74;refine F8 (n:=n+14) (.inr rfl) Tryd.func38 rfl rfl (TK (n+14) dr lc zc lb zb (bK dr lc zc) (fR lb zb) H) (bo _ _ (bR (bR (aW _) h49) h74)) (ai _ _) (aj _ _) ?_;exact Tr.ak rfl (Tr.ae (fun q=>by simp[aB,aQ] at q) (fun _=>Tr.ak rfl (Tr.ae (fun _=>Tr.ag ⟨rfl,rfl⟩) (fun q=>by cases q))))
end
end Go.Eng
end
section
namespace Go.Eng
open Go.Proofs Go.Eng.Gall
noncomputable def pW (f t:Int) (m:Nat) (z:Nat→Int):AV:=.agg (.G [.int .i64 f,.int .i64 t,aK m z false])
noncomputable def uV (R:Row) (m:Nat) (z:Nat→Int) (l j:Int):aF:=[(2,.ptr 0 0 0 0),(3,.ptr 0 1 0 0),(5,.ptrT none R 0),(7,.int .i64 l),(36,aK m z false),(37,.int .i64 (Int.ofNat m)),(38,.int .i64 j)]
noncomputable def pB (dr:Int) (lc:Nat) (zc:Nat→Int) (lb:Nat) (zb:Nat→Int) (f t:Int) (m:Nat) (z:Nat→Int):bF:=⟨false,[(0,.row (.G [.int .i64 dr,slA 4 lc zc,slA 2 lb zb])),(0,.row (.G [.int .i64 f,.int .i64 t,aK m z false])),(0,.row (.I .i64 [f,t]))]⟩
noncomputable def BL (dr:Int) (lc:Nat) (zc:Nat→Int) (lb:Nat) (zb:Nat→Int) (f t:Int) (m:Nat) (z r:Nat→Int):bF:=⟨false,[(0,.row (.G [.int .i64 dr,slA 4 lc zc,slA 2 lb zb])),(0,.row (.G [.int .i64 f,.int .i64 t,aK m z false])),(0,.row (.I .i64 [f,t])),(0,.row (.M [.arr .i64 r 20]))]⟩
noncomputable def yo (d:Nat):AV:=.fn (.func 68) [] [.ptr d 3 0 0,.ptr d 1 0 0]
noncomputable def sL (m:Nat) (z:Nat→Int) (j:Int):aF:=[(0,aK m z false),(1,yo 2),(7,.int .i64 (Int.ofNat m)),(8,.int .i64 j)]
noncomputable def uW (j:Int):aF:=[(2,.ptr 0 0 0 0),(3,.ptr 0 1 0 0),(5,.int .i64 j)]
noncomputable def jv (dr:Int) (lc:Nat) (zc:Nat→Int) (lb:Nat) (zb:Nat→Int) (f t:Int) (m:Nat) (z:Nat→Int):bF:=⟨false,[(0,.row (.G [.int .i64 dr,slA 4 lc zc,slA 2 lb zb])),(0,.row (.G [.int .i64 f,.int .i64 t,aK m z false]))]⟩
noncomputable def qY (lc:Nat) (r:Nat→Int) (j:Int):aF:=[(3,.ptr 0 1 0 0),(6,Qo lc r),(7,.int .i64 j)]
noncomputable def GH (dr:Int) (lc:Nat) (zc:Nat→Int) (lb:Nat) (zb:Nat→Int) (f t:Int) (m:Nat) (z:Nat→Int) (x y:Int):bF:=⟨false,[(0,.row (.G [.int .i64 dr,slA 4 lc zc,slA 2 lb zb])),(0,.row (.G [.int .i64 f,.int .i64 t,aK m z false])),(0,.row (.I .i64 [x,y]))]⟩
theorem Yd (n:Nat) (dr:Int) (lc:Nat) (zc:Nat→Int) (lb:Nat) (zb:Nat→Int) (W B:Nat→Int) (H:ab) (f t:Int) (m:Nat) (y:Nat→Int):bj Tryd.prog (cd n) 100000 25 Tryd.f25 (KtG.kt 25) (il (tX (tX aD 49 [bn dr lc zc lb zb,.nils] (.tup [shV dr lc zc lb zb W B,.int .i64 (Int.ofNat 0)])) 65 [shV dr lc zc lb zb W B] (.tup [.agg (.G [.int .i64 f,.int .i64 t,aK m y false]),.bool true])) n 0) aL aJ [(bn dr lc zc lb zb,none)] H =
 Tr.reqP ([bn dr lc zc lb zb,AV.nils]=[bn dr lc zc lb zb,AV.nils]) (Tr.ite (bx (cw (Int.ofNat 0) (Int.ofNat 0))) (Tr.ok ((AV.tup [AV.agg (Row.G [iI 0,iI 0,AV.nils]),iI 0],none),H)) (Tr.reqP ([shV dr lc zc lb zb W B]=[shV dr lc zc lb zb W B]) (Tr.ite (bx true) (Tr.ok ((AV.tup [AV.agg (Row.G [iI 0,iI 0,AV.nils]),iI 5],none),H)) (Tr.ok ((AV.tup [AV.agg (Row.G [AV.int .i64 f,AV.int .i64 t,aK m y false]),iI 0],none),H))))):=by kernel_rfl
theorem TG (n:Nat) (dr:Int) (lc:Nat) (zc:Nat→Int) (lb:Nat) (zb:Nat→Int) (W B:Nat→Int) (H:ab):bj Tryd.prog (cd n) 100000 25 Tryd.f25 (KtG.kt 25) (il (tX (tX aD 49 [bn dr lc zc lb zb,.nils] (.tup [shV dr lc zc lb zb W B,.int .i64 (Int.ofNat 0)])) 65 [shV dr lc zc lb zb W B] (.tup [.agg (.G [.int .i64 (Int.ofNat 0),.int .i64 (Int.ofNat 0),.nils]),.bool false])) n 0) aL aJ [(bn dr lc zc lb zb,none)] H =
 Tr.reqP ([bn dr lc zc lb zb,AV.nils]=[bn dr lc zc lb zb,AV.nils]) (Tr.ite (bx (cw (Int.ofNat 0) (Int.ofNat 0))) (Tr.ok ((AV.tup [AV.agg (Row.G [iI 0,iI 0,AV.nils]),iI 0],none),H)) (Tr.reqP ([shV dr lc zc lb zb W B]=[shV dr lc zc lb zb W B]) (Tr.ite (bx false) (Tr.ok ((AV.tup [AV.agg (Row.G [iI 0,iI 0,AV.nils]),iI 5],none),H)) (Tr.ok ((AV.tup [AV.agg (Row.G [iI 0,iI 0,AV.nils]),iI 0],none),H))))):=by kernel_rfl
theorem t27 (n:Nat) (dr:Int) (lc:Nat) (zc:Nat→Int) (lb:Nat) (zb:Nat→Int) (R:Row) (H:ab) (f t:Int) (m:Nat) (z:Nat→Int) (l j:Int):aH (bL n 27 73) (il aD n 0) aL aJ (part Tryd.f27 [1,1,1,1,0,1,0,0]) (hints (uV R m z l j)) (pB dr lc zc lb zb f t m z::H) =
 (fun (Z0:bF)=>Tr.ite (bD j (Int.ofNat m)) (Tr.req (cj j m) (Tr.req (bW (aq 0 j 1) m) (Tr.ite (c8 (z (aq 0 j 1)) l) (Tr.ok (Ex.ret,[(4,iI 3,some 1)],Z0::H)) (Tr.ite (c8 (Int.ofNat lc) (z (aq 0 j 1))) (Tr.ok (Ex.ret,[(4,iI 3,some 1)],Z0::H)) (Tr.ok (Ex.normal,[(2,AV.ptr 0 0 0 0,none),(3,AV.ptr 0 1 0 0,none),(5,AV.ptrT none R 0,none),(7,AV.int .i64 (z (aq 0 j 1)),none),(36,aK m z false,none),(37,iI m,none),(38,AV.int .i64 (bh .i64 j (Int.ofNat 1)),none)],Z0::H)))))) (Tr.ok (Ex.exit 1,[(2,AV.ptr 0 0 0 0,none),(3,AV.ptr 0 1 0 0,none),(5,AV.ptrT none R 0,none),(7,AV.int .i64 l,none),(36,aK m z false,none),(37,iI m,none),(38,AV.int .i64 j,none),(39,AV.bool false,some 1)],Z0::H))) (bA [(0,dh dr lc zc lb zb),(0,an.row (Row.G [AV.int .i64 f,AV.int .i64 t,aK m z false])),(0,an.row (Row.I .i64 [f,t]))]):=by kernel_rfl
theorem Ye (n:Nat) (dr:Int) (lc:Nat) (zc:Nat→Int) (lb:Nat) (zb:Nat→Int) (W B:Nat→Int) (H:ab) (f t:Int) (m:Nat) (z r:Nat→Int) (q q2:Bool) (l:Int):bj Tryd.prog (cd n) 100000 27 Tryd.f27 (KtG.kt 27) (il (vE (lL (tX (tX aD 49 [bn dr lc zc lb zb,.nils] (.tup [shV dr lc zc lb zb W B,.int .i64 (Int.ofNat 0)])) 56 [shV dr lc zc lb zb W B] (.agg (.M [.arr .i64 r 20]))) 59 gW) 67 [aK m z false,yo 0] (BL dr lc zc lb zb f t m z (kT (fun _=>Int.ofNat 0) 0 r 20)::H) (.ok (.bool q2,BL dr lc zc lb zb f t m z (kT (fun _=>Int.ofNat 0) 0 r 20)::H))) n 0) (cr aL 1 (uV (shR dr lc zc lb zb W B) m z (Int.negSucc 0) (Int.ofNat 0)) (pB dr lc zc lb zb f t m z::H) (.ite q (.ok (.ret,[(4,.int .i64 (Int.ofNat 3),none)],pB dr lc zc lb zb f t m z::H)) (.ok (.normal,hints (uV (shR dr lc zc lb zb W B) m z l (Int.ofNat m)++[(39,.bool false)]),pB dr lc zc lb zb f t m z::H)))) aJ [(bn dr lc zc lb zb,none),(pW f t m z,none)] H =
 (fun (Z0:bF)=>((fun (Z1:aF)=>((fun (Z2:bF)=>Tr.reqP ([bn dr lc zc lb zb,AV.nils]=[bn dr lc zc lb zb,AV.nils]) (Tr.ite (bx (cw (Int.ofNat 0) (Int.ofNat 0))) (Tr.ok ((iI 0,none),H)) (Tr.ite (bx (bO (bO (c8 (Int.negSucc 1999) f) (c8 f (Int.ofNat 2000))) (bO (bO (c8 (Int.negSucc 1999) t) (c8 t (Int.ofNat 2000))) true))) (Tr.ok ((iI 3,some 1),H)) (Tr.ite (cw (Int.ofNat m) (Int.ofNat 0)) (Tr.ok ((iI 3,some 1),H)) (Tr.reqP (Z1=Z1∧Z2::H=Z2::H) (Tr.ite q (Tr.ok ((iI 3,none),H)) (Tr.reqP ([shV dr lc zc lb zb W B]=[shV dr lc zc lb zb W B]) (Tr.req (eD 0 20 0 20) (Tr.reqP ([aK m z false,AV.fn (Fn.func 68) [] [AV.ptr 0 3 0 0,AV.ptr 0 1 0 0]]=[aK m z false,AV.fn (Fn.func 68) [] [AV.ptr 0 3 0 0,AV.ptr 0 1 0 0]]∧Z0::H=Z0::H) (Tr.ite q2 (Tr.ok ((iI 14,some 1),H)) (Tr.ite (c8 (Int.ofNat m) (bh .i64 (bN .i64 t f) (Int.ofNat 1))) (Tr.ok ((iI 14,some 1),H)) (Tr.ok ((iI 0,some 1),H))))))))))))) (bA [(0,dh dr lc zc lb zb),(0,an.row (Row.G [AV.int .i64 f,AV.int .i64 t,aK m z false])),(0,an.row (Row.I .i64 [f,t]))]))) [(2,AV.ptr 0 0 0 0),(3,AV.ptr 0 1 0 0),(5,shV dr lc zc lb zb W B),(7,AV.int .i64 (Int.negSucc 0)),(36,aK m z false),(37,iI m),(38,iI 0)])) (bA [(0,dh dr lc zc lb zb),(0,an.row (Row.G [AV.int .i64 f,AV.int .i64 t,aK m z false])),(0,an.row (Row.I .i64 [f,t])),(0,an.row (rM (kT (fun x=>Int.ofNat 0) 0 r 20) 20))]):=by kernel_rfl
theorem TH (n:Nat) (dr:Int) (lc:Nat) (zc:Nat→Int) (lb:Nat) (zb:Nat→Int) (W B:Nat→Int) (H:ab) (f t:Int) (m:Nat) (z:Nat→Int) (l:Int):bj Tryd.prog (cd n) 100000 27 Tryd.f27 (KtG.kt 27) (il (tN (lL (tN (tX aD 49 [bn dr lc zc lb zb,.nils] (.tup [shV dr lc zc lb zb W B,.int .i64 (Int.ofNat 0)])) 56) 59 gW) 67) n 0) (cr aL 1 (uV (shR dr lc zc lb zb W B) m z (Int.negSucc 0) (Int.ofNat 0)) (pB dr lc zc lb zb f t m z::H) (.ite true (.ok (.ret,[(4,.int .i64 (Int.ofNat 3),none)],pB dr lc zc lb zb f t m z::H)) (.ok (.normal,hints (uV (shR dr lc zc lb zb W B) m z l (Int.ofNat m)++[(39,.bool false)]),pB dr lc zc lb zb f t m z::H)))) aJ [(bn dr lc zc lb zb,none),(pW f t m z,none)] H =
 (fun (Z0:aF)=>((fun (Z1:bF)=>Tr.reqP ([bn dr lc zc lb zb,AV.nils]=[bn dr lc zc lb zb,AV.nils]) (Tr.ite (bx (cw (Int.ofNat 0) (Int.ofNat 0))) (Tr.ok ((iI 0,none),H)) (Tr.ite (bx (bO (bO (c8 (Int.negSucc 1999) f) (c8 f (Int.ofNat 2000))) (bO (bO (c8 (Int.negSucc 1999) t) (c8 t (Int.ofNat 2000))) true))) (Tr.ok ((iI 3,some 1),H)) (Tr.ite (cw (Int.ofNat m) (Int.ofNat 0)) (Tr.ok ((iI 3,some 1),H)) (Tr.reqP (Z0=Z0∧Z1::H=Z1::H) (Tr.ite true (Tr.ok ((iI 3,none),H)) Tr.bad)))))) (bA [(0,dh dr lc zc lb zb),(0,an.row (Row.G [AV.int .i64 f,AV.int .i64 t,aK m z false])),(0,an.row (Row.I .i64 [f,t]))]))) [(2,AV.ptr 0 0 0 0),(3,AV.ptr 0 1 0 0),(5,shV dr lc zc lb zb W B),(7,AV.int .i64 (Int.negSucc 0)),(36,aK m z false),(37,iI m),(38,iI 0)]:=by kernel_rfl
theorem Yr (n:Nat) (dr:Int) (lc:Nat) (zc:Nat→Int) (lb:Nat) (zb:Nat→Int) (H:ab) (f t:Int) (m:Nat) (z r:Nat→Int) (c:Int):bj Tryd.prog (cd n) 100000 68 Tryd.f68 (KtG.kt 68) (il aD n 0) aL aJ [(.int .i64 c,none),(.ptr 2 3 0 0,none),(.ptr 2 1 0 0,none)] (au::au::BL dr lc zc lb zb f t m z r::H) =
 (fun (Z0:bF)=>Tr.req (cj c 10) (Tr.req (cD 0 0) (Tr.req (bW (aq 0 c 2) 20) (Tr.ite (bD (r (aq 0 c 2)) f) (Tr.ok ((AV.bool true,some 1),au::au::Z0::H)) (Tr.req (cj c 10) (Tr.req (cD 0 0) (Tr.req (bW (ar (aq 0 c 2) 1) 20) (Tr.ok ((AV.bool (bD t (r (ar (aq 0 c 2) 1))),none),au::au::Z0::H))))))))) (bA [(0,dh dr lc zc lb zb),(0,an.row (Row.G [AV.int .i64 f,AV.int .i64 t,aK m z false])),(0,an.row (Row.I .i64 [f,t])),(0,an.row (rM r 20))]):=by kernel_rfl
theorem Ty (n:Nat) (m:Nat) (z:Nat→Int) (H:ab) (j:Int) (q:Bool):aH (bL n 89 19) (il (vE aD 68 [.int .i64 (z (aq 0 j 1)),.ptr 2 3 0 0,.ptr 2 1 0 0] (au::H) (.ok (.bool q,au::H))) n 0) aL aJ (part Tryd.f89 [1,0,1,0,0]) (hints (sL m z j)) (au::H) =
 Tr.ite (bD j (Int.ofNat m)) (Tr.req (cj j m) (Tr.req (bW (aq 0 j 1) m) (Tr.reqP ([AV.int .i64 (z (aq 0 j 1)),AV.ptr 2 3 0 0,AV.ptr 2 1 0 0]=[AV.int .i64 (z (aq 0 j 1)),AV.ptr 2 3 0 0,AV.ptr 2 1 0 0]∧au::H=au::H) (Tr.ite q (Tr.ok (Ex.ret,[(4,AV.int .i64 j,none)],au::H)) (Tr.ok (Ex.normal,[(0,aK m z false,none),(1,AV.fn (Fn.func 68) [] [AV.ptr 2 3 0 0,AV.ptr 2 1 0 0],none),(7,iI m,none),(8,AV.int .i64 (bh .i64 j (Int.ofNat 1)),none)],au::H)))))) (Tr.ok (Ex.exit 0,[(0,aK m z false,none),(1,AV.fn (Fn.func 68) [] [AV.ptr 2 3 0 0,AV.ptr 2 1 0 0],none),(7,iI m,none),(8,AV.int .i64 j,none),(9,AV.bool false,some 1)],au::H)):=by kernel_rfl
theorem P1 (n:Nat) (m:Nat) (z:Nat→Int) (H:ab) (j:Int):aH (bL n 89 19) (il aD n 0) aL aJ (part Tryd.f89 [1,0,1,0,0]) (hints (sL m z j)) (au::H) =
 Tr.ite (bD j (Int.ofNat m)) (Tr.req (cj j m) (Tr.req (bW (aq 0 j 1) m) Tr.bad)) (Tr.ok (Ex.exit 0,[(0,aK m z false,none),(1,AV.fn (Fn.func 68) [] [AV.ptr 2 3 0 0,AV.ptr 2 1 0 0],none),(7,iI m,none),(8,AV.int .i64 j,none),(9,AV.bool false,some 1)],au::H)):=by kernel_rfl
theorem TW (n:Nat) (m:Nat) (z:Nat→Int) (H:ab) (q:Bool) (k:Int):bj Tryd.prog (cd n) 100000 89 Tryd.f89 (KtG.kt 89) (il aD n 0) (cr aL 0 (sL m z (Int.ofNat 0)) (au::H) (.ite q (.ok (.ret,[(4,.int .i64 k,none)],au::H)) (.ok (.normal,hints (sL m z (Int.ofNat m)++[(9,.bool false)]),au::H)))) aJ [(aK m z false,none),(yo 1,none)] H =
 (fun (Z0:aF)=>Tr.reqP (Z0=Z0∧au::H=au::H) (Tr.ite q (Tr.ok ((AV.int .i64 k,none),H)) (Tr.ok ((AV.int .i64 (Int.negSucc 0),some 1),H)))) [(0,aK m z false),(1,AV.fn (Fn.func 68) [] [AV.ptr 2 3 0 0,AV.ptr 2 1 0 0]),(7,iI m),(8,iI 0)]:=by kernel_rfl
theorem TT (n:Nat) (m:Nat) (z:Nat→Int) (H:ab) (k:Int):bj Tryd.prog (cd n) 100000 67 Tryd.f67 (KtG.kt 67) (il (vE aD 89 [aK m z false,yo 1] (au::H) (.ok (.int .i64 k,au::H))) n 0) aL aJ [(aK m z false,none),(yo 0,none)] H =
 Tr.reqP ([aK m z false,AV.fn (Fn.func 68) [] [AV.ptr 1 3 0 0,AV.ptr 1 1 0 0]]=[aK m z false,AV.fn (Fn.func 68) [] [AV.ptr 1 3 0 0,AV.ptr 1 1 0 0]]∧au::H=au::H) (Tr.ok ((AV.bool (c8 (Int.ofNat 0) k),none),H)):=by kernel_rfl
theorem t28 (n:Nat) (dr:Int) (lc:Nat) (zc:Nat→Int) (lb:Nat) (zb:Nat→Int) (H:ab) (f t:Int) (m:Nat) (z:Nat→Int) (j:Int):aH (bL (n+1) 28 110) (il aD n 1) aL aJ (part Tryd.f28 [1,1,1,0,1,0,0]) (hints (uW j)) (jv dr lc zc lb zb f t m z::H) =
 (fun (Z0:bF)=>((fun (Z1:aS)=>Tr.ite (bD j (Int.ofNat m)) (Tr.req (cj j m) (Tr.req (bW (aq 0 j 1) m) (Tr.ite (c8 (Int.ofNat 0) (z (aq 0 j 1))) (Tr.ite (bx (bD (z (aq 0 j 1)) (Int.ofNat lc))) (Tr.ok (Ex.ret,[(4,iI 3,some 1)],Z0::H)) (Tr.ite (bD (Int.ofNat 0) j) (Tr.req (cj j m) (Tr.req (bW (aq 0 j 1) m) (Tr.req (cj (bN .i64 j (Int.ofNat 1)) m) (Tr.req (bW (aq 0 (bN .i64 j (Int.ofNat 1)) 1) m) (Tr.ite (c8 (z (aq 0 j 1)) (z (aq 0 (bN .i64 j (Int.ofNat 1)) 1))) (Tr.ok (Ex.ret,[(4,iI 3,some 1)],Z0::H)) (Tr.ok (Ex.normal,Z1,Z0::H))))))) (Tr.ok (Ex.normal,Z1,Z0::H)))) (Tr.ok (Ex.ret,[(4,iI 3,some 1)],Z0::H))))) (Tr.ok (Ex.exit 0,[(2,AV.ptr 0 0 0 0,none),(3,AV.ptr 0 1 0 0,none),(5,AV.int .i64 j,none),(42,AV.bool false,some 1)],Z0::H))) [(2,AV.ptr 0 0 0 0,none),(3,AV.ptr 0 1 0 0,none),(5,AV.int .i64 (bh .i64 j (Int.ofNat 1)),none)])) (bA [(0,dh dr lc zc lb zb),(0,an.row (Row.G [AV.int .i64 f,AV.int .i64 t,aK m z false]))]):=by kernel_rfl
theorem PE (n:Nat) (dr:Int) (lc:Nat) (zc:Nat→Int) (lb:Nat) (zb:Nat→Int) (H:ab) (f t:Int) (m:Nat) (z:Nat→Int) (r:Nat→Int) (j:Int):aH (bL n 28 110) (il aD n 0) aL aJ (part Tryd.f28 [1,1,1,1,1,0,1,0,0]) (hints (qY lc r j)) (jv dr lc zc lb zb f t m z::H) =
 (fun (Z0:bF)=>Tr.ite (bD j (Int.ofNat m)) (Tr.req (cj j m) (Tr.req (bW (aq 0 j 1) m) (Tr.req (cj (z (aq 0 j 1)) lc) (Tr.req (bW (aq 0 (z (aq 0 j 1)) 2) (bU lc 2)) (Tr.req (bW (ar (aq 0 (z (aq 0 j 1)) 2) 1) (bU lc 2)) (Tr.ite (bD (r (aq 0 (z (aq 0 j 1)) 2)) f) (Tr.ok (Ex.ret,[(4,iI 14,some 1)],Z0::H)) (Tr.ite (bD t (r (ar (aq 0 (z (aq 0 j 1)) 2) 1))) (Tr.ok (Ex.ret,[(4,iI 14,some 1)],Z0::H)) (Tr.ok (Ex.normal,[(3,AV.ptr 0 1 0 0,none),(6,slA 2 lc r,none),(7,AV.int .i64 (bh .i64 j (Int.ofNat 1)),none)],Z0::H))))))))) (Tr.ok (Ex.exit 2,[(3,AV.ptr 0 1 0 0,none),(6,slA 2 lc r,none),(7,AV.int .i64 j,none),(77,AV.bool false,some 1)],(bA [(0,dh dr lc zc lb zb),(0,an.row (Row.G [AV.int .i64 f,AV.int .i64 t,aK m z false]))])::H))) (bA [(0,dh dr lc zc lb zb),(0,an.row (Row.G [AV.int .i64 f,AV.int .i64 t,aK m z false])),(0,an.row (Row.I .i64 [r (aq 0 (z (aq 0 j 1)) 2),r (ar (aq 0 (z (aq 0 j 1)) 2) 1)]))]):=by kernel_rfl
theorem Yf (n:Nat) (dr:Int) (lc:Nat) (zc:Nat→Int) (lb:Nat) (zb:Nat→Int) (H:ab) (f t:Int) (m:Nat) (z:Nat→Int) (r:Nat→Int) (q q2:Bool) (x y:Int):bj Tryd.prog (cd n) 100000 28 Tryd.f28 (KtG.kt 28) (il (tX (tX aD 23 [bn dr lc zc lb zb] (.int .i64 (Int.ofNat 0))) 57 [bn dr lc zc lb zb] (Qo lc r)) n 0) (cr (cr aL 2 (qY lc r (Int.ofNat 0)) (jv dr lc zc lb zb f t m z::H) (.ite q2 (.ok (.ret,[(4,.int .i64 (Int.ofNat 14),none)],GH dr lc zc lb zb f t m z x y::H)) (.ok (.normal,hints (qY lc r (Int.ofNat m)++[(77,.bool false)]),jv dr lc zc lb zb f t m z::H)))) 0 (uW (Int.ofNat 0)) (jv dr lc zc lb zb f t m z::H) (.ite q (.ok (.ret,[(4,.int .i64 (Int.ofNat 3),none)],jv dr lc zc lb zb f t m z::H)) (.ok (.normal,hints (uW (Int.ofNat m)++[(42,.bool false)]),jv dr lc zc lb zb f t m z::H)))) aJ [(bn dr lc zc lb zb,none),(pW f t m z,none)] H =
 (fun (Z0:bF)=>Tr.reqP ([bn dr lc zc lb zb]=[bn dr lc zc lb zb]) (Tr.ite (bx (cw (Int.ofNat 0) (Int.ofNat 0))) (Tr.reqP ([bn dr lc zc lb zb]=[bn dr lc zc lb zb]) (Tr.ok ((iI 0,none),H))) (Tr.ite (bD f (Int.negSucc 1999)) (Tr.ok ((iI 3,some 1),H)) (Tr.ite (bD (Int.ofNat 2000) f) (Tr.ok ((iI 3,some 1),H)) (Tr.ite (bD t (Int.negSucc 1999)) (Tr.ok ((iI 3,some 1),H)) (Tr.ite (bD (Int.ofNat 2000) t) (Tr.ok ((iI 3,some 1),H)) (Tr.ite (cw (Int.ofNat m) (Int.ofNat 0)) (Tr.ok ((iI 3,some 1),H)) (Tr.reqP ([(2,AV.ptr 0 0 0 0),(3,AV.ptr 0 1 0 0),(5,iI 0)]=[(2,AV.ptr 0 0 0 0),(3,AV.ptr 0 1 0 0),(5,iI 0)]∧Z0::H=Z0::H) (Tr.ite q (Tr.ok ((iI 3,none),H)) (Tr.reqP ([bn dr lc zc lb zb]=[bn dr lc zc lb zb]) (Tr.reqP ([(3,AV.ptr 0 1 0 0),(6,slA 2 lc r),(7,iI 0)]=[(3,AV.ptr 0 1 0 0),(6,slA 2 lc r),(7,iI 0)]∧Z0::H=Z0::H) (Tr.ite q2 (Tr.ok ((iI 14,none),H)) (Tr.ite (c8 (Int.ofNat m) (bh .i64 (bN .i64 t f) (Int.ofNat 1))) (Tr.ok ((iI 14,some 1),H)) (Tr.ok ((iI 0,some 1),H))))))))))))))) (bA [(0,dh dr lc zc lb zb),(0,an.row (Row.G [AV.int .i64 f,AV.int .i64 t,aK m z false]))]):=by kernel_rfl
theorem TI (n:Nat) (dr:Int) (lc:Nat) (zc:Nat→Int) (lb:Nat) (zb:Nat→Int) (H:ab) (f t:Int) (m:Nat) (z:Nat→Int):bj Tryd.prog (cd n) 100000 28 Tryd.f28 (KtG.kt 28) (il (tN (tX aD 23 [bn dr lc zc lb zb] (.int .i64 (Int.ofNat 0))) 57) n 0) (eF (cr aL 0 (uW (Int.ofNat 0)) (jv dr lc zc lb zb f t m z::H) (.ite true (.ok (.ret,[(4,.int .i64 (Int.ofNat 3),none)],jv dr lc zc lb zb f t m z::H)) (.ok (.normal,hints (uW (Int.ofNat m)++[(42,.bool false)]),jv dr lc zc lb zb f t m z::H)))) 2) aJ [(bn dr lc zc lb zb,none),(pW f t m z,none)] H =
 (fun (Z0:bF)=>Tr.reqP ([bn dr lc zc lb zb]=[bn dr lc zc lb zb]) (Tr.ite (bx (cw (Int.ofNat 0) (Int.ofNat 0))) (Tr.reqP ([bn dr lc zc lb zb]=[bn dr lc zc lb zb]) (Tr.ok ((iI 0,none),H))) (Tr.ite (bD f (Int.negSucc 1999)) (Tr.ok ((iI 3,some 1),H)) (Tr.ite (bD (Int.ofNat 2000) f) (Tr.ok ((iI 3,some 1),H)) (Tr.ite (bD t (Int.negSucc 1999)) (Tr.ok ((iI 3,some 1),H)) (Tr.ite (bD (Int.ofNat 2000) t) (Tr.ok ((iI 3,some 1),H)) (Tr.ite (cw (Int.ofNat m) (Int.ofNat 0)) (Tr.ok ((iI 3,some 1),H)) (Tr.reqP ([(2,AV.ptr 0 0 0 0),(3,AV.ptr 0 1 0 0),(5,iI 0)]=[(2,AV.ptr 0 0 0 0),(3,AV.ptr 0 1 0 0),(5,iI 0)]∧Z0::H=Z0::H) (Tr.ite true (Tr.ok ((iI 3,none),H)) Tr.bad))))))))) (bA [(0,dh dr lc zc lb zb),(0,an.row (Row.G [AV.int .i64 f,AV.int .i64 t,aK m z false]))]):=by kernel_rfl
end Go.Eng
end
