/- Gall: the first right order: the contracts. -/
import Derived.Test.YtgphpjdchnfjlaaDoorV4Gp10x11
import Derived.Test.YtgphpjdchnfjlaaDoorV4Gp6x12
set_option linter.unusedVariables false
set_option linter.unusedSimpArgs false
set_option maxRecDepth 100000
section
namespace Go.Eng
open Go.Proofs Go.Eng.Gall
theorem Uc:∀ b,(0,b) ∈ aL (aV Tryd.f92)→b=.loop (part Tryd.f92 [1,0,1,0,0]):=ey (by kernel_rfl)
theorem PN:∀ b,(0,b) ∈ aL (aV Tryd.f90)→b=.loop (part Tryd.f90 [1,0,0]):=ey (by kernel_rfl)
section
variable (n:Nat) (dr:Int) (lc:Nat) (zc:Nat→Int) (lb:Nat) (zb:Nat→Int)
theorem UD (H:aa) (p:Nat→Bool) (hl:lc≤1000) (h93:∀ j,j<lc→cd n (.fn 93) [.int .i64 (j:Int),.ptr 3 4 0 0,.ptr 3 0 0 0,.ptr 1 0 0 0,.ptr 3 1 0 0] (ar::H)=some (.bool (p j),ar::H)) :
 cd (n+1) (.fn 92) [slA 4 lc zc,DE 0] H=some (.int .i64 ((if dx p lc=true then fN p lc 0 else 0:Nat):Int),H):=by
 have lp:=iu (n:=n) (f:=92) (nt:=16) (c:=part Tryd.f92 [1,0,1,0,0]) 0 (fun j=>AO lc (j:Int)) (fun _=>ar::H) lc p (fun j=>([(4,.int .i64 (j:Int))],ar::H)) (AO lc (Int.ofNat lc)++[(9,.bool false)],ar::H) (by omega) (fun j hj=>?_) ?_
 · refine bB (n:=n) Tryd.func92 rfl rfl rfl (Xd n lc zc H (dx p lc) (fN p lc 0:Nat)) (aw n) (a8 (ai _ _) Uc (fun x hx=>dq hx lp)) (aj _ _) ?_
   refine Tr.al ⟨rfl,rfl⟩ (Tr.af (fun q=>Tr.ah ⟨?_,rfl⟩) (fun q=>Tr.ah ⟨?_,rfl⟩))
   · rw[if_pos q]
   · rw[if_neg (by rw[q];decide)];rfl
 · have T:=t92 n lc H (j:Int) (p j)
   rw[eN (by omega)] at T
   refine aB T (bM _ _ (dN (bj _) (fun x hy=>by rw[← Tr.ab hy];exact h93 j hj))) (ai _ _) (aj _ _) ?_
   refine Tr.af (fun _=>Tr.al ⟨rfl,rfl⟩ (Tr.af (fun q=>Tr.ah ?_) (fun q=>Tr.ah ?_))) wJ
   · rw[if_pos q];rfl
   · rw[if_neg (by rw[q];decide)];exact ⟨rfl,rfl⟩
 · obtain ⟨x,h1,rfl⟩:=aB (Q:=fun x=>x=(.exit 0,AO lc (Int.ofNat lc)++[(9,.bool false)],ar::H)) (Sp n lc H (Int.ofNat lc)) (aw n) (ai _ _) (aj _ _) (by
    refine Tr.af wJ (fun h0=>Tr.ah rfl))
   exact h1
theorem J5 (W:Nat→Int) (g:Nat→Nat) (HH:aa) (i:Nat) (hr:cO HH 0 i 0=some (shR dr lc zc lb zb W (bI g))) (hS:gE lc W g):∃ f t,cd (n+4) (.fn 65) [.ptr 0 i 0 0] HH=some (.tup [.agg (.G [.int .i64 f,.int .i64 t,.undef]),.bool (!DZ lc g W)],HH):=by
 have h:=Ut n dr lc zc lb zb W [⟨true,[]⟩] g hS;have e:=Mh (.inr rfl) hr rfl h;unfold DZ;cases hc:lj (qB (jm lc g W)) lc lc with
 | none =>
   rw[hc] at e;exact ⟨Int.ofNat 0,Int.ofNat 0,oI e⟩
 | some v =>
   obtain ⟨f,t⟩:=v;rw[hc] at e;exact ⟨f,t,oI e⟩
variable (W:Nat→Int) (g:Nat→Nat) (H:aa)
theorem OP (k:Nat) (c:Nat):GZ W (c:Int) (k:Int)=(dJ (W (2*c)) (k:Int) && dJ (k:Int) (W (2*c+1))):=by
 unfold GZ;rw[bn,bn];rfl
theorem UE (hS:gE lc W g) (L:List Nat) (hd:L.Nodup) (hL:∀ x ∈ L,x<lc) (hk:L.length<lc) (b2 b3:Nat×an) (rest:List (Nat×an)) (c:Nat) (hc:c<lc) :
 cd (n+5) (.fn 93) [.int .i64 (c:Int),.ptr 3 4 0 0,.ptr 3 0 0 0,.ptr 1 0 0 0,.ptr 3 1 0 0] (ar::xx (L.length:Int)::ar::Hj (shR dr lc zc lb zb W (bI g)) (shR dr lc zc lb zb (np W L) (bI g)) b2 b3 (mask L:Int) rest::H)=some (.bool (rp lc g W L c),ar::xx (L.length:Int)::ar::Hj (shR dr lc zc lb zb W (bI g)) (shR dr lc zc lb zb (np W L) (bI g)) b2 b3 (mask L:Int) rest::H):=by
 have hlc:=hS.len
 have hm:mask L<2 ^ lc:=mS hd hL
 have hm62:mask L<2 ^ 62:=Nat.lt_of_lt_of_le hm (Nat.pow_le_pow_right (by omega) (by omega))
 have h71:∀ H,cd (n+4) (.fn 71) [shV dr lc zc lb zb W (bI g),.int .i64 (c:Int),.int .i64 (L.length:Int)] H=some (.bool (GZ W (c:Int) (L.length:Int)),H):=fun H=>TI (n+3) dr lc zc lb zb H W (bI g) (c:Int) L.length (by omega)
 have e1:cY (av 23 (c:Int) 1) 23=c:=by rw[bE,cQ];omega
 have e2:cY (av 3 (c:Int) 2) 3=2*c:=by rw[bE,cQ];omega
 have e3:cY (aq (av 3 (c:Int) 2) 1) 3=2*c+1:=by rw[bE,aK,cQ];omega
 have E:rp lc g W L c=(!(mask L).testBit c && (bw (Ah .u64 (bI g c) (mask L:Int)) (Int.ofNat 0) && GZ W (c:Int) (L.length:Int)) && DZ lc g (np W (L++[c]))):=by
  unfold rp Q.okW;rw[OP]
 have B1:bw (m5 .u64 (mask L:Int) (ef .u64 (Int.ofNat 1) (c:Int))) (Int.ofNat 0)=!(mask L).testBit c:=Q.Aq hm62 (by omega)
 by_cases hb:(mask L).testBit c=true
 · have T:=SM (n+4) dr lc zc lb zb W (np W L) (bI g) H b2 b3 (mask L:Int) (L.length:Int) (c:Int) rest (GZ W (c:Int) (L.length:Int))
   rw[B1,hb] at T
   rw[E,hb]
   refine bB (n:=n+4) Tryd.func93 rfl rfl rfl T (bM _ _ (G2 (dk (bj _) h71))) (ai _ _) (aj _ _) ?_
   refine Tr.ae wG (Tr.af (fun _=>Tr.ah ⟨rfl,rfl⟩) (fun q=>by simp[aM] at q))
 · have hb:(mask L).testBit c=false:=by simpa using hb
   have hnm:c ∉ L:=fun h=>by rw[cC hd,decide_eq_true h] at hb;cases hb
   have hd2:(L++[c]).Nodup:=by
    rw[List.nodup_append];exact ⟨hd,by simp,fun x hx y hy he=>by rw[List.mem_singleton] at hy;rw[hy] at he;rw[he] at hx;exact hnm hx⟩
   have hL2:∀ x ∈ L++[c],x<lc:=by
    intro x hx;rcases List.mem_append.1 hx with hx | hx
    · exact hL x hx
    · rw[List.mem_singleton] at hx;omega
   have hS2:gE lc (np W (L++[c])) g:=JL hS (by rw[List.length_append];simp;omega) hL2
   obtain ⟨f,t,h65⟩:=J5 n dr lc zc lb zb (np W (L++[c])) g (⟨false,[(0,.row (shR dr lc zc lb zb (np W (L++[c])) (bI g)))]⟩::ar::xx (L.length:Int)::ar::Hj (shR dr lc zc lb zb W (bI g)) (shR dr lc zc lb zb (np W L) (bI g)) b2 b3 (mask L:Int) rest::H) 0 rfl hS2
   have T:=Xe (n+4) dr lc zc lb zb W (np W L) (bI g) H b2 b3 (mask L:Int) (L.length:Int) (c:Int) rest (GZ W (c:Int) (L.length:Int)) (!DZ lc g (np W (L++[c]))) f t
   rw[B1,hb,e1,e2,e3,← FD hnm] at T
   rw[E,hb]
   refine bB (n:=n+4) Tryd.func93 rfl rfl rfl T (bM _ _ (dN (dk (bj _) h71) (fun x hy=>by rw[← Tr.ab hy];exact h65))) (ai _ _) (aj _ _) ?_
   clear T h65 h71
   have ei:av 23 (c:Int) 1=23+c:=by rw[bE];omega
   have ej:av 3 (c:Int) 2=3+c*2:=by rw[bE];omega
   rw[ei,ej]
   refine Tr.ae wG (Tr.af (fun q=>by simp[aM] at q) (fun _=>Tr.ae wG (Tr.ae wG (Tr.af (fun q=>Tr.ah ⟨?_,rfl⟩) (fun q=>?_)))))
   all_goals rw[aM] at q
   · have q:(!bw (Ah .u64 (bI g c) (mask L:Int)) (Int.ofNat 0))=true:=q
     rw[Bool.not_eq_true'] at q
     rw[q];rfl
   have q:(!bw (Ah .u64 (bI g c) (mask L:Int)) (Int.ofNat 0))=false:=q
   rw[Bool.not_eq_false'] at q
   rw[q]
   refine Tr.al rfl (Tr.af (fun q2=>Tr.ah ⟨?_,rfl⟩) (fun q2=>?_))
   all_goals rw[aM] at q2
   · rw[Bool.not_eq_true'] at q2
     rw[q2];rfl
   rw[Bool.not_eq_false'] at q2
   rw[q2]
   refine Tr.ae wG (Tr.ae wG (Tr.ae wG (Tr.ae wG (Tr.al ⟨rfl,rfl⟩ (Tr.ah ⟨?_,rfl⟩)))))
   rw[aM,Bool.not_not];rfl
theorem P1 (W B:Nat→Int) (St:Nat→aa) (hk:lc≤1000) (hr:∀ j,j<lc→cd n (.round 1 5) [.int .i64 (j:Int)] (ar::St j)=some (.bool true,ar::St (j+1))) :
 cd (n+1) (.fn 90) [.yld 0 5,.ptrT (some 0) (.G [shV dr lc zc lb zb W B]) 0] (St 0)=some (.tup [],St lc):=by
 have hx:=jM (n:=n) (f:=90) (nt:=18) (c:=part Tryd.f90 [1,0,0]) 0 (fun j=>lH lc (j:Int)) (fun j=>ar::St j) lc (lH lc (Int.ofNat lc)++[(11,.bool false)],ar::St lc) (by omega) (fun j hj=>?_) ?_
 · refine bB (n:=n) Tryd.func90 rfl rfl rfl (SL n dr lc zc lb zb W B (St 0) (St lc)) (aw _) (a8 (ai _ _) PN (fun x h=>by rw[← Tr.ab h];simp only[eC.st,aP];exact hx)) (aj _ _) ?_
   exact Tr.al ⟨rfl,rfl⟩ (Tr.ah ⟨rfl,rfl⟩)
 · refine aB (Sl n lc (j:Int) (St j) (St (j+1))) (Bj (aw n) (fun x hy=>by rw[← Tr.ab hy];exact hr j hj)) (ai _ _) (aj _ _) ?_
   rw[eN (by omega)]
   generalize St (j+1)=G' at *
   generalize St j=G at *
   exact wF
 · obtain ⟨x,h1,rfl⟩:=aB (Q:=fun x=>x=(.exit 0,lH lc (Int.ofNat lc)++[(11,.bool false)],ar::St lc)) (Sm n lc (Int.ofNat lc) (St lc)) (aw n) (ai _ _) (aj _ _) (by
    refine Tr.af (fun hc=>?_) (fun hc=>Tr.ah rfl);simp (disch:=omega) only[nV,nW] at hc;omega)
   exact h1
end
end Go.Eng
end
section
namespace Go.Eng
open Go.Proofs Go.Eng.Gall
theorem vG {n d i:Nat} {args:List AV} {H H2 R:aa} {l l2:im} {fr fr1 fr2:aD} {lv lv1:bF}
 (hg:ay H d i=(0,.loop l)) (hl:aG H d=false) (hs:l.state=.ready) (hp:jB l.nt (kC (d+1) l.fr) l.params (args.map (mE 1))=some fr)
 (h1:exec (iJ n l.fn l.nt (d+1) i) l.assign fr (ar::H)=some (.normal,fr1,lv1::H))
 (h2:exec (iJ n l.fn l.nt (d+1) i) l.body fr1 (dv (lv1::H) (d+1) i (0,.loop { l with state:=.busy }))=some (.normal,fr2,lv::H2)) (hg2:ay H2 d i=(0,.loop l2)) (hR:R=dv H2 d i (0,.loop { l2 with state:=.ready,pending:=none })) :
 cd (n+1) (.round d i) args H=some (.bool true,R):=by
 rw[hR]
 exact yU (P:=Tryd.prog) (ora:=gO) (KT:=KtG.kt) (fu:=100000) (e:=.normal) hg hl hs hp h1 (by rw[show ay (lv1::H) (d+1) i=ay H d i from rfl];exact hg) hs h2 hg2
noncomputable def vm:Code:=part Tryd.f74 [1,1,1,1,1,0,1,0,0]
noncomputable def Cs:Code:=part Tryd.f74 [1,1,1,1,1,0,1,0,1]
theorem WD:dG (aV Tryd.f74)=[(.tmp 19,#[20],vm,Cs)]:=by kernel_rfl
noncomputable def eT (R:Row):im:={ state:=.ready,pending:=none,fn:=74,nt:=43,fr:=DI R,params:=[20],assign:=vm,body:=Cs }
def qK (L:List Nat):List Int:=L.map fun x:Nat=>(x:Int)
noncomputable def PB (R:Row) (X:List Nat→Row) (a b:AV) (K:Nat×an):List Nat→bF
 | []=>LX R (X []) a b (Int.ofNat 0) K
 | c::r=>Hi R (X (c::r)) a b (mask (c::r):Int) K r.length (r.length+1) (az (qK (c::r)))
section
variable (n:Nat) (dr:Int) (lc:Nat) (zc:Nat→Int) (lb:Nat) (zb:Nat→Int) (W:Nat→Int) (g:Nat→Nat) (H:aa)
noncomputable def Ak (L:List Nat):Row:=shR dr lc zc lb zb (np W L) (bI g)
theorem IM {L:List Nat} (hd:L.Nodup) (hm:mask L<2 ^ 62) {c:Nat} (hc:c<62) (hno:c ∉ L):rH .u64 (mask L:Int) (ef .u64 (Int.ofNat 1) (c:Int))=(mask (L++[c]):Int):=by
 rw[mi];exact Q.Ar hm hc (by rw[cC hd];exact decide_eq_false hno)
theorem R6 (hS:gE lc W g) (hW:∀ c,c<lc→0≤W (2*c)∧W (2*c+1)<lc) (a b:AV) {k:Nat} (hk:k<lc) (hB:Nb lc g W k (iU lc g W k)) :
 cd (n+7) (.round 1 5) [.int .i64 (k:Int)] (ar::PB (shR dr lc zc lb zb W (bI g)) (Ak dr lc zc lb zb W g) a b (0,.loop (eT (shR dr lc zc lb zb W (bI g)))) (iU lc g W k)::H)=some (.bool true,ar::PB (shR dr lc zc lb zb W (bI g)) (Ak dr lc zc lb zb W g) a b (0,.loop (eT (shR dr lc zc lb zb W (bI g)))) (iU lc g W (k+1))::H):=by
 obtain ⟨hx,hf,hgo,hB1⟩:=Ce hS hW hB hk
 have e:iU lc g W (k+1)=iU lc g W k++[fN (rp lc g W (iU lc g W k)) lc 0]:=by
  show iU lc g W k++[if dx (rp lc g W (iU lc g W k)) lc=true then fN (rp lc g W (iU lc g W k)) lc 0 else 0]=_;rw[if_pos hx]
 have hlc:=hS.len
 have h92:∀ (b2 b3:Nat×an) (rest:List (Nat×an)),cd (n+6) (.fn 92) [slA 4 lc zc,DE 0] (xx (k:Int)::ar::Hj (shR dr lc zc lb zb W (bI g)) (Ak dr lc zc lb zb W g (iU lc g W k)) b2 b3 (mask (iU lc g W k):Int) rest::H)=some (.int .i64 (fN (rp lc g W (iU lc g W k)) lc 0:Nat),xx (k:Int)::ar::Hj (shR dr lc zc lb zb W (bI g)) (Ak dr lc zc lb zb W g (iU lc g W k)) b2 b3 (mask (iU lc g W k):Int) rest::H):=fun b2 b3 rest=>by
  have:=UD (n+5) lc zc (xx (k:Int)::ar::Hj (shR dr lc zc lb zb W (bI g)) (Ak dr lc zc lb zb W g (iU lc g W k)) b2 b3 (mask (iU lc g W k):Int) rest::H) (rp lc g W (iU lc g W k)) (by omega) (fun j hj=>by
   have:=UE n dr lc zc lb zb W g H hS (iU lc g W k) hB.nd hB.lt (by rw[hB.len];exact hk) b2 b3 rest j hj;rw[hB.len] at this;exact this)
  rw[if_pos hx] at this;exact this
 rw[e] at hB1 ⊢
 generalize fN (rp lc g W (iU lc g W k)) lc 0=c at *
 have hlen:=hB.len
 generalize iU lc g W k=L at *
 have hnm:c ∉ L:=fun h=>by
  have:=hB1.nd;rw[List.nodup_append] at this;exact this.2.2 c h c (by simp) rfl
 have hm62:mask L<2 ^ 62:=Nat.lt_of_lt_of_le (mS hB.nd hB.lt) (Nat.pow_le_pow_right (by omega) (by omega))
 have eo:=IM hB.nd hm62 (show c<62 by omega) hnm
 have ex:=FD (W:=W) hnm
 have e2:cY (av 3 (c:Int) 2) 3=2*c:=by rw[bE,cQ];omega
 have e3:cY (aq (av 3 (c:Int) 2) 1) 3=2*c+1:=by rw[bE,aK,cQ];omega
 have ej:av 3 (c:Int) 2=3+c*2:=by rw[bE];omega
 have e1:=mQ (qK L) (c:Int)
 cases L with
 | nil =>
   obtain rfl:k=0:=hlen.symm
   have ex':eg (eg (np W []) (2*c) (Int.ofNat 0)) (2*c+1) (Int.ofNat 0)=np W [c]:=ex.symm
   have eo':rH .u64 (Int.ofNat 0) (ef .u64 (Int.ofNat 1) (c:Int))=(mask [c]:Int):=eo
   have h1:exec (iJ (n+6) 74 43 2 5) vm [(1,.ptr 2 0 0 0),(3,.ptr 2 1 0 0),(6,.ptr 2 3 0 0),(7,.ptr 2 4 0 0),(19,MP 2 (shR dr lc zc lb zb W (bI g))),(20,.int .i64 (Int.ofNat 0))] (ar::ar::LX (shR dr lc zc lb zb W (bI g)) (Ak dr lc zc lb zb W g []) a b (Int.ofNat 0) (0,.loop (eT (shR dr lc zc lb zb W (bI g))))::H)=some (.normal,[(1,.ptr 2 0 0 0),(3,.ptr 2 1 0 0),(6,.ptr 2 3 0 0),(7,.ptr 2 4 0 0),(8,.ptr 0 0 0 0)],xx (Int.ofNat 0)::ar::LX (shR dr lc zc lb zb W (bI g)) (Ak dr lc zc lb zb W g []) a b (Int.ofNat 0) (0,.loop (eT (shR dr lc zc lb zb W (bI g))))::H) :=
    iS (O9 (n+6) _ _ H (Int.ofNat 0)) (aw _) (ai _ _) (aj _ _) (Tr.ah rfl)
   have T:=Si (n+6) dr lc zc lb zb W (np W []) (bI g) H a b (Int.ofNat 0) (Int.ofNat 0) (c:Int) (0,.loop { eT (shR dr lc zc lb zb W (bI g)) with state:=.busy })
   rw[e2,e3,ex',eo',ej] at T
   obtain ⟨y,h2,h3⟩:=nE (Q:=fun y=>y=(.normal,[],⟨false,[(0,.row (.I .i64 [Int.ofNat 0])),(0,.row (.I .i64 [(c:Int)])),(0,.dead)]⟩::ar::Hi (shR dr lc zc lb zb W (bI g)) (Ak dr lc zc lb zb W g [c]) a b (mask [c]:Int) (0,.loop { eT (shR dr lc zc lb zb W (bI g)) with state:=.busy }) 0 1 (az [(c:Int)])::H)) T (bM _ _ (dN (bj _) (fun x hy=>by rw[← Tr.ab hy];exact h92 (0,.row (.G [a,b,.undef])) (0,.row (.G [.nils])) [(0,.loop { eT (shR dr lc zc lb zb W (bI g)) with state:=.busy })]))) (ai _ _) (aj _ _) (by
    clear T h92 h1;generalize eT (shR dr lc zc lb zb W (bI g))=L at *;exact wF)
   subst h3
   exact vG (l:=eT (shR dr lc zc lb zb W (bI g))) (l2:={ eT (shR dr lc zc lb zb W (bI g)) with state:=.busy }) rfl rfl rfl rfl h1 h2 rfl rfl
 | cons x r =>
   have hk':(x::r).length=k:=hlen
   have hrl:r.length+1=k:=hlen
   rw[hk'] at ex
   have ex':=ex.symm
   have e1':oD (dZ (az (qK (x::r))) 0) (r.length+1) (az [(c:Int)])=az (qK (x::r++[c])):=by
    have:(qK (x::r)).length=r.length+1:=by simp[qK]
    rw[this] at e1;rw[e1];simp[qK]
   have h1:exec (iJ (n+6) 74 43 2 5) vm [(1,.ptr 2 0 0 0),(3,.ptr 2 1 0 0),(6,.ptr 2 3 0 0),(7,.ptr 2 4 0 0),(19,MP 2 (shR dr lc zc lb zb W (bI g))),(20,.int .i64 (k:Int))] (ar::ar::Hi (shR dr lc zc lb zb W (bI g)) (Ak dr lc zc lb zb W g (x::r)) a b (mask (x::r):Int) (0,.loop (eT (shR dr lc zc lb zb W (bI g)))) r.length (r.length+1) (az (qK (x::r)))::H)=some (.normal,[(1,.ptr 2 0 0 0),(3,.ptr 2 1 0 0),(6,.ptr 2 3 0 0),(7,.ptr 2 4 0 0),(8,.ptr 0 0 0 0)],xx (k:Int)::ar::Hi (shR dr lc zc lb zb W (bI g)) (Ak dr lc zc lb zb W g (x::r)) a b (mask (x::r):Int) (0,.loop (eT (shR dr lc zc lb zb W (bI g)))) r.length (r.length+1) (az (qK (x::r)))::H) :=
    iS (O9 (n+6) _ _ H (k:Int)) (aw _) (ai _ _) (aj _ _) (Tr.ah rfl)
   have T:=Sj (n+6) dr lc zc lb zb W (np W (x::r)) (bI g) H a b (mask (x::r):Int) (k:Int) (c:Int) (0,.loop { eT (shR dr lc zc lb zb W (bI g)) with state:=.busy }) r.length (r.length+1) (az (qK (x::r)))
   have e5:aq (r.length+1) 1=r.length+1+1:=by rw[aK]
   rw[e2,e3,ex',eo,e1',e5,ej] at T
   obtain ⟨y,h2,h3⟩:=nE (Q:=fun y=>y=(.normal,[],⟨false,[(0,.row (.I .i64 [(k:Int)])),(0,.row (.I .i64 [(c:Int)]))]⟩::ar::Hi (shR dr lc zc lb zb W (bI g)) (Ak dr lc zc lb zb W g (x::r++[c])) a b (mask (x::r++[c]):Int) (0,.loop { eT (shR dr lc zc lb zb W (bI g)) with state:=.busy }) (r.length+1) (r.length+1+1) (az (qK (x::r++[c])))::H)) T (bM _ _ (dN (bj _) (fun y hy=>by rw[← Tr.ab hy];exact h92 (0,.row (.G [a,b,.undef])) (0,.row (.G [.slc 0 6 r.length 0 1 (r.length+1) none])) [(0,.loop { eT (shR dr lc zc lb zb W (bI g)) with state:=.busy }),(r.length,.row (.M [.arr .i64 (az (qK (x::r))) (r.length+1)]))]))) (ai _ _) (aj _ _) (by
    clear T h92 h1;have hkl:r.length≤20:=by omega
    generalize eT (shR dr lc zc lb zb W (bI g))=L at *;generalize az (qK (x::r++[c]))=Y at *;exact wF)
   subst h3
   have e4:(r++[c]).length=r.length+1:=by simp
   refine vG (l:=eT (shR dr lc zc lb zb W (bI g))) (l2:={ eT (shR dr lc zc lb zb W (bI g)) with state:=.busy }) rfl rfl rfl rfl h1 h2 rfl ?_
   show ar::Hi _ _ _ _ _ _ (r++[c]).length ((r++[c]).length+1) (az (qK (x::(r++[c]))))::H=_
   rw[e4];rfl
theorem Xj (hS:gE lc W g) (hW:∀ c,c<lc→0≤W (2*c)∧W (2*c+1)<lc) (h0:DZ lc g W=true) (a b:AV):exec (bP (n+8) 74 43) (.rangeFunc (.tmp 19) #[20] vm Cs) (DI (shR dr lc zc lb zb W (bI g))) (⟨false,ES (shR dr lc zc lb zb W (bI g)) (shR dr lc zc lb zb W (bI g)) a b .nils (Int.ofNat 0)⟩::H)=some (.normal,DI (shR dr lc zc lb zb W (bI g)),dK (PB (shR dr lc zc lb zb W (bI g)) (Ak dr lc zc lb zb W g) a b (0,.loop (eT (shR dr lc zc lb zb W (bI g)))) (iU lc g W lc)::H) 0 5):=by
 have e0:Ak dr lc zc lb zb W g []=shR dr lc zc lb zb W (bI g):=by unfold Ak;rw[FE]
 have h:=P1 (n+7) dr lc zc lb zb W (bI g) (fun k=>PB (shR dr lc zc lb zb W (bI g)) (Ak dr lc zc lb zb W g) a b (0,.loop (eT (shR dr lc zc lb zb W (bI g)))) (iU lc g W k)::H) (by have:=hS.len;omega) (fun j hj=>R6 n dr lc zc lb zb W g H hS hW a b hj (wm hS hW h0 j (by omega)));have h':cd (n+8) (.fn 90) [.yld 0 5,.ptrT (some 0) (.G [shV dr lc zc lb zb W (bI g)]) 0] (LX (shR dr lc zc lb zb W (bI g)) (Ak dr lc zc lb zb W g []) a b (Int.ofNat 0) (0,.loop (eT (shR dr lc zc lb zb W (bI g))))::H)=_:=h;rw[e0] at h';refine tw (cx:=bP (n+8) 74 43) (l:=eT (shR dr lc zc lb zb W (bI g))) (f:=.tmp 19) (ps:=#[20]) (fr:=DI (shR dr lc zc lb zb W (bI g))) (H:=⟨false,ES (shR dr lc zc lb zb W (bI g)) (shR dr lc zc lb zb W (bI g)) a b .nils (Int.ofNat 0)⟩::H) (g:=90) (a:=[]) (b:=[.ptrT (some 0) (.G [shV dr lc zc lb zb W (bI g)]) 0]) rfl rfl rfl h' ?_ rfl rfl;cases iU lc g W lc with
 | nil=>rfl
 | cons x r=>rfl
theorem R0 {c:Nat} {fr:aD} {G:aa} {Y:eC} (hx:exec (bP c 74 43) (.rangeFunc (.tmp 19) #[20] vm Cs) fr G=some Y.st):(Hn aR (fun _=>true) fr G (.ok Y)).Ok (bP c 74 43) (aV Tryd.f74) :=
 Bm (aj _ _) (fun f ps a b _ hm x hx2=>by
  rw[WD] at hm;simp only[List.mem_cons,Prod.mk.injEq,List.not_mem_nil,or_false] at hm;obtain ⟨rfl,rfl,rfl,rfl⟩:=hm;rw[← Tr.ab hx2];exact hx)
theorem Uu (hS:gE lc W g) (hW:∀ c,c<lc→0≤W (2*c)∧W (2*c+1)<lc) (hl:1≤lc):cd (n+9) (.fn 74) [shV dr lc zc lb zb W (bI g)] H=some (if DZ lc g W=true then aY lc (az (qK (iU lc g W lc))) false else .nils,H):=by
 obtain ⟨f,t,h65⟩:=J5 (n+4) dr lc zc lb zb W g (⟨false,[(0,.row (.G [shV dr lc zc lb zb W (bI g)])),(0,.row (shR dr lc zc lb zb W (bI g)))]⟩::H) 1 rfl hS;have h70:∀ H,cd (n+8) (.fn 70) [shV dr lc zc lb zb W (bI g)] H=some (MP 0 (shR dr lc zc lb zb W (bI g)),H):=fun H=>by
  refine bB (n:=n+7) Tryd.func70 rfl rfl rfl (TX (n+7) dr lc zc lb zb W (bI g) H) (aw _) (ai _ _) (aj _ _) ?_;exact Tr.ah ⟨rfl,rfl⟩
 by_cases h0:DZ lc g W=true
 · rw[if_pos h0];rw[h0] at h65;have hlen:=(wm hS hW h0 lc (Nat.le_refl _)).len;have hx:=Xj n dr lc zc lb zb W g H hS hW h0 (.int .i64 f) (.int .i64 t);cases hL:iU lc g W lc with
   | nil=>rw[hL] at hlen;simp at hlen;omega
   | cons x r =>
     rw[hL] at hx hlen;have hr:r.length+1=lc:=by simpa using hlen
     have T:=W3 (n+8) dr lc zc lb zb W (np W (x::r)) (bI g) H f t (mask (x::r):Int) r.length (r.length+1) (az (qK (x::r)));rw[dH] at T;refine bB (n:=n+8) Tryd.func74 rfl rfl rfl T (bM _ _ (dN (dk (bj _) h70) (fun y hy=>by rw[← Tr.ab hy];exact h65))) (ai _ _) (R0 (by simp only[eC.st,aP];exact hx)) ?_;clear T hx h65 h70;rw[← hr];refine Tr.al ⟨rfl,rfl⟩ (Tr.af (fun q=>by cases q) (fun _=>Tr.al rfl (Tr.al ⟨rfl,rfl⟩ ?_)));exact wF
 · rw[if_neg h0];have h0:DZ lc g W=false:=by simpa using h0
   rw[h0] at h65;refine bB (n:=n+8) Tryd.func74 rfl rfl rfl (SJ (n+8) dr lc zc lb zb W (bI g) H f t) (bM _ _ (dN (dk (bj _) h70) (fun y hy=>by rw[← Tr.ab hy];exact h65))) (ai _ _) (aj _ _) ?_;exact Tr.al ⟨rfl,rfl⟩ (Tr.af (fun _=>Tr.ah ⟨rfl,rfl⟩) (fun q=>by cases q))
end
end Go.Eng
end
section
namespace Go.Eng
open Go.Proofs Go.Eng.Gall
theorem Fv {f:FuncId} {fn:Func} {n:Nat} (h30:f=30∨f=38) (hf:Tryd.prog.funcs[f]?=some fn) (hb:fn.body.isSome=true) {args:List HV} (hle:Nat.ble args.length fn.ntmps=true) {H:aa} {callR:bp} {bl:eJ} {rg:nA} {T:Tr (HV×aa)}
 (e:bk Tryd.prog (cd n) 100000 f fn (KtG.kt f) callR bl rg args H=T) (hC:callR.Ok (cd n)) (hB:bl.Ok (bP n f fn.ntmps) (aV fn)) (hR:rg.Ok (bP n f fn.ntmps) (aV fn)) {v:AV} {H':aa} (h:T.all fun y=>D1 y.1.1=v∧y.2=H'):cd (n+1) (.fn f) (jL args) H=some (v,H'):=by
 obtain ⟨y,h1,h2,h3⟩:=h
 have:=xe (P:=Tryd.prog) (KT:=KtG.kt) (fu:=100000) (f:=f) (call:=cd n) (fn:=fn) hf hb hle hC hB hR (by rw[e];exact h1)
 refine oI ?_
 have e2:gO (cd n) f (jL args) H=Ma (om Tryd.prog KtG.kt 100000 f (cd n) (jL args) H):=by rcases h30 with rfl | rfl<;>rfl
 rw[e2,this]
 show some (D1 y.1.1,y.2)=_
 rw[h2,h3]
section
variable (n:Nat) (dr:Int) (lc:Nat) (zc:Nat→Int) (lb:Nat) (zb:Nat→Int) (H:aa)
noncomputable def Fx:List Nat:=iU lc (fun c=>gY zb c lb) (dg dr lc zc) lc
noncomputable def JY:AV:=if JW dr lc zc lb zb=none then .tup [aY lc (az (qK (Fx dr lc zc lb zb))) false,.int .i64 0] else .tup [.nils,.int .i64 13]
theorem HS {L:List Int} {m:Nat} (h:L.length=m):m6 (fun _=>Int.ofNat 0) 0 (az L) m=az L:=by
 rw[ri];funext j;unfold vX;by_cases e:j<m
 · simp[e]
 · simp[e,qd,List.getD_eq_getElem?_getD,List.getElem?_eq_none (show L.length≤j by omega)]
theorem Ul (hb:lb≤1000) (h0:c9 dr lc zc lb zb=0):cd (n+15) (.fn 38) [bG dr lc zc lb zb] H=some (JY dr lc zc lb zb,H):=by
 obtain ⟨h1,h2,h3,h4,h5,h6⟩:=vV h0;have hS:=Sc dr lc zc lb zb h1.2 h3 h4 h5 h6;have Hh:=fun H=>Lj n dr lc zc lb zb H hb h0;have h74:∀ H,cd (n+14) (.fn 74) [shV dr lc zc lb zb (dg dr lc zc) (jr lb zb)] H=_:=fun H=>Uu (n+5) dr lc zc lb zb (dg dr lc zc) (fun c=>gY zb c lb) H hS KW h1.1;have en:DZ lc (fun c=>gY zb c lb) (dg dr lc zc)=(JW dr lc zc lb zb).isNone:=rfl;unfold JY;rw[en] at h74;by_cases hp:JW dr lc zc lb zb=none
 · rw[if_pos hp];rw[hp] at h74;have h74:∀ H,cd (n+14) (.fn 74) [shV dr lc zc lb zb (dg dr lc zc) (jr lb zb)] H=some (aY lc (az (qK (Fx dr lc zc lb zb))) false,H):=h74;have hlen:(qK (Fx dr lc zc lb zb)).length=lc:=by
    unfold qK Fx;rw[List.length_map,(wm hS KW (by rw[en,hp];rfl) lc (Nat.le_refl _)).len]
   have T:=WS (n+14) dr lc zc lb zb (dg dr lc zc) (jr lb zb) H lc (az (qK (Fx dr lc zc lb zb)));have e1:bX (Int.ofNat lc)=lc:=by rw[jU];rfl
   have e2:wN lc lc=lc:=by rw[wO];omega
   rw[e1,e2,HS hlen,dH] at T;refine Fv (n:=n+14) (.inr rfl) Tryd.func38 rfl rfl T (bM _ _ (dk (dk (bj _) Hh) h74)) (ai _ _) (aj _ _) ?_;clear T Hh h74;generalize az (qK (Fx dr lc zc lb zb))=Y;refine Tr.al rfl (Tr.af (fun q=>by simp[aM,bm] at q) (fun _=>Tr.al rfl (Tr.ae wG (Tr.af (fun q=>by cases q) (fun _=>?_)))));exact wF
 · rw[if_neg hp];have hp:¬ (JW dr lc zc lb zb).isNone=true:=by rwa [Option.isNone_iff_eq_none]
   rw[if_neg hp] at h74;refine Fv (n:=n+14) (.inr rfl) Tryd.func38 rfl rfl (SB (n+14) dr lc zc lb zb (dg dr lc zc) (jr lb zb) H) (bM _ _ (dk (dk (bj _) Hh) h74)) (ai _ _) (aj _ _) ?_;exact Tr.al rfl (Tr.af (fun q=>by simp[aM,bm] at q) (fun _=>Tr.al rfl (Tr.af (fun _=>Tr.ah ⟨rfl,rfl⟩) (fun q=>by cases q))))
end
end Go.Eng
end
section
namespace Go.Eng
open Go.Proofs Go.Eng.Gall
end Go.Eng
end
section
namespace Go.Eng
open Go.Proofs Go.Eng.Gall
section
variable (n:Nat) (dr:Int) (lc:Nat) (zc:Nat→Int) (lb:Nat) (zb:Nat→Int) (H:aa)
variable (f t:Int) (m:Nat) (z:Nat→Int)
end
end Go.Eng
end
section
namespace Go.Eng
open Go.Proofs Go.Eng.Gall
section
variable (n:Nat) (dr:Int) (lc:Nat) (zc:Nat→Int) (lb:Nat) (zb:Nat→Int) (H:aa) (f t:Int) (m:Nat) (z:Nat→Int)
end
end Go.Eng
end
section
namespace Go.Eng
open Go.Proofs Go.Eng.Gall
section
variable (n:Nat) (dr:Int) (lc:Nat) (zc:Nat→Int) (lb:Nat) (zb:Nat→Int) (H:aa) (f t:Int) (m:Nat) (z:Nat→Int)
end
end Go.Eng
end
section
namespace Go.Eng
open Go.Proofs Go.Eng.Gall Go.Eng.Q
section
variable {dr:Int} {lc:Nat} {zc:Nat→Int} {lb:Nat} {zb:Nat→Int}
end
end Go.Eng
end
section
namespace Go.Eng
open Go.Proofs Go.Eng.Gall
end Go.Eng
end
section
namespace Go.Eng
open Go.Proofs Go.Eng.Gall
theorem b6:∀ b,(0,b) ∈ aL (aV Tryd.f6)→b=.loop (part Tryd.f6 [1,1,1,1,1,1,1,0,1,0,1,1,1,0,1,0,0]):=ey (by kernel_rfl)
section
variable (dr:Int) (lc:Nat) (zc:Nat→Int) (lb:Nat) (zb:Nat→Int)
variable (n:Nat) (H:aa) (mo:Nat) (zo:Nat→Int) (f t:Int) (m:Nat) (z y:Nat→Int)
end
end Go.Eng
end
section
namespace Go.Eng
open Go.Proofs Go.Eng.Gall
section
variable (dr:Int) (lc:Nat) (zc:Nat→Int) (lb:Nat) (zb:Nat→Int) (n:Nat) (H:aa) (mo:Nat) (zo:Nat→Int) (f t:Int) (m:Nat) (z:Nat→Int)
end
end Go.Eng
end
section
namespace Go.Eng
open Go.Proofs Go.Eng.Gall
section
variable (dr:Int) (lc:Nat) (zc:Nat→Int) (lb:Nat) (zb:Nat→Int) (n:Nat) (H:aa) (mo:Nat) (zo:Nat→Int) (f t:Int) (m:Nat) (z:Nat→Int)
end
end Go.Eng
end
