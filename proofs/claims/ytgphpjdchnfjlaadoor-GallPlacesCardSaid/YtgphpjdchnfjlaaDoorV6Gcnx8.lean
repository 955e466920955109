/- Gall: the places of a colour: the contract. -/
import Derived.Test.YtgphpjdchnfjlaaDoorV6Gdmx7
import Derived.Test.YtgphpjdchnfjlaaDoorV6Gahx19
import Derived.Test.YtgphpjdchnfjlaaDoorV6GaKx6
set_option linter.unusedVariables false
set_option linter.unusedSimpArgs false
set_option maxRecDepth 100000
section
namespace Go.Eng
open Go.Proofs Go.Eng.Gall
section
variable (n:Nat) (O:Int) (U:Nat) (Z:Nat→Int) (V:Nat) (J:Nat→Int) (W:Nat→Int) (g:Nat→Nat) (H:ab) (r0:Row)
theorem Qu (B:Nat→Int) (St:Nat→ab) (hk:U≤1000) (hr:∀ j,j<U→cd n (.round 1 7) [.int .i64 (j:Int)] (av::St j)=some (.bool true,av::St (j+1))) :
 cd (n+1) (.fn 90) [.yld 0 7,.ptrT (some 0) (.G [shV O U Z V J W B]) 0] (St 0)=some (.tup [],St U):=by
 have hx:=ig (n:=n) (f:=90) (nt:=18) (c:=part Tryd.f90 [1,0,0]) 0 (fun j=>lC U (j:Int)) (fun j=>av::St j) U (lC U (Int.ofNat U)++[(11,.bool false)],av::St U) wO (fun j hj=>?_) ?_
 · refine bj (n:=n) Tryd.func90 rfl rfl rfl (Tq n O U Z V J W B (St 0) (St U)) (ay _) (aZ (aj _ _) ND (fun x h=>by rw[← Tr.ae h];simp only[eB.st,aL];exact hx)) (ak _ _) ?_
   exact Tr.ai ⟨rfl,rfl⟩ (Tr.ag ⟨rfl,rfl⟩)
 · refine aB (MX n U (j:Int) (St j) (St (j+1)) true) (w8 (ay n) (fun x hy=>by rw[← Tr.ae hy];exact hr j hj)) (aj _ _) (ak _ _) ?_
   rw[eX wO]
   generalize St (j+1)=G' at *
   generalize St j=G at *
   exact wF
 · obtain ⟨x,h1,rfl⟩:=aB (Q:=fun x=>x=(.exit 0,lC U (Int.ofNat U)++[(11,.bool false)],av::St U)) (SO n U (Int.ofNat U) (St U)) (ay n) (aj _ _) (ak _ _) (by
    refine Tr.af (fun hc=>?_) (fun hc=>Tr.ag rfl);simp (disch:=omega) only[nV,nW] at hc;omega)
   exact h1
theorem Qv (B:Nat→Int) (S S':ab) (K:Nat) (hK:K<U) (hk:U≤1000) (hr:∀ j,j<K→cd n (.round 1 7) [.int .i64 (j:Int)] (av::S)=some (.bool true,av::S)) (hx:cd n (.round 1 7) [.int .i64 (K:Int)] (av::S)=some (.bool false,av::S')) :
 cd (n+1) (.fn 90) [.yld 0 7,.ptrT (some 0) (.G [shV O U Z V J W B]) 0] S=some (.tup [],S'):=by
 obtain ⟨y,h1,rfl⟩:=OB (n:=n) (f:=90) (nt:=18) (c:=part Tryd.f90 [1,0,0]) 0 (fun j fr H=>j≤K∧fr=lC U (j:Int)∧H=av::S) (fun y=>y=(lC U (K:Int)++[(16,.bool true)],av::S')) U wO (fr0:=lC U (Int.ofNat 0)) (H0:=av::S) ⟨Nat.zero_le _,rfl,rfl⟩ (fun j fr H hI=>by
  obtain ⟨hj,rfl,rfl⟩:=hI;by_cases e:j=K
  · subst e;refine aB (MX n U (j:Int) S S' false) (w8 (ay n) (fun x hy=>by rw[← Tr.ae hy];exact hx)) (aj _ _) (ak _ _) ?_;refine Tr.af (fun _=>Tr.ai ⟨rfl,rfl⟩ (Tr.af (fun _=>Tr.ag (.inr ⟨rfl,rfl⟩)) (fun q=>by simp[ar] at q))) wJ
  · refine aB (MX n U (j:Int) S S true) (w8 (ay n) (fun x hy=>by rw[← Tr.ae hy];exact hr j wO)) (aj _ _) (ak _ _) ?_;rw[eX wO];refine Tr.af (fun _=>Tr.ai ⟨rfl,rfl⟩ (Tr.af (fun q=>by simp[ar] at q) (fun _=>Tr.ag (.inl ⟨rfl,by omega,by omega,rfl,rfl⟩)))) wJ)
 refine bj (n:=n) Tryd.func90 rfl rfl rfl (Ts n O U Z V J W B S S' (K:Int)) (ay _) (aZ (aj _ _) ND (fun x h=>by rw[← Tr.ae h];simp only[eB.st,aL];exact h1)) (ak _ _) ?_
 exact Tr.ai ⟨rfl,rfl⟩ (Tr.ag ⟨rfl,rfl⟩)
theorem G4 {n d i:Nat} {args:List AV} {H H2 R:ab} {l l2:jY} {fr fr1 fr2:aC} {lv:bG}
 (hg:az H d i=(0,.loop l)) (hl:aK H d=false) (hs:l.state=.ready) (hp:jD l.nt (kD (d+1) l.fr) l.params (args.map (mH 1))=some fr)
 (h1:exec (jx n l.fn l.nt (d+1) i) l.assign fr (av::H)=some (.normal,fr1,av::H))
 (h2:exec (jx n l.fn l.nt (d+1) i) l.body fr1 (dG (av::H) (d+1) i (0,.loop { l with state:=.busy }))=some (.ret,fr2,lv::H2)) (hg2:az H2 d i=(0,.loop l2)) (hR:R=dG H2 d i (0,.loop { l2 with state:=.done,pending:=cD .ret })) :
 cd (n+1) (.round d i) args H=some (.bool false,R):=by
 rw[hR]
 exact zf (P:=Tryd.prog) (ora:=jf) (KT:=KtG.kt) (fu:=100000) (e:=.ret) hg hl hs hp h1 (by rw[show az (av::H) (d+1) i=az H d i from rfl];exact hg) hs h2 hg2
theorem SE (hS:gH U W g) (c k:Nat) (hc:c<U) (hk:k<U) (hw:W (2*c)=(k:Int)∧W (2*c+1)=(k:Int)) :
 cd (n+5) (.round 1 7) [.int .i64 (k:Int)] (av::Bf r0 (shR O U Z V J W (bI g)) c (0,.loop (cX (shR O U Z V J W (bI g))))::H)=some (.bool false,av::OC r0 (shR O U Z V J W (bI g)) c (0,.loop { cX (shR O U Z V J W (bI g)) with state:=.done,pending:=cD .ret }) (k:Int)::H):=by
 have hlc:=hS.len
 have h71:=fun (L:bG)=>NH (n+3) O U Z V J W (bI g) c k (av::L::H) [] wO
 have h65:=fun (L:bG)=>Kn n O U Z V J (uy W c k) g (⟨false,[(0,.row (shR O U Z V J (uy W c k) (bI g))),(0,.row (.I .i64 [(k:Int),(k:Int)]))]⟩::av::L::H) 0 rfl (FN hS hc hk)
 have e2:cq (aw 3 (c:Int) 2) 3=2*c:=by rw[bJ,dD];omega
 have e3:cq (au (aw 3 (c:Int) 2) 1) 3=2*c+1:=by rw[bJ,aM,dD];omega
 have ej:aw 3 (c:Int) 2=3+c*2:=by rw[bJ];omega
 have ew:bV (b9 (W (2*c)) (k:Int)) (b9 (W (2*c+1)) (k:Int))=true:=by
  rw[bZ,aE,aE,hw.1,hw.2];simp
 have hs:vR W (c:Int) (k:Int)=true:=(zu W c k).2 ⟨by omega,by omega⟩
 obtain ⟨f,t,h65⟩:=h65 (Bf r0 (shR O U Z V J W (bI g)) c (0,.loop { cX (shR O U Z V J W (bI g)) with state:=.busy }))
 have h1:exec (jx (n+4) 30 60 2 7) qD [(3,.ptr 2 1 0 0),(4,.ptr 2 2 0 0),(5,.ptr 2 3 0 0),(6,.ptr 2 5 0 0),(8,.ptr 2 6 0 0),(25,Le 2 (shR O U Z V J W (bI g))),(26,.int .i64 (k:Int))] (av::av::Bf r0 (shR O U Z V J W (bI g)) c (0,.loop (cX (shR O U Z V J W (bI g))))::H)=some (.normal,FQ k,av::av::Bf r0 (shR O U Z V J W (bI g)) c (0,.loop (cX (shR O U Z V J W (bI g))))::H) :=
  jN (MT (n+4) _ _ H (k:Int)) (ay _) (aj _ _) (ak _ _) (Tr.ag rfl)
 rw[hs] at h71
 have T:=Pc (n+4) O U Z V J W (bI g) H r0 (k:Int) (c:Int) (0,.loop { cX (shR O U Z V J W (bI g)) with state:=.busy }) true (!IZ U g (uy W c k)) f t
 rw[e2,e3,AR,ew,ej] at T
 obtain ⟨y,h2,h3⟩:=pK (Q:=fun y=>y.1=.ret∧∃ lv,y.2.2=lv::av::OC r0 (shR O U Z V J W (bI g)) c (0,.loop { cX (shR O U Z V J W (bI g)) with state:=.busy }) (k:Int)::H) T (bo _ _ (cj (cj (aN _) (fun x hy=>by rw[← Tr.ae hy];exact h71 _)) (fun x hy=>by rw[← Tr.ae hy];exact h65))) (aj _ _) (ak _ _) (by
  clear T h1 h71 h65;generalize cX (shR O U Z V J W (bI g))=L at *;refine Tr.ai ⟨rfl,rfl⟩ (Tr.af (fun h=>by simp[ar] at h) (fun _=>?_));exact Tr.aa wG (Tr.aa wG (Tr.aa wG (Tr.aa wG (Tr.af (fun _=>Tr.ag ⟨rfl,_,rfl⟩) (fun h=>by cases h))))))
 obtain ⟨ey,fy,hy⟩:=y
 obtain ⟨h3,lv,h4⟩:=h3
 dsimp only at h3 h4
 subst h3 h4
 exact G4 (l:=cX (shR O U Z V J W (bI g))) (l2:={ cX (shR O U Z V J W (bI g)) with state:=.busy }) rfl rfl rfl rfl h1 h2 rfl rfl
end
end Go.Eng
end
section
namespace Go.Eng
open Go.Proofs Go.Eng.Gall
section
variable (n:Nat) (O:Int) (U:Nat) (Z:Nat→Int) (V:Nat) (J:Nat→Int) (H:ab)
theorem I3 {c:Nat} {fr:aC} {G:ab} {Y:eB} (hx:exec (bQ c 30 60) (.rangeFunc (.tmp 25) #[26] qD yn) fr G=some Y.st):(MD aQ (fun _=>true) fr G (.ok Y)).Ok (bQ c 30 60) (bA Tryd.f30) :=
 G1 (ak _ _) (fun f ps a b _ hm x hx2=>by
  rw[W8] at hm;simp only[List.mem_cons,Prod.mk.injEq,List.not_mem_nil,or_false] at hm;obtain ⟨rfl,rfl,rfl,rfl⟩:=hm;rw[← Tr.ae hx2];exact hx)
theorem XL (W:Nat→Int) (g:Nat→Nat) (r0:Row) (hS:gH U W g) (c:Nat) (hc:c<U) (hw:∀ k,k<U→¬ (W (2*c)=(k:Int)∧W (2*c+1)=(k:Int))):exec (bQ (n+6) 30 60) (.rangeFunc (.tmp 25) #[26] qD yn) (sq (shR O U Z V J W (bI g))) (⟨false,vY r0 (shR O U Z V J W (bI g)) c .nils .nils⟩::H)=some (.normal,sq (shR O U Z V J W (bI g)),dW (Kd r0 (shR O U Z V J W (bI g)) c (0,.loop (cX (shR O U Z V J W (bI g)))) (Da U W g c U)::H) 0 7):=by
 have h:=Qu (n+5) O U Z V J W (bI g) (fun k=>Kd r0 (shR O U Z V J W (bI g)) c (0,.loop (cX (shR O U Z V J W (bI g)))) (Da U W g c k)::H) (by have:=hS.len;omega) (fun j hj=>O0 n O U Z V J W g H r0 hS c j hc hj (hw j hj));have h':cd (n+6) (.fn 90) [.yld 0 7,.ptrT (some 0) (.G [shV O U Z V J W (bI g)]) 0] (Bf r0 (shR O U Z V J W (bI g)) c (0,.loop (cX (shR O U Z V J W (bI g))))::H)=_:=h;refine tE (cx:=bQ (n+6) 30 60) (l:=cX (shR O U Z V J W (bI g))) (f:=.tmp 25) (ps:=#[26]) (fr:=sq (shR O U Z V J W (bI g))) (H:=⟨false,vY r0 (shR O U Z V J W (bI g)) c .nils .nils⟩::H) (g:=90) (a:=[]) (b:=[.ptrT (some 0) (.G [shV O U Z V J W (bI g)]) 0]) rfl rfl rfl h' ?_ rfl rfl;cases Da U W g c U with
 | nil=>rfl
 | cons x r=>rfl
theorem Tw (W:Nat→Int) (g:Nat→Nat) (r0:Row) (hS:gH U W g) (c k:Nat) (hc:c<U) (hk:k<U) (hw:W (2*c)=(k:Int)∧W (2*c+1)=(k:Int)):exec (bQ (n+6) 30 60) (.rangeFunc (.tmp 25) #[26] qD yn) (sq (shR O U Z V J W (bI g))) (⟨false,vY r0 (shR O U Z V J W (bI g)) c .nils .nils⟩::H)=some (.ret,sq (shR O U Z V J W (bI g)),OC r0 (shR O U Z V J W (bI g)) c (0,.dead) (k:Int)::H):=by
 have hn:∀ j,j<U→j≠k→qI U g W c j=false:=fun j hj hne=>by
  unfold qI;cases hs:vR W (c:Int) (j:Int) with
  | false=>rfl
  | true=>have:=(zu W c j).1 hs;omega
 have hp:∀ j,j≤k→Da U W g c j=[]:=by
  intro j;induction j with
  | zero=>intro _;rfl
  | succ j ih=>intro hj;rw[Dc,hn j wO wO,ih wO];rfl
 have h:=Qv (n+5) O U Z V J W (bI g) (Bf r0 (shR O U Z V J W (bI g)) c (0,.loop (cX (shR O U Z V J W (bI g))))::H) (OC r0 (shR O U Z V J W (bI g)) c (0,.loop { cX (shR O U Z V J W (bI g)) with state:=.done,pending:=cD .ret }) (k:Int)::H) k hk (by have:=hS.len;omega) (fun j hj=>by
  have:=O0 n O U Z V J W g H r0 hS c j hc wO wO;rw[hp j wO,hp (j+1) wO] at this;exact this) (SE n O U Z V J W g H r0 hS c k hc hk hw)
 exact tE (cx:=bQ (n+6) 30 60) (l:={ cX (shR O U Z V J W (bI g)) with state:=.done,pending:=cD .ret }) (f:=.tmp 25) (ps:=#[26]) (fr:=sq (shR O U Z V J W (bI g))) (H:=⟨false,vY r0 (shR O U Z V J W (bI g)) c .nils .nils⟩::H) (g:=90) (a:=[]) (b:=[.ptrT (some 0) (.G [shV O U Z V J W (bI g)]) 0]) rfl rfl rfl h rfl rfl rfl
noncomputable def EO (c:Nat):List Nat:=Np U (fun c=>cZ J c V) (c9 O U Z) c
noncomputable def Mx (c:Int):AV:=if nz O U Z V J c=0 then (if EN O U Z V J=none then .tup [cw (EO O U Z V J c.toNat).length (aI (pA (EO O U Z V J c.toNat))) false,.int .i64 0] else .tup [.nils,.int .i64 13]) else .tup [.nils,.int .i64 (nz O U Z V J c)]
theorem UP (c:Int) (hl:U≤1000) (hb:V≤1000):cd (n+14) (.fn 30) [a8 O U Z V J,.int .i64 c] H=some (Mx O U Z V J c,H):=by
 have h69:cd (n+13) (.fn 69) [a8 O U Z V J,sc 0] (Bi O U Z V J c::H)=_:=Qq n O U Z V J H (0,.row (.G [.int .i64 O,slA 4 U Z,slA 2 V J])) (0,.row (.I .i64 [c])) (0,.row (.G [.nils])) (0,.row (.I .i64 [Int.ofNat 0])) c hl hb;unfold Sv at h69;unfold Mx;by_cases he:nz O U Z V J c=0
 · rw [if_pos he] at h69 ⊢;obtain ⟨h0,hc0,hc1⟩:=Iq he;obtain ⟨h1,h2,h3,h4,h5,h6⟩:=jM h0;have hS:=zn O U Z V J h1.2 h3 h4 h5 h6;obtain ⟨c,rfl⟩:∃ c':Nat,c=(c':Int):=⟨c.toNat,by omega⟩
   have hc:c<U:=by omega
   rw[Int.toNat_natCast];unfold Jb at h69;by_cases ho:EN O U Z V J=none
   · rw [if_pos ho] at h69 ⊢;have hnb:IZ U (fun c=>cZ J c V) (c9 O U Z)=true:=by show (EN O U Z V J).isNone=true;rw[ho];rfl
     have h70:∀ H,cd (n+13) (.fn 70) [shV O U Z V J (c9 O U Z) (ia V J)] H=some (Le 0 (shR O U Z V J (c9 O U Z) (ia V J)),H):=fun H=>by
      refine bj (n:=n+12) Tryd.func70 rfl rfl rfl (Uy (n+12) O U Z V J (c9 O U Z) (ia V J) H) (ay _) (aj _ _) (ak _ _) ?_;exact Tr.ag ⟨rfl,rfl⟩
     by_cases hw:∃ k,k<U∧c9 O U Z (2*c)=(k:Int)∧c9 O U Z (2*c+1)=(k:Int)
     · obtain ⟨k,hk,w1,w2⟩:=hw;have hx:=Tw (n+7) O U Z V J H (c9 O U Z) (fun c=>cZ J c V) (.G [.int .i64 O,slA 4 U Z,slA 2 V J]) hS c k hc hk ⟨w1,w2⟩;have hpl:EO O U Z V J c=[k]:=My hnb hk w1 w2;rw[hpl];refine wk (n:=n+13) (.inl rfl) Tryd.func30 rfl rfl (SU (n+13) O U Z V J (c9 O U Z) (ia V J) H (c:Int) (k:Int)) (bo _ _ (cj (bO (aN _) h70) (fun x hy=>by rw[← Tr.ae hy];exact h69))) (aj _ _) (I3 (by simp only[eB.st,aL];exact hx)) ?_;refine Tr.ai ⟨rfl,rfl⟩ (Tr.af (fun q=>by simp[ar,aE] at q) (fun _=>Tr.ai rfl (Tr.ai ⟨rfl,rfl⟩ (Tr.aa wG (Tr.ag ⟨?_,rfl⟩)))));show AV.tup [.slcT none (.M [.arr .i64 (fun j=>[(k:Int)].getD j 0) 1]) 1 1 false,.int .i64 (Int.ofNat 0)]=.tup [cw 1 (aI [(k:Int)]) false,.int .i64 0];rw[fq];rfl
     · have hx:=XL (n+7) O U Z V J H (c9 O U Z) (fun c=>cZ J c V) (.G [.int .i64 O,slA 4 U Z,slA 2 V J]) hS c hc (fun k hk h=>hw ⟨k,hk,h⟩);have hne:∃ k,k ∈ EO O U Z V J c:=by
        obtain ⟨R,hR⟩:=(r4 hS uh).1 ho;exact ⟨R.idxOf c,(GM hS uh hc).2 ⟨R,hR,rfl⟩⟩
       have hpk:Da U (c9 O U Z) (fun c=>cZ J c V) c U=EO O U Z V J c:=rfl;have hle:(EO O U Z V J c).length≤U:=by rw[← hpk];exact Db _ _ _ _ _
       rw[hpk] at hx;cases hP:EO O U Z V J c with
       | nil=>rw[hP] at hne;obtain ⟨k,hk⟩:=hne;cases hk
       | cons x r =>
         rw[hP] at hx hle;simp only[List.length_cons] at hle;have T:=SS (n+13) O U Z V J (c9 O U Z) (ia V J) H (c:Int) r.length (r.length+1) (aI (pA (x::r)));rw[jm] at T;refine wk (n:=n+13) (.inl rfl) Tryd.func30 rfl rfl T (bo _ _ (cj (bO (aN _) h70) (fun x hy=>by rw[← Tr.ae hy];exact h69))) (aj _ _) (I3 (by simp only[eB.st,aL];exact hx)) ?_;clear T hx h69 h70;refine Tr.ai ⟨rfl,rfl⟩ (Tr.af (fun q=>by simp[ar,aE] at q) (fun _=>Tr.ai rfl (Tr.ai ⟨rfl,rfl⟩ (Tr.aa wG (Tr.aa wG (Tr.ag ⟨rfl,rfl⟩))))))
   · rw[if_neg ho] at h69 ⊢;refine wk (n:=n+13) (.inl rfl) Tryd.func30 rfl rfl (PH (n+13) O U Z V J H (c:Int) (Int.ofNat 13)) (bo _ _ (cj (eA (aN _)) (fun x hy=>by rw[← Tr.ae hy];exact h69))) (aj _ _) (ak _ _) ?_;exact Tr.ai ⟨rfl,rfl⟩ (Tr.af (fun _=>Tr.ag ⟨rfl,rfl⟩) (fun q=>by simp[ar,aE] at q))
 · rw[if_neg he] at h69 ⊢;refine wk (n:=n+13) (.inl rfl) Tryd.func30 rfl rfl (PH (n+13) O U Z V J H c (nz O U Z V J c)) (bo _ _ (cj (eA (aN _)) (fun x hy=>by rw[← Tr.ae hy];exact h69))) (aj _ _) (ak _ _) ?_;refine Tr.ai ⟨rfl,rfl⟩ (Tr.af (fun _=>Tr.ag ⟨rfl,rfl⟩) (fun q=>?_));rw[ar,aE] at q;exact absurd (by simpa using q) he
end
end Go.Eng
end
section
namespace Go.Eng
open Go.Proofs Go.Eng.Gall
section
variable (n:Nat) (O:Int) (U:Nat) (Z:Nat→Int) (V:Nat) (J:Nat→Int) (H:ab)
theorem UX (x:Int):cd (n+1) (.fn 52) [a8 O U Z V J,.int .i64 x] H=some (.bool (decide (0≤x∧x<U)),H):=by
 refine bj (n:=n) Tryd.func52 rfl rfl rfl (Xp n O U Z V J H x) (ay n) (aj _ _) (ak _ _) ?_;refine Tr.af (fun q=>Tr.ag ⟨?_,rfl⟩) (fun q=>Tr.ag ⟨?_,rfl⟩);all_goals rw[bh] at q
 · have q:0≤x:=by simpa using q
   rw[bx];show AV.bool (decide (x<(U:Int)))=_;by_cases h:x<(U:Int)
   · rw[decide_eq_true h,decide_eq_true ⟨q,h⟩]
   · rw[decide_eq_false h,decide_eq_false (fun r=>h r.2)]
 · have q:¬ 0≤x:=by simpa using q
   rw[decide_eq_false (fun r=>q r.1)]
noncomputable def xA (a b:Int):Nat→Bool:=fun j=>decide (aI [a,b] j<0) || decide ((U:Int)≤aI [a,b] j)
theorem GJ (a b:Int):eH (xA U a b) 2=true↔¬ ((0≤a∧a<U)∧0≤b∧b<U):=by
 have l0:aI [a,b] 0=a:=by rw[Bg];rfl
 have l1:aI [a,b] 1=b:=by rw[Bg];rfl
 rw[dJ];constructor
 · rintro ⟨i,hi,h⟩ ⟨h1,h2⟩;unfold xA at h;rw[Bool.or_eq_true,decide_eq_true_iff,decide_eq_true_iff] at h;rcases (show i=0∨i=1 by omega) with e | e<;>subst e
   · rw[l0] at h;omega
   · rw[l1] at h;omega
 · intro h;by_cases h1:0≤a∧a<U
   · refine ⟨1,by omega,?_⟩;unfold xA;rw[l1,Bool.or_eq_true,decide_eq_true_iff,decide_eq_true_iff];by_cases q:b<0
     · exact .inl q
     · refine .inr ?_;by_cases q2:(U:Int)≤b
       · exact q2
       · exact absurd ⟨h1,by omega,by omega⟩ h
   · refine ⟨0,by omega,?_⟩;unfold xA;rw[l0,Bool.or_eq_true,decide_eq_true_iff,decide_eq_true_iff];omega
variable (r r2:Row) (a b:Int)
theorem Qn (hl:U≤1000):cd (n+4) (.fn 67) [nb 2,jr 0] (dz O U Z V J::⟨false,[(0,.row r2)]⟩::df r a b::H)=some (.bool (eH (xA U a b) 2),dz O U Z V J::⟨false,[(0,.row r2)]⟩::df r a b::H):=by
 have hlp:=kb (n:=n+2) (f:=89) (nt:=19) (c:=part Tryd.f89 [1,0,1,0,0]) 0 (fun j=>kd (j:Int)) (fun _=>av::av::dz O U Z V J::⟨false,[(0,.row r2)]⟩::df r a b::H) 2 (xA U a b) (fun j=>([(4,.int .i64 (j:Int))],av::av::dz O U Z V J::⟨false,[(0,.row r2)]⟩::df r a b::H)) (kd (Int.ofNat 2)++[(9,.bool false)],av::av::dz O U Z V J::⟨false,[(0,.row r2)]⟩::df r a b::H) wO (fun j hj=>?_) ?_
 · have h89:cd (n+3) (.fn 89) [nb 3,jr 1] (av::dz O U Z V J::⟨false,[(0,.row r2)]⟩::df r a b::H)=some (.int .i64 (cond (eH (xA U a b) 2) (fN (xA U a b) 2 0:Int) (-1)),av::dz O U Z V J::⟨false,[(0,.row r2)]⟩::df r a b::H):=by
    refine bj (n:=n+2) Tryd.func89 rfl rfl rfl (To (n+2) (fN (xA U a b) 2 0) (eH (xA U a b) 2) (av::dz O U Z V J::⟨false,[(0,.row r2)]⟩::df r a b::H)) (ay _) (aZ (aj _ _) P8 (fun x h=>eO h hlp)) (ak _ _) ?_;refine Tr.ai ⟨rfl,rfl⟩ (Tr.af (fun q=>Tr.ag ⟨?_,rfl⟩) (fun q=>Tr.ag ⟨?_,rfl⟩))
    · rw[q];rfl
    · rw[q];rfl
   refine bj (n:=n+3) Tryd.func67 rfl rfl rfl (PI (n+3) (cond (eH (xA U a b) 2) (fN (xA U a b) 2 0:Int) (-1)) (dz O U Z V J::⟨false,[(0,.row r2)]⟩::df r a b::H)) (bo _ _ (cj (aN _) (fun x hy=>by rw[← Tr.ae hy];exact h89))) (aj _ _) (ak _ _) ?_;refine Tr.ai ⟨rfl,rfl⟩ (Tr.ag ⟨?_,rfl⟩);rw[bh];cases eH (xA U a b) 2
   · rfl
   · show AV.bool (decide ((0:Int)≤((fN (xA U a b) 2 0:Nat):Int)))=_;rw[decide_eq_true wO]
 · have T:=JE (n+1) O U Z V J r r2 H a b (j:Int);rw[yf,eX wO] at T;refine aB T (ff (n+1) 1) (aj _ _) (ak _ _) ?_;refine Tr.af (fun h0=>?_) wJ;refine Tr.aa wG (Tr.aa wG (Tr.aa (by simp (disch:=omega) only[nV,nW];rw[ru];show j<2;omega) (Tr.af (fun q=>Tr.ag ?_) (fun q=>Tr.af (fun q2=>Tr.ag ?_) (fun q2=>Tr.ag ?_)))))
   · rw[bx] at q;have q:decide (aI [a,b] j<0)=true:=q;rw[if_pos (by unfold xA;rw[q];rfl)];rfl
   · rw[bh] at q2;have q2:decide ((U:Int)≤aI [a,b] j)=true:=q2;rw[if_pos (by unfold xA;rw[q2];simp)];rfl
   · rw[bx] at q;rw[bh] at q2;have q:decide (aI [a,b] j<0)=false:=q;have q2:decide ((U:Int)≤aI [a,b] j)=false:=q2;rw[if_neg (by unfold xA;rw[q,q2];decide)];exact ⟨rfl,rfl⟩
 · obtain ⟨x,h1,rfl⟩:=aB (Q:=fun x=>x=(.exit 0,kd (Int.ofNat 2)++[(9,.bool false)],av::av::dz O U Z V J::⟨false,[(0,.row r2)]⟩::df r a b::H)) (JE (n+1) O U Z V J r r2 H a b (Int.ofNat 2)) (ff (n+1) 1) (aj _ _) (ak _ _) (by
    refine Tr.af wJ (fun h0=>Tr.ag rfl))
   exact h1
def vi:Int:=if cu O U Z V J=0 then (if (0≤a∧a<U)∧0≤b∧b<U then 0 else 2) else cu O U Z V J
theorem J2 (h:vi O U Z V J a b=0):cu O U Z V J=0∧(0≤a∧a<U)∧0≤b∧b<U:=by
 unfold vi at h;split at h
 · rename_i q;split at h
   · rename_i q2;exact ⟨q,q2⟩
   · omega
 · rename_i q;exact absurd h q
theorem Qj (hl:U≤1000) (hlb:V≤1000) (he:¬ vi O U Z V J a b=0):cd (n+12) (.fn 49) [a8 O U Z V J,nb 1] (⟨false,[(0,.row r2)]⟩::df r a b::H)=some (.tup [.nilp,.int .i64 (vi O U Z V J a b)],⟨false,[(0,.row r2)]⟩::df r a b::H):=by
 have h22:=fun H=>NG n O U Z V J H hl hlb;have h67:cd (n+11) (.fn 67) [nb 2,jr 0] (dz O U Z V J::⟨false,[(0,.row r2)]⟩::df r a b::H)=_:=Qn (n+7) O U Z V J H r r2 a b hl;refine bj (n:=n+11) Tryd.func49 rfl rfl rfl (S9 (n+11) O U Z V J (⟨false,[(0,.row r2)]⟩::df r a b::H) (cu O U Z V J) (eH (xA U a b) 2)) (bo _ _ (eA (cj (bO (aN _) h22) (fun x hy=>by rw[← Tr.ae hy];exact h67)))) (aj _ _) (ak _ _) ?_;refine Tr.ai rfl (Tr.af (fun q=>Tr.ag ⟨?_,rfl⟩) (fun q=>Tr.ai ⟨rfl,rfl⟩ (Tr.af (fun q2=>Tr.ag ⟨?_,rfl⟩) (fun q2=>?_))));all_goals rw[ar,aE] at q
 · have h:¬ cu O U Z V J=0:=by simpa using q
   unfold vi;rw[if_neg h]
 all_goals have h:cu O U Z V J=0:=by simpa using q
 · unfold vi;rw[if_pos h,if_neg ((GJ U a b).1 q2)];rfl
 · exfalso;refine he ?_;unfold vi;rw[if_pos h,if_pos];by_cases hh:(0≤a∧a<U)∧0≤b∧b<U
   · exact hh
   · rw[(GJ U a b).2 hh] at q2;cases q2
theorem Qp (hl:U≤1000) (hlb:V≤1000) (he:¬ vi O U Z V J a b=0):cd (n+13) (.fn 69) [a8 O U Z V J,nb 0] (df r a b::H)=some (.tup [.nilp,.int .i64 (vi O U Z V J a b)],df r a b::H):=by
 have h49:cd (n+12) (.fn 49) [a8 O U Z V J,nb 1] (dz O U Z V J::df r a b::H)=_:=Qj n O U Z V J H r (.G [.int .i64 O,slA 4 U Z,slA 2 V J]) a b hl hlb he;refine bj (n:=n+12) Tryd.func69 rfl rfl rfl (Th (n+12) O U Z V J (df r a b::H) (vi O U Z V J a b)) (bo _ _ (eA (cj (aN _) (fun x hy=>by rw[← Tr.ae hy];exact h49)))) (aj _ _) (ak _ _) ?_;refine Tr.ai ⟨rfl,rfl⟩ (Tr.af (fun _=>Tr.ag ⟨rfl,rfl⟩) (fun q=>?_));rw[ar,aE] at q;exact absurd (by simpa using q) he
theorem Qc (hl:U≤1000) (hlb:V≤1000) (he:¬ vi O U Z V J a b=0):cd (n+14) (.fn 32) [a8 O U Z V J,.int .i64 a,.int .i64 b] H=some (.tup [.bool false,.int .i64 (vi O U Z V J a b)],H):=by
 have h69:cd (n+13) (.fn 69) [a8 O U Z V J,nb 0] (df (.G [.int .i64 O,slA 4 U Z,slA 2 V J]) a b::H)=_:=Qp n O U Z V J H (.G [.int .i64 O,slA 4 U Z,slA 2 V J]) a b hl hlb he;refine bj (n:=n+13) Tryd.func32 rfl rfl rfl (SZ (n+13) O U Z V J H a b (vi O U Z V J a b)) (bo _ _ (eA (eA (cj (aN _) (fun x hy=>by rw[← Tr.ae hy];exact h69))))) (aj _ _) (ak _ _) ?_;refine Tr.ai ⟨rfl,rfl⟩ (Tr.af (fun _=>Tr.ag ⟨rfl,rfl⟩) (fun q=>?_));rw[ar,aE] at q;exact absurd (by simpa using q) he
noncomputable def Mj:AV:=if vi O U Z V J a b=0 then OK O U Z V J a.toNat b.toNat else .tup [.bool false,.int .i64 (vi O U Z V J a b)]
theorem Qb (hl:U≤1000) (hlb:V≤1000):cd (n+14) (.fn 32) [a8 O U Z V J,.int .i64 a,.int .i64 b] H=some (Mj O U Z V J a b,H):=by
 unfold Mj;by_cases he:vi O U Z V J a b=0
 · obtain ⟨h0,ha,hb⟩:=J2 O U Z V J a b he;rw[if_pos he];obtain ⟨x,rfl⟩:∃ x:Nat,a=(x:Int):=⟨a.toNat,by omega⟩
   obtain ⟨y,rfl⟩:∃ y:Nat,b=(y:Int):=⟨b.toNat,by omega⟩
   exact UR n O U Z V J H x y hlb h0 wO wO
 · rw[if_neg he];exact Qc n O U Z V J H a b hl hlb he
theorem Qk (h0:cu O U Z V J=0):cd (n+4) (.fn 66) [a8 O U Z V J] H=some (.int .i64 (Q.cntF U (c9 O U Z) (ia V J)),H):=by
 obtain ⟨h1,h2,h3,h4,h5,h6⟩:=jM h0;rw[← IJ h0];refine bj (n:=n+3) Tryd.func66 rfl rfl rfl (Xy (n+3) O U Z V J H (2 ^ U) (zW U (nY O U Z V J (Int.negSucc 0) (Int.negSucc 0) (Int.negSucc 0) (Int.negSucc 0)) 0) (fun x=>x=[a8 O U Z V J,.int .i64 (Int.negSucc 0),.int .i64 (Int.negSucc 0),.int .i64 (Int.negSucc 0),.int .i64 (Int.negSucc 0)])) (bo _ _ (oR (aN _) (fun A H hA=>by
  subst hA;exact Qr n O U Z V J H _ _ _ _ h1 wO h3 h4))) (aj _ _) (ak _ _) ?_
 have hp:=Nat.two_pow_pos U;generalize (2:Nat) ^ U=P at *;exact Tr.ai rfl (Tr.aa wG (Tr.aa wG (Tr.ag ⟨rfl,rfl⟩)))
theorem UU (hl:U≤1000) (hb:V≤1000):cd (n+5) (.fn 35) [a8 O U Z V J] H=some (Nh O U Z V J,H):=by
 have h23:=fun H=>Qa (n+1) O U Z V J H hl hb;unfold Nh;by_cases h0:cu O U Z V J=0
 · rw[if_pos h0];refine bj (n:=n+4) Tryd.func35 rfl rfl rfl (Xm (n+4) O U Z V J H (cu O U Z V J) (Q.cntF U (c9 O U Z) (ia V J))) (bo _ _ (bO (bO (aN _) h23) (fun H=>Qk n O U Z V J H h0))) (aj _ _) (ak _ _) ?_;refine Tr.ai rfl (Tr.af (fun q=>?_) (fun _=>Tr.ai rfl (Tr.ag ⟨rfl,rfl⟩)));rw[h0,ar,aE] at q;simp at q
 · rw[if_neg h0];refine bj (n:=n+4) Tryd.func35 rfl rfl rfl (S3 (n+4) O U Z V J H (cu O U Z V J)) (bo _ _ (eA (bO (aN _) h23))) (aj _ _) (ak _ _) ?_;refine Tr.ai rfl (Tr.af (fun q=>Tr.ai rfl (Tr.ag ⟨rfl,rfl⟩)) (fun q=>?_));rw[ar,aE] at q;exact absurd (by simpa using q) h0
end
end Go.Eng
end
section
namespace Go.Eng
open Go.Proofs Go.Eng.Gall
theorem Xo (n:Nat) (O:Int) (U:Nat) (Z:Nat→Int) (V:Nat) (J:Nat→Int) (H:ab) (c e:Int):bg Tryd.prog (cd (n+1)) 100000 51 Tryd.f51 (KtG.kt 51) (il (tX aF 23 [a8 O U Z V J] (.int .i64 e)) n 1) aR aQ [(a8 O U Z V J,none),(.int .i64 c,none)] H =
 Tr.reqP ([a8 O U Z V J]=[a8 O U Z V J]) (Tr.ite (bF (b9 e (Int.ofNat 0))) (Tr.reqP ([a8 O U Z V J]=[a8 O U Z V J]) (Tr.ok ((AV.int .i64 e,none),H))) (Tr.ite (dp (Int.ofNat 0) c) (Tr.ite (bF (bM c (Int.ofNat U))) (Tr.ok ((iI 2,some 1),H)) (Tr.ok ((iI 0,some 1),H))) (Tr.ok ((iI 2,some 1),H)))):=by kernel_rfl
end Go.Eng
end
section
namespace Go.Eng
open Go.Proofs Go.Eng.Gall
section
variable (n:Nat) (O:Int) (U:Nat) (Z:Nat→Int) (V:Nat) (J:Nat→Int) (H:ab)
theorem Ul (c:Int) (hl:U≤1000) (hb:V≤1000):cd (n+5) (.fn 51) [a8 O U Z V J,.int .i64 c] H=some (.int .i64 (nz O U Z V J c),H):=by
 have h:=fun q H=>Qa (n+q) O U Z V J H hl hb;refine bj (n:=n+4) Tryd.func51 rfl rfl rfl (Xo (n+3) O U Z V J H c (cu O U Z V J)) (lF _ (n+3) 1 (fun q=>bO (aN _) (fun H=>by rw[show n+3+q=n+q+3 by omega];exact h q H))) (aj _ _) (ak _ _) ?_;refine Tr.ai rfl (Tr.af (fun q=>Tr.ai rfl (Tr.ag ⟨?_,rfl⟩)) (fun q=>Tr.af (fun r=>Tr.af (fun s=>Tr.ag ⟨?_,rfl⟩) (fun s=>Tr.ag ⟨?_,rfl⟩)) (fun r=>Tr.ag ⟨?_,rfl⟩)))
 · rw[ar,aE] at q;have h:¬ cu O U Z V J=0:=by simpa using q
   unfold nz;rw[if_neg h]
 all_goals rw[ar,aE] at q
 all_goals have h0:cu O U Z V J=0:=by simpa using q
 · rw[ar,bx] at s;have s:¬ c<(U:Int):=by simpa using s
   unfold nz;rw[if_pos h0,if_pos (.inr wO)];rfl
 · rw[ar,bx] at s;have s:c<(U:Int):=by simpa using s
   rw[bh,decide_eq_true_iff] at r;have r:0≤c:=r;unfold nz;rw[if_pos h0,if_neg wO];rfl
 · rw[bh,decide_eq_false_iff_not] at r;have r:¬ 0≤c:=r;unfold nz;rw[if_pos h0,if_pos (.inl wO)];rfl
end
end Go.Eng
end
section
namespace Go.Eng
open Int (ofNat)
open Go.Proofs Go.Eng.Gall
section
variable (n:Nat) (O:Int) (U:Nat) (Z:Nat→Int) (V:Nat) (J:Nat→Int) (H:ab)
theorem US (a b:Int) (hl:U≤1000) (hb:V≤1000):cd (n+6) (.fn 33) [a8 O U Z V J,.int .i64 a,.int .i64 b] H=some (Mj O U Z V J a b,H):=by
 have h51:=fun H=>Ul n O U Z V J H a hl hb;have h52:=fun H=>UX (n+4) O U Z V J H b;by_cases he:vi O U Z V J a b=0
 · obtain ⟨h0,ha,hb2⟩:=J2 O U Z V J a b he;obtain ⟨h1,h2,h3,h4,h5,h6⟩:=jM h0;have e0:nz O U Z V J a=0:=by unfold nz;rw[if_pos h0,if_neg wO]
   unfold Mj;rw[if_pos he];unfold OK;obtain ⟨x,rfl⟩:∃ x:Nat,a=(x:Int):=⟨a.toNat,by omega⟩
   obtain ⟨y,rfl⟩:∃ y:Nat,b=(y:Int):=⟨b.toNat,by omega⟩
   rw[e0] at h51;rw[decide_eq_true hb2] at h52;have hx:x<U:=by omega
   have hy:y<U:=by omega
   have hmu:=Mk h0 hx hy;have hP:=Nat.two_pow_pos U;rw[Int.toNat_natCast,Int.toNat_natCast,hmu];refine bj (n:=n+5) Tryd.func33 rfl rfl rfl (Xk (n+5) O U Z V J H x y (ofNat 0) (Q.cntF U (c9 O U Z) (ia V J)) true (2 ^ U) (zW U (nY O U Z V J (y:Int) (x:Int) (Int.negSucc 0) (Int.negSucc 0)) 0) (fun A=>A=[a8 O U Z V J,.int .i64 (y:Int),.int .i64 (x:Int),.int .i64 (Int.negSucc 0),.int .i64 (Int.negSucc 0)]) (fun A=>A=[a8 O U Z V J,.int .i64 (y:Int)])) (bo _ _ (oR (bO (oR (bO (aN _) h51) (fun A H hA=>by subst hA;exact h52 H)) (fun H=>Qk (n+1) O U Z V J H h0)) (fun A H hA=>by
    subst hA;exact Qr (n+2) O U Z V J H _ _ _ _ h1 wO h3 h4))) (aj _ _) (ak _ _) ?_
   refine Tr.ai rfl (Tr.af (fun q=>by simp[ar,aE] at q) (fun _=>Tr.ai rfl (Tr.af (fun q=>by simp[ar] at q) (fun _=>Tr.ai rfl (Tr.af (fun q=>Tr.ag ⟨?_,rfl⟩) (fun q=>Tr.af (fun q2=>Tr.ai rfl (Tr.aa ?_ (Tr.aa ?_ (Tr.ag ⟨?_,rfl⟩)))) (fun q2=>Tr.ag ⟨?_,rfl⟩)))))))
   · rw[aE] at q;have q:Q.cntF U (c9 O U Z) (ia V J)=0:=by simpa using q
     rw[if_neg (fun h=>(tl h0).1 h q)];rfl
   · generalize (2:Nat) ^ U=P at *;simp (disch:=omega) only[nV,nW];omega
   · generalize (2:Nat) ^ U=P at *;simp (disch:=omega) only[nV,nW];omega
   · rw[aE] at q;have q:¬ Q.cntF U (c9 O U Z) (ia V J)=0:=by simpa using q
     rw[ar,aE] at q2;have hne:¬ x=y:=by intro e;subst e;simp at q2
     rw[if_pos ((tl h0).2 q),decide_eq_false hne,I9 h0 hx hy hne,aE];simp only[Bool.not_false,Bool.true_and];congr 2
   · rw[aE] at q;have q:¬ Q.cntF U (c9 O U Z) (ia V J)=0:=by simpa using q
     rw[ar,aE] at q2;have he:x=y:=by
      have:(x:Int)=y:=by simpa using q2
      omega
     rw[if_pos ((tl h0).2 q),decide_eq_true he];rfl
 · unfold Mj;rw[if_neg he];refine bj (n:=n+5) Tryd.func33 rfl rfl rfl (S1 (n+5) O U Z V J H a b (nz O U Z V J a) (decide (0≤b∧b<U)) (fun A=>A=[a8 O U Z V J,.int .i64 b])) (bo _ _ (eA (eA (oR (bO (aN _) h51) (fun A H hA=>by subst hA;exact h52 H))))) (aj _ _) (ak _ _) ?_;refine Tr.ai rfl (Tr.af (fun q=>Tr.ai rfl (Tr.ag ⟨?_,rfl⟩)) (fun q=>Tr.ai rfl (Tr.af (fun q2=>Tr.ag ⟨?_,rfl⟩) (fun q2=>?_))));all_goals rw[ar,aE] at q
   · have q:¬ nz O U Z V J a=0:=by simpa using q
     congr 3;unfold vi;unfold nz at q ⊢;by_cases h0:cu O U Z V J=0
     · rw[if_pos h0] at q ⊢;rw[if_pos h0];by_cases h1:a<0∨(U:Int)≤a
       · rw[if_pos h1,if_neg wO]
       · rw[if_neg h1] at q;exact absurd rfl q
     · rw[if_neg h0,if_neg h0]
   all_goals have q:nz O U Z V J a=0:=by simpa using q
   all_goals obtain ⟨h0,g0,g1⟩:=Iq q
   · rw[ar,Bool.not_eq_true',decide_eq_false_iff_not] at q2;unfold vi;rw[if_pos h0,if_neg (fun h=>q2 h.2)];rfl
   · rw[ar,Bool.not_eq_false',decide_eq_true_iff] at q2;exact absurd (by unfold vi;rw[if_pos h0,if_pos ⟨⟨g0,g1⟩,q2⟩]) he
def A1 (B:Nat→Bool):Nat→List Int
 | 0=>[]
 | j+1=>if B j=true then A1 B j++[(j:Int)] else A1 B j
theorem F3 (B:Nat→Bool):∀ j,(A1 B j).length≤j
 | 0=>Nat.le_refl 0
 | j+1=>by
   have:=F3 B j;unfold A1;split
   · rw[List.length_append,List.length_singleton];omega
   · omega
theorem J6 (B:Nat→Bool):∀ j,A1 B j=pA ((List.range j).filter B)
 | 0=>rfl
 | j+1=>by
   unfold A1;rw[J6 B j,List.range_succ,List.filter_append];unfold pA;rw[List.map_append];by_cases h:B j=true
   · rw[if_pos h,List.filter_cons_of_pos h];rfl
   · rw[if_neg h,List.filter_cons_of_neg h];simp
noncomputable def Bw:List Int→AV
 | []=>.nils
 | a::r=>.slc 0 1 r.length 0 1 (r.length+1) none
noncomputable def Bs:List Int→bG
 | []=>dz O U Z V J
 | a::r=>IH (PZ O U Z V J) r.length (r.length+1) (aI (a::r))
theorem UB:∀ b,(0,b) ∈ aP (bA Tryd.f31)→b=.loop (part Tryd.f31 [1,1,1,1,0,1,0,0]):=eN (by kernel_rfl)
theorem Sx (h0:cu O U Z V J=0) (c j:Nat) (hc:c<U) (hj:j<U) (L:List Int) (hL:L.length≤1000):∃ x,exec (bQ (n+3) 31 37) (part Tryd.f31 [1,1,1,1,0,1,0,0]) (oO (c:Int) (Bw L) (j:Int)) (Bs O U Z V J L::H)=some x∧x.1=.normal∧tidy 1 x.2.1 x.2.2=(oO (c:Int) (Bw (if qI U (fun c=>cZ J c V) (c9 O U Z) c j=true then L++[(j:Int)] else L)) ((j+1:Nat):Int),Bs O U Z V J (if qI U (fun c=>cZ J c V) (c9 O U Z) c j=true then L++[(j:Int)] else L)::H):=by
 obtain ⟨h1,h2,h3,h4,h5,h6⟩:=jM h0;have e1:bm .i64 (j:Int) (ofNat 1)=((j+1:Nat):Int):=eX wO;have hP:=Nat.two_pow_pos U;have hw:=GN h0 hc hj;have ht:(lW aF 72 (fun x=>some (x=[a8 O U Z V J,.int .i64 (Int.negSucc 0),.int .i64 (Int.negSucc 0),.int .i64 (c:Int),.int .i64 (j:Int)],cw (2 ^ U) (zW U (nY O U Z V J (Int.negSucc 0) (Int.negSucc 0) (c:Int) (j:Int)) 0) true))).Ok (cd (n+3)):=oR (aN _) (fun A H hA=>by
  subst hA;exact Qr n O U Z V J H _ _ _ _ h1 wO h3 h4)
 generalize zW U (nY O U Z V J (Int.negSucc 0) (Int.negSucc 0) (c:Int) (j:Int)) 0=w at *;generalize qI U (fun c=>cZ J c V) (c9 O U Z) c j=q at *;cases L with
 | nil =>
   have T:=SI (n+3) O U Z V J H (c:Int) (j:Int) (2 ^ U) w (fun x=>x=[a8 O U Z V J,.int .i64 (Int.negSucc 0),.int .i64 (Int.negSucc 0),.int .i64 (c:Int),.int .i64 (j:Int)]);rw[e1] at T;refine aB T (bo _ _ ht) (aj _ _) (ak _ _) ?_;clear T ht;generalize (2:Nat) ^ U=P at *;refine Tr.af (fun _=>Tr.ai rfl (Tr.aa wG (Tr.aa wG (Tr.af (fun q1=>?_) (fun q1=>Tr.ag ?_))))) wJ;all_goals rw[bx] at q1
   · have q1:0<w 0:=by simpa using q1
     rw[hw.1 q1,if_pos rfl];exact Tr.aa wG (Tr.aa wG (Tr.aa wG (Tr.ag ⟨rfl,rfl⟩)))
   · have q1:¬ 0<w 0:=by simpa using q1
     rw[if_neg (fun h=>q1 (hw.2 h))];exact ⟨rfl,rfl⟩
 | cons a r =>
   simp only[List.length_cons] at hL;have e2:=mS (a::r) (j:Int);simp only[List.length_cons] at e2;have e3:au (r.length+1) 1=r.length+1+1:=by rw[aM]
   have T:=SJ (n+3) O U Z V J H (c:Int) (j:Int) (2 ^ U) w (fun x=>x=[a8 O U Z V J,.int .i64 (Int.negSucc 0),.int .i64 (Int.negSucc 0),.int .i64 (c:Int),.int .i64 (j:Int)]) r.length (r.length+1) (aI (a::r));rw[e1,e3,e2] at T;refine aB T (bo _ _ ht) (aj _ _) (ak _ _) ?_;clear T ht;generalize (2:Nat) ^ U=P at *;refine Tr.af (fun _=>Tr.ai rfl (Tr.aa wG (Tr.aa wG (Tr.af (fun q1=>?_) (fun q1=>Tr.ag ?_))))) wJ;all_goals rw[bx] at q1
   · have q1:0<w 0:=by simpa using q1
     rw[hw.1 q1,if_pos rfl];have er:(r++[(j:Int)]).length=r.length+1:=by rw[List.length_append,List.length_singleton]
     have ev:Bw (a::r++[(j:Int)])=.slc 0 1 (r.length+1) 0 1 (r.length+1+1) none:=by show AV.slc 0 1 (r++[(j:Int)]).length 0 1 ((r++[(j:Int)]).length+1) none=_;rw[er]
     have el:Bs O U Z V J (a::r++[(j:Int)])=IH (PZ O U Z V J) (r.length+1) (r.length+1+1) (aI (a::r++[(j:Int)])):=by show IH _ (r++[(j:Int)]).length ((r++[(j:Int)]).length+1) (aI (a::(r++[(j:Int)])))=_;rw[er];rfl
     rw[ev,el];generalize aI (a::r++[(j:Int)])=Y at *;exact Tr.aa wG (Tr.aa wG (Tr.aa wG (Tr.aa wG (Tr.aa wG (Tr.ag ⟨rfl,rfl⟩)))))
   · have q1:¬ 0<w 0:=by simpa using q1
     rw[if_neg (fun h=>q1 (hw.2 h))];exact ⟨rfl,rfl⟩
theorem WH (h0:cu O U Z V J=0) (c:Nat) (hc:c<U):exec (bQ (n+3) 31 37) (.block 0 (.loop (part Tryd.f31 [1,1,1,1,0,1,0,0]))) (oO (c:Int) .nils (ofNat 0)) (dz O U Z V J::H)=some (.normal,oO (c:Int) (Bw (A1 (qI U (fun c=>cZ J c V) (c9 O U Z) c) U)) (ofNat U)++[(22,.bool false)],Bs O U Z V J (A1 (qI U (fun c=>cZ J c V) (c9 O U Z) c) U)::H):=by
 have hl:=(jM h0).1;refine ig (n:=n+3) (f:=31) (nt:=37) (c:=part Tryd.f31 [1,1,1,1,0,1,0,0]) 0 (fun j=>oO (c:Int) (Bw (A1 (qI U (fun c=>cZ J c V) (c9 O U Z) c) j)) (j:Int)) (fun j=>Bs O U Z V J (A1 (qI U (fun c=>cZ J c V) (c9 O U Z) c) j)::H) U (oO (c:Int) (Bw (A1 (qI U (fun c=>cZ J c V) (c9 O U Z) c) U)) (ofNat U)++[(22,.bool false)],Bs O U Z V J (A1 (qI U (fun c=>cZ J c V) (c9 O U Z) c) U)::H) wO (fun j hj=>?_) ?_
 · exact Sx n O U Z V J H h0 c j hc hj (A1 (qI U (fun c=>cZ J c V) (c9 O U Z) c) j) (by have:=F3 (qI U (fun c=>cZ J c V) (c9 O U Z) c) j;omega)
 · generalize A1 (qI U (fun c=>cZ J c V) (c9 O U Z) c) U=L;cases L with
   | nil =>
     obtain ⟨x,h1,rfl⟩:=aB (Q:=fun x=>x=(.exit 0,oO (c:Int) .nils (ofNat U)++[(22,.bool false)],dz O U Z V J::H)) (Pd (n+3) O U Z V J H (c:Int) (ofNat U)) (ay _) (aj _ _) (ak _ _) (by
      refine Tr.af wJ (fun h0=>Tr.ag rfl))
     exact h1
   | cons a r =>
     obtain ⟨x,h1,rfl⟩:=aB (Q:=fun x=>x=(.exit 0,oO (c:Int) (.slc 0 1 r.length 0 1 (r.length+1) none) (ofNat U)++[(22,.bool false)],IH (PZ O U Z V J) r.length (r.length+1) (aI (a::r))::H)) (Pe (n+3) O U Z V J H (c:Int) (ofNat U) r.length (r.length+1) (aI (a::r))) (ay _) (aj _ _) (ak _ _) (by
      refine Tr.af wJ (fun h0=>Tr.ag rfl))
     exact h1
theorem Jd (h0:cu O U Z V J=0) (ho:EN O U Z V J=none) {c:Nat} (hc:c<U):EO O U Z V J c≠[]:=fun h=>by
 obtain ⟨h1,h2,h3,h4,h5,h6⟩:=jM h0;have hS:=zn O U Z V J h1.2 h3 h4 h5 h6;obtain ⟨R,hR⟩:=(r4 hS uh).1 ho;have:=(GM (k:=R.idxOf c) hS uh hc).2 ⟨R,hR,rfl⟩;unfold EO at h;rw[h] at this;cases this
theorem UQ (c:Int) (hl:U≤1000) (hb:V≤1000):cd (n+6) (.fn 31) [a8 O U Z V J,.int .i64 c] H=some (Mx O U Z V J c,H):=by
 have h51:=fun H=>Ul n O U Z V J H c hl hb;unfold Mx;by_cases he:nz O U Z V J c=0
 · rw [if_pos he];obtain ⟨h0,hc0,hc1⟩:=Iq he;obtain ⟨c,rfl⟩:∃ x:Nat,c=(x:Int):=⟨c.toNat,by omega⟩
   have hc:c<U:=by omega
   rw[he] at h51;rw[Int.toNat_natCast];have h66:=fun H=>Qk (n+1) O U Z V J H h0;have lp:=WH (n+2) O U Z V J H h0 c hc;have eg:A1 (qI U (fun c=>cZ J c V) (c9 O U Z) c) U=pA (EO O U Z V J c):=J6 _ U;rw[eg] at lp;by_cases ho:EN O U Z V J=none
   · rw [if_pos ho];have hq:=(tl h0).1 ho;have hne:=Jd O U Z V J h0 ho hc;generalize EO O U Z V J c=L at *;generalize Q.cntF U (c9 O U Z) (ia V J)=m at *;cases L with
     | nil=>exact absurd rfl hne
     | cons a r =>
       have er:(pA r).length=r.length:=by unfold pA;rw[List.length_map]
       have T:=SV (n+5) O U Z V J H (c:Int) (ofNat 0) m r.length (r.length+1) (aI (pA (a::r)));rw[jm] at T;refine bj (n:=n+5) Tryd.func31 rfl rfl rfl T (bo _ _ (bO (bO (aN _) h51) h66)) (aZ (aj _ _) UB (fun x hx=>dL hx (by
        simp only[eB.st,aL];have e1:Bw (pA (a::r))=.slc 0 1 r.length 0 1 (r.length+1) none:=by show AV.slc 0 1 (pA r).length 0 1 ((pA r).length+1) none=_;rw[er]
        have e2:Bs O U Z V J (pA (a::r))=IH (PZ O U Z V J) r.length (r.length+1) (aI (pA (a::r))):=by show IH _ (pA r).length ((pA r).length+1) _=_;rw[er];rfl
        rw[e1,e2] at lp;exact lp))) (ak _ _) ?_
       clear T lp;refine Tr.ai rfl (Tr.af (fun q=>by simp[ar,aE] at q) (fun _=>Tr.ai rfl (Tr.af (fun q=>?_) (fun _=>Tr.ai ⟨rfl,rfl⟩ (Tr.aa wG (Tr.aa wG (Tr.ag ⟨rfl,rfl⟩)))))));rw[aE] at q;exact absurd (by simpa using q) hq
   · rw[if_neg ho];have hq:Q.cntF U (c9 O U Z) (ia V J)=0:=by
      by_cases q:Q.cntF U (c9 O U Z) (ia V J)=0
      · exact q
      · exact absurd ((tl h0).2 q) ho
     rw[hq] at h66;refine bj (n:=n+5) Tryd.func31 rfl rfl rfl (SX (n+5) O U Z V J H (c:Int)) (bo _ _ (bO (bO (aN _) h51) h66)) (cY (aj _ _) 0) (ak _ _) ?_;exact Tr.ai rfl (Tr.af (fun q=>by simp[ar,aE] at q) (fun _=>Tr.ai rfl (Tr.af (fun _=>Tr.ag ⟨rfl,rfl⟩) (fun q=>by simp[aE] at q))))
 · rw[if_neg he];refine bj (n:=n+5) Tryd.func31 rfl rfl rfl (SW (n+5) O U Z V J H c (nz O U Z V J c)) (bo _ _ (eA (bO (aN _) h51))) (cY (aj _ _) 0) (ak _ _) ?_;refine Tr.ai rfl (Tr.af (fun _=>Tr.ai rfl (Tr.ag ⟨rfl,rfl⟩)) (fun q=>?_));rw[ar,aE] at q;exact absurd (by simpa using q) he
end
end Go.Eng
end
section
namespace Go.Eng
open Go.Proofs Go.Eng.Gall
noncomputable def DX (m:Nat) (y:Nat→Int) (k:Nat) (z:Nat→Int) (j:Int):aC:=[(0,cw m y false),(1,cw k z false),(5,.int .i64 j)]
theorem t36 (n m:Nat) (y:Nat→Int) (k:Nat) (z:Nat→Int) (j:Int) (G:ab):aS (bQ n 36 26) (il aF n 0) aR aQ (part Tryd.f36 [1,1,0,1,0,0]) (hints (DX m y k z j)) (av::G) =
 Tr.ite (bM j (Int.ofNat m)) (Tr.req (c6 j m) (Tr.req (cK (aw 0 j 1) m) (Tr.req (c6 j k) (Tr.req (cK (aw 0 j 1) k) (Tr.ite (bF (b9 (y (aw 0 j 1)) (z (aw 0 j 1)))) (Tr.ok (Ex.ret,[(4,AV.bool false,some 1)],av::G)) (Tr.ok (Ex.normal,[(0,cw m y false,none),(1,cw k z false,none),(5,AV.int .i64 (bm .i64 j (Int.ofNat 1)),none)],av::G))))))) (Tr.ok (Ex.exit 0,[(0,cw m y false,none),(1,cw k z false,none),(5,AV.int .i64 j,none),(14,AV.bool false,some 1)],av::G)):=by kernel_rfl
theorem Xn (n m:Nat) (y:Nat→Int) (k:Nat) (z:Nat→Int) (G:ab) (q:Bool):bg Tryd.prog (cd n) 100000 36 Tryd.f36 (KtG.kt 36) (il aF n 0) (cV aR 0 (DX m y k z (Int.ofNat 0)) (av::G) (.ite q (.ok (.ret,[(4,.bool false,none)],av::G)) (.ok (.normal,hints (DX m y k z (Int.ofNat m)++[(14,.bool false)]),av::G)))) aQ [(cw m y false,none),(cw k z false,none)] G =
 Tr.ite (bF (b9 (Int.ofNat m) (Int.ofNat k))) (Tr.ok ((AV.bool false,some 1),G)) (Tr.reqP ([(0,cw m y false),(1,cw k z false),(5,iI 0)]=[(0,cw m y false),(1,cw k z false),(5,iI 0)]∧av::G=av::G) (Tr.ite q (Tr.ok ((AV.bool false,none),G)) (Tr.ok ((AV.bool true,some 1),G)))):=by kernel_rfl
theorem S5 (n m:Nat) (y:Nat→Int) (k:Nat) (z:Nat→Int) (G:ab):bg Tryd.prog (cd n) 100000 36 Tryd.f36 (KtG.kt 36) (il aF n 0) (gf aR 0) aQ [(cw m y false,none),(cw k z false,none)] G =
 Tr.ite (bF (b9 (Int.ofNat m) (Int.ofNat k))) (Tr.ok ((AV.bool false,some 1),G)) Tr.bad:=by kernel_rfl
theorem S4 (n:Nat) (G:ab):bg Tryd.prog (cd n) 100000 36 Tryd.f36 (KtG.kt 36) (il aF n 0) aR aQ [(.nils,none),(.nils,none)] G =
 Tr.ok ((AV.bool true,some 1),G):=by kernel_rfl
end Go.Eng
end
section
namespace Go.Eng
open Go.Proofs Go.Eng.Gall
theorem UC:∀ b,(0,b) ∈ aP (bA Tryd.f36)→b=.loop (part Tryd.f36 [1,1,0,1,0,0]):=eN (by kernel_rfl)
section
variable (n m:Nat) (y:Nat→Int) (k:Nat) (z:Nat→Int) (H:ab)
theorem UW (hm:m≤1000):cd (n+1) (.fn 36) [cw m y false,cw k z false] H=some (.bool (decide (m=k) && !eH (fun j=>!decide (y j=z j)) m),H):=by
 by_cases hk:m=k
 · subst hk;rw[decide_eq_true rfl,Bool.true_and];have lp:=kb (n:=n) (f:=36) (nt:=26) (c:=part Tryd.f36 [1,1,0,1,0,0]) 0 (fun j=>DX m y m z (j:Int)) (fun _=>av::H) m (fun j=>!decide (y j=z j)) (fun _=>([(4,.bool false)],av::H)) (DX m y m z (Int.ofNat m)++[(14,.bool false)],av::H) wO (fun j hj=>?_) ?_
   · refine bj (n:=n) Tryd.func36 rfl rfl rfl (Xn n m y m z H (eH (fun j=>!decide (y j=z j)) m)) (ay n) (aZ (aj _ _) UC (fun x hx=>eO hx lp)) (ak _ _) ?_;refine Tr.af (fun q=>by simp[ar,aE] at q) (fun _=>Tr.ai ⟨rfl,rfl⟩ (Tr.af (fun hc=>Tr.ag ⟨by rw[hc];rfl,rfl⟩) (fun hc=>Tr.ag ⟨by rw[hc];rfl,rfl⟩)))
   · have T:=t36 n m y m z (j:Int) H;rw[yf,eX wO] at T;refine aB T (ay n) (aj _ _) (ak _ _) ?_;refine Tr.af (fun _=>?_) wJ;refine Tr.aa wG (Tr.aa wG (Tr.aa wG (Tr.aa wG (Tr.af (fun q=>Tr.ag ?_) (fun q=>Tr.ag ?_)))));all_goals rw[ar,aE] at q
     · rw[if_pos (by rw[← q];rfl)];rfl
     · have q:y j=z j:=by simpa using q
       rw[if_neg (by rw[decide_eq_true q];decide)];exact ⟨rfl,rfl⟩
   · obtain ⟨x,h1,rfl⟩:=aB (Q:=fun x=>x=(.exit 0,DX m y m z (Int.ofNat m)++[(14,.bool false)],av::H)) (t36 n m y m z (Int.ofNat m) H) (ay n) (aj _ _) (ak _ _) (by
      refine Tr.af wJ (fun h0=>Tr.ag rfl))
     exact h1
 · rw[decide_eq_false hk,Bool.false_and];refine bj (n:=n) Tryd.func36 rfl rfl rfl (S5 n m y k z H) (ay n) (cY (aj _ _) 0) (ak _ _) ?_;refine Tr.af (fun _=>Tr.ag ⟨rfl,rfl⟩) (fun q=>?_);rw[ar,aE] at q;have q:(m:Int)=k:=by simpa using q
   omega
theorem Qe (hm:m≤1000):cd (n+1) (.fn 36) [cw m y false,cw m y false] H=some (.bool true,H):=by
 rw[UW n m y m y H hm,decide_eq_true rfl,FM (fun j _=>by simp)];rfl
theorem Qd:cd (n+1) (.fn 36) [.nils,.nils] H=some (.bool true,H):=by
 refine bj (n:=n) Tryd.func36 rfl rfl rfl (S4 n H) (ay n) (aj _ _) (ak _ _) ?_;exact Tr.ag ⟨rfl,rfl⟩
end
end Go.Eng
end
