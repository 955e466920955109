/- Gall: the law of one more pair: what it makes, its rounds. -/
import Derived.Test.YtgphpjdchnfjlaaDoorV6Gdgx6
import Derived.Test.YtgphpjdchnfjlaaDoorV6Gp2x6
import Derived.Test.YtgphpjdchnfjlaaDoorRows
import Derived.Test.YtgphpjdchnfjlaaDoorChecked
import Derived.Test.YtgphpjdchnfjlaaDoorTie
import Derived.Test.YtgphpjdchnfjlaaDoorCards
import Derived.ProofKit
import Derived.Lib.LaidIn
import Derived.Lib.LaidTab
import Derived.FnData
import Derived.Handed
import Derived.SevenTiedAt
import Derived.Test.YtgphpjdchnfjlaaDoorV6GaKx6
set_option linter.unusedVariables false
set_option linter.unusedSimpArgs false
set_option maxRecDepth 100000
section
namespace Go.Eng
open Int (ofNat)
open Go.Proofs Go.Eng.Gall
noncomputable def xO (z:Nat→Int) (a b:Nat) (x y:Int):Nat→Int:=iO (cu (cu (bJ (ar []) 0 z) a (fY (bJ (ar []) 0 z b) (bh .i64 (bJ (ar []) 0 z a) x))) b (mL (cu (bJ (ar []) 0 z) a (fY (bJ (ar []) 0 z b) (bh .i64 (bJ (ar []) 0 z a) x)) a) (cq .i64 (cu (bJ (ar []) 0 z) a (fY (bJ (ar []) 0 z b) (bh .i64 (bJ (ar []) 0 z a) x)) b) y))) 0
theorem Ht {z:Nat→Int} {a b:Nat} {x y:Int} (hab:a≠b) (h:0≤z a∧z a≤z b∧z b≤1000) (hx:0≤x∧x≤65535) (hy:0≤y∧y≤65535):∃ lo hi,z a≤lo∧hi≤z b∧∀ i,xO z a b x y i=if i=b then hi else if i=a then lo else z i:=by
 have e:bJ (ar []) 0 z=z:=by rw[wm];funext i;simp
 unfold xO;rw[e,fj];have hba:¬ b=a:=Ne.symm hab;simp only[iP,hba,if_true,if_false];rw[Lm wO wO,MO wO wO,pF,pE];refine ⟨if z a+x<z b then z a+x else z b,_,?_,?_,fun i=>rfl⟩
 · split<;>omega
 · split<;>split at *<;>omega
section
variable {O:Int} {U:Nat} {Z:Nat→Int} {V:Nat} {J:Nat→Int} {k:Nat} {x y:Int}
theorem OR (hv:uN U Z) (hk:k<U) (hx:0≤x∧x≤65535) (hy:0≤y∧y≤65535) (c:Nat) (hc:c<U):Z (c*4)≤xO Z (k*4) (k*4+1) x y (c*4)∧xO Z (k*4) (k*4+1) x y (c*4+1)≤Z (c*4+1)∧xO Z (k*4) (k*4+1) x y (c*4+2)≤Z (c*4+2)∧Z (c*4+3)≤xO Z (k*4) (k*4+1) x y (c*4+3):=by
 obtain ⟨v1,v2,v3,v4,v5,v6⟩:=JO hv hk;obtain ⟨lo,hi,h1,h2,e⟩:=Ht (z:=Z) (a:=k*4) (b:=k*4+1) wO ⟨v1,v2,v3⟩ hx hy;rw[e,e,e,e];by_cases q:c=k
 · subst q;rw[if_neg wO,if_pos rfl,if_pos rfl,if_neg wO,if_neg wO,if_neg wO,if_neg wO];omega
 · rw[if_neg wO,if_neg wO,if_neg wO,if_neg wO,if_neg wO,if_neg wO,if_neg wO,if_neg wO];omega
theorem Ob (hv:uN U Z) (hk:k<U) (hx:0≤x∧x≤65535) (hy:0≤y∧y≤65535) (c:Nat) (hc:c<U):xO Z (k*4+2) (k*4+3) x y (c*4)≤Z (c*4)∧Z (c*4+1)≤xO Z (k*4+2) (k*4+3) x y (c*4+1)∧Z (c*4+2)≤xO Z (k*4+2) (k*4+3) x y (c*4+2)∧xO Z (k*4+2) (k*4+3) x y (c*4+3)≤Z (c*4+3):=by
 obtain ⟨v1,v2,v3,v4,v5,v6⟩:=JO hv hk;obtain ⟨lo,hi,h1,h2,e⟩:=Ht (z:=Z) (a:=k*4+2) (b:=k*4+3) wO ⟨v4,v5,v6⟩ hx hy;rw[e,e,e,e];by_cases q:c=k
 · subst q;rw[if_neg wO,if_neg wO,if_neg wO,if_neg wO,if_neg wO,if_pos rfl,if_pos rfl];omega
 · rw[if_neg wO,if_neg wO,if_neg wO,if_neg wO,if_neg wO,if_neg wO,if_neg wO,if_neg wO];omega
end
section
variable (O:Int) (U:Nat) (Z:Nat→Int) (V:Nat) (J:Nat→Int)
def HF (X:Nat→Int) (mb:Nat) (Y:Nat→Int):Prop:=(∀ a c,c<U→(gf J c V).testBit a=true→(gf Y c mb).testBit a=true)∧∀ c,c<U→ev O U Z (2*c)≤ev O U X (2*c)∧ev O U X (2*c+1)≤ev O U Z (2*c+1)
variable {O U Z V J} {X:Nat→Int} {mb:Nat} {Y:Nat→Int}
theorem qu (h0:cr O U Z V J=0) (hx:cr O U X mb Y=0) (h:HF O U Z V J X mb Y):Q.cntF U (ev O U X) (gH mb Y)≤Q.cntF U (ev O U Z) (gH V J):=by
 obtain ⟨h1,h2,h3,h4,h5,h6⟩:=mh h0;obtain ⟨g1,g2,g3,g4,g5,g6⟩:=mh hx;exact Fz h1.2 (fun c _=>kR Y c U mb fun i hi=>(g5 i hi).1) (fun c _=>kR J c U V fun i hi=>(h5 i hi).1) h.1 h.2
theorem Gl (h0:cr O U Z V J=0) (hx:cr O U X mb Y=0) (ho:I5 O U X mb Y=none) (h:HF O U Z V J X mb Y):LH U (ev O U Z) V J U (ar (kD (uV O U X mb Y)))=0:=by
 obtain ⟨h1,h2,h3,h4,h5,h6⟩:=mh h0;obtain ⟨g1,g2,g3,g4,g5,g6⟩:=mh hx;refine Pa h0 (Dn h1.2 (fun c _=>kR Y c U mb fun i hi=>(g5 i hi).1) (fun c _=>kR J c U V fun i hi=>(h5 i hi).1) h.1 h.2 (FU (Pb O U X mb Y g1.2 g3 g4 g5 g6) Hv ?_));show (I5 O U X mb Y).isNone=true;rw[ho];rfl
end
section
variable (n:Nat) (O:Int) (U:Nat) (X:Nat→Int) (mb:Nat) (Y:Nat→Int)
theorem Ns (hl:U≤1000) (hb:mb≤1000) (P:Prop) (hP:P→cr O U X mb Y=0) (m:Int) (hm:P→Q.cntF U (ev O U X) (gH mb Y)=m) (a38:AV) (ha:P→Ja O U X mb Y=a38) (q:Nat):(iz (iz (tV (iz aM 15 F2) 23 (fun x=>x=[bX O U X mb Y]) (fun x=>.int .i64 (eG x))) 34 (fun x=>some (P∧x=[bX O U X mb Y],.tup [.int .i64 m,.int .i64 (ofNat 0)]))) 38 (fun x=>some (P∧x=[bX O U X mb Y],a38))).Ok (cd (n+16+q)):=by
 refine po (po (Hn (PW (c:=n+16+q) wO (bo _)) (fun A H hA=>?_)) (fun A H hA=>?_)) (fun A H hA=>?_)
 · obtain rfl:=hA;rw[show n+16+q=n+13+q+3 by omega];exact PV (n+13+q) O U X mb Y H hl hb
 · obtain ⟨p,rfl⟩:=hA;have:=Qh (n+1+q) O U X mb Y H hl hb;unfold N1 at this;rw[if_pos (hP p),hm p] at this;rw[show n+16+q=n+1+q+15 by omega];exact this
 · obtain ⟨p,rfl⟩:=hA;have:=Us (n+1+q) O U X mb Y H hb (hP p);rw[ha p] at this;rw[show n+16+q=n+1+q+15 by omega];exact this
end
section
variable (n:Nat) (O:Int) (U:Nat) (Z:Nat→Int) (V:Nat) (J:Nat→Int) (H:aa) (p0 p1 w0 w1 w2 w3:Int) (v mb:Nat) (Y Xt Xv:Nat→Int)
noncomputable def q8:Int:=Q.cntF U (ev O U Z) (gH V J)
theorem WM (h0:cr O U Z V J=0) (hmb:mb≤1000) (hle:cr O U Z mb Y=0→HF O U Z V J Z mb Y):∃ x,exec (bP (n+18) 8 199) (part Tryd.f8 [1,1,1,1,1,1,1,1,1,1,1,1,1,1,1,1,0,1,0,0]) (D4 (q8 O U Z V J) (ofNat 0)) (eV O U Z V J p0 p1 w0 w1 w2 w3 v mb Y Xt Xv::H)=some x∧(x.1=.normal∧tidy (aX (eV O U Z V J p0 p1 w0 w1 w2 w3 v mb Y Xt Xv::H)) x.2.1 x.2.2=(D4 (q8 O U Z V J) (ofNat 1),eV O U Z V J p0 p1 w0 w1 w2 w3 v mb Y Xt Xv::H)):=by
 obtain ⟨k1,k2,k3,k4,k5,k6⟩:=mh h0;by_cases hX:cr O U Z mb Y=0∧I5 O U Z mb Y=none
 · obtain ⟨h,ho⟩:=hX;have T:=SE (n+16) O U Z V J H p0 p1 w0 w1 w2 w3 (q8 O U Z V J) v mb Y Xt Xv (Q.cntF U (ev O U Z) (gH mb Y)) (fun x=>x=[bX O U Z mb Y]) (fun x=>True∧x=[bX O U Z mb Y]) (fun x=>True∧x=[bX O U Z mb Y]) (fun x=>x=[bX O U Z V J,bk U (ar (kD (uV O U Z mb Y))) false]) eG (ar (kD (uV O U Z mb Y)));have hm:(Q.cntF U (ev O U Z) (gH mb Y))≤(q8 O U Z V J):=qu h0 h (hle h);have tb:=fun q=>Ns n O U Z mb Y wO wO True (fun _=>h) _ (fun _=>rfl) (.tup [bk U (ar (kD (uV O U Z mb Y))) false,.int .i64 (ofNat 0)]) (fun _=>by unfold Ja;rw[if_pos ho];rfl) q;have hr:=Gl h0 h ho (hle h);refine kY T (gU _ (n+16) 2 (fun q=>po (tb q) (fun A H hA=>by
    obtain rfl:=hA;have:=TW (n+1+q) O U Z V J U (ar (kD (uV O U Z mb Y))) H wO h0 wO;rw[hr] at this;rw[show n+16+q=n+1+q+15 by omega];exact this))) (aj _ _) (ak _ _) ?_
   clear T tb hr;generalize Q.cntF U (ev O U Z) (gH mb Y)=m at *;generalize (q8 O U Z V J)=q at *;generalize ar (kD (uV O U Z mb Y))=o at *;repeat' first
    | (refine Tr.af (fun hc=>?_) (fun hc=>?_)<;>(try simp (disch:=omega) only[nV,nW] at hc)<;>(try (exfalso;omega)))
    | (refine Tr.ae ?_ ?_;· ((try simp (disch:=omega) only[nV,nW]);try omega))
    | (refine Tr.an ?_ ?_;· first | exact trivial | rfl | exact ⟨trivial,rfl⟩ | exact ⟨by assumption,rfl⟩)
    | fail
   all_goals first
    | exact Tr.ai ⟨rfl,rfl⟩
    | fail
 · obtain ⟨m,hmd⟩:∃ m:Int,(if cr O U Z mb Y=0 then Q.cntF U (ev O U Z) (gH mb Y) else (q8 O U Z V J))=m:=⟨_,rfl⟩
   have hm:m≤(q8 O U Z V J):=by
    rw[← hmd];by_cases h:cr O U Z mb Y=0
    · rw[if_pos h];exact qu h0 h (hle h)
    · rw[if_neg h];exact Int.le_refl _
   have T:=SD (n+16) O U Z V J H p0 p1 w0 w1 w2 w3 (q8 O U Z V J) v mb Y Xt Xv m (fun x=>x=[bX O U Z mb Y]) (fun x=>cr O U Z mb Y=0∧x=[bX O U Z mb Y]) (fun x=>cr O U Z mb Y=0∧x=[bX O U Z mb Y]) (fun x=>False) eG;have tb:=fun q=>Ns n O U Z mb Y wO wO (cr O U Z mb Y=0) (fun h=>h) m (fun h=>by rw[← hmd,if_pos h]) (.tup [.nils,.int .i64 (ofNat 13)]) (fun h=>by unfold Ja;rw[if_neg (fun ho=>hX ⟨h,ho⟩)];rfl) q;refine kY T (gU _ (n+16) 2 tb) (aj _ _) (ak _ _) ?_;clear T tb hmd;generalize (q8 O U Z V J)=q at *;repeat' first
    | (refine Tr.af (fun hc=>?_) (fun hc=>?_)<;>(try simp (disch:=omega) only[nV,nW] at hc)<;>(try (exfalso;omega)))
    | (refine Tr.ae ?_ ?_;· ((try simp (disch:=omega) only[nV,nW]);try omega))
    | (refine Tr.an ?_ ?_;· first | exact trivial | rfl | exact ⟨trivial,rfl⟩ | exact ⟨by assumption,rfl⟩)
    | fail
   all_goals first
    | exact Tr.ai ⟨rfl,rfl⟩
    | fail
theorem WN (h0:cr O U Z V J=0) (hle:cr O U Xt V J=0→HF O U Xt V J Z V J):∃ x,exec (bP (n+18) 8 199) (part Tryd.f8 [1,1,1,1,1,1,1,1,1,1,1,1,1,1,1,1,0,1,0,0]) (D4 (q8 O U Z V J) (ofNat 1)) (eV O U Z V J p0 p1 w0 w1 w2 w3 v mb Y Xt Xv::H)=some x∧(x.1=.normal∧tidy (aX (eV O U Z V J p0 p1 w0 w1 w2 w3 v mb Y Xt Xv::H)) x.2.1 x.2.2=(D4 (q8 O U Z V J) (ofNat 2),eV O U Z V J p0 p1 w0 w1 w2 w3 v mb Y Xt Xv::H)):=by
 obtain ⟨k1,k2,k3,k4,k5,k6⟩:=mh h0;by_cases hX:cr O U Xt V J=0∧I5 O U Xt V J=none
 · obtain ⟨h,ho⟩:=hX;have T:=SG (n+16) O U Z V J H p0 p1 w0 w1 w2 w3 (q8 O U Z V J) v mb Y Xt Xv (Q.cntF U (ev O U Xt) (gH V J)) (fun x=>x=[bX O U Xt V J]) (fun x=>True∧x=[bX O U Xt V J]) (fun x=>True∧x=[bX O U Xt V J]) (fun x=>x=[bX O U Z V J,bk U (ar (kD (uV O U Xt V J))) false]) eG (ar (kD (uV O U Xt V J)));have hm:(q8 O U Z V J)≤(Q.cntF U (ev O U Xt) (gH V J)):=qu h h0 (hle h);have tb:=fun q=>Ns n O U Xt V J wO wO True (fun _=>h) _ (fun _=>rfl) (.tup [bk U (ar (kD (uV O U Xt V J))) false,.int .i64 (ofNat 0)]) (fun _=>by unfold Ja;rw[if_pos ho];rfl) q;refine kY T (gU _ (n+16) 2 tb) (aj _ _) (ak _ _) ?_;clear T tb;generalize Q.cntF U (ev O U Xt) (gH V J)=m at *;generalize (q8 O U Z V J)=q at *;generalize ar (kD (uV O U Xt V J))=o at *;repeat' first
    | (refine Tr.af (fun hc=>?_) (fun hc=>?_)<;>(try simp (disch:=omega) only[nV,nW] at hc)<;>(try (exfalso;omega)))
    | (refine Tr.ae ?_ ?_;· ((try simp (disch:=omega) only[nV,nW]);try omega))
    | (refine Tr.an ?_ ?_;· first | exact trivial | rfl | exact ⟨trivial,rfl⟩ | exact ⟨by assumption,rfl⟩)
    | fail
   all_goals first
    | exact Tr.ai ⟨rfl,rfl⟩
    | fail
 · obtain ⟨m,hmd⟩:∃ m:Int,(if cr O U Xt V J=0 then Q.cntF U (ev O U Xt) (gH V J) else (q8 O U Z V J))=m:=⟨_,rfl⟩
   have hm:(q8 O U Z V J)≤m:=by
    rw[← hmd];by_cases h:cr O U Xt V J=0
    · rw[if_pos h];exact qu h h0 (hle h)
    · rw[if_neg h];exact Int.le_refl _
   have T:=SF (n+16) O U Z V J H p0 p1 w0 w1 w2 w3 (q8 O U Z V J) v mb Y Xt Xv m (fun x=>x=[bX O U Xt V J]) (fun x=>cr O U Xt V J=0∧x=[bX O U Xt V J]) (fun x=>cr O U Xt V J=0∧x=[bX O U Xt V J]) (fun x=>False) eG;have tb:=fun q=>Ns n O U Xt V J wO wO (cr O U Xt V J=0) (fun h=>h) m (fun h=>by rw[← hmd,if_pos h]) (.tup [.nils,.int .i64 (ofNat 13)]) (fun h=>by unfold Ja;rw[if_neg (fun ho=>hX ⟨h,ho⟩)];rfl) q;refine kY T (gU _ (n+16) 2 tb) (aj _ _) (ak _ _) ?_;clear T tb hmd;generalize (q8 O U Z V J)=q at *;repeat' first
    | (refine Tr.af (fun hc=>?_) (fun hc=>?_)<;>(try simp (disch:=omega) only[nV,nW] at hc)<;>(try (exfalso;omega)))
    | (refine Tr.ae ?_ ?_;· ((try simp (disch:=omega) only[nV,nW]);try omega))
    | (refine Tr.an ?_ ?_;· first | exact trivial | rfl | exact ⟨trivial,rfl⟩ | exact ⟨by assumption,rfl⟩)
    | fail
   all_goals first
    | exact Tr.ai ⟨rfl,rfl⟩
    | fail
theorem WO (h0:cr O U Z V J=0) (hle:cr O U Xv V J=0→HF O U Z V J Xv V J):∃ x,exec (bP (n+18) 8 199) (part Tryd.f8 [1,1,1,1,1,1,1,1,1,1,1,1,1,1,1,1,0,1,0,0]) (D4 (q8 O U Z V J) (ofNat 2)) (eV O U Z V J p0 p1 w0 w1 w2 w3 v mb Y Xt Xv::H)=some x∧(x.1=.normal∧tidy (aX (eV O U Z V J p0 p1 w0 w1 w2 w3 v mb Y Xt Xv::H)) x.2.1 x.2.2=(D4 (q8 O U Z V J) (ofNat 3),eV O U Z V J p0 p1 w0 w1 w2 w3 v mb Y Xt Xv::H)):=by
 obtain ⟨k1,k2,k3,k4,k5,k6⟩:=mh h0;by_cases hX:cr O U Xv V J=0∧I5 O U Xv V J=none
 · obtain ⟨h,ho⟩:=hX;have T:=SI (n+16) O U Z V J H p0 p1 w0 w1 w2 w3 (q8 O U Z V J) v mb Y Xt Xv (Q.cntF U (ev O U Xv) (gH V J)) (fun x=>x=[bX O U Xv V J]) (fun x=>True∧x=[bX O U Xv V J]) (fun x=>True∧x=[bX O U Xv V J]) (fun x=>x=[bX O U Z V J,bk U (ar (kD (uV O U Xv V J))) false]) eG (ar (kD (uV O U Xv V J)));have hm:(Q.cntF U (ev O U Xv) (gH V J))≤(q8 O U Z V J):=qu h0 h (hle h);have tb:=fun q=>Ns n O U Xv V J wO wO True (fun _=>h) _ (fun _=>rfl) (.tup [bk U (ar (kD (uV O U Xv V J))) false,.int .i64 (ofNat 0)]) (fun _=>by unfold Ja;rw[if_pos ho];rfl) q;have hr:=Gl h0 h ho (hle h);refine kY T (gU _ (n+16) 2 (fun q=>po (tb q) (fun A H hA=>by
    obtain rfl:=hA;have:=TW (n+1+q) O U Z V J U (ar (kD (uV O U Xv V J))) H wO h0 wO;rw[hr] at this;rw[show n+16+q=n+1+q+15 by omega];exact this))) (aj _ _) (ak _ _) ?_
   clear T tb hr;generalize Q.cntF U (ev O U Xv) (gH V J)=m at *;generalize (q8 O U Z V J)=q at *;generalize ar (kD (uV O U Xv V J))=o at *;repeat' first
    | (refine Tr.af (fun hc=>?_) (fun hc=>?_)<;>(try simp (disch:=omega) only[nV,nW] at hc)<;>(try (exfalso;omega)))
    | (refine Tr.ae ?_ ?_;· ((try simp (disch:=omega) only[nV,nW]);try omega))
    | (refine Tr.an ?_ ?_;· first | exact trivial | rfl | exact ⟨trivial,rfl⟩ | exact ⟨by assumption,rfl⟩)
    | fail
   all_goals first
    | exact Tr.ai ⟨rfl,rfl⟩
    | fail
 · obtain ⟨m,hmd⟩:∃ m:Int,(if cr O U Xv V J=0 then Q.cntF U (ev O U Xv) (gH V J) else (q8 O U Z V J))=m:=⟨_,rfl⟩
   have hm:m≤(q8 O U Z V J):=by
    rw[← hmd];by_cases h:cr O U Xv V J=0
    · rw[if_pos h];exact qu h0 h (hle h)
    · rw[if_neg h];exact Int.le_refl _
   have T:=SH (n+16) O U Z V J H p0 p1 w0 w1 w2 w3 (q8 O U Z V J) v mb Y Xt Xv m (fun x=>x=[bX O U Xv V J]) (fun x=>cr O U Xv V J=0∧x=[bX O U Xv V J]) (fun x=>cr O U Xv V J=0∧x=[bX O U Xv V J]) (fun x=>False) eG;have tb:=fun q=>Ns n O U Xv V J wO wO (cr O U Xv V J=0) (fun h=>h) m (fun h=>by rw[← hmd,if_pos h]) (.tup [.nils,.int .i64 (ofNat 13)]) (fun h=>by unfold Ja;rw[if_neg (fun ho=>hX ⟨h,ho⟩)];rfl) q;refine kY T (gU _ (n+16) 2 tb) (aj _ _) (ak _ _) ?_;clear T tb hmd;generalize (q8 O U Z V J)=q at *;repeat' first
    | (refine Tr.af (fun hc=>?_) (fun hc=>?_)<;>(try simp (disch:=omega) only[nV,nW] at hc)<;>(try (exfalso;omega)))
    | (refine Tr.ae ?_ ?_;· ((try simp (disch:=omega) only[nV,nW]);try omega))
    | (refine Tr.an ?_ ?_;· first | exact trivial | rfl | exact ⟨trivial,rfl⟩ | exact ⟨by assumption,rfl⟩)
    | fail
   all_goals first
    | exact Tr.ai ⟨rfl,rfl⟩
    | fail
theorem l8 (h0:cr O U Z V J=0) (hmb:mb≤1000) (hx:cr O U Z mb Y=0→HF O U Z V J Z mb Y) (hy:cr O U Xt V J=0→HF O U Xt V J Z V J) (hz:cr O U Xv V J=0→HF O U Z V J Xv V J):exec (bP (n+18) 8 199) (.block 0 (.loop (part Tryd.f8 [1,1,1,1,1,1,1,1,1,1,1,1,1,1,1,1,0,1,0,0]))) (D4 (q8 O U Z V J) (ofNat 0)) (eV O U Z V J p0 p1 w0 w1 w2 w3 v mb Y Xt Xv::H)=some (.normal,D4 (q8 O U Z V J) (ofNat 3)++[(139,.bool false)],eV O U Z V J p0 p1 w0 w1 w2 w3 v mb Y Xt Xv::H):=by
 refine jY (n:=n+18) (f:=8) (nt:=199) (c:=part Tryd.f8 [1,1,1,1,1,1,1,1,1,1,1,1,1,1,1,1,0,1,0,0]) 0 (fun j=>D4 (q8 O U Z V J) (j:Int)) (fun _=>eV O U Z V J p0 p1 w0 w1 w2 w3 v mb Y Xt Xv::H) 3 (D4 (q8 O U Z V J) (ofNat 3)++[(139,.bool false)],eV O U Z V J p0 p1 w0 w1 w2 w3 v mb Y Xt Xv::H) wO (fun j hj=>?_) ?_
 · rcases (show j=0∨j=1∨j=2 by omega) with e | e | e<;>subst e
   · exact WM n O U Z V J H p0 p1 w0 w1 w2 w3 v mb Y Xt Xv h0 hmb hx
   · exact WN n O U Z V J H p0 p1 w0 w1 w2 w3 v mb Y Xt Xv h0 hy
   · exact WO n O U Z V J H p0 p1 w0 w1 w2 w3 v mb Y Xt Xv h0 hz
 · obtain ⟨x,h1,rfl⟩:=kY (Q:=fun x=>x=(.exit 0,D4 (q8 O U Z V J) (ofNat 3)++[(139,.bool false)],eV O U Z V J p0 p1 w0 w1 w2 w3 v mb Y Xt Xv::H)) (t83 (n+16) O U Z V J H p0 p1 w0 w1 w2 w3 (q8 O U Z V J) v mb Y Xt Xv) (iA (n+16) 2) (aj _ _) (ak _ _) (Tr.ai rfl);exact h1
theorem b8:∀ b,(0,b) ∈ aO (a7 Tryd.f8)→b=.loop (part Tryd.f8 [1,1,1,1,1,1,1,1,1,1,1,1,1,1,1,1,0,1,0,0]):=eP (by kernel_rfl)
end
end Go.Eng
end
section
namespace Go.Eng
open Go.Proofs Go.Eng.Gall
section
variable (O:Int) (M:Nat) (Z:Nat→Int) (J:Nat→Int) (n:Nat) (H:aa) (p0 p1 wh w0 w1 w2 w3:Int)
set_option maxHeartbeats 4000000 in
theorem Qk (h0:cr O (M+1) Z 0 J=0) (hwh:0≤wh∧wh≤255) (hw0:0≤w0∧w0≤65535) (hw1:0≤w1∧w1≤65535) (hw2:0≤w2∧w2≤65535) (hw3:0≤w3∧w3≤65535):cd (n+19) (.fn 8) [bX O (M+1) Z 0 J,.agg (.I .i64 [p0,p1]),.int .u8 wh,.agg (.I .u16 [w0,w1,w2,w3])] H=some (.bool true,H):=by
 obtain ⟨k1,k2,k3,k4,k5,k6⟩:=mh h0;obtain ⟨k,hk⟩:∃ k:Int,wh % ((M+1:Nat):Int)=k:=⟨_,rfl⟩
 have ek:ay .i64 (bm .i64 wh) (Int.ofNat (M+1))=k:=by
  rw[ka wO wO,pN,Int.tmod_eq_emod_of_nonneg hwh.1,← hk];rfl
 have hkb:0≤k∧k<((M+1:Nat):Int):=⟨by rw[← hk];exact Int.emod_nonneg _ wO,by rw[← hk];exact Int.emod_lt_of_pos _ wO⟩
 have ei:au 0 k 4=k.toNat*4:=by rw[bN,Nat.zero_add]
 have e1:ah (k.toNat*4) 1=k.toNat*4+1:=aF _ _;have e2:ah (k.toNat*4) 2=k.toNat*4+2:=aF _ _;have e3:ah (k.toNat*4) 3=k.toNat*4+3:=aF _ _;have e4:ah 0 (M+1)=M+1:=by rw[aF];omega
 have e5:ah 0 1=1:=by rw[aF]
 have x0:bm .i64 w0=w0:=ka wO wO;have x1:bm .i64 w1=w1:=ka wO wO;have x2:bm .i64 w2=w2:=ka wO wO;have x3:bm .i64 w3=w3:=ka wO wO;have hK:k.toNat<M+1:=by omega
 have hi:fB (M+1) 1 (iO (ar [p0,p1]) 0)→HF O (M+1) Z 0 J Z 1 (iO (ar [p0,p1]) 0):=fun hp=>⟨fun a c _ q=>Cb k5 hp wO (fun i hi=>absurd hi wO) a c q,fun c hc=>⟨Int.le_refl _,Int.le_refl _⟩⟩
 have lp:=l8 n O (M+1) Z 0 J H p0 p1 w0 w1 w2 w3 0 1 (iO (ar [p0,p1]) 0) (xO Z (k.toNat*4) (k.toNat*4+1) w0 w1) (xO Z (k.toNat*4+2) (k.toNat*4+3) w2 w3) h0 wO (fun h=>hi (mh h).2.2.2.2.1) (fun h=>⟨fun a c _ q=>q,fun c hc=>sd k3.1 (OR k4 hK hw0 hw1) c hc⟩) (fun h=>⟨fun a c _ q=>q,fun c hc=>sd k3.1 (Ob k4 hK hw2 hw3) c hc⟩);have T:=u8 (n+16) O (M+1) Z 0 J H p0 p1 wh w0 w1 w2 w3 (q8 O (M+1) Z 0 J) 0 1 (iO (ar [p0,p1]) 0) (xO Z (k.toNat*4) (k.toNat*4+1) w0 w1) (xO Z (k.toNat*4+2) (k.toNat*4+3) w2 w3) (fun x=>x=[bX O (M+1) Z 0 J]) (fun x=>x=[bX O (M+1) Z 0 J]) eG;rw[ek,ei,e1,e2,e3,e4,e5,x0,x1,x2,x3] at T;refine bU (n:=n+18) Tryd.func8 rfl rfl rfl T (gU _ (n+16) 2 (fun q=>po (Hn (PW (c:=n+16+q) wO (bo _)) (fun A H hA=>by
  obtain rfl:=hA;rw[show n+16+q=n+13+q+3 by omega];exact PV (n+13+q) O (M+1) Z 0 J H wO wO)) (fun A H hA=>by
  obtain rfl:=hA;have:=Qh (n+1+q) O (M+1) Z 0 J H wO wO;unfold N1 at this;rw[if_pos h0] at this;rw[show n+16+q=n+1+q+15 by omega];exact this))) (bf (aj _ _) b8 (fun x hx=>fp hx (by simp only[eD.st,aP];exact lp))) (ak _ _) ?_
 clear T lp hi;generalize q8 O (M+1) Z 0 J=q;obtain ⟨K,rfl⟩:∃ K:Nat,k=(K:Int):=⟨k.toNat,by omega⟩
 rw[Int.toNat_natCast] at *;repeat' first
  | (refine Tr.af (fun hc=>?_) (fun hc=>?_)<;>(try simp (disch:=omega) only[nV,nW] at hc)<;>(try (exfalso;omega)))
  | (refine Tr.ae ?_ ?_;· ((try simp (disch:=omega) only[nV,nW]);try omega))
  | (refine Tr.an ?_ ?_;· first | exact trivial | rfl | exact ⟨rfl,rfl⟩ | fail)
  | fail
 all_goals first
  | exact Tr.ai ⟨rfl,rfl⟩
  | fail
set_option maxHeartbeats 4000000 in
theorem Ql (u:Nat) (h0:cr O (M+1) Z (u+1) J=0) (hwh:0≤wh∧wh≤255) (hw0:0≤w0∧w0≤65535) (hw1:0≤w1∧w1≤65535) (hw2:0≤w2∧w2≤65535) (hw3:0≤w3∧w3≤65535):cd (n+19) (.fn 8) [bX O (M+1) Z (u+1) J,.agg (.I .i64 [p0,p1]),.int .u8 wh,.agg (.I .u16 [w0,w1,w2,w3])] H=some (.bool true,H):=by
 obtain ⟨k1,k2,k3,k4,k5,k6⟩:=mh h0;obtain ⟨k,hk⟩:∃ k:Int,wh % ((M+1:Nat):Int)=k:=⟨_,rfl⟩
 have ek:ay .i64 (bm .i64 wh) (Int.ofNat (M+1))=k:=by
  rw[ka wO wO,pN,Int.tmod_eq_emod_of_nonneg hwh.1,← hk];rfl
 have hkb:0≤k∧k<((M+1:Nat):Int):=⟨by rw[← hk];exact Int.emod_nonneg _ wO,by rw[← hk];exact Int.emod_lt_of_pos _ wO⟩
 have ei:au 0 k 4=k.toNat*4:=by rw[bN,Nat.zero_add]
 have e1:ah (k.toNat*4) 1=k.toNat*4+1:=aF _ _;have e2:ah (k.toNat*4) 2=k.toNat*4+2:=aF _ _;have e3:ah (k.toNat*4) 3=k.toNat*4+3:=aF _ _;have e4:ah 0 (M+1)=M+1:=by rw[aF];omega
 have e5:ah 0 (u+1)=u+1:=by rw[aF];omega
 have e6:ah (u+1) 1=u+1+1:=by rw[aF]
 have x0:bm .i64 w0=w0:=ka wO wO;have x1:bm .i64 w1=w1:=ka wO wO;have x2:bm .i64 w2=w2:=ka wO wO;have x3:bm .i64 w3=w3:=ka wO wO;have hK:k.toNat<M+1:=by omega
 have hi:fB (M+1) (u+1+1) (iO (bJ (iO (bJ (ar []) 0 J) 0) (aC (u+1) 2) (ar [p0,p1])) 0)→HF O (M+1) Z (u+1) J Z (u+1+1) (iO (bJ (iO (bJ (ar []) 0 J) 0) (aC (u+1) 2) (ar [p0,p1])) 0):=fun hp=>⟨fun a c _ q=>Cb k5 hp wO (fun i hi=>by
  rw[fj,wm,fj,wm,pH];dsimp only;rw[if_pos hi,if_neg wO];rfl) a c q,fun c hc=>⟨Int.le_refl _,Int.le_refl _⟩⟩
 have lp:=l8 n O (M+1) Z (u+1) J H p0 p1 w0 w1 w2 w3 1 (u+1+1) (iO (bJ (iO (bJ (ar []) 0 J) 0) (aC (u+1) 2) (ar [p0,p1])) 0) (xO Z (k.toNat*4) (k.toNat*4+1) w0 w1) (xO Z (k.toNat*4+2) (k.toNat*4+3) w2 w3) h0 wO (fun h=>hi (mh h).2.2.2.2.1) (fun h=>⟨fun a c _ q=>q,fun c hc=>sd k3.1 (OR k4 hK hw0 hw1) c hc⟩) (fun h=>⟨fun a c _ q=>q,fun c hc=>sd k3.1 (Ob k4 hK hw2 hw3) c hc⟩);have T:=u8 (n+16) O (M+1) Z (u+1) J H p0 p1 wh w0 w1 w2 w3 (q8 O (M+1) Z (u+1) J) 1 (u+1+1) (iO (bJ (iO (bJ (ar []) 0 J) 0) (aC (u+1) 2) (ar [p0,p1])) 0) (xO Z (k.toNat*4) (k.toNat*4+1) w0 w1) (xO Z (k.toNat*4+2) (k.toNat*4+3) w2 w3) (fun x=>x=[bX O (M+1) Z (u+1) J]) (fun x=>x=[bX O (M+1) Z (u+1) J]) eG;rw[ek,ei,e1,e2,e3,e4,e5,e6,x0,x1,x2,x3] at T;refine bU (n:=n+18) Tryd.func8 rfl rfl rfl T (gU _ (n+16) 2 (fun q=>po (Hn (PW (c:=n+16+q) wO (bo _)) (fun A H hA=>by
  obtain rfl:=hA;rw[show n+16+q=n+13+q+3 by omega];exact PV (n+13+q) O (M+1) Z (u+1) J H wO wO)) (fun A H hA=>by
  obtain rfl:=hA;have:=Qh (n+1+q) O (M+1) Z (u+1) J H wO wO;unfold N1 at this;rw[if_pos h0] at this;rw[show n+16+q=n+1+q+15 by omega];exact this))) (bf (aj _ _) b8 (fun x hx=>fp hx (by simp only[eD.st,aP];exact lp))) (ak _ _) ?_
 clear T lp hi;generalize q8 O (M+1) Z (u+1) J=q;obtain ⟨K,rfl⟩:∃ K:Nat,k=(K:Int):=⟨k.toNat,by omega⟩
 rw[Int.toNat_natCast] at *;repeat' first
  | (refine Tr.af (fun hc=>?_) (fun hc=>?_)<;>(try simp (disch:=omega) only[nV,nW] at hc)<;>(try (exfalso;omega)))
  | (refine Tr.ae ?_ ?_;· ((try simp (disch:=omega) only[nV,nW]);try omega))
  | (refine Tr.an ?_ ?_;· first | exact trivial | rfl | exact ⟨rfl,rfl⟩ | fail)
  | fail
 all_goals first
  | exact Tr.ai ⟨rfl,rfl⟩
  | fail
end
section
variable (O:Int) (U:Nat) (Z:Nat→Int) (V:Nat) (J:Nat→Int) (n:Nat) (H:aa) (p0 p1 wh w0 w1 w2 w3:Int)
theorem c8 (hwh:0≤wh∧wh≤255) (hw0:0≤w0∧w0≤65535) (hw1:0≤w1∧w1≤65535) (hw2:0≤w2∧w2≤65535) (hw3:0≤w3∧w3≤65535):cd (n+19) (.fn 8) [bX O U Z V J,.agg (.I .i64 [p0,p1]),.int .u8 wh,.agg (.I .u16 [w0,w1,w2,w3])] H=some (.bool true,H):=by
 by_cases h0:cr O U Z V J=0
 · obtain ⟨M,rfl⟩:∃ M,U=M+1:=⟨U-1,by have:=(mh h0).1.1;omega⟩
   cases V with
   | zero=>exact Qk O M Z J n H p0 p1 wh w0 w1 w2 w3 h0 hwh hw0 hw1 hw2 hw3
   | succ u=>exact Ql O M Z J n H p0 p1 wh w0 w1 w2 w3 u h0 hwh hw0 hw1 hw2 hw3
 · refine bU (n:=n+18) Tryd.func8 rfl rfl rfl (Xi (n+16) O U Z V J H p0 p1 wh w0 w1 w2 w3 (cr O U Z V J) (fun x=>x=[bX O U Z V J]∧U≤1000∧V≤1000)) (gU _ (n+16) 2 (fun q=>po (PW wO (bo _)) (fun A H hA=>by
    obtain ⟨rfl,q1,q2⟩:=hA;rw[show n+16+q=n+13+q+3 by omega];exact PV (n+13+q) O U Z V J H q1 q2))) (cY (aj _ _) 0) (ak _ _) ?_
   refine Tr.af (fun _=>Tr.an trivial (Tr.ai ⟨rfl,rfl⟩)) (fun r1=>Tr.af (fun r2=>Tr.an ⟨rfl,?_⟩ (Tr.af (fun _=>Tr.an trivial (Tr.ai ⟨rfl,rfl⟩)) (fun q=>?_))) (fun _=>Tr.an trivial (Tr.ai ⟨rfl,rfl⟩)))
   · simp (disch:=omega) only[nV,nW] at r1;simp (disch:=omega) only[nV,nW] at r2;omega
   · exfalso;rw[aW,bA] at q;have q:cr O U Z V J=0:=by simpa using q
     exact h0 q
end
end Go.Eng
end
section
namespace Go.Proofs.YtgphpjdchnfjlaaDoor
open Go.ChangeShapes Go.WideShapes Go.ChangeAt Go.RowKit
theorem Tryd.own:ownKnob Tryd.prog.godebug=none:=by kernel_rfl
def BR:List (String×DataW Unit):=[("math/bits.deBruijn32tab",Rows.laid_math_bits_deBruijn32tab),("math/bits.deBruijn64tab",Rows.laid_math_bits_deBruijn64tab)]
def t32:List Int:=Go.Lib.deBruijn32tab.map fun n:Nat=>(n:Int)
def t64:List Int:=Go.Lib.deBruijn64tab.map fun n:Nat=>(n:Int)
theorem PG:(Rows.laid_math_bits_deBruijn64tab:DataW Unit)=Lib.tabData .u8 t64:=by kernel_rfl
set_option maxRecDepth 100000 in
theorem F6 {W:World} (h:laidMetH Tryd.prog BR W):Eng.l9 W:=by
 have h':laidMet Tryd.prog BR W:=h;obtain ⟨ps,hv,_⟩:=h';obtain ⟨_,_,_,_,_,_,_,_,_,_,hv,_⟩:=hv;obtain ⟨g,t,cs,fuel,p,q,h1,h2,h3,h4,_⟩:=hv;obtain rfl:1=g:=Option.some.inj ((show Tryd.prog.globalNamed "math/bits.deBruijn64tab" = some 1 by kernel_rfl).symm.trans h1);obtain rfl:139=t:=Option.some.inj ((show (Tryd.prog.globals[1]?).map (·.type)=some 139 by kernel_rfl).symm.trans h2);rw[PG] at h4;have hcs:=Lib.cells_of_tab Tryd.underlying139 Tryd.underlying5 (by kernel_rfl) (by kernel_rfl) h4;intro b o v hg;unfold Eng.pq at hg;split at hg
 · rename_i hbo;obtain ⟨rfl,ho⟩:=hbo;simp only[Option.some.injEq] at hg;subst hg;rw[World.var?_cell h1 h3 o,← Array.getElem?_toList,hcs,List.getElem?_map];have hl:Go.Lib.deBruijn64tab.length=64:=by decide
   rw[t64,List.getElem?_map,List.getElem?_eq_getElem (by omega)];simp only[Option.map_some,List.getD_eq_getElem?_getD,List.getElem?_eq_getElem (show o<Go.Lib.deBruijn64tab.length by omega),Option.getD_some]
 · cases hg
noncomputable def qt (os:Os):World :=
 let w0:=World.holding Tryd.prog os ⟨#[],#[],[]⟩
 let put (h:Array Obj) (g:Nat) (cs:Array Value):Array Obj:=h.modify g fun
  | .cells _ t frozen=>.cells cs t frozen
  | o=>o
 { w0 with heap:=put (put w0.heap 0 (t32.map fun z=>Value.int .u8 z).toArray) 1 (t64.map fun z=>Value.int .u8 z).toArray }
theorem IH (os:Os) (args:Array Value):LaidIn Tryd.prog ((qt os).forCall (fun _ _=>0) ⟨#[],args,[]⟩).memory BR [0,1] :=
 LaidIn.of_run [0,1] 8 (by kernel_rfl) (by kernel_rfl) (by kernel_rfl) (by kernel_rfl)
theorem Gj (os:Os) (args:Array Value):laidMetH Tryd.prog BR ((qt os).forCall (fun _ _=>0) ⟨#[],args,[]⟩).memory:=(IH os args).met
end Go.Proofs.YtgphpjdchnfjlaaDoor
end
section
namespace Go.Eng.Gall
open Go.Proofs
def Py:List cG:=[]
theorem Du:∀ e ∈ Py,aD Tryd.prog e:=I2
def jZ:List Int:=[100,110,60,110,90,95,75,100,120,125,80,110,80,80,70,200]
def ES:List Int:=[100,110,90,110,90,95,75,100,120,125,80,110,80,80,70,200]
def gR (a b w s:List Int):Row:=.G (.int .i64 10::.slcT none (.I .i64 a) 4 4 true::.slcT none (.I .i64 b) 2 1 true::(w.map (AV.int .i64)++s.map (AV.int .u64)))
def gA (a b:List Int):AV:=.agg (.G [.int .i64 10,.slcT none (.I .i64 a) 4 4 true,.slcT none (.I .i64 b) 2 1 true])
noncomputable def E1:cG:=⟨46,[],gA jZ [3,1]⟩
theorem WA:aD Tryd.prog E1:=a6 Du (H':=[⟨true,[]⟩]) (by kernel_rfl) (by kernel_rfl)
noncomputable def Pz:List cG:=E1::Py
theorem Dv:∀ e ∈ Pz,aD Tryd.prog e:=aZ WA Du
noncomputable def E2:cG:=⟨47,[],gA ES [3,1]⟩
theorem WB:aD Tryd.prog E2:=a6 Dv (H':=[⟨true,[]⟩]) (by kernel_rfl) (by kernel_rfl)
noncomputable def PA:List cG:=E2::Pz
theorem Dw:∀ e ∈ PA,aD Tryd.prog e:=aZ WB Dv
noncomputable def E3:cG:=⟨22,[gA jZ [3,1]],.int .i64 0⟩
theorem WC:aD Tryd.prog E3:=a6 Dw (H':=[⟨true,[]⟩]) (by kernel_rfl) (by kernel_rfl)
noncomputable def PB:List cG:=E3::PA
theorem Dx:∀ e ∈ PB,aD Tryd.prog e:=aZ WC Dw
noncomputable def E4:cG:=⟨16,[gA jZ [3,1],.int .i64 2,.int .i64 2],.tup [.agg (.I .i64 [100,105]),.int .i64 0]⟩
theorem WD:aD Tryd.prog E4:=a6 Dx (H':=[⟨true,[]⟩]) (by kernel_rfl) (by kernel_rfl)
noncomputable def PC:List cG:=E4::PB
theorem Dy:∀ e ∈ PC,aD Tryd.prog e:=aZ WD Dx
end Go.Eng.Gall
end
section
namespace Go.Eng.Gall
open Go.Proofs
noncomputable def E5:cG:=⟨18,[gA jZ [3,1],.int .i64 2],.tup [.agg (.I .i64 [2,3]),.int .i64 0]⟩
theorem WE:aD Tryd.prog E5:=a6 Dy (H':=[⟨true,[]⟩]) (by kernel_rfl) (by kernel_rfl)
noncomputable def PD:List cG:=E5::PC
theorem Dz:∀ e ∈ PD,aD Tryd.prog e:=aZ WE Dy
noncomputable def E6:cG:=⟨56,[.ptrT none (gR jZ [3,1] [0,3,0,1,2,3,0,1,0,0,0,0,0,0,0,0,0,0,0,0] [0,8,0,0,0,0,0,0,0,0]) 0],.agg (.I .i64 [0,3,1,1,2,3,0,0,0,0,0,0,0,0,0,0,0,0,0,0])⟩
theorem WG:aD Tryd.prog E6:=a6 Dz (H':=[⟨true,[]⟩]) (by kernel_rfl) (by kernel_rfl)
noncomputable def PF:List cG:=E6::PD
theorem DA:∀ e ∈ PF,aD Tryd.prog e:=aZ WG Dz
noncomputable def E7:cG:=⟨20,[gA jZ [3,1],.int .i64 1],.tup [.agg (.I .i64 [1,1]),.int .i64 0]⟩
theorem WH:aD Tryd.prog E7:=a6 DA (H':=[⟨true,[]⟩]) (by kernel_rfl) (by kernel_rfl)
noncomputable def PH:List cG:=E7::PF
theorem DB:∀ e ∈ PH,aD Tryd.prog e:=aZ WH DA
noncomputable def E8:cG:=⟨49,[gA jZ [3,1],.nils],.tup [.ptrT none (gR jZ [3,1] [0,3,0,1,2,3,0,1,0,0,0,0,0,0,0,0,0,0,0,0] [0,8,0,0,0,0,0,0,0,0]) 0,.int .i64 0]⟩
theorem WI:aD Tryd.prog E8:=a6 DB (H':=[⟨true,[]⟩]) (by kernel_rfl) (by kernel_rfl)
noncomputable def PI:List cG:=E8::PH
theorem DC:∀ e ∈ PI,aD Tryd.prog e:=aZ WI DB
end Go.Eng.Gall
end
section
namespace Go.Eng.Gall
open Go.Proofs
noncomputable def E9:cG:=⟨65,[.ptrT none (gR jZ [3,1] [0,3,0,1,2,3,0,1,0,0,0,0,0,0,0,0,0,0,0,0] [0,8,0,0,0,0,0,0,0,0]) 0],.tup [.agg (.G [.int .i64 0,.int .i64 0,.nils]),.bool false]⟩
theorem WJ:aD Tryd.prog E9:=a6 DC (H':=[⟨true,[]⟩]) (by kernel_rfl) (by kernel_rfl)
noncomputable def PJ:List cG:=E9::PI
theorem DD:∀ e ∈ PJ,aD Tryd.prog e:=aZ WJ DC
noncomputable def Tb:cG:=⟨56,[.ptrT none (gR jZ [3,1] [0,0,0,1,2,3,0,1,0,0,0,0,0,0,0,0,0,0,0,0] [0,8,0,0,0,0,0,0,0,0]) 0],.agg (.I .i64 [0,0,1,1,2,3,0,0,0,0,0,0,0,0,0,0,0,0,0,0])⟩
theorem Rz:aD Tryd.prog Tb:=a6 DD (H':=[⟨true,[]⟩]) (by kernel_rfl) (by kernel_rfl)
noncomputable def Kx:List cG:=Tb::PJ
theorem zI:∀ e ∈ Kx,aD Tryd.prog e:=aZ Rz DD
noncomputable def Tc:cG:=⟨65,[.ptrT none (gR jZ [3,1] [0,0,0,1,2,3,0,1,0,0,0,0,0,0,0,0,0,0,0,0] [0,8,0,0,0,0,0,0,0,0]) 0],.tup [.agg (.G [.int .i64 0,.int .i64 0,.slcT none (.I .i64 [0,3]) 1 2 false]),.bool true]⟩
theorem RA:aD Tryd.prog Tc:=a6 zI (H':=[⟨true,[]⟩]) (by kernel_rfl) (by kernel_rfl)
noncomputable def Ky:List cG:=Tc::Kx
theorem zJ:∀ e ∈ Ky,aD Tryd.prog e:=aZ RA zI
noncomputable def Td:cG:=⟨56,[.ptrT none (gR jZ [3,1] [0,3,0,1,2,3,0,0,0,0,0,0,0,0,0,0,0,0,0,0] [0,8,0,0,0,0,0,0,0,0]) 0],.agg (.I .i64 [0,3,1,1,2,3,0,0,0,0,0,0,0,0,0,0,0,0,0,0])⟩
theorem RB:aD Tryd.prog Td:=a6 zJ (H':=[⟨true,[]⟩]) (by kernel_rfl) (by kernel_rfl)
noncomputable def Kz:List cG:=Td::Ky
theorem zK:∀ e ∈ Kz,aD Tryd.prog e:=aZ RB zJ
end Go.Eng.Gall
end
section
namespace Go.Eng.Gall
open Go.Proofs
noncomputable def Te:cG:=⟨65,[.ptrT none (gR jZ [3,1] [0,3,0,1,2,3,0,0,0,0,0,0,0,0,0,0,0,0,0,0] [0,8,0,0,0,0,0,0,0,0]) 0],.tup [.agg (.G [.int .i64 0,.int .i64 0,.nils]),.bool false]⟩
theorem RC:aD Tryd.prog Te:=a6 zK (H':=[⟨true,[]⟩]) (by kernel_rfl) (by kernel_rfl)
noncomputable def KA:List cG:=Te::Kz
theorem zL:∀ e ∈ KA,aD Tryd.prog e:=aZ RC zK
noncomputable def Tf:cG:=⟨56,[.ptrT none (gR jZ [3,1] [1,1,0,1,2,3,0,0,0,0,0,0,0,0,0,0,0,0,0,0] [0,8,0,0,0,0,0,0,0,0]) 0],.agg (.I .i64 [1,1,1,1,2,3,0,0,0,0,0,0,0,0,0,0,0,0,0,0])⟩
theorem RD:aD Tryd.prog Tf:=a6 zL (H':=[⟨true,[]⟩]) (by kernel_rfl) (by kernel_rfl)
noncomputable def KB:List cG:=Tf::KA
theorem zM:∀ e ∈ KB,aD Tryd.prog e:=aZ RD zL
noncomputable def Tg:cG:=⟨65,[.ptrT none (gR jZ [3,1] [1,1,0,1,2,3,0,0,0,0,0,0,0,0,0,0,0,0,0,0] [0,8,0,0,0,0,0,0,0,0]) 0],.tup [.agg (.G [.int .i64 0,.int .i64 1,.slcT none (.I .i64 [0,1,3]) 1 3 false]),.bool true]⟩
theorem RE:aD Tryd.prog Tg:=a6 zM (H':=[⟨true,[]⟩]) (by kernel_rfl) (by kernel_rfl)
noncomputable def KC:List cG:=Tg::KB
theorem zN:∀ e ∈ KC,aD Tryd.prog e:=aZ RE zM
noncomputable def Th:cG:=⟨56,[.ptrT none (gR jZ [3,1] [0,3,1,1,2,3,0,0,0,0,0,0,0,0,0,0,0,0,0,0] [0,8,0,0,0,0,0,0,0,0]) 0],.agg (.I .i64 [0,3,1,1,2,3,0,0,0,0,0,0,0,0,0,0,0,0,0,0])⟩
theorem RF:aD Tryd.prog Th:=a6 zN (H':=[⟨true,[]⟩]) (by kernel_rfl) (by kernel_rfl)
noncomputable def KD:List cG:=Th::KC
theorem zO:∀ e ∈ KD,aD Tryd.prog e:=aZ RF zN
end Go.Eng.Gall
end
section
namespace Go.Eng.Gall
open Go.Proofs
noncomputable def Ti:cG:=⟨65,[.ptrT none (gR jZ [3,1] [0,3,1,1,2,3,0,0,0,0,0,0,0,0,0,0,0,0,0,0] [0,8,0,0,0,0,0,0,0,0]) 0],.tup [.agg (.G [.int .i64 0,.int .i64 0,.nils]),.bool false]⟩
theorem RG:aD Tryd.prog Ti:=a6 zO (H':=[⟨true,[]⟩]) (by kernel_rfl) (by kernel_rfl)
noncomputable def KE:List cG:=Ti::KD
theorem zP:∀ e ∈ KE,aD Tryd.prog e:=aZ RG zO
noncomputable def Tj:cG:=⟨56,[.ptrT none (gR jZ [3,1] [2,2,1,1,2,3,0,0,0,0,0,0,0,0,0,0,0,0,0,0] [0,8,0,0,0,0,0,0,0,0]) 0],.agg (.I .i64 [2,2,1,1,2,3,0,0,0,0,0,0,0,0,0,0,0,0,0,0])⟩
theorem RH:aD Tryd.prog Tj:=a6 zP (H':=[⟨true,[]⟩]) (by kernel_rfl) (by kernel_rfl)
noncomputable def KF:List cG:=Tj::KE
theorem zQ:∀ e ∈ KF,aD Tryd.prog e:=aZ RH zP
noncomputable def Tk:cG:=⟨65,[.ptrT none (gR jZ [3,1] [2,2,1,1,2,3,0,0,0,0,0,0,0,0,0,0,0,0,0,0] [0,8,0,0,0,0,0,0,0,0]) 0],.tup [.agg (.G [.int .i64 0,.int .i64 0,.nils]),.bool false]⟩
theorem RI:aD Tryd.prog Tk:=a6 zQ (H':=[⟨true,[]⟩]) (by kernel_rfl) (by kernel_rfl)
noncomputable def KG:List cG:=Tk::KF
theorem zR:∀ e ∈ KG,aD Tryd.prog e:=aZ RI zQ
noncomputable def Tl:cG:=⟨56,[.ptrT none (gR jZ [3,1] [2,2,1,1,3,3,0,0,0,0,0,0,0,0,0,0,0,0,0,0] [0,8,0,0,0,0,0,0,0,0]) 0],.agg (.I .i64 [2,2,1,1,3,3,0,0,0,0,0,0,0,0,0,0,0,0,0,0])⟩
theorem RJ:aD Tryd.prog Tl:=a6 zR (H':=[⟨true,[]⟩]) (by kernel_rfl) (by kernel_rfl)
noncomputable def KH:List cG:=Tl::KG
theorem zS:∀ e ∈ KH,aD Tryd.prog e:=aZ RJ zR
end Go.Eng.Gall
end
section
namespace Go.Eng.Gall
open Go.Proofs
noncomputable def Tm:cG:=⟨65,[.ptrT none (gR jZ [3,1] [2,2,1,1,3,3,0,0,0,0,0,0,0,0,0,0,0,0,0,0] [0,8,0,0,0,0,0,0,0,0]) 0],.tup [.agg (.G [.int .i64 0,.int .i64 0,.nils]),.bool false]⟩
theorem RK:aD Tryd.prog Tm:=a6 zS (H':=[⟨true,[]⟩]) (by kernel_rfl) (by kernel_rfl)
noncomputable def KI:List cG:=Tm::KH
theorem zT:∀ e ∈ KI,aD Tryd.prog e:=aZ RK zS
noncomputable def Tn:cG:=⟨74,[.ptrT none (gR jZ [3,1] [0,3,0,1,2,3,0,1,0,0,0,0,0,0,0,0,0,0,0,0] [0,8,0,0,0,0,0,0,0,0]) 0],.slcT none (.I .i64 [3,1,0,2]) 1 4 false⟩
theorem RL:aD Tryd.prog Tn:=a6 zT (H':=[⟨true,[]⟩]) (by kernel_rfl) (by kernel_rfl)
noncomputable def KJ:List cG:=Tn::KI
theorem zU:∀ e ∈ KJ,aD Tryd.prog e:=aZ RL zT
noncomputable def To:cG:=⟨38,[gA jZ [3,1]],.tup [.slcT none (.I .i64 [3,1,0,2]) 1 4 true,.int .i64 0]⟩
theorem RM:aD Tryd.prog To:=a6 zU (H':=[⟨true,[]⟩]) (by kernel_rfl) (by kernel_rfl)
noncomputable def KL:List cG:=To::KJ
theorem zV:∀ e ∈ KL,aD Tryd.prog e:=aZ RM zU
noncomputable def Tp:cG:=⟨22,[gA ES [3,1]],.int .i64 0⟩
theorem RO:aD Tryd.prog Tp:=a6 zV (H':=[⟨true,[]⟩]) (by kernel_rfl) (by kernel_rfl)
noncomputable def KM:List cG:=Tp::KL
theorem zW:∀ e ∈ KM,aD Tryd.prog e:=aZ RO zV
end Go.Eng.Gall
end
section
namespace Go.Eng.Gall
open Go.Proofs
noncomputable def Tq:cG:=⟨49,[gA ES [3,1],.nils],.tup [.ptrT none (gR ES [3,1] [0,1,0,1,2,3,0,1,0,0,0,0,0,0,0,0,0,0,0,0] [0,8,0,0,0,0,0,0,0,0]) 0,.int .i64 0]⟩
theorem RP:aD Tryd.prog Tq:=a6 zW (H':=[⟨true,[]⟩]) (by kernel_rfl) (by kernel_rfl)
noncomputable def KN:List cG:=Tq::KM
theorem zX:∀ e ∈ KN,aD Tryd.prog e:=aZ RP zW
noncomputable def Ts:cG:=⟨56,[.ptrT none (gR ES [3,1] [0,1,0,1,2,3,0,1,0,0,0,0,0,0,0,0,0,0,0,0] [0,8,0,0,0,0,0,0,0,0]) 0],.agg (.I .i64 [0,1,1,1,2,3,0,0,0,0,0,0,0,0,0,0,0,0,0,0])⟩
theorem RQ:aD Tryd.prog Ts:=a6 zX (H':=[⟨true,[]⟩]) (by kernel_rfl) (by kernel_rfl)
noncomputable def KO:List cG:=Ts::KN
theorem zY:∀ e ∈ KO,aD Tryd.prog e:=aZ RQ zX
noncomputable def Tt:cG:=⟨65,[.ptrT none (gR ES [3,1] [0,1,0,1,2,3,0,1,0,0,0,0,0,0,0,0,0,0,0,0] [0,8,0,0,0,0,0,0,0,0]) 0],.tup [.agg (.G [.int .i64 0,.int .i64 1,.slcT none (.I .i64 [0,1,3]) 1 3 false]),.bool true]⟩
theorem RR:aD Tryd.prog Tt:=a6 zY (H':=[⟨true,[]⟩]) (by kernel_rfl) (by kernel_rfl)
noncomputable def KP:List cG:=Tt::KO
theorem zZ:∀ e ∈ KP,aD Tryd.prog e:=aZ RR zY
noncomputable def Tu:cG:=⟨74,[.ptrT none (gR ES [3,1] [0,1,0,1,2,3,0,1,0,0,0,0,0,0,0,0,0,0,0,0] [0,8,0,0,0,0,0,0,0,0]) 0],.nils⟩
theorem RS:aD Tryd.prog Tu:=a6 zZ (H':=[⟨true,[]⟩]) (by kernel_rfl) (by kernel_rfl)
noncomputable def KQ:List cG:=Tu::KP
theorem z6:∀ e ∈ KQ,aD Tryd.prog e:=aZ RS zZ
end Go.Eng.Gall
end
section
namespace Go.Eng.Gall
open Go.Proofs
noncomputable def Tv:cG:=⟨38,[gA ES [3,1]],.tup [.nils,.int .i64 13]⟩
theorem RT:aD Tryd.prog Tv:=a6 z6 (H':=[⟨true,[]⟩]) (by kernel_rfl) (by kernel_rfl)
noncomputable def KR:List cG:=Tv::KQ
theorem z7:∀ e ∈ KR,aD Tryd.prog e:=aZ RT z6
noncomputable def Tw:cG:=⟨25,[gA ES [3,1]],.tup [.agg (.G [.int .i64 0,.int .i64 1,.slcT none (.I .i64 [0,1,3]) 1 3 false]),.int .i64 0]⟩
theorem RU:aD Tryd.prog Tw:=a6 z7 (H':=[⟨true,[]⟩]) (by kernel_rfl) (by kernel_rfl)
noncomputable def KS:List cG:=Tw::KR
theorem z8:∀ e ∈ KS,aD Tryd.prog e:=aZ RU z7
noncomputable def Tx:cG:=⟨56,[.ptrT none (gR jZ [3,1] [1,1,0,1,2,3,0,1,0,0,0,0,0,0,0,0,0,0,0,0] [0,8,0,0,0,0,0,0,0,0]) 0],.agg (.I .i64 [1,1,1,1,2,3,0,0,0,0,0,0,0,0,0,0,0,0,0,0])⟩
theorem RV:aD Tryd.prog Tx:=a6 z8 (H':=[⟨true,[]⟩]) (by kernel_rfl) (by kernel_rfl)
noncomputable def KU:List cG:=Tx::KS
theorem Aa:∀ e ∈ KU,aD Tryd.prog e:=aZ RV z8
noncomputable def Ty:cG:=⟨65,[.ptrT none (gR jZ [3,1] [1,1,0,1,2,3,0,1,0,0,0,0,0,0,0,0,0,0,0,0] [0,8,0,0,0,0,0,0,0,0]) 0],.tup [.agg (.G [.int .i64 0,.int .i64 1,.slcT none (.I .i64 [0,1,3]) 1 3 false]),.bool true]⟩
theorem RW:aD Tryd.prog Ty:=a6 Aa (H':=[⟨true,[]⟩]) (by kernel_rfl) (by kernel_rfl)
noncomputable def KV:List cG:=Ty::KU
theorem Ab:∀ e ∈ KV,aD Tryd.prog e:=aZ RW Aa
end Go.Eng.Gall
end
section
namespace Go.Eng.Gall
open Go.Proofs
noncomputable def Tz:cG:=⟨56,[.ptrT none (gR jZ [3,1] [2,2,0,1,2,3,0,1,0,0,0,0,0,0,0,0,0,0,0,0] [0,8,0,0,0,0,0,0,0,0]) 0],.agg (.I .i64 [2,2,1,1,2,3,0,0,0,0,0,0,0,0,0,0,0,0,0,0])⟩
theorem RX:aD Tryd.prog Tz:=a6 Ab (H':=[⟨true,[]⟩]) (by kernel_rfl) (by kernel_rfl)
noncomputable def KW:List cG:=Tz::KV
theorem Ac:∀ e ∈ KW,aD Tryd.prog e:=aZ RX Ab
noncomputable def TA:cG:=⟨65,[.ptrT none (gR jZ [3,1] [2,2,0,1,2,3,0,1,0,0,0,0,0,0,0,0,0,0,0,0] [0,8,0,0,0,0,0,0,0,0]) 0],.tup [.agg (.G [.int .i64 0,.int .i64 0,.nils]),.bool false]⟩
theorem RY:aD Tryd.prog TA:=a6 Ac (H':=[⟨true,[]⟩]) (by kernel_rfl) (by kernel_rfl)
noncomputable def KX:List cG:=TA::KW
theorem Ad:∀ e ∈ KX,aD Tryd.prog e:=aZ RY Ac
noncomputable def TB:cG:=⟨56,[.ptrT none (gR jZ [3,1] [3,3,0,1,2,3,0,1,0,0,0,0,0,0,0,0,0,0,0,0] [0,8,0,0,0,0,0,0,0,0]) 0],.agg (.I .i64 [3,3,1,1,2,3,0,0,0,0,0,0,0,0,0,0,0,0,0,0])⟩
theorem RZ:aD Tryd.prog TB:=a6 Ad (H':=[⟨true,[]⟩]) (by kernel_rfl) (by kernel_rfl)
noncomputable def KY:List cG:=TB::KX
theorem Ae:∀ e ∈ KY,aD Tryd.prog e:=aZ RZ Ad
noncomputable def TC:cG:=⟨65,[.ptrT none (gR jZ [3,1] [3,3,0,1,2,3,0,1,0,0,0,0,0,0,0,0,0,0,0,0] [0,8,0,0,0,0,0,0,0,0]) 0],.tup [.agg (.G [.int .i64 0,.int .i64 0,.nils]),.bool false]⟩
theorem R0:aD Tryd.prog TC:=a6 Ae (H':=[⟨true,[]⟩]) (by kernel_rfl) (by kernel_rfl)
noncomputable def KZ:List cG:=TC::KY
theorem Af:∀ e ∈ KZ,aD Tryd.prog e:=aZ R0 Ae
end Go.Eng.Gall
end
section
namespace Go.Eng.Gall
open Go.Proofs
noncomputable def TD:cG:=⟨30,[gA jZ [3,1],.int .i64 0],.tup [.slcT none (.I .i64 [2,3]) 1 2 false,.int .i64 0]⟩
theorem R2:aD Tryd.prog TD:=a6 Af (H':=[⟨true,[]⟩]) (by kernel_rfl) (by kernel_rfl)
noncomputable def K0:List cG:=TD::KZ
theorem Ag:∀ e ∈ K0,aD Tryd.prog e:=aZ R2 Af
noncomputable def TE:cG:=⟨56,[.ptrT none (gR jZ [3,1] [0,3,0,1,2,3,0,1,0,0,0,0,0,0,0,0,0,0,0,0] [0,9,0,0,0,0,0,0,0,0]) 0],.agg (.I .i64 [0,0,1,1,2,3,0,0,0,0,0,0,0,0,0,0,0,0,0,0])⟩
theorem R3:aD Tryd.prog TE:=a6 Ag (H':=[⟨true,[]⟩]) (by kernel_rfl) (by kernel_rfl)
noncomputable def K1:List cG:=TE::K0
theorem Ah:∀ e ∈ K1,aD Tryd.prog e:=aZ R3 Ag
noncomputable def TF:cG:=⟨65,[.ptrT none (gR jZ [3,1] [0,3,0,1,2,3,0,1,0,0,0,0,0,0,0,0,0,0,0,0] [0,9,0,0,0,0,0,0,0,0]) 0],.tup [.agg (.G [.int .i64 0,.int .i64 0,.slcT none (.I .i64 [0,3]) 1 2 false]),.bool true]⟩
theorem R4:aD Tryd.prog TF:=a6 Ah (H':=[⟨true,[]⟩]) (by kernel_rfl) (by kernel_rfl)
noncomputable def K2:List cG:=TF::K1
theorem Ai:∀ e ∈ K2,aD Tryd.prog e:=aZ R4 Ah
noncomputable def TG:cG:=⟨32,[gA jZ [3,1],.int .i64 1,.int .i64 0],.tup [.bool true,.int .i64 0]⟩
theorem R5:aD Tryd.prog TG:=a6 Ai (H':=[⟨true,[]⟩]) (by kernel_rfl) (by kernel_rfl)
noncomputable def K3:List cG:=TG::K2
theorem Ho:∀ e ∈ K3,aD Tryd.prog e:=aZ R5 Ai
end Go.Eng.Gall
end
section
namespace Go.Eng.Gall
open Go.Proofs
noncomputable def TH:cG:=⟨73,[.ptrT none (gR jZ [3,1] [0,3,0,1,2,3,0,1,0,0,0,0,0,0,0,0,0,0,0,0] [0,8,0,0,0,0,0,0,0,0]) 0],.int .i64 2⟩
theorem R6:aD Tryd.prog TH:=GI (O:=10) (U:=4) (zl:=[100,110,60,110,90,95,75,100,120,125,80,110,80,80,70,200]) (V:=1) (bl:=[3,1]) (f1:=true) (f2:=true) (Wl:=[0,3,0,1,2,3,0,1,0,0,0,0,0,0,0,0,0,0,0,0]) (Bl:=[0,8,0,0,0,0,0,0,0,0]) (v:=2) rfl (by decide) rfl rfl rfl rfl (by kernel_rfl)
noncomputable def K4:List cG:=TH::K3
theorem Aj:∀ e ∈ K4,aD Tryd.prog e:=aZ R6 Ho
noncomputable def TI:cG:=⟨34,[gA jZ [3,1]],.tup [.int .i64 2,.int .i64 0]⟩
theorem R7:aD Tryd.prog TI:=a6 Aj (H':=[⟨true,[]⟩]) (by kernel_rfl) (by kernel_rfl)
noncomputable def K5:List cG:=TI::K4
theorem Ak:∀ e ∈ K5,aD Tryd.prog e:=aZ R7 Aj
noncomputable def TJ:cG:=⟨18,[gA jZ [3,1],.int .i64 0],.tup [.agg (.I .i64 [0,3]),.int .i64 0]⟩
theorem R8:aD Tryd.prog TJ:=a6 Ak (H':=[⟨true,[]⟩]) (by kernel_rfl) (by kernel_rfl)
noncomputable def K6:List cG:=TJ::K5
theorem Al:∀ e ∈ K6,aD Tryd.prog e:=aZ R8 Ak
noncomputable def TK:cG:=⟨18,[gA jZ [3,1],.int .i64 1],.tup [.agg (.I .i64 [0,1]),.int .i64 0]⟩
theorem R9:aD Tryd.prog TK:=a6 Al (H':=[⟨true,[]⟩]) (by kernel_rfl) (by kernel_rfl)
noncomputable def K7:List cG:=TK::K6
theorem Am:∀ e ∈ K7,aD Tryd.prog e:=aZ R9 Al
end Go.Eng.Gall
end
section
namespace Go.Eng.Gall
open Go.Proofs
noncomputable def TL:cG:=⟨18,[gA jZ [3,1],.int .i64 3],.tup [.agg (.I .i64 [0,1]),.int .i64 0]⟩
theorem Sa:aD Tryd.prog TL:=a6 Am (H':=[⟨true,[]⟩]) (by kernel_rfl) (by kernel_rfl)
noncomputable def K8:List cG:=TL::K7
theorem An:∀ e ∈ K8,aD Tryd.prog e:=aZ Sa Am
noncomputable def TM:cG:=⟨20,[gA jZ [3,1],.int .i64 3],.tup [.agg (.I .i64 [0,0]),.int .i64 0]⟩
theorem Sb:aD Tryd.prog TM:=a6 An (H':=[⟨true,[]⟩]) (by kernel_rfl) (by kernel_rfl)
noncomputable def K9:List cG:=TM::K8
theorem Ao:∀ e ∈ K9,aD Tryd.prog e:=aZ Sb An
noncomputable def TN:cG:=⟨56,[.ptrT none (gR jZ [3,1] [0,3,0,1,2,3,0,1,0,0,0,0,0,0,0,0,0,0,0,0] [4,8,0,0,0,0,0,0,0,0]) 0],.agg (.I .i64 [3,3,1,1,2,2,0,0,0,0,0,0,0,0,0,0,0,0,0,0])⟩
theorem Sc:aD Tryd.prog TN:=a6 Ao (H':=[⟨true,[]⟩]) (by kernel_rfl) (by kernel_rfl)
noncomputable def La:List cG:=TN::K9
theorem Ap:∀ e ∈ La,aD Tryd.prog e:=aZ Sc Ao
noncomputable def TO:cG:=⟨65,[.ptrT none (gR jZ [3,1] [0,3,0,1,2,3,0,1,0,0,0,0,0,0,0,0,0,0,0,0] [4,8,0,0,0,0,0,0,0,0]) 0],.tup [.agg (.G [.int .i64 0,.int .i64 0,.nils]),.bool false]⟩
theorem Sd:aD Tryd.prog TO:=a6 Ap (H':=[⟨true,[]⟩]) (by kernel_rfl) (by kernel_rfl)
noncomputable def Lb:List cG:=TO::La
theorem Aq:∀ e ∈ Lb,aD Tryd.prog e:=aZ Sd Ap
end Go.Eng.Gall
end
