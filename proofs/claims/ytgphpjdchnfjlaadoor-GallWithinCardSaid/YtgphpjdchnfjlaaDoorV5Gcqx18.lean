/- Gall: the law of what lies within: the loops. -/
import Derived.Test.YtgphpjdchnfjlaaDoorV5Gcmx10
import Derived.Test.YtgphpjdchnfjlaaDoorV5Gp2x6
import Derived.Test.YtgphpjdchnfjlaaDoorRows
import Derived.Test.YtgphpjdchnfjlaaDoorChecked
import Derived.Test.YtgphpjdchnfjlaaDoorTie
import Derived.Test.YtgphpjdchnfjlaaDoorCards
import Derived.ProofKit
import Derived.Lib.LaidIn
import Derived.Lib.LaidTab
import Derived.FnData
import Derived.Handed
import Derived.SevenTiedAt
import Derived.Test.YtgphpjdchnfjlaaDoorV5GaKx6
set_option linter.unusedVariables false
set_option linter.unusedSimpArgs false
set_option maxRecDepth 100000
section
namespace Go.Eng
open Int (ofNat)
open Go.Proofs Go.Eng.Gall
theorem VM:∀ b,(2,b) ∈ aI (part Tryd.f7 [1,1,1,1,1,0,1,0,0])→b=.loop (part Tryd.f7 [1,1,1,1,1,0,1,0,0,1,0,0,1,1,1,1,1,1,1,1,1,1,0,0]):=dJ (by kernel_rfl)
theorem b7:∀ b,(0,b) ∈ aI (aW Tryd.f7)→b=.loop (part Tryd.f7 [1,1,1,1,1,0,1,0,0]):=dJ (by kernel_rfl)
section
variable (n:Nat) (mb:Nat) (zy:Nat→Int) (m:Nat) (z:Nat→Int) (k d1 d2:Int) (K:Nat) (Y:Nat→Int) (R C A B:Row) (H:aa)
theorem XW (hK:K≤10) (hY:∀ j,j<K→d1≤Y j∧Y j≤d2) (hu:∀ j,j+1<K→Y j<Y (j+1)):exec (bJ (n+1) 7 247) (.block 2 (.loop (part Tryd.f7 [1,1,1,1,1,0,1,0,0,1,0,0,1,1,1,1,1,1,1,1,1,1,0,0]))) (Mh mb zy m z k K Y (ofNat 0)) (BO R C A B (.I .i64 [d1,d2])::H)=some (.normal,Mh mb zy m z k K Y (ofNat K)++[(220,.bool false)],BO R C A B (.I .i64 [d1,d2])::H):=by
 refine jh (n:=n+1) (f:=7) (nt:=247) (c:=part Tryd.f7 [1,1,1,1,1,0,1,0,0,1,0,0,1,1,1,1,1,1,1,1,1,1,0,0]) 2 (fun j=>Mh mb zy m z k K Y (j:Int)) (fun j=>BO R C A B (.I .i64 [d1,d2])::H) K _ wO (fun j hj=>?_) ?_
 · have T:=i7 n mb zy m z k d1 d2 K Y (j:Int) R C A B H;have e1:aq 0 (j:Int) 1=j:=by rw[bo];omega
   rw[e1] at T;refine aA T (dT n 1) (ah _ _) (aj _ _) ?_;have y1:=hY j hj;rw[dO wO];refine Tr.ae (fun q=>?_) wJ;refine Tr.ab wG (Tr.ab wG (Tr.ae (fun _=>Tr.ae wJ (fun _=>Tr.ae (fun q=>?_) (fun _=>Tr.ag ⟨rfl,rfl⟩))) wJ));simp (disch:=omega) only[nV,nW] at q;have e2:bL .i64 (j:Int) (ofNat 1)=((j-1:Nat):Int):=by simp (disch:=omega) only[nV,nW];omega
   have e3:aq 0 ((j-1:Nat):Int) 1=j-1:=by rw[bo];omega
   have y2:=hu (j-1) wO;rw[show j-1+1=j by omega] at y2;rw[e2,e3];exact Tr.ab wG (Tr.ab wG (Tr.ab wG (Tr.ab wG (Tr.ae wJ (fun _=>Tr.ag ⟨rfl,rfl⟩)))))
 · obtain ⟨x,h1,rfl⟩:=aA (Q:=fun x=>x=(.exit 2,Mh mb zy m z k K Y (ofNat K)++[(220,.bool false)],BO R C A B (.I .i64 [d1,d2])::H)) (i7 n mb zy m z k d1 d2 K Y (ofNat K) R C A B H) (dT n 1) (ah _ _) (aj _ _) (by
    refine Tr.ae (fun hc=>?_) (fun hc=>Tr.ag rfl);simp (disch:=omega) only[nV,nW] at hc;omega)
   exact h1
end
section
variable (n:Nat) (O:Int) (U:Nat) (Z:Nat→Int) (V:Nat) (J:Nat→Int) (H:aa) (mb:Nat) (zy:Nat→Int) (m:Nat) (z:Nat→Int)
theorem Yh (h0:dm O U Z V J=0) (ho:ya O U Z V J=none) (hz:uY U (bR O U Z) V J m z=0) (hy:∀ j,0≤zy j∧zy j≤65535) (k:Nat) (hk:k<m):∃ x,exec (bJ (n+15) 7 247) (part Tryd.f7 [1,1,1,1,1,0,1,0,0]) (Fs mb zy m z (k:Int)) (bU O U Z V J::H)=some x∧(x.1=.normal∧tidy 1 x.2.1 x.2.2=(Fs mb zy m z ((k+1:Nat):Int),bU O U Z V J::H)):=by
 obtain ⟨h1,h2,h3,h4,h5,h6⟩:=kr h0;obtain ⟨c,hc,hcl,w1,w2,w3,w4,w5,w6,hp,hpl⟩:=GF h0 hz hk;obtain ⟨f1,f2⟩:=Mf (Z:=Z) wO hcl w1 w2;have hv:=H5 h4 hcl;have hm:=Nc (O:=O) (Z:=Z) (V:=V) (J:=J) (U:=U) c;have hmk:m≤10:=by have:=((CI h0).1 hz).1;obtain ⟨e,_⟩:=gk.1 this;omega
 have hkl:(k:Int)<U:=by have:=(pX (O:=O) (Z:=Z) c hcl).2;omega
 have her:jG O U Z V J (c:Int)=0:=by unfold jG;rw[if_pos h0,if_neg wO]
 have QJ:∀ q H,cd (n+14+q) (.fn 16) [bt O U Z V J,.int .i64 (c:Int),.int .i64 (k:Int)] H=some (rT (Z (c*4)-k*O) (Z (c*4+1)-k*O) (ofNat 0),H):=fun q H=>by
  have:=VV (n+q) O U Z V J H (c:Int) (k:Int) wO wO wO;unfold NZ rX at this;rw[if_pos her,if_neg wO,Int.toNat_natCast] at this;rw[show n+14+q=n+q+14 by omega];exact this
 have QK:∀ q H,cd (n+14+q) (.fn 18) [bt O U Z V J,.int .i64 (c:Int)] H=some (rT (bR O U Z (2*c)) (bR O U Z (2*c+1)) (ofNat 0),H):=fun q H=>by
  have:=VW (n+q) O U Z V J H (c:Int) wO wO;unfold N1 rX at this;rw[if_pos her,Int.toNat_natCast,if_neg wO] at this;rw[show n+14+q=n+q+14 by omega];exact this
 have QL:∀ q H,cd (n+14+q) (.fn 20) [bt O U Z V J,.int .i64 (c:Int)] H=some (rT (eU U (fun c=>dq J c V) (bR O U Z) (2*c)) (eU U (fun c=>dq J c V) (bR O U Z) (2*c+1)) (ofNat 0),H):=fun q H=>by
  have:=VX (n+q) O U Z V J H (c:Int) wO wO;unfold NP rX at this;rw[if_pos her,Int.toNat_natCast,if_neg wO] at this;rw[show n+14+q=n+q+14 by omega];exact this
 have QM:∀ q H,cd (n+14+q) (.fn 30) [bt O U Z V J,.int .i64 (c:Int)] H=some (.tup [aP (nT O U Z V J c).length (az (gZ (nT O U Z V J c))) false,.int .i64 (ofNat 0)],H):=fun q H=>by
  have:=VY (n+q) O U Z V J H (c:Int) wO wO;unfold Tn at this;rw[if_pos her,if_pos ho,Int.toNat_natCast] at this;rw[show n+14+q=n+q+14 by omega];exact this
 have hpa:=PG hp;have hup:=fun j hj=>PH (O:=O) (Z:=Z) (V:=V) (J:=J) (U:=U) (c:=c) (j:=j) hj;have hin:∀ j,j<(nT O U Z V J c).length→eU U (fun c=>dq J c V) (bR O U Z) (2*c)≤az (gZ (nT O U Z V J c)) j∧az (gZ (nT O U Z V J c)) j≤eU U (fun c=>dq J c V) (bR O U Z) (2*c+1):=fun j hj=>by
  obtain ⟨x,hx,e,_⟩:=r6 hj;rw[e];exact hpl x hx
 have QN:∀ q H,cd (n+14+q) (.fn 42) [aP (nT O U Z V J c).length (az (gZ (nT O U Z V J c))) false,.int .i64 (k:Int)] H=some (.bool true,H):=fun q H=>by
  have:=VZ (n+13+q) (nT O U Z V J c).length (az (gZ (nT O U Z V J c))) (k:Int) H wO;rw[hpa] at this;rw[show n+14+q=n+13+q+1 by omega];exact this
 generalize az (gZ (nT O U Z V J c))=Y at *;generalize (nT O U Z V J c).length=K at *;generalize eU U (fun c=>dq J c V) (bR O U Z) (2*c)=d1 at *;generalize eU U (fun c=>dq J c V) (bR O U Z) (2*c+1)=d2 at *;have hli:=fun R C A B=>XW (n+14) mb zy m z (k:Int) d1 d2 K Y R C A B H wO hin hup;have e1:aq 0 (k:Int) 1=k:=by rw[bo];omega
 have e4:aq 0 (c:Int) 4=c*4:=by rw[bo];omega
 have T:=s7 (n+14) O U Z V J H mb zy m z (k:Int) (c:Int) (Z (c*4)-k*O) (Z (c*4+1)-k*O) (bR O U Z (2*c)) (bR O U Z (2*c+1)) d1 d2 K Y true;rw[e1,hc,e4,aH,aH,aH] at T;refine aA T (gx _ (n+14) 1 (fun q=>bW (bW (bW (bW (bW (aR _) (QJ q)) (QK q)) (QL q)) (QM q)) (QN q))) (aU (ah _ _) VM (fun x h=>by rw[← Tr.af h];simp only[ev.st,aN];exact hli _ _ _ _)) (aj _ _) ?_;clear T QJ QK QL QM QN hli hin hup hpa hpl hp her ho hz hc;have hP:0≤(k:Int)*O∧(k:Int)*O≤1000:=by
  have a1:(0:Int)≤k*O:=Int.mul_nonneg wO wO;have a2:(k:Int)*O≤10*100:=Int.mul_le_mul wO wO wO wO;omega
 have eP:ly .i64 (k:Int) O=k*O:=by rw[lz,iB wO wO]
 rw[eP,dO wO];generalize (k:Int)*O=P at *;generalize bR O U Z (2*c)=v1 at *;generalize bR O U Z (2*c+1)=v2 at *;generalize Z (c*4)=u1 at *;generalize Z (c*4+1)=u2 at *;generalize Z (c*4+2)=u3 at *;generalize Z (c*4+3)=u4 at *;have f0:∀ {p:Prop},bf (cq (ofNat 0) (ofNat 0))=true→p:=fun q=>by simp[av,aQ] at q
 refine Tr.ae (fun _=>?_) wJ;refine Tr.ab wG (Tr.ab wG (Tr.ab wG (Tr.ab wG (Tr.ab wG (Tr.ab wG (Tr.ab wG (Tr.ab wG ?_)))))));refine Tr.ae (fun q=>?_) (fun q=>?_)
 · have hmb:0<mb:=by simp (disch:=omega) only[nV,nW] at q;omega
   have er:iT .i64 (k:Int) (ofNat mb)=((k % mb:Nat):Int):=by rw[pN];rfl
   have hrm:=Nat.mod_lt k hmb;have ei:aq 0 ((k % mb:Nat):Int) 1=k % mb:=by rw[bo];omega
   rw[er,ei];have hyr:=hy (k % mb);generalize k % mb=r at *;generalize zy r=y at *;have es:bj .i64 (bL .i64 u2 u1) (ofNat 1)=u2-u1+1:=by simp (disch:=omega) only[nV,nW]
   have ew:iT .i64 (Kc .i64 y) (u2-u1+1)=y % (u2-u1+1):=by
    rw[NM wO wO,pN,Int.tmod_eq_emod_of_nonneg hyr.1]
   have hb1:=Int.emod_nonneg y (show u2-u1+1≠0 by omega);have hb2:=Int.emod_lt_of_pos y (show 0<u2-u1+1 by omega);rw[es,ew];generalize y % (u2-u1+1)=t at *;have ef:bL .i64 (bj .i64 u1 t) P=u1+t-P:=by simp (disch:=omega) only[nV,nW]
   rw[ef];exact wF
 · have ef:bL .i64 u1 P=u1-P:=by simp (disch:=omega) only[nV,nW]
   rw[ef];exact wF
theorem l7 (h0:dm O U Z V J=0) (ho:ya O U Z V J=none) (hz:uY U (bR O U Z) V J m z=0) (hy:∀ j,0≤zy j∧zy j≤65535) (hm:m≤1000):exec (bJ (n+15) 7 247) (.block 0 (.loop (part Tryd.f7 [1,1,1,1,1,0,1,0,0]))) (Fs mb zy m z (ofNat 0)) (bU O U Z V J::H)=some (.normal,Fs mb zy m z (ofNat m)++[(68,.bool false)],bU O U Z V J::H):=by
 refine jh (n:=n+15) (f:=7) (nt:=247) (c:=part Tryd.f7 [1,1,1,1,1,0,1,0,0]) 0 (fun j=>Fs mb zy m z (j:Int)) (fun j=>bU O U Z V J::H) m _ wO (fun j hj=>Yh n O U Z V J H mb zy m z h0 ho hz hy j hj) ?_;obtain ⟨x,h1,rfl⟩:=aA (Q:=fun x=>x=(.exit 0,Fs mb zy m z (ofNat m)++[(68,.bool false)],bU O U Z V J::H)) (Ym (n+14) O U Z V J H mb zy m z (ofNat m)) (dT _ 1) (ah _ _) (aj _ _) (by
  refine Tr.ae (fun hc=>?_) (fun hc=>Tr.ag rfl);simp (disch:=omega) only[nV,nW] at hc;omega)
 exact h1
end
end Go.Eng
end
section
namespace Go.Eng
open Int (ofNat)
open Go.Proofs Go.Eng.Gall
section
variable (O:Int) (U:Nat) (Z:Nat→Int) (V:Nat) (J:Nat→Int) (n:Nat) (H:aa) (mo:Nat) (zo:Nat→Int) (mb:Nat) (zy:Nat→Int)
theorem NH (h0:dm O U Z V J=0) (q:Nat):(tX (mc aC 15 Ic) 23 [bt O U Z V J] (.int .i64 (ofNat 0))).Ok (cd (n+16+q)):=by
 obtain ⟨h1,h2,h3,h4,h5,h6⟩:=kr h0;refine bW (Vq wO (aR _)) (fun H=>?_);rw[show n+16+q=n+13+q+3 by omega];have:=Q7 (n+13+q) O U Z V J H wO wO;rw[h0] at this;exact this
theorem Wa (h0:dm O U Z V J=0) (hmo:mo≤20) (hmb:mb≤40) (hy:∀ j,0≤zy j∧zy j≤65535) (he:uY U (bR O U Z) V J mo zo=0) (ho:ya O U Z V J=none):cd (n+19) (.fn 7) [bt O U Z V J,aP mo zo false,Ik mb zy] H=some (.bool true,H):=by
 obtain ⟨h1,h2,h3,h4,h5,h6⟩:=kr h0;have ht:∀ q,(tX (tX (tN (tX (mc aC 15 Ic) 23 [bt O U Z V J] (.int .i64 (ofNat 0))) 38) 40 [bt O U Z V J,aP mo zo false] (.int .i64 (ofNat 0))) 39 [bt O U Z V J,aP mo zo false] (.int .i64 (ofNat 0))).Ok (cd (n+16+q)):=fun q=>bW (bW (uG (NH O U Z V J n h0 q)) (fun H=>by
  have:=Q8 (n+12+q) O U Z V J H mo zo wO h0 wO;rw[he] at this;rw[show n+16+q=n+12+q+4 by omega];exact this)) (fun H=>by
  have:=Vj (n+1+q) O U Z V J mo zo H wO h0 wO;rw[he] at this;rw[show n+16+q=n+1+q+15 by omega];exact this)
 have lp:=l7 (n+3) O U Z V J H mb zy mo zo h0 ho he hy wO;refine bp (n:=n+18) Tryd.func7 rfl rfl rfl (YO (n+16) O U Z V J H mo zo mb zy) (gx _ (n+16) 2 ht) (aU (ah _ _) b7 (fun x hx=>fD hx (by simp only[ev.st,aN];exact lp))) (aj _ _) ?_;have f0:∀ {p:Prop},bf (cq (ofNat 0) (ofNat 0))=true→p:=fun q=>by simp[av,aQ] at q
 refine Tr.ae wJ (fun _=>Tr.ae (fun _=>Tr.ak rfl (Tr.ae (fun q=>f0 q) (fun _=>Tr.ae wJ (fun _=>Tr.ae wJ (fun _=>?_))))) wJ);exact Tr.ak rfl (Tr.ae (fun q=>f0 q) (fun _=>Tr.ak rfl (Tr.ae (fun q=>f0 q) (fun _=>Tr.ak rfl (Tr.ae (fun q=>f0 q) (fun _=>Tr.ak ⟨rfl,rfl⟩ (Tr.ak trivial (Tr.ag ⟨rfl,rfl⟩))))))))
theorem Wb (h0:dm O U Z V J=0) (hmo:mo≤20) (hmb:mb≤40) (hy:∀ j,0≤zy j∧zy j≤65535) (he:¬ uY U (bR O U Z) V J mo zo=0) (ho:ya O U Z V J=none):cd (n+19) (.fn 7) [bt O U Z V J,aP mo zo false,Ik mb zy] H=some (.bool true,H):=by
 obtain ⟨h1,h2,h3,h4,h5,h6⟩:=kr h0;have hS:=Ca O U Z V J h1.2 h3 h4 h5 h6;have hr:uY U (bR O U Z) V J U (az (gZ (IY O U Z V J)))=0:=PQ h0 (Gl hS pX (by show (ya O U Z V J).isNone=true;rw[ho];rfl));have h38:PF O U Z V J=.tup [aP U (az (gZ (IY O U Z V J))) false,.int .i64 (ofNat 0)]:=by unfold PF;rw[if_pos ho];rfl
 generalize az (gZ (IY O U Z V J))=y at *;have ht:∀ q,(tX (tV (tX (tX (mc aC 15 Ic) 23 [bt O U Z V J] (.int .i64 (ofNat 0))) 38 [bt O U Z V J] (.tup [aP U y false,.int .i64 (ofNat 0)])) 40 (Sy O U Z V J) (fun x=>.int .i64 (Md O U Z V J x))) 39 [bt O U Z V J,aP U y false] (.int .i64 (ofNat 0))).Ok (cd (n+16+q)):=fun q=>bW (Qi (bW (NH O U Z V J n h0 q) (fun H=>by
  have:=Vi (n+1+q) O U Z V J H wO h0;rw[h38] at this;rw[show n+16+q=n+1+q+15 by omega];exact this)) (MI O U Z V J n h0 q)) (fun H=>by
  have:=Vj (n+1+q) O U Z V J U y H wO h0 wO;rw[hr] at this;rw[show n+16+q=n+1+q+15 by omega];exact this)
 have lp:=l7 (n+3) O U Z V J H mb zy U y h0 ho hr hy wO;refine bp (n:=n+18) Tryd.func7 rfl rfl rfl (YP (n+16) O U Z V J H mo zo mb zy y (Md O U Z V J) (Sy O U Z V J)) (gx _ (n+16) 2 ht) (aU (ah _ _) b7 (fun x hx=>fD hx (by simp only[ev.st,aN];exact lp))) (aj _ _) ?_;clear ht lp;have f0:∀ {p:Prop},bf (cq (ofNat 0) (ofNat 0))=true→p:=fun q=>by simp[av,aQ] at q
 have hx:Md O U Z V J [bt O U Z V J,aP mo zo false]=uY U (bR O U Z) V J mo zo:=rfl;have hx2:Md O U Z V J [bt O U Z V J,aP U y false]=0:=hr;refine Tr.ae wJ (fun _=>Tr.ae (fun _=>Tr.ak rfl (Tr.ae (fun q=>f0 q) (fun _=>Tr.ae wJ (fun _=>Tr.ae wJ (fun _=>?_))))) wJ);refine Tr.ak ⟨_,_,rfl,by omega⟩ (Tr.ae (fun _=>Tr.ak rfl (Tr.ae (fun q=>f0 q) (fun _=>Tr.ak rfl (Tr.ae (fun q=>f0 q) (fun _=>Tr.ak ⟨_,_,rfl,by omega⟩ (Tr.ae (fun q=>?_) (fun _=>Tr.ak ⟨rfl,rfl⟩ (Tr.ak trivial (Tr.ag ⟨rfl,rfl⟩))))))))) (fun q=>?_))
 · exfalso;have q:bf (cq (Md O U Z V J [bt O U Z V J,aP U y false]) (ofNat 0))=true:=q;rw[hx2] at q;exact f0 q
 · exfalso;have q:bf (cq (Md O U Z V J [bt O U Z V J,aP mo zo false]) (ofNat 0))=false:=q;rw[hx,av,aQ,Bool.not_eq_false'] at q;exact he (by simpa using q)
theorem Wc (h0:dm O U Z V J=0) (hmo:mo≤20) (hmb:mb≤40) (he:¬ uY U (bR O U Z) V J mo zo=0) (ho:¬ ya O U Z V J=none):cd (n+19) (.fn 7) [bt O U Z V J,aP mo zo false,Ik mb zy] H=some (.bool true,H):=by
 obtain ⟨h1,h2,h3,h4,h5,h6⟩:=kr h0;have ht:∀ q,(tN (tX (tX (tX (mc aC 15 Ic) 23 [bt O U Z V J] (.int .i64 (ofNat 0))) 38 [bt O U Z V J] (.tup [.nils,.int .i64 (ofNat 13)])) 40 [bt O U Z V J,aP mo zo false] (.int .i64 (uY U (bR O U Z) V J mo zo))) 39).Ok (cd (n+16+q)):=fun q=>uG (bW (bW (NH O U Z V J n h0 q) (fun H=>by
  have:=Vi (n+1+q) O U Z V J H wO h0;unfold PF at this;rw[if_neg ho] at this;rw[show n+16+q=n+1+q+15 by omega];exact this)) (fun H=>by
  rw[show n+16+q=n+12+q+4 by omega];exact Q8 (n+12+q) O U Z V J H mo zo wO h0 wO))
 refine bp (n:=n+18) Tryd.func7 rfl rfl rfl (YQ (n+16) O U Z V J H mo zo mb zy (uY U (bR O U Z) V J mo zo)) (gx _ (n+16) 2 ht) (b9 (ah _ _) 0) (aj _ _) ?_;have f0:∀ {p:Prop},bf (cq (ofNat 0) (ofNat 0))=true→p:=fun q=>by simp[av,aQ] at q
 refine Tr.ae wJ (fun _=>Tr.ae (fun _=>Tr.ak rfl (Tr.ae (fun q=>f0 q) (fun _=>Tr.ae wJ (fun _=>Tr.ae wJ (fun _=>?_))))) wJ);refine Tr.ak rfl (Tr.ae (fun _=>Tr.ak rfl (Tr.ae (fun _=>Tr.ae (fun _=>Tr.ak trivial (Tr.ag ⟨rfl,rfl⟩)) (fun q=>by simp[aQ] at q)) (fun q=>by simp[av,aQ] at q))) (fun q=>?_));rw[av,aQ,Bool.not_eq_false'] at q;exact absurd (by simpa using q) he
theorem c7 (hy:∀ j,0≤zy j∧zy j≤65535):cd (n+19) (.fn 7) [bt O U Z V J,aP mo zo false,Ik mb zy] H=some (.bool true,H):=by
 by_cases hg:(dm O U Z V J=0∧mo≤20)∧mb≤40
 · obtain ⟨⟨h0,hmo⟩,hmb⟩:=hg;by_cases he:uY U (bR O U Z) V J mo zo=0
   · refine Wa O U Z V J n H mo zo mb zy h0 hmo hmb hy he ((MV h0).2 fun h=>?_);have:=((CI h0).1 he).2;unfold Q.cntF at h;rw[List.eq_nil_of_length_eq_zero (show (Gall.ro U (Q.okW (bR O U Z) (gv V J)) U).length=0 by omega)] at this;cases this
   · by_cases ho:ya O U Z V J=none
     · exact Wb O U Z V J n H mo zo mb zy h0 hmo hmb hy he ho
     · exact Wc O U Z V J n H mo zo mb zy h0 hmo hmb he ho
 · refine bp (n:=n+18) Tryd.func7 rfl rfl rfl (YR (n+16) O U Z V J H mo zo mb zy (dm O U Z V J) (fun x=>x=[bt O U Z V J]∧U≤1000∧V≤1000)) (gx _ (n+16) 2 (fun q=>uG (yD (Vq wO (aR _)) (fun A H hA=>by
    obtain ⟨rfl,q1,q2⟩:=hA;rw[show n+16+q=n+13+q+3 by omega];exact Q7 (n+13+q) O U Z V J H q1 q2)))) (b9 (ah _ _) 0) (aj _ _) ?_
   refine Tr.ae (fun _=>Tr.ak trivial (Tr.ag ⟨rfl,rfl⟩)) (fun r1=>Tr.ae (fun r2=>Tr.ak ⟨rfl,?_⟩ (Tr.ae (fun _=>Tr.ak trivial (Tr.ag ⟨rfl,rfl⟩)) (fun q=>Tr.ae (fun _=>Tr.ak trivial (Tr.ag ⟨rfl,rfl⟩)) (fun q2=>Tr.ae (fun _=>Tr.ak trivial (Tr.ag ⟨rfl,rfl⟩)) (fun q3=>?_))))) (fun _=>Tr.ak trivial (Tr.ag ⟨rfl,rfl⟩)))
   · simp (disch:=omega) only[nV,nW] at r1;simp (disch:=omega) only[nV,nW] at r2;omega
   · exfalso;rw[av,aQ] at q;have q:dm O U Z V J=0:=by simpa using q
     simp (disch:=omega) only[nV,nW] at q2;simp (disch:=omega) only[nV,nW] at q3;omega
end
end Go.Eng
end
section
namespace Go.Proofs.YtgphpjdchnfjlaaDoor
open Go.ChangeShapes Go.WideShapes Go.ChangeAt Go.RowKit
theorem Tryd.own:ownKnob Tryd.prog.godebug=none:=by kernel_rfl
def Ci:List (String×DataW Unit):=[("math/bits.deBruijn32tab",Rows.laid_math_bits_deBruijn32tab),("math/bits.deBruijn64tab",Rows.laid_math_bits_deBruijn64tab)]
def t32:List Int:=Go.Lib.deBruijn32tab.map fun n:Nat=>(n:Int)
def t64:List Int:=Go.Lib.deBruijn64tab.map fun n:Nat=>(n:Int)
theorem Qr:(Rows.laid_math_bits_deBruijn64tab:DataW Unit)=Lib.tabData .u8 t64:=by kernel_rfl
set_option maxRecDepth 100000 in
theorem Gx {W:World} (h:laidMetH Tryd.prog Ci W):Eng.mg W:=by
 have h':laidMet Tryd.prog Ci W:=h;obtain ⟨ps,hv,_⟩:=h';obtain ⟨_,_,_,_,_,_,_,_,_,_,hv,_⟩:=hv;obtain ⟨g,t,cs,fuel,p,q,h1,h2,h3,h4,_⟩:=hv;obtain rfl:1=g:=Option.some.inj ((show Tryd.prog.globalNamed "math/bits.deBruijn64tab" = some 1 by kernel_rfl).symm.trans h1);obtain rfl:139=t:=Option.some.inj ((show (Tryd.prog.globals[1]?).map (·.type)=some 139 by kernel_rfl).symm.trans h2);rw[Qr] at h4;have hcs:=Lib.cells_of_tab Tryd.underlying139 Tryd.underlying5 (by kernel_rfl) (by kernel_rfl) h4;intro b o v hg;unfold Eng.pr at hg;split at hg
 · rename_i hbo;obtain ⟨rfl,ho⟩:=hbo;simp only[Option.some.injEq] at hg;subst hg;rw[World.var?_cell h1 h3 o,← Array.getElem?_toList,hcs,List.getElem?_map];have hl:Go.Lib.deBruijn64tab.length=64:=by decide
   rw[t64,List.getElem?_map,List.getElem?_eq_getElem (by omega)];simp only[Option.map_some,List.getD_eq_getElem?_getD,List.getElem?_eq_getElem (show o<Go.Lib.deBruijn64tab.length by omega),Option.getD_some]
 · cases hg
noncomputable def qz (os:Os):World :=
 let w0:=World.holding Tryd.prog os ⟨#[],#[],[]⟩
 let put (h:Array Obj) (g:Nat) (cs:Array Value):Array Obj:=h.modify g fun
  | .cells _ t frozen=>.cells cs t frozen
  | o=>o
 { w0 with heap:=put (put w0.heap 0 (t32.map fun z=>Value.int .u8 z).toArray) 1 (t64.map fun z=>Value.int .u8 z).toArray }
theorem I9 (os:Os) (args:Array Value):LaidIn Tryd.prog ((qz os).forCall (fun _ _=>0) ⟨#[],args,[]⟩).memory Ci [0,1] :=
 LaidIn.of_run [0,1] 8 (by kernel_rfl) (by kernel_rfl) (by kernel_rfl) (by kernel_rfl)
theorem GK (os:Os) (args:Array Value):laidMetH Tryd.prog Ci ((qz os).forCall (fun _ _=>0) ⟨#[],args,[]⟩).memory:=(I9 os args).met
end Go.Proofs.YtgphpjdchnfjlaaDoor
end
section
namespace Go.Eng.Gall
open Go.Proofs
def Qj:List cI:=[]
theorem DR:∀ e ∈ Qj,aG Tryd.prog e:=Jq
def j4:List Int:=[100,110,60,110,90,95,75,100,120,125,80,110,80,80,70,200]
def Fu:List Int:=[100,110,90,110,90,95,75,100,120,125,80,110,80,80,70,200]
def gR (a b w s:List Int):Row:=.G (.int .i64 10::.slcT none (.I .i64 a) 4 4 true::.slcT none (.I .i64 b) 2 1 true::(w.map (AV.int .i64)++s.map (AV.int .u64)))
def gA (a b:List Int):AV:=.agg (.G [.int .i64 10,.slcT none (.I .i64 a) 4 4 true,.slcT none (.I .i64 b) 2 1 true])
noncomputable def E1:cI:=⟨46,[],gA j4 [3,1]⟩
theorem X5:aG Tryd.prog E1:=bg DR (H':=[⟨true,[]⟩]) (by kernel_rfl) (by kernel_rfl)
noncomputable def Qk:List cI:=E1::Qj
theorem DS:∀ e ∈ Qk,aG Tryd.prog e:=a8 X5 DR
noncomputable def E2:cI:=⟨47,[],gA Fu [3,1]⟩
theorem X6:aG Tryd.prog E2:=bg DS (H':=[⟨true,[]⟩]) (by kernel_rfl) (by kernel_rfl)
noncomputable def Ql:List cI:=E2::Qk
theorem DT:∀ e ∈ Ql,aG Tryd.prog e:=a8 X6 DS
noncomputable def E3:cI:=⟨22,[gA j4 [3,1]],.int .i64 0⟩
theorem X7:aG Tryd.prog E3:=bg DT (H':=[⟨true,[]⟩]) (by kernel_rfl) (by kernel_rfl)
noncomputable def Qm:List cI:=E3::Ql
theorem DU:∀ e ∈ Qm,aG Tryd.prog e:=a8 X7 DT
noncomputable def E4:cI:=⟨16,[gA j4 [3,1],.int .i64 2,.int .i64 2],.tup [.agg (.I .i64 [100,105]),.int .i64 0]⟩
theorem X8:aG Tryd.prog E4:=bg DU (H':=[⟨true,[]⟩]) (by kernel_rfl) (by kernel_rfl)
noncomputable def Qn:List cI:=E4::Qm
theorem DV:∀ e ∈ Qn,aG Tryd.prog e:=a8 X8 DU
end Go.Eng.Gall
end
section
namespace Go.Eng.Gall
open Go.Proofs
noncomputable def E5:cI:=⟨18,[gA j4 [3,1],.int .i64 2],.tup [.agg (.I .i64 [2,3]),.int .i64 0]⟩
theorem X9:aG Tryd.prog E5:=bg DV (H':=[⟨true,[]⟩]) (by kernel_rfl) (by kernel_rfl)
noncomputable def Qo:List cI:=E5::Qn
theorem DW:∀ e ∈ Qo,aG Tryd.prog e:=a8 X9 DV
noncomputable def E6:cI:=⟨56,[.ptrT none (gR j4 [3,1] [0,3,0,1,2,3,0,1,0,0,0,0,0,0,0,0,0,0,0,0] [0,8,0,0,0,0,0,0,0,0]) 0],.agg (.I .i64 [0,3,1,1,2,3,0,0,0,0,0,0,0,0,0,0,0,0,0,0])⟩
theorem Ya:aG Tryd.prog E6:=bg DW (H':=[⟨true,[]⟩]) (by kernel_rfl) (by kernel_rfl)
noncomputable def Qq:List cI:=E6::Qo
theorem DX:∀ e ∈ Qq,aG Tryd.prog e:=a8 Ya DW
noncomputable def E7:cI:=⟨20,[gA j4 [3,1],.int .i64 1],.tup [.agg (.I .i64 [1,1]),.int .i64 0]⟩
theorem Yb:aG Tryd.prog E7:=bg DX (H':=[⟨true,[]⟩]) (by kernel_rfl) (by kernel_rfl)
noncomputable def Qs:List cI:=E7::Qq
theorem DY:∀ e ∈ Qs,aG Tryd.prog e:=a8 Yb DX
noncomputable def E8:cI:=⟨49,[gA j4 [3,1],.nils],.tup [.ptrT none (gR j4 [3,1] [0,3,0,1,2,3,0,1,0,0,0,0,0,0,0,0,0,0,0,0] [0,8,0,0,0,0,0,0,0,0]) 0,.int .i64 0]⟩
theorem Yc:aG Tryd.prog E8:=bg DY (H':=[⟨true,[]⟩]) (by kernel_rfl) (by kernel_rfl)
noncomputable def Qt:List cI:=E8::Qs
theorem DZ:∀ e ∈ Qt,aG Tryd.prog e:=a8 Yc DY
end Go.Eng.Gall
end
section
namespace Go.Eng.Gall
open Go.Proofs
noncomputable def E9:cI:=⟨65,[.ptrT none (gR j4 [3,1] [0,3,0,1,2,3,0,1,0,0,0,0,0,0,0,0,0,0,0,0] [0,8,0,0,0,0,0,0,0,0]) 0],.tup [.agg (.G [.int .i64 0,.int .i64 0,.nils]),.bool false]⟩
theorem Yd:aG Tryd.prog E9:=bg DZ (H':=[⟨true,[]⟩]) (by kernel_rfl) (by kernel_rfl)
noncomputable def Qu:List cI:=E9::Qt
theorem D0:∀ e ∈ Qu,aG Tryd.prog e:=a8 Yd DZ
noncomputable def Ux:cI:=⟨56,[.ptrT none (gR j4 [3,1] [0,0,0,1,2,3,0,1,0,0,0,0,0,0,0,0,0,0,0,0] [0,8,0,0,0,0,0,0,0,0]) 0],.agg (.I .i64 [0,0,1,1,2,3,0,0,0,0,0,0,0,0,0,0,0,0,0,0])⟩
theorem SC:aG Tryd.prog Ux:=bg D0 (H':=[⟨true,[]⟩]) (by kernel_rfl) (by kernel_rfl)
noncomputable def KZ:List cI:=Ux::Qu
theorem Af:∀ e ∈ KZ,aG Tryd.prog e:=a8 SC D0
noncomputable def Uy:cI:=⟨65,[.ptrT none (gR j4 [3,1] [0,0,0,1,2,3,0,1,0,0,0,0,0,0,0,0,0,0,0,0] [0,8,0,0,0,0,0,0,0,0]) 0],.tup [.agg (.G [.int .i64 0,.int .i64 0,.slcT none (.I .i64 [0,3]) 1 2 false]),.bool true]⟩
theorem SD:aG Tryd.prog Uy:=bg Af (H':=[⟨true,[]⟩]) (by kernel_rfl) (by kernel_rfl)
noncomputable def K0:List cI:=Uy::KZ
theorem Ag:∀ e ∈ K0,aG Tryd.prog e:=a8 SD Af
noncomputable def Uz:cI:=⟨56,[.ptrT none (gR j4 [3,1] [0,3,0,1,2,3,0,0,0,0,0,0,0,0,0,0,0,0,0,0] [0,8,0,0,0,0,0,0,0,0]) 0],.agg (.I .i64 [0,3,1,1,2,3,0,0,0,0,0,0,0,0,0,0,0,0,0,0])⟩
theorem SE:aG Tryd.prog Uz:=bg Ag (H':=[⟨true,[]⟩]) (by kernel_rfl) (by kernel_rfl)
noncomputable def K1:List cI:=Uz::K0
theorem Ah:∀ e ∈ K1,aG Tryd.prog e:=a8 SE Ag
end Go.Eng.Gall
end
section
namespace Go.Eng.Gall
open Go.Proofs
noncomputable def UA:cI:=⟨65,[.ptrT none (gR j4 [3,1] [0,3,0,1,2,3,0,0,0,0,0,0,0,0,0,0,0,0,0,0] [0,8,0,0,0,0,0,0,0,0]) 0],.tup [.agg (.G [.int .i64 0,.int .i64 0,.nils]),.bool false]⟩
theorem SF:aG Tryd.prog UA:=bg Ah (H':=[⟨true,[]⟩]) (by kernel_rfl) (by kernel_rfl)
noncomputable def K2:List cI:=UA::K1
theorem Ai:∀ e ∈ K2,aG Tryd.prog e:=a8 SF Ah
noncomputable def UB:cI:=⟨56,[.ptrT none (gR j4 [3,1] [1,1,0,1,2,3,0,0,0,0,0,0,0,0,0,0,0,0,0,0] [0,8,0,0,0,0,0,0,0,0]) 0],.agg (.I .i64 [1,1,1,1,2,3,0,0,0,0,0,0,0,0,0,0,0,0,0,0])⟩
theorem SG:aG Tryd.prog UB:=bg Ai (H':=[⟨true,[]⟩]) (by kernel_rfl) (by kernel_rfl)
noncomputable def K3:List cI:=UB::K2
theorem Aj:∀ e ∈ K3,aG Tryd.prog e:=a8 SG Ai
noncomputable def UC:cI:=⟨65,[.ptrT none (gR j4 [3,1] [1,1,0,1,2,3,0,0,0,0,0,0,0,0,0,0,0,0,0,0] [0,8,0,0,0,0,0,0,0,0]) 0],.tup [.agg (.G [.int .i64 0,.int .i64 1,.slcT none (.I .i64 [0,1,3]) 1 3 false]),.bool true]⟩
theorem SH:aG Tryd.prog UC:=bg Aj (H':=[⟨true,[]⟩]) (by kernel_rfl) (by kernel_rfl)
noncomputable def K4:List cI:=UC::K3
theorem Ak:∀ e ∈ K4,aG Tryd.prog e:=a8 SH Aj
noncomputable def UD:cI:=⟨56,[.ptrT none (gR j4 [3,1] [0,3,1,1,2,3,0,0,0,0,0,0,0,0,0,0,0,0,0,0] [0,8,0,0,0,0,0,0,0,0]) 0],.agg (.I .i64 [0,3,1,1,2,3,0,0,0,0,0,0,0,0,0,0,0,0,0,0])⟩
theorem SI:aG Tryd.prog UD:=bg Ak (H':=[⟨true,[]⟩]) (by kernel_rfl) (by kernel_rfl)
noncomputable def K5:List cI:=UD::K4
theorem Al:∀ e ∈ K5,aG Tryd.prog e:=a8 SI Ak
end Go.Eng.Gall
end
section
namespace Go.Eng.Gall
open Go.Proofs
noncomputable def UE:cI:=⟨65,[.ptrT none (gR j4 [3,1] [0,3,1,1,2,3,0,0,0,0,0,0,0,0,0,0,0,0,0,0] [0,8,0,0,0,0,0,0,0,0]) 0],.tup [.agg (.G [.int .i64 0,.int .i64 0,.nils]),.bool false]⟩
theorem SJ:aG Tryd.prog UE:=bg Al (H':=[⟨true,[]⟩]) (by kernel_rfl) (by kernel_rfl)
noncomputable def K6:List cI:=UE::K5
theorem Am:∀ e ∈ K6,aG Tryd.prog e:=a8 SJ Al
noncomputable def UF:cI:=⟨56,[.ptrT none (gR j4 [3,1] [2,2,1,1,2,3,0,0,0,0,0,0,0,0,0,0,0,0,0,0] [0,8,0,0,0,0,0,0,0,0]) 0],.agg (.I .i64 [2,2,1,1,2,3,0,0,0,0,0,0,0,0,0,0,0,0,0,0])⟩
theorem SK:aG Tryd.prog UF:=bg Am (H':=[⟨true,[]⟩]) (by kernel_rfl) (by kernel_rfl)
noncomputable def K7:List cI:=UF::K6
theorem An:∀ e ∈ K7,aG Tryd.prog e:=a8 SK Am
noncomputable def UG:cI:=⟨65,[.ptrT none (gR j4 [3,1] [2,2,1,1,2,3,0,0,0,0,0,0,0,0,0,0,0,0,0,0] [0,8,0,0,0,0,0,0,0,0]) 0],.tup [.agg (.G [.int .i64 0,.int .i64 0,.nils]),.bool false]⟩
theorem SL:aG Tryd.prog UG:=bg An (H':=[⟨true,[]⟩]) (by kernel_rfl) (by kernel_rfl)
noncomputable def K8:List cI:=UG::K7
theorem Ao:∀ e ∈ K8,aG Tryd.prog e:=a8 SL An
noncomputable def UH:cI:=⟨56,[.ptrT none (gR j4 [3,1] [2,2,1,1,3,3,0,0,0,0,0,0,0,0,0,0,0,0,0,0] [0,8,0,0,0,0,0,0,0,0]) 0],.agg (.I .i64 [2,2,1,1,3,3,0,0,0,0,0,0,0,0,0,0,0,0,0,0])⟩
theorem SM:aG Tryd.prog UH:=bg Ao (H':=[⟨true,[]⟩]) (by kernel_rfl) (by kernel_rfl)
noncomputable def K9:List cI:=UH::K8
theorem Ap:∀ e ∈ K9,aG Tryd.prog e:=a8 SM Ao
end Go.Eng.Gall
end
section
namespace Go.Eng.Gall
open Go.Proofs
noncomputable def UI:cI:=⟨65,[.ptrT none (gR j4 [3,1] [2,2,1,1,3,3,0,0,0,0,0,0,0,0,0,0,0,0,0,0] [0,8,0,0,0,0,0,0,0,0]) 0],.tup [.agg (.G [.int .i64 0,.int .i64 0,.nils]),.bool false]⟩
theorem SN:aG Tryd.prog UI:=bg Ap (H':=[⟨true,[]⟩]) (by kernel_rfl) (by kernel_rfl)
noncomputable def La:List cI:=UI::K9
theorem Aq:∀ e ∈ La,aG Tryd.prog e:=a8 SN Ap
noncomputable def UJ:cI:=⟨74,[.ptrT none (gR j4 [3,1] [0,3,0,1,2,3,0,1,0,0,0,0,0,0,0,0,0,0,0,0] [0,8,0,0,0,0,0,0,0,0]) 0],.slcT none (.I .i64 [3,1,0,2]) 1 4 false⟩
theorem SO:aG Tryd.prog UJ:=bg Aq (H':=[⟨true,[]⟩]) (by kernel_rfl) (by kernel_rfl)
noncomputable def Lb:List cI:=UJ::La
theorem Ar:∀ e ∈ Lb,aG Tryd.prog e:=a8 SO Aq
noncomputable def UK:cI:=⟨38,[gA j4 [3,1]],.tup [.slcT none (.I .i64 [3,1,0,2]) 1 4 true,.int .i64 0]⟩
theorem SP:aG Tryd.prog UK:=bg Ar (H':=[⟨true,[]⟩]) (by kernel_rfl) (by kernel_rfl)
noncomputable def Lc:List cI:=UK::Lb
theorem Au:∀ e ∈ Lc,aG Tryd.prog e:=a8 SP Ar
noncomputable def UL:cI:=⟨22,[gA Fu [3,1]],.int .i64 0⟩
theorem SQ:aG Tryd.prog UL:=bg Au (H':=[⟨true,[]⟩]) (by kernel_rfl) (by kernel_rfl)
noncomputable def Ld:List cI:=UL::Lc
theorem Aw:∀ e ∈ Ld,aG Tryd.prog e:=a8 SQ Au
end Go.Eng.Gall
end
section
namespace Go.Eng.Gall
open Go.Proofs
noncomputable def UM:cI:=⟨49,[gA Fu [3,1],.nils],.tup [.ptrT none (gR Fu [3,1] [0,1,0,1,2,3,0,1,0,0,0,0,0,0,0,0,0,0,0,0] [0,8,0,0,0,0,0,0,0,0]) 0,.int .i64 0]⟩
theorem SR:aG Tryd.prog UM:=bg Aw (H':=[⟨true,[]⟩]) (by kernel_rfl) (by kernel_rfl)
noncomputable def Le:List cI:=UM::Ld
theorem Ax:∀ e ∈ Le,aG Tryd.prog e:=a8 SR Aw
noncomputable def UN:cI:=⟨56,[.ptrT none (gR Fu [3,1] [0,1,0,1,2,3,0,1,0,0,0,0,0,0,0,0,0,0,0,0] [0,8,0,0,0,0,0,0,0,0]) 0],.agg (.I .i64 [0,1,1,1,2,3,0,0,0,0,0,0,0,0,0,0,0,0,0,0])⟩
theorem SS:aG Tryd.prog UN:=bg Ax (H':=[⟨true,[]⟩]) (by kernel_rfl) (by kernel_rfl)
noncomputable def Lf:List cI:=UN::Le
theorem Ay:∀ e ∈ Lf,aG Tryd.prog e:=a8 SS Ax
noncomputable def UO:cI:=⟨65,[.ptrT none (gR Fu [3,1] [0,1,0,1,2,3,0,1,0,0,0,0,0,0,0,0,0,0,0,0] [0,8,0,0,0,0,0,0,0,0]) 0],.tup [.agg (.G [.int .i64 0,.int .i64 1,.slcT none (.I .i64 [0,1,3]) 1 3 false]),.bool true]⟩
theorem SU:aG Tryd.prog UO:=bg Ay (H':=[⟨true,[]⟩]) (by kernel_rfl) (by kernel_rfl)
noncomputable def Lg:List cI:=UO::Lf
theorem Az:∀ e ∈ Lg,aG Tryd.prog e:=a8 SU Ay
noncomputable def UP:cI:=⟨74,[.ptrT none (gR Fu [3,1] [0,1,0,1,2,3,0,1,0,0,0,0,0,0,0,0,0,0,0,0] [0,8,0,0,0,0,0,0,0,0]) 0],.nils⟩
theorem SV:aG Tryd.prog UP:=bg Az (H':=[⟨true,[]⟩]) (by kernel_rfl) (by kernel_rfl)
noncomputable def Lh:List cI:=UP::Lg
theorem AA:∀ e ∈ Lh,aG Tryd.prog e:=a8 SV Az
end Go.Eng.Gall
end
section
namespace Go.Eng.Gall
open Go.Proofs
noncomputable def UQ:cI:=⟨38,[gA Fu [3,1]],.tup [.nils,.int .i64 13]⟩
theorem SW:aG Tryd.prog UQ:=bg AA (H':=[⟨true,[]⟩]) (by kernel_rfl) (by kernel_rfl)
noncomputable def Li:List cI:=UQ::Lh
theorem AB:∀ e ∈ Li,aG Tryd.prog e:=a8 SW AA
noncomputable def UR:cI:=⟨25,[gA Fu [3,1]],.tup [.agg (.G [.int .i64 0,.int .i64 1,.slcT none (.I .i64 [0,1,3]) 1 3 false]),.int .i64 0]⟩
theorem Jt:aG Tryd.prog UR:=bg AB (H':=[⟨true,[]⟩]) (by kernel_rfl) (by kernel_rfl)
noncomputable def Lj:List cI:=UR::Li
theorem AD:∀ e ∈ Lj,aG Tryd.prog e:=a8 Jt AB
noncomputable def US:cI:=⟨56,[.ptrT none (gR j4 [3,1] [1,1,0,1,2,3,0,1,0,0,0,0,0,0,0,0,0,0,0,0] [0,8,0,0,0,0,0,0,0,0]) 0],.agg (.I .i64 [1,1,1,1,2,3,0,0,0,0,0,0,0,0,0,0,0,0,0,0])⟩
theorem SX:aG Tryd.prog US:=bg AD (H':=[⟨true,[]⟩]) (by kernel_rfl) (by kernel_rfl)
noncomputable def Lk:List cI:=US::Lj
theorem AE:∀ e ∈ Lk,aG Tryd.prog e:=a8 SX AD
noncomputable def UT:cI:=⟨65,[.ptrT none (gR j4 [3,1] [1,1,0,1,2,3,0,1,0,0,0,0,0,0,0,0,0,0,0,0] [0,8,0,0,0,0,0,0,0,0]) 0],.tup [.agg (.G [.int .i64 0,.int .i64 1,.slcT none (.I .i64 [0,1,3]) 1 3 false]),.bool true]⟩
theorem SY:aG Tryd.prog UT:=bg AE (H':=[⟨true,[]⟩]) (by kernel_rfl) (by kernel_rfl)
noncomputable def Ll:List cI:=UT::Lk
theorem AF:∀ e ∈ Ll,aG Tryd.prog e:=a8 SY AE
end Go.Eng.Gall
end
section
namespace Go.Eng.Gall
open Go.Proofs
noncomputable def UU:cI:=⟨56,[.ptrT none (gR j4 [3,1] [2,2,0,1,2,3,0,1,0,0,0,0,0,0,0,0,0,0,0,0] [0,8,0,0,0,0,0,0,0,0]) 0],.agg (.I .i64 [2,2,1,1,2,3,0,0,0,0,0,0,0,0,0,0,0,0,0,0])⟩
theorem SZ:aG Tryd.prog UU:=bg AF (H':=[⟨true,[]⟩]) (by kernel_rfl) (by kernel_rfl)
noncomputable def Lm:List cI:=UU::Ll
theorem AG:∀ e ∈ Lm,aG Tryd.prog e:=a8 SZ AF
noncomputable def UW:cI:=⟨65,[.ptrT none (gR j4 [3,1] [2,2,0,1,2,3,0,1,0,0,0,0,0,0,0,0,0,0,0,0] [0,8,0,0,0,0,0,0,0,0]) 0],.tup [.agg (.G [.int .i64 0,.int .i64 0,.nils]),.bool false]⟩
theorem S0:aG Tryd.prog UW:=bg AG (H':=[⟨true,[]⟩]) (by kernel_rfl) (by kernel_rfl)
noncomputable def Ln:List cI:=UW::Lm
theorem AH:∀ e ∈ Ln,aG Tryd.prog e:=a8 S0 AG
noncomputable def UX:cI:=⟨56,[.ptrT none (gR j4 [3,1] [3,3,0,1,2,3,0,1,0,0,0,0,0,0,0,0,0,0,0,0] [0,8,0,0,0,0,0,0,0,0]) 0],.agg (.I .i64 [3,3,1,1,2,3,0,0,0,0,0,0,0,0,0,0,0,0,0,0])⟩
theorem S1:aG Tryd.prog UX:=bg AH (H':=[⟨true,[]⟩]) (by kernel_rfl) (by kernel_rfl)
noncomputable def Lo:List cI:=UX::Ln
theorem AI:∀ e ∈ Lo,aG Tryd.prog e:=a8 S1 AH
noncomputable def UY:cI:=⟨65,[.ptrT none (gR j4 [3,1] [3,3,0,1,2,3,0,1,0,0,0,0,0,0,0,0,0,0,0,0] [0,8,0,0,0,0,0,0,0,0]) 0],.tup [.agg (.G [.int .i64 0,.int .i64 0,.nils]),.bool false]⟩
theorem S2:aG Tryd.prog UY:=bg AI (H':=[⟨true,[]⟩]) (by kernel_rfl) (by kernel_rfl)
noncomputable def Lp:List cI:=UY::Lo
theorem AJ:∀ e ∈ Lp,aG Tryd.prog e:=a8 S2 AI
end Go.Eng.Gall
end
section
namespace Go.Eng.Gall
open Go.Proofs
noncomputable def UZ:cI:=⟨30,[gA j4 [3,1],.int .i64 0],.tup [.slcT none (.I .i64 [2,3]) 1 2 false,.int .i64 0]⟩
theorem S3:aG Tryd.prog UZ:=bg AJ (H':=[⟨true,[]⟩]) (by kernel_rfl) (by kernel_rfl)
noncomputable def Lq:List cI:=UZ::Lp
theorem AK:∀ e ∈ Lq,aG Tryd.prog e:=a8 S3 AJ
noncomputable def U0:cI:=⟨56,[.ptrT none (gR j4 [3,1] [0,3,0,1,2,3,0,1,0,0,0,0,0,0,0,0,0,0,0,0] [0,9,0,0,0,0,0,0,0,0]) 0],.agg (.I .i64 [0,0,1,1,2,3,0,0,0,0,0,0,0,0,0,0,0,0,0,0])⟩
theorem S4:aG Tryd.prog U0:=bg AK (H':=[⟨true,[]⟩]) (by kernel_rfl) (by kernel_rfl)
noncomputable def Lr:List cI:=U0::Lq
theorem AL:∀ e ∈ Lr,aG Tryd.prog e:=a8 S4 AK
noncomputable def U1:cI:=⟨65,[.ptrT none (gR j4 [3,1] [0,3,0,1,2,3,0,1,0,0,0,0,0,0,0,0,0,0,0,0] [0,9,0,0,0,0,0,0,0,0]) 0],.tup [.agg (.G [.int .i64 0,.int .i64 0,.slcT none (.I .i64 [0,3]) 1 2 false]),.bool true]⟩
theorem S5:aG Tryd.prog U1:=bg AL (H':=[⟨true,[]⟩]) (by kernel_rfl) (by kernel_rfl)
noncomputable def Ls:List cI:=U1::Lr
theorem AM:∀ e ∈ Ls,aG Tryd.prog e:=a8 S5 AL
noncomputable def U2:cI:=⟨32,[gA j4 [3,1],.int .i64 1,.int .i64 0],.tup [.bool true,.int .i64 0]⟩
theorem S6:aG Tryd.prog U2:=bg AM (H':=[⟨true,[]⟩]) (by kernel_rfl) (by kernel_rfl)
noncomputable def Lt:List cI:=U2::Ls
theorem HS:∀ e ∈ Lt,aG Tryd.prog e:=a8 S6 AM
end Go.Eng.Gall
end
section
namespace Go.Eng.Gall
open Go.Proofs
noncomputable def U3:cI:=⟨73,[.ptrT none (gR j4 [3,1] [0,3,0,1,2,3,0,1,0,0,0,0,0,0,0,0,0,0,0,0] [0,8,0,0,0,0,0,0,0,0]) 0],.int .i64 2⟩
theorem S7:aG Tryd.prog U3:=G8 (O:=10) (U:=4) (zl:=[100,110,60,110,90,95,75,100,120,125,80,110,80,80,70,200]) (V:=1) (bl:=[3,1]) (f1:=true) (f2:=true) (Wl:=[0,3,0,1,2,3,0,1,0,0,0,0,0,0,0,0,0,0,0,0]) (Bl:=[0,8,0,0,0,0,0,0,0,0]) (v:=2) rfl (by decide) rfl rfl rfl rfl (by kernel_rfl)
noncomputable def Lu:List cI:=U3::Lt
theorem AN:∀ e ∈ Lu,aG Tryd.prog e:=a8 S7 HS
noncomputable def U4:cI:=⟨34,[gA j4 [3,1]],.tup [.int .i64 2,.int .i64 0]⟩
theorem S8:aG Tryd.prog U4:=bg AN (H':=[⟨true,[]⟩]) (by kernel_rfl) (by kernel_rfl)
noncomputable def Lv:List cI:=U4::Lu
theorem AO:∀ e ∈ Lv,aG Tryd.prog e:=a8 S8 AN
noncomputable def U5:cI:=⟨18,[gA j4 [3,1],.int .i64 0],.tup [.agg (.I .i64 [0,3]),.int .i64 0]⟩
theorem S9:aG Tryd.prog U5:=bg AO (H':=[⟨true,[]⟩]) (by kernel_rfl) (by kernel_rfl)
noncomputable def Lw:List cI:=U5::Lv
theorem AP:∀ e ∈ Lw,aG Tryd.prog e:=a8 S9 AO
noncomputable def U6:cI:=⟨18,[gA j4 [3,1],.int .i64 1],.tup [.agg (.I .i64 [0,1]),.int .i64 0]⟩
theorem Ta:aG Tryd.prog U6:=bg AP (H':=[⟨true,[]⟩]) (by kernel_rfl) (by kernel_rfl)
noncomputable def Lx:List cI:=U6::Lw
theorem AQ:∀ e ∈ Lx,aG Tryd.prog e:=a8 Ta AP
end Go.Eng.Gall
end
section
namespace Go.Eng.Gall
open Go.Proofs
noncomputable def U7:cI:=⟨18,[gA j4 [3,1],.int .i64 3],.tup [.agg (.I .i64 [0,1]),.int .i64 0]⟩
theorem Tb:aG Tryd.prog U7:=bg AQ (H':=[⟨true,[]⟩]) (by kernel_rfl) (by kernel_rfl)
noncomputable def Ly:List cI:=U7::Lx
theorem AR:∀ e ∈ Ly,aG Tryd.prog e:=a8 Tb AQ
noncomputable def U8:cI:=⟨20,[gA j4 [3,1],.int .i64 3],.tup [.agg (.I .i64 [0,0]),.int .i64 0]⟩
theorem Tc:aG Tryd.prog U8:=bg AR (H':=[⟨true,[]⟩]) (by kernel_rfl) (by kernel_rfl)
noncomputable def Lz:List cI:=U8::Ly
theorem AS:∀ e ∈ Lz,aG Tryd.prog e:=a8 Tc AR
noncomputable def U9:cI:=⟨56,[.ptrT none (gR j4 [3,1] [0,3,0,1,2,3,0,1,0,0,0,0,0,0,0,0,0,0,0,0] [4,8,0,0,0,0,0,0,0,0]) 0],.agg (.I .i64 [3,3,1,1,2,2,0,0,0,0,0,0,0,0,0,0,0,0,0,0])⟩
theorem Td:aG Tryd.prog U9:=bg AS (H':=[⟨true,[]⟩]) (by kernel_rfl) (by kernel_rfl)
noncomputable def LA:List cI:=U9::Lz
theorem AT:∀ e ∈ LA,aG Tryd.prog e:=a8 Td AS
noncomputable def Va:cI:=⟨65,[.ptrT none (gR j4 [3,1] [0,3,0,1,2,3,0,1,0,0,0,0,0,0,0,0,0,0,0,0] [4,8,0,0,0,0,0,0,0,0]) 0],.tup [.agg (.G [.int .i64 0,.int .i64 0,.nils]),.bool false]⟩
theorem Te:aG Tryd.prog Va:=bg AT (H':=[⟨true,[]⟩]) (by kernel_rfl) (by kernel_rfl)
noncomputable def LB:List cI:=Va::LA
theorem AU:∀ e ∈ LB,aG Tryd.prog e:=a8 Te AT
end Go.Eng.Gall
end
section
namespace Go.Eng.Gall
open Go.Proofs
noncomputable def Vb:cI:=⟨32,[gA j4 [3,1],.int .i64 0,.int .i64 2],.tup [.bool false,.int .i64 0]⟩
theorem Tf:aG Tryd.prog Vb:=bg AU (H':=[⟨true,[]⟩]) (by kernel_rfl) (by kernel_rfl)
noncomputable def LC:List cI:=Vb::LB
theorem HT:∀ e ∈ LC,aG Tryd.prog e:=a8 Tf AU
noncomputable def Vc:cI:=⟨73,[.ptrT none (gR Fu [3,1] [0,1,0,1,2,3,0,1,0,0,0,0,0,0,0,0,0,0,0,0] [0,8,0,0,0,0,0,0,0,0]) 0],.int .i64 0⟩
theorem Tg:aG Tryd.prog Vc:=G8 (O:=10) (U:=4) (zl:=[100,110,90,110,90,95,75,100,120,125,80,110,80,80,70,200]) (V:=1) (bl:=[3,1]) (f1:=true) (f2:=true) (Wl:=[0,1,0,1,2,3,0,1,0,0,0,0,0,0,0,0,0,0,0,0]) (Bl:=[0,8,0,0,0,0,0,0,0,0]) (v:=0) rfl (by decide) rfl rfl rfl rfl (by kernel_rfl)
noncomputable def LD:List cI:=Vc::LC
theorem AW:∀ e ∈ LD,aG Tryd.prog e:=a8 Tg HT
noncomputable def Vd:cI:=⟨34,[gA Fu [3,1]],.tup [.int .i64 0,.int .i64 0]⟩
theorem Th:aG Tryd.prog Vd:=bg AW (H':=[⟨true,[]⟩]) (by kernel_rfl) (by kernel_rfl)
noncomputable def LF:List cI:=Vd::LD
theorem AX:∀ e ∈ LF,aG Tryd.prog e:=a8 Th AW
noncomputable def Ve:cI:=⟨25,[gA j4 [3,1]],.tup [.agg (.G [.int .i64 0,.int .i64 0,.nils]),.int .i64 5]⟩
theorem Ti:aG Tryd.prog Ve:=bg AX (H':=[⟨true,[]⟩]) (by kernel_rfl) (by kernel_rfl)
noncomputable def LG:List cI:=Ve::LF
theorem AY:∀ e ∈ LG,aG Tryd.prog e:=a8 Ti AX
end Go.Eng.Gall
end
section
namespace Go.Eng.Gall
open Go.Proofs
noncomputable def Vf:cI:=⟨30,[gA Fu [3,1],.int .i64 0],.tup [.nils,.int .i64 13]⟩
theorem Tj:aG Tryd.prog Vf:=bg AY (H':=[⟨true,[]⟩]) (by kernel_rfl) (by kernel_rfl)
noncomputable def Qp:List cI:=Vf::LG
theorem HU:∀ e ∈ Qp,aG Tryd.prog e:=a8 Tj AY
end Go.Eng.Gall
end
section
namespace Go.Eng.Gall
open Go.Proofs
noncomputable def EW:cI:=⟨15,[],.bool true⟩
theorem PD:aG Tryd.prog EW:=bg HU (H':=[⟨true,[]⟩]) (by kernel_rfl) (by kernel_rfl)
end Go.Eng.Gall
end
