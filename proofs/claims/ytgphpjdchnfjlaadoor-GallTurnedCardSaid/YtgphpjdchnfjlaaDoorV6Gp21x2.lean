/- Gall: a list that is turned round: windows, pairs, orders (plain law). -/
import Derived.Test.YtgphpjdchnfjlaaDoorV6Gclx6
import Derived.Test.YtgphpjdchnfjlaaDoorV6Gbtx18
set_option linter.unusedVariables false
set_option linter.unusedSimpArgs false
set_option maxRecDepth 100000
section
namespace Go.Eng
open Go.Proofs Go.Eng.Gall Go.Eng.Q
def VD (O:Int) (U:Nat) (Z X:Nat→Int):Prop:=∀ c,c<U→X (c*4)=(U-1)*O+1000-Z (c*4+1)∧X (c*4+1)=(U-1)*O+1000-Z (c*4)∧X (c*4+2)=1000-Z (c*4+3)∧X (c*4+3)=1000-Z (c*4+2)
def Iy (V:Nat) (J Y:Nat→Int):Prop:=∀ i,i<V→Y (i*2)=J (i*2+1)∧Y (i*2+1)=J (i*2)
theorem Iy.sym {V:Nat} {J Y:Nat→Int} (h:Iy V J Y):Iy V Y J:=fun i hi=>⟨((h i hi).2).symm,((h i hi).1).symm⟩
section
variable {O:Int} {U:Nat} {Z X:Nat→Int} {V:Nat} {J Y:Nat→Int}
theorem My (hd:1≤O) (hX:VD O U Z X):Iz U (dg O U Z) (dg O U X):=fun c hc=>by
 obtain ⟨x0,x1,x2,x3⟩:=hX c hc;unfold dg;rw[if_pos wO,if_pos wO,if_pos wO,if_neg wO,if_pos wO,if_neg wO,if_pos wO,if_pos wO,show 2*c / 2=c by omega,show (2*c+1) / 2=c by omega,x0,x1,x2,x3];have e1:(1000-Z (c*4+2)-(((U:Int)-1)*O+1000-Z (c*4))) / O=(Z (c*4)-Z (c*4+2)) / O-(U-1):=by
  rw[show 1000-Z (c*4+2)-(((U:Int)-1)*O+1000-Z (c*4))=Z (c*4)-Z (c*4+2) + -((U:Int)-1)*O by rw[Int.neg_mul];omega,Int.add_mul_ediv_right _ _ wO];omega
 have e2:(((U:Int)-1)*O+1000-Z (c*4+1)-(1000-Z (c*4+3))) / O=(Z (c*4+3)-Z (c*4+1)) / O+(U-1):=by
  rw[show ((U:Int)-1)*O+1000-Z (c*4+1)-(1000-Z (c*4+3))=Z (c*4+3)-Z (c*4+1)+((U:Int)-1)*O by omega,Int.add_mul_ediv_right _ _ wO]
 rw[e1,e2];omega
theorem Mx (hY:Iy V J Y) (a c:Int):p8 V Y a c=p8 V J c a:=by
 have h:∀ {J Y:Nat→Int},Iy V J Y→∀ a c,p8 V J c a=true→p8 V Y a c=true:=fun hY a c h=>by
  obtain ⟨i,hi,e⟩:=(cj _ _).1 h;unfold gE at e;rw[Bool.and_eq_true,decide_eq_true_iff,decide_eq_true_iff] at e;refine (cj _ _).2 ⟨i,hi,?_⟩;unfold gE;rw[(hY i hi).1,(hY i hi).2,Bool.and_eq_true,decide_eq_true_iff,decide_eq_true_iff];exact ⟨e.2,e.1⟩
 rw[Bool.eq_iff_iff];exact ⟨h hY.sym c a,h hY a c⟩
theorem Rp (hp:fW U V J) (hY:Iy V J Y):fW U V Y:=fun i hi=>by
 have:=hp i hi;rw[(hY i hi).1,(hY i hi).2];omega
theorem Mv (hp:fW U V J) (hY:Iy V J Y):KV U (fun c=>fA J c V) (fun c=>fA Y c V):=fun a c ha hc=>by
 rw[← si (Rp hp hY),← si hp,Mx hY]
def IK (m:Nat) (z y:Nat→Int):Prop:=∀ i,i<m→y i=z (m-1-i)
theorem IK.sym {m:Nat} {z y:Nat→Int} (h:IK m z y):IK m y z:=fun i hi=>by rw[h (m-1-i) wO];congr 1;omega
variable {m:Nat} {z y:Nat→Int} {W Y0:Nat→Int}
theorem Ro (hz:IK m z y):Bf y U m=Bf z U m:=by
 have h:∀ {z y:Nat→Int},IK m z y→Bf z U m=true→Bf y U m=true:=fun hz h=>by
  obtain ⟨h1,h2⟩:=jC.1 h;refine jC.2 ⟨h1,fun i hi=>?_⟩;rw[hz i hi];refine ⟨(h2 _ wO).1,fun j hj=>?_⟩;rw[hz j wO];exact fun e=>(h2 (m-1-j) wO).2 (m-1-i) wO e.symm
 rw[Bool.eq_iff_iff];exact ⟨h hz.sym,h hz⟩
theorem Rm (hY:Iy V J Y) (hW:Iz U W Y0) (hz:IK m z y):rR U Y0 V Y m y=rR U W V J m z:=by
 unfold rR;rw[Ro hz];by_cases hp:Bf z U m=true
 · rw[if_pos hp,if_pos hp];obtain ⟨h1,h2⟩:=jC.1 hp;have hs:∀ {W Y0:Nat→Int} {z y:Nat→Int},Iz U W Y0→IK m z y→(∀ i,i<m→0≤z i∧z i<U)→dH (fun j=>!vI W (z j) j) m=true→dH (fun j=>!vI Y0 (y j) j) m=true:=fun {W Y0 z y} hW hz hr h=>by
    obtain ⟨i,hi,e⟩:=(cj _ _).1 h;refine (cj _ _).2 ⟨m-1-i,by omega,?_⟩;have hc:=hr i hi;have hw:=hW (z i).toNat wO;rw[hz _ wO,show m-1-(m-1-i)=i by omega];rw[Bool.not_eq_true'] at e ⊢;unfold vI at e ⊢;rw[Bool.and_eq_false_iff,decide_eq_false_iff_not,decide_eq_false_iff_not] at e ⊢;rw[hw.1,hw.2];omega
   have hb:∀ {J Y:Nat→Int} {z y:Nat→Int},Iy V J Y→IK m z y→dH (K1 V J z) m=true→dH (K1 V Y y) m=true:=fun hY hz h=>by
    obtain ⟨i,hi,e⟩:=(cj _ _).1 h;unfold K1 at e;obtain ⟨j,hj,e⟩:=(cj _ _).1 e;refine (cj _ _).2 ⟨m-1-j,by omega,?_⟩;unfold K1;refine (cj _ _).2 ⟨m-1-i,by omega,?_⟩;rw[hz _ wO,hz _ wO,show m-1-(m-1-i)=i by omega,show m-1-(m-1-j)=j by omega,Mx hY];exact e
   have e1:dH (fun j=>!vI Y0 (y j) j) m=dH (fun j=>!vI W (z j) j) m:=by
    rw[Bool.eq_iff_iff];exact ⟨hs hW.sym hz.sym (fun i hi=>by rw[hz i hi];exact (h2 _ wO).1),hs hW hz fun i hi=>(h2 i hi).1⟩
   have e2:dH (K1 V Y y) m=dH (K1 V J z) m:=by
    rw[Bool.eq_iff_iff];exact ⟨hb hY.sym hz.sym,hb hY hz⟩
   rw[e1,e2]
 · rw[if_neg hp,if_neg hp]
end
end Go.Eng
end
section
namespace Go.Eng
open Int (ofNat)
open Go.Proofs Go.Eng.Gall
theorem qS:∀ b,(0,b) ∈ aP (aZ Tryd.f11)→b=.loop (part Tryd.f11 [1,1,1,1,1,0,1,0,0]):=eA (by kernel_rfl)
theorem qT:∀ b,(2,b) ∈ aP (aZ Tryd.f11)→b=.loop (part Tryd.f11 [1,1,1,1,1,1,0,1,0,0]):=eA (by kernel_rfl)
def Ei (O:Int) (U:Nat) (Z:Nat→Int) (i:Nat):Int:=if i % 4=0 then (U-1)*O+1000-Z (i+1) else if i % 4=1 then (U-1)*O+1000-Z (i-1) else if i % 4=2 then 1000-Z (i+1) else 1000-Z (i-1)
theorem Ms (O:Int) (U:Nat) (Z:Nat→Int) (c:Nat):Ei O U Z (c*4)=(U-1)*O+1000-Z (c*4+1)∧Ei O U Z (c*4+1)=(U-1)*O+1000-Z (c*4)∧Ei O U Z (c*4+2)=1000-Z (c*4+3)∧Ei O U Z (c*4+3)=1000-Z (c*4+2):=by
 unfold Ei;refine ⟨?_,?_,?_,?_⟩
 · rw[if_pos wO]
 · rw[if_neg wO,if_pos wO];rfl
 · rw[if_neg wO,if_neg wO,if_pos wO]
 · rw[if_neg wO,if_neg wO,if_neg wO];rfl
theorem Rl (O:Int) (U:Nat) (Z:Nat→Int):VD O U Z (Gt (Ei O U Z) U):=fun c hc=>by
 unfold Gt;rw[if_pos wO,if_pos wO,if_pos wO,if_pos wO];exact Ms O U Z c
def w8 (F:Nat→Int) (m:Nat) (i:Nat):Int:=if i<m*2 then F i else 0
theorem Gq (F:Nat→Int) (m:Nat):mb (jI (w8 F m) 0) (m*2) (aC [F (m*2),F (m*2+1)])=w8 F (m+1):=by
 rw[bU,gS];funext i;dsimp only;unfold w8;by_cases h:i<m*2
 · rw[if_pos h,if_pos h,if_pos wO]
 · rw[if_neg h,kj];by_cases h2:i<(m+1)*2
   · rw[if_pos h2];rcases (show i=m*2∨i=m*2+1 by omega) with e | e
     · rw[e,Nat.sub_self];rfl
     · rw[e,show m*2+1-m*2=1 by omega];rfl
   · rw[if_neg h2,List.getD_eq_getElem?_getD,List.getElem?_eq_none (by simp;omega)];rfl
theorem MV (F:Nat→Int):aC [F 0,F 1]=w8 F 1:=by
 have:=Gq F 0;rw[bU,gS] at this;rw[← this];funext i;simp
def IG (J:Nat→Int) (i:Nat):Int:=if i % 2=0 then J (i+1) else J (i-1)
theorem Mt (J:Nat→Int) (c:Nat):IG J (c*2)=J (c*2+1)∧IG J (c*2+1)=J (c*2):=by
 unfold IG;refine ⟨?_,?_⟩
 · rw[if_pos wO]
 · rw[if_neg wO];rfl
theorem OA (V:Nat) (J:Nat→Int):Iy V J (w8 (IG J) V):=fun c hc=>by
 unfold w8;rw[if_pos wO,if_pos wO];exact Mt J c
noncomputable def BW (O:Int) (U:Nat) (Z:Nat→Int) (V:Nat) (J:Nat→Int) (F:Nat→Int):Nat→bB
 | 0=>⟨false,oc O U Z V J .nils .nils⟩
 | m+1=>tF O U Z V J m (m+1) ((m+1)*4) (Gt F (m+1))
noncomputable def Nz (O:Int) (U:Nat) (Z:Nat→Int) (V:Nat) (J:Nat→Int) (v:Nat) (X F:Nat→Int):Nat→bB
 | 0=>vv O U Z V J v X
 | m+1=>NK O U Z V J v X m (m+1) ((m+1)*2) (w8 F (m+1))
def Kp (v:Nat):Nat→List (Nat×ak)
 | 0=>[(v,.dead)]
 | m+1=>[(v,.dead),(m,.dead)]
section
variable (n:Nat) (O:Int) (U:Nat) (Z:Nat→Int) (V:Nat) (J:Nat→Int) (H:aa) (mo:Nat) (zo:Nat→Int) (k:Int)
theorem y8 (hl:U≤10) (hv:wU U Z) (hd:1≤O∧O≤100):exec (bN (n+2) 11 204) (.block 0 (.loop (part Tryd.f11 [1,1,1,1,1,0,1,0,0]))) (iT mo zo U k ((U-1)*O+1000) (ofNat 0)) (BW O U Z V J (Ei O U Z) 0::H)=some (.normal,iT mo zo U k ((U-1)*O+1000) (ofNat U)++[(54,.bool false)],BW O U Z V J (Ei O U Z) U::H):=by
 have hup:-100≤((U:Int)-1)*O∧((U:Int)-1)*O≤1000:=by
  rcases Nat.eq_zero_or_pos U with e | e
  · subst e;simp;omega
  · have a1:(0:Int)≤((U:Int)-1)*O:=Int.mul_nonneg wO wO;have a2:((U:Int)-1)*O≤10*100:=Int.mul_le_mul wO wO wO wO;omega
 have hx:∀ j,j<U→(aV .i64 ((U-1)*O+1000) (Z (j*4+1))=Ei O U Z (j*4)∧aV .i64 ((U-1)*O+1000) (Z (j*4))=Ei O U Z (j*4+1))∧aV .i64 (ofNat 1000) (Z (j*4+3))=Ei O U Z (j*4+2)∧aV .i64 (ofNat 1000) (Z (j*4+2))=Ei O U Z (j*4+3):=fun j hj=>by
  obtain ⟨v1,v2,v3,v4,v5,v6⟩:=OL hv hj;obtain ⟨t0,t1,t2,t3⟩:=Ms O U Z j;rw[t0,t1,t2,t3];generalize ((U:Int)-1)*O=u at *;refine ⟨⟨?_,?_⟩,?_,?_⟩<;>(simp (disch:=omega) only[nV,nW])
 generalize hF:Ei O U Z=F at *;generalize ((U:Int)-1)*O+1000=up at *;refine fQ (n:=n+2) (f:=11) (nt:=204) (c:=part Tryd.f11 [1,1,1,1,1,0,1,0,0]) 0 (fun j=>iT mo zo U k up (j:Int)) (fun j=>BW O U Z V J F j::H) U (iT mo zo U k up (ofNat U)++[(54,.bool false)],BW O U Z V J F U::H) wO (fun j hj=>?_) ?_
 · cases j with
   | zero =>
     have T:=QN n O U Z V J H mo zo k up;have i0:au 0 (ofNat 0) 4=0:=by rw[bt];rfl
     have c0:bm .i64 (ofNat 0) (ofNat 1)=((0+1:Nat):Int):=eg (j:=0) wO;obtain ⟨⟨h0,h1⟩,h2,h3⟩:=hx 0 hj;simp only[Nat.zero_mul,Nat.zero_add] at h0 h1 h2 h3;rw[i0,aI,aI,aI,Nat.zero_add,Nat.zero_add,Nat.zero_add,h0,h1,h2,h3,c0,MW F] at T;refine aw T (cD n 2) (ai _ _) (aj _ _) ?_;clear T hx;exact wF
   | succ m =>
     have T:=QO n O U Z V J H mo zo k up ((m+1:Nat):Int) m (m+1) ((m+1)*4) (Gt F (m+1));have i0:au 0 ((m+1:Nat):Int) 4=(m+1)*4:=by rw[bt];omega
     obtain ⟨⟨h0,h1⟩,h2,h3⟩:=hx (m+1) hj;have k1:=Gu F (m+1);rw[i0,eg wO] at T;rw[nq (m+1) 4] at T;simp only[aI,Nat.zero_add] at T;rw[h0,h1,h2,h3,k1,show (m+1)*4+4=(m+1+1)*4 by omega] at T;refine aw T (cD n 2) (ai _ _) (aj _ _) ?_;clear T hx k1 h0 h1 h2 h3;show Tr.all _ _;generalize hA:Gt F (m+1+1)=A;have eL:BW O U Z V J F (m+1+1)=tF O U Z V J (m+1) (m+1+1) ((m+1+1)*4) A:=by rw[← hA];rfl
     rw[eL];exact wF
 · cases hlc:U with
   | zero =>
     obtain ⟨x,h1,rfl⟩:=aw (Q:=fun x=>x=(.exit 0,iT mo zo 0 k up (ofNat 0)++[(54,.bool false)],BW O 0 Z V J F 0::H)) (QN n O 0 Z V J H mo zo k up) (cD n 2) (ai _ _) (aj _ _) (by
      refine Tr.af wJ (fun h0=>Tr.ag rfl))
     exact h1
   | succ m =>
     obtain ⟨x,h1,rfl⟩:=aw (Q:=fun x=>x=(.exit 0,iT mo zo (m+1) k up (ofNat (m+1))++[(54,.bool false)],BW O (m+1) Z V J F (m+1)::H)) (QO n O (m+1) Z V J H mo zo k up (ofNat (m+1)) m (m+1) ((m+1)*4) (Gt F (m+1))) (cD n 2) (ai _ _) (aj _ _) (by
      refine Tr.af wJ (fun h0=>Tr.ag rfl))
     exact h1
theorem y9 (hl:V≤40) (v:Nat) (X:Nat→Int):exec (bN (n+2) 11 204) (.block 2 (.loop (part Tryd.f11 [1,1,1,1,1,1,0,1,0,0]))) (iU mo zo U k (ofNat 0)) (Nz O U Z V J v X (IG J) 0::H)=some (.normal,iU mo zo U k (ofNat V)++[(88,.bool false)],cU O U Z V J X (w8 (IG J) V) (Kp v V)::H):=by
 have hx:∀ j,IG J (j*2)=J (j*2+1)∧IG J (j*2+1)=J (j*2):=Mt J;generalize IG J=F at *;refine fQ (n:=n+2) (f:=11) (nt:=204) (c:=part Tryd.f11 [1,1,1,1,1,1,0,1,0,0]) 2 (fun j=>iU mo zo U k (j:Int)) (fun j=>Nz O U Z V J v X F j::H) V (iU mo zo U k (ofNat V)++[(88,.bool false)],cU O U Z V J X (w8 F V) (Kp v V)::H) wO (fun j hj=>?_) ?_
 · cases j with
   | zero =>
     have T:=QP n O U Z V J H mo zo k v X;have i0:au 0 (ofNat 0) 2=0:=by rw[bt];rfl
     have c0:bm .i64 (ofNat 0) (ofNat 1)=((0+1:Nat):Int):=eg (j:=0) wO;obtain ⟨h0,h1⟩:=hx 0;simp only[Nat.zero_mul,Nat.zero_add] at h0 h1;rw[i0,show Nat.succ 0=1 from rfl,← h0,← h1,c0,MV F] at T;refine aw T (cD n 2) (ai _ _) (aj _ _) ?_;clear T hx;exact wF
   | succ m =>
     have T:=QQ n O U Z V J H mo zo k ((m+1:Nat):Int) v X m (m+1) ((m+1)*2) (w8 F (m+1));have i0:au 0 ((m+1:Nat):Int) 2=(m+1)*2:=by rw[bt];omega
     obtain ⟨h0,h1⟩:=hx (m+1);have k1:=Gq F (m+1);rw[i0,eg wO] at T;rw[nq (m+1) 2] at T;simp only[aI,Nat.zero_add] at T;rw[show Nat.succ ((m+1)*2)=(m+1)*2+1 from rfl,← h0,← h1,k1,show (m+1)*2+2=(m+1+1)*2 by omega] at T;refine aw T (cD n 2) (ai _ _) (aj _ _) ?_;clear T hx k1 h0 h1;show Tr.all _ _;generalize hA:w8 F (m+1+1)=A;have eL:Nz O U Z V J v X F (m+1+1)=NK O U Z V J v X (m+1) (m+1+1) ((m+1+1)*2) A:=by rw[← hA];rfl
     rw[eL];exact wF
 · cases hlb:V with
   | zero =>
     have e0:(fun _=>ofNat 0)=w8 F 0:=by funext i;unfold w8;rw[if_neg wO];rfl
     obtain ⟨x,h1,rfl⟩:=aw (Q:=fun x=>x=(.exit 2,iU mo zo U k (ofNat 0)++[(88,.bool false)],cU O U Z 0 J X (w8 F 0) (Kp v 0)::H)) (QP n O U Z 0 J H mo zo k v X) (cD n 2) (ai _ _) (aj _ _) (by
      refine Tr.af wJ (fun h0=>Tr.ag ?_);rw[e0];unfold cU oc;rw[show slA 2 0 (w8 F 0)=.slcT none (.M [.arr .i64 (w8 F 0) 0]) 2 0 false by unfold slA;rw[cO]];rfl)
     exact h1
   | succ m =>
     obtain ⟨x,h1,rfl⟩:=aw (Q:=fun x=>x=(.exit 2,iU mo zo U k (ofNat (m+1))++[(88,.bool false)],cU O U Z (m+1) J X (w8 F (m+1)) (Kp v (m+1))::H)) (QQ n O U Z (m+1) J H mo zo k (ofNat (m+1)) v X m (m+1) ((m+1)*2) (w8 F (m+1))) (cD n 2) (ai _ _) (aj _ _) (by
      refine Tr.af wJ (fun h0=>?_);rw[bU];exact Tr.ab wG (Tr.ab wG (Tr.ag rfl)))
     exact h1
end
end Go.Eng
end
