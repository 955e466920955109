/- Gall: the law of turned lists: the order turned round, and the places compared. -/
import Derived.Test.YtgphpjdchnfjlaaDoorV6Gp21x2
import Derived.Test.YtgphpjdchnfjlaaDoorV6Gbtx18
import Derived.Test.YtgphpjdchnfjlaaDoorV6Gdc
import Derived.Test.YtgphpjdchnfjlaaDoorV6Gclx6
set_option linter.unusedVariables false
set_option linter.unusedSimpArgs false
set_option maxRecDepth 100000
section
namespace Go.Eng
open Int (ofNat)
open Go.Proofs Go.Eng.Gall
theorem qU:∀ b,(4,b) ∈ aP (aZ Tryd.f11)→b=.loop (part Tryd.f11 [1,1,1,1,1,1,1,1,1,0,1,0,0]):=eA (by kernel_rfl)
theorem qV:∀ b,(6,b) ∈ aP (aZ Tryd.f11)→b=.loop (part Tryd.f11 [1,1,1,1,1,1,1,1,1,1,1,1,1,1,1,0,1,0,0]):=eA (by kernel_rfl)
def qX (F:Nat→Int) (m:Nat) (i:Nat):Int:=if i<m then F i else 0
theorem Bo (F:Nat→Int) (m:Nat):mb (jI (qX F m) 0) m (aC [F m])=qX F (m+1):=by
 rw[bU,gS];funext i;dsimp only;unfold qX;by_cases h:i<m
 · rw[if_pos h,if_pos h,if_pos wO]
 · rw[if_neg h,kj];by_cases h2:i<m+1
   · rw[if_pos h2,show i=m by omega,Nat.sub_self];rfl
   · rw[if_neg h2,List.getD_eq_getElem?_getD,List.getElem?_eq_none (by simp;omega)];rfl
theorem F9 (F:Nat→Int):aC [F 0]=qX F 1:=by
 have:=Bo F 0;rw[bU,gS] at this;rw[← this];funext i;simp
def me (mo:Nat) (zo:Nat→Int) (i:Nat):Int:=zo (mo-1-i)
theorem Up (mo:Nat) (zo:Nat→Int):IK mo zo (qX (me mo zo) mo):=fun i hi=>by
 unfold qX me;rw[if_pos hi]
noncomputable def F7 (i:Nat):Nat→AV
 | 0=>.nils
 | m+1=>.slc 0 i m 0 1 (m+1) none
noncomputable def nC (mo:Nat) (zo:Nat→Int) (U:Nat) (k:Int) (i j:Nat):aD:=iH mo zo U k (F7 i j) ((mo:Int)-1-(j:Int))
noncomputable def zQ (F:Nat→Int):Nat→List (Nat×ak)
 | 0=>[]
 | m+1=>[(m,.row (.M [.arr .i64 (qX F (m+1)) (m+1)]))]
noncomputable def Ju (O:Int) (U:Nat) (Z:Nat→Int) (V:Nat) (J:Nat→Int) (H:aa) (mo:Nat) (zo:Nat→Int) (X Y:Nat→Int) (v u j:Nat):aa:=cU O U Z V J X Y ([(v,.dead)]++zQ (me mo zo) j)::H
noncomputable def Jv (O:Int) (U:Nat) (Z:Nat→Int) (V:Nat) (J:Nat→Int) (H:aa) (mo:Nat) (zo:Nat→Int) (X Y:Nat→Int) (v u j:Nat):aa:=cU O U Z V J X Y ([(v,.dead),(u,.dead)]++zQ (me mo zo) j)::H
section
variable (n:Nat) (O:Int) (U:Nat) (Z:Nat→Int) (V:Nat) (J:Nat→Int) (H:aa) (mo:Nat) (zo:Nat→Int) (k:Int) (X Y:Nat→Int) (v u:Nat)
theorem Dq (hm:mo≤20):exec (bN (n+2) 11 204) (.block 4 (.loop (part Tryd.f11 [1,1,1,1,1,1,1,1,1,0,1,0,0]))) (nC mo zo U k 3 0) (Ju O U Z V J H mo zo X Y v u 0)=some (.normal,nC mo zo U k 3 mo++[(117,.bool false)],Ju O U Z V J H mo zo X Y v u mo):=by
 refine fQ (n:=n+2) (f:=11) (nt:=204) (c:=part Tryd.f11 [1,1,1,1,1,1,1,1,1,0,1,0,0]) 4 (fun j=>nC mo zo U k 3 j) (fun j=>Ju O U Z V J H mo zo X Y v u j) mo (nC mo zo U k 3 mo++[(117,.bool false)],Ju O U Z V J H mo zo X Y v u mo) wO ?_ ?_
 · intro j hj;have i0:au 0 ((mo:Int)-1-(j:Int)) 1=mo-1-j:=by rw[bt];omega
   have c0:aV .i64 ((mo:Int)-1-(j:Int)) (ofNat 1)=(mo:Int)-1-((j+1:Nat):Int):=by simp (disch:=omega) only[nV,nW];omega
   have hz:zo (mo-1-j)=me mo zo j:=rfl;have eF:nC mo zo U k 3 j=iH mo zo U k (F7 3 j) ((mo:Int)-1-(j:Int)):=rfl;have eG:nC mo zo U k 3 (j+1)=iH mo zo U k (F7 3 (j+1)) ((mo:Int)-1-((j+1:Nat):Int)):=rfl;have eH:Ju O U Z V J H mo zo X Y v u j=cU O U Z V J X Y ([(v,.dead)]++zQ (me mo zo) j)::H:=rfl;have eK:Ju O U Z V J H mo zo X Y v u (j+1)=cU O U Z V J X Y ([(v,.dead)]++zQ (me mo zo) (j+1))::H:=rfl;have eN:aY (Ju O U Z V J H mo zo X Y v u 0)=3:=rfl;rw[eF,eG,eH,eK,eN];clear eF eG eH eK eN;generalize hj1:(mo:Int)-1-(j:Int)=jj at *;generalize hj2:(mo:Int)-1-((j+1:Nat):Int)=jk at *;cases j with
   | zero =>
     have T:=Ly n O U Z V J H mo zo k jj X Y v u;rw[i0,hz,c0,F9] at T;refine aw T (cD n 2) (ai _ _) (aj _ _) ?_;clear T;exact wF
   | succ m =>
     have T:=LA n O U Z V J H mo zo k jj X Y v u m (m+1) (m+1) (qX (me mo zo) (m+1));rw[i0,hz,c0,Bo,aI,aI,Nat.zero_add] at T;refine aw T (cD n 2) (ai _ _) (aj _ _) ?_;clear T;show Tr.all _ _;generalize hA:qX (me mo zo) (m+1+1)=A;have eL:zQ (me mo zo) (m+1+1)=[(m+1,.row (.M [.arr .i64 A (m+1+1)]))]:=by rw[← hA];rfl
     rw[eL];exact wF
 · cases hmo:mo with
   | zero =>
     obtain ⟨x,h1,rfl⟩:=aw (Q:=fun x=>x=(.exit 4,nC 0 zo U k 3 0++[(117,.bool false)],Ju O U Z V J H 0 zo X Y v u 0)) (Ly n O U Z V J H 0 zo k (((0:Nat):Int)-1-((0:Nat):Int)) X Y v u) (cD n 2) (ai _ _) (aj _ _) (by
      refine Tr.af wJ (fun h0=>Tr.ag rfl))
     exact h1
   | succ m =>
     obtain ⟨x,h1,rfl⟩:=aw (Q:=fun x=>x=(.exit 4,nC (m+1) zo U k 3 (m+1)++[(117,.bool false)],Ju O U Z V J H (m+1) zo X Y v u (m+1))) (LA n O U Z V J H (m+1) zo k (((m+1:Nat):Int)-1-((m+1:Nat):Int)) X Y v u m (m+1) (m+1) (qX (me (m+1) zo) (m+1))) (cD n 2) (ai _ _) (aj _ _) (by
      refine Tr.af wJ (fun h0=>Tr.ag rfl))
     exact h1
theorem Dr (hm:mo≤20):exec (bN (n+2) 11 204) (.block 4 (.loop (part Tryd.f11 [1,1,1,1,1,1,1,1,1,0,1,0,0]))) (nC mo zo U k 4 0) (Jv O U Z V J H mo zo X Y v u 0)=some (.normal,nC mo zo U k 4 mo++[(117,.bool false)],Jv O U Z V J H mo zo X Y v u mo):=by
 refine fQ (n:=n+2) (f:=11) (nt:=204) (c:=part Tryd.f11 [1,1,1,1,1,1,1,1,1,0,1,0,0]) 4 (fun j=>nC mo zo U k 4 j) (fun j=>Jv O U Z V J H mo zo X Y v u j) mo (nC mo zo U k 4 mo++[(117,.bool false)],Jv O U Z V J H mo zo X Y v u mo) wO ?_ ?_
 · intro j hj;have i0:au 0 ((mo:Int)-1-(j:Int)) 1=mo-1-j:=by rw[bt];omega
   have c0:aV .i64 ((mo:Int)-1-(j:Int)) (ofNat 1)=(mo:Int)-1-((j+1:Nat):Int):=by simp (disch:=omega) only[nV,nW];omega
   have hz:zo (mo-1-j)=me mo zo j:=rfl;have eF:nC mo zo U k 4 j=iH mo zo U k (F7 4 j) ((mo:Int)-1-(j:Int)):=rfl;have eG:nC mo zo U k 4 (j+1)=iH mo zo U k (F7 4 (j+1)) ((mo:Int)-1-((j+1:Nat):Int)):=rfl;have eH:Jv O U Z V J H mo zo X Y v u j=cU O U Z V J X Y ([(v,.dead),(u,.dead)]++zQ (me mo zo) j)::H:=rfl;have eK:Jv O U Z V J H mo zo X Y v u (j+1)=cU O U Z V J X Y ([(v,.dead),(u,.dead)]++zQ (me mo zo) (j+1))::H:=rfl;have eN:aY (Jv O U Z V J H mo zo X Y v u 0)=4:=rfl;rw[eF,eG,eH,eK,eN];clear eF eG eH eK eN;generalize hj1:(mo:Int)-1-(j:Int)=jj at *;generalize hj2:(mo:Int)-1-((j+1:Nat):Int)=jk at *;cases j with
   | zero =>
     have T:=Lz n O U Z V J H mo zo k jj X Y v u;rw[i0,hz,c0,F9] at T;refine aw T (cD n 2) (ai _ _) (aj _ _) ?_;clear T;exact wF
   | succ m =>
     have T:=LB n O U Z V J H mo zo k jj X Y v u m (m+1) (m+1) (qX (me mo zo) (m+1));rw[i0,hz,c0,Bo,aI,aI,Nat.zero_add] at T;refine aw T (cD n 2) (ai _ _) (aj _ _) ?_;clear T;show Tr.all _ _;generalize hA:qX (me mo zo) (m+1+1)=A;have eL:zQ (me mo zo) (m+1+1)=[(m+1,.row (.M [.arr .i64 A (m+1+1)]))]:=by rw[← hA];rfl
     rw[eL];exact wF
 · cases hmo:mo with
   | zero =>
     obtain ⟨x,h1,rfl⟩:=aw (Q:=fun x=>x=(.exit 4,nC 0 zo U k 4 0++[(117,.bool false)],Jv O U Z V J H 0 zo X Y v u 0)) (Lz n O U Z V J H 0 zo k (((0:Nat):Int)-1-((0:Nat):Int)) X Y v u) (cD n 2) (ai _ _) (aj _ _) (by
      refine Tr.af wJ (fun h0=>Tr.ag rfl))
     exact h1
   | succ m =>
     obtain ⟨x,h1,rfl⟩:=aw (Q:=fun x=>x=(.exit 4,nC (m+1) zo U k 4 (m+1)++[(117,.bool false)],Jv O U Z V J H (m+1) zo X Y v u (m+1))) (LB n O U Z V J H (m+1) zo k (((m+1:Nat):Int)-1-((m+1:Nat):Int)) X Y v u m (m+1) (m+1) (qX (me (m+1) zo) (m+1))) (cD n 2) (ai _ _) (aj _ _) (by
      refine Tr.af wJ (fun h0=>Tr.ag rfl))
     exact h1
end
section
variable (n:Nat) (U a:Nat) (p q:Nat→Int) (H:aa)
theorem P2 (a0 a1 a2:Nat×ak) (hl:U≤10) (ha:a≤10) (hp:∀ j,j<a→0≤p j∧p j≤10) (hq:∀ j,j<a→q (a-1-j)=(U:Int)-1-p j):exec (bN (n+2) 11 204) (.block 6 (.loop (part Tryd.f11 [1,1,1,1,1,1,1,1,1,1,1,1,1,1,1,0,1,0,0]))) (iq U a a p q (ofNat 0)) (⟨false,[a0,a1,a2]⟩::H)=some (.normal,iq U a a p q (ofNat a)++[(184,.bool false)],⟨false,[a0,a1,a2]⟩::H):=by
 refine fQ (n:=n+2) (f:=11) (nt:=204) (c:=part Tryd.f11 [1,1,1,1,1,1,1,1,1,1,1,1,1,1,1,0,1,0,0]) 6 (fun j=>iq U a a p q (j:Int)) (fun j=>⟨false,[a0,a1,a2]⟩::H) a (iq U a a p q (ofNat a)++[(184,.bool false)],⟨false,[a0,a1,a2]⟩::H) wO (fun j hj=>?_) ?_
 · have T:=LC n U a a p q (j:Int) a0 a1 a2 H;have i0:au 0 (j:Int) 1=j:=by rw[bt];omega
   have s0:aV .i64 (aV .i64 (ofNat a) (ofNat 1)) (j:Int)=((a-1-j:Nat):Int):=by simp (disch:=omega) only[nV,nW];omega
   have i1:au 0 ((a-1-j:Nat):Int) 1=a-1-j:=by rw[bt];omega
   have hp0:=hp j hj;have s1:aV .i64 (aV .i64 (ofNat U) (ofNat 1)) (p j)=(U:Int)-1-p j:=by simp (disch:=omega) only[nV,nW]
   rw[s0,i1,i0,s1,hq j hj,eg wO] at T;refine aw T (cD n 2) (ai _ _) (aj _ _) ?_;clear T;refine Tr.af (fun _=>?_) wJ;refine Tr.ab wG (Tr.ab wG (Tr.ab wG (Tr.ab wG (Tr.af (fun h=>?_) (fun _=>Tr.ag ⟨rfl,rfl⟩)))));rw[aH,bg] at h;simp at h
 · obtain ⟨x,h1,rfl⟩:=aw (Q:=fun x=>x=(.exit 6,iq U a a p q (ofNat a)++[(184,.bool false)],⟨false,[a0,a1,a2]⟩::H)) (LC n U a a p q (ofNat a) a0 a1 a2 H) (cD n 2) (ai _ _) (aj _ _) (by
    refine Tr.af wJ (fun h0=>Tr.ag rfl))
   exact h1
theorem Lh (a0 a1 a2 a3:Nat×ak) (hl:U≤10) (ha:a≤10) (hp:∀ j,j<a→0≤p j∧p j≤10) (hq:∀ j,j<a→q (a-1-j)=(U:Int)-1-p j):exec (bN (n+2) 11 204) (.block 6 (.loop (part Tryd.f11 [1,1,1,1,1,1,1,1,1,1,1,1,1,1,1,0,1,0,0]))) (iq U a a p q (ofNat 0)) (⟨false,[a0,a1,a2,a3]⟩::H)=some (.normal,iq U a a p q (ofNat a)++[(184,.bool false)],⟨false,[a0,a1,a2,a3]⟩::H):=by
 refine fQ (n:=n+2) (f:=11) (nt:=204) (c:=part Tryd.f11 [1,1,1,1,1,1,1,1,1,1,1,1,1,1,1,0,1,0,0]) 6 (fun j=>iq U a a p q (j:Int)) (fun j=>⟨false,[a0,a1,a2,a3]⟩::H) a (iq U a a p q (ofNat a)++[(184,.bool false)],⟨false,[a0,a1,a2,a3]⟩::H) wO (fun j hj=>?_) ?_
 · have T:=LD n U a a p q (j:Int) a0 a1 a2 a3 H;have i0:au 0 (j:Int) 1=j:=by rw[bt];omega
   have s0:aV .i64 (aV .i64 (ofNat a) (ofNat 1)) (j:Int)=((a-1-j:Nat):Int):=by simp (disch:=omega) only[nV,nW];omega
   have i1:au 0 ((a-1-j:Nat):Int) 1=a-1-j:=by rw[bt];omega
   have hp0:=hp j hj;have s1:aV .i64 (aV .i64 (ofNat U) (ofNat 1)) (p j)=(U:Int)-1-p j:=by simp (disch:=omega) only[nV,nW]
   rw[s0,i1,i0,s1,hq j hj,eg wO] at T;refine aw T (cD n 2) (ai _ _) (aj _ _) ?_;clear T;refine Tr.af (fun _=>?_) wJ;refine Tr.ab wG (Tr.ab wG (Tr.ab wG (Tr.ab wG (Tr.af (fun h=>?_) (fun _=>Tr.ag ⟨rfl,rfl⟩)))));rw[aH,bg] at h;simp at h
 · obtain ⟨x,h1,rfl⟩:=aw (Q:=fun x=>x=(.exit 6,iq U a a p q (ofNat a)++[(184,.bool false)],⟨false,[a0,a1,a2,a3]⟩::H)) (LD n U a a p q (ofNat a) a0 a1 a2 a3 H) (cD n 2) (ai _ _) (aj _ _) (by
    refine Tr.af wJ (fun h0=>Tr.ag rfl))
   exact h1
theorem P3 (a0 a1 a2 a3 a4:Nat×ak) (hl:U≤10) (ha:a≤10) (hp:∀ j,j<a→0≤p j∧p j≤10) (hq:∀ j,j<a→q (a-1-j)=(U:Int)-1-p j):exec (bN (n+2) 11 204) (.block 6 (.loop (part Tryd.f11 [1,1,1,1,1,1,1,1,1,1,1,1,1,1,1,0,1,0,0]))) (iq U a a p q (ofNat 0)) (⟨false,[a0,a1,a2,a3,a4]⟩::H)=some (.normal,iq U a a p q (ofNat a)++[(184,.bool false)],⟨false,[a0,a1,a2,a3,a4]⟩::H):=by
 refine fQ (n:=n+2) (f:=11) (nt:=204) (c:=part Tryd.f11 [1,1,1,1,1,1,1,1,1,1,1,1,1,1,1,0,1,0,0]) 6 (fun j=>iq U a a p q (j:Int)) (fun j=>⟨false,[a0,a1,a2,a3,a4]⟩::H) a (iq U a a p q (ofNat a)++[(184,.bool false)],⟨false,[a0,a1,a2,a3,a4]⟩::H) wO (fun j hj=>?_) ?_
 · have T:=LF n U a a p q (j:Int) a0 a1 a2 a3 a4 H;have i0:au 0 (j:Int) 1=j:=by rw[bt];omega
   have s0:aV .i64 (aV .i64 (ofNat a) (ofNat 1)) (j:Int)=((a-1-j:Nat):Int):=by simp (disch:=omega) only[nV,nW];omega
   have i1:au 0 ((a-1-j:Nat):Int) 1=a-1-j:=by rw[bt];omega
   have hp0:=hp j hj;have s1:aV .i64 (aV .i64 (ofNat U) (ofNat 1)) (p j)=(U:Int)-1-p j:=by simp (disch:=omega) only[nV,nW]
   rw[s0,i1,i0,s1,hq j hj,eg wO] at T;refine aw T (cD n 2) (ai _ _) (aj _ _) ?_;clear T;refine Tr.af (fun _=>?_) wJ;refine Tr.ab wG (Tr.ab wG (Tr.ab wG (Tr.ab wG (Tr.af (fun h=>?_) (fun _=>Tr.ag ⟨rfl,rfl⟩)))));rw[aH,bg] at h;simp at h
 · obtain ⟨x,h1,rfl⟩:=aw (Q:=fun x=>x=(.exit 6,iq U a a p q (ofNat a)++[(184,.bool false)],⟨false,[a0,a1,a2,a3,a4]⟩::H)) (LF n U a a p q (ofNat a) a0 a1 a2 a3 a4 H) (cD n 2) (ai _ _) (aj _ _) (by
    refine Tr.af wJ (fun h0=>Tr.ag rfl))
   exact h1
end
end Go.Eng
end
section
namespace Go.Eng
open Go.Proofs Go.Eng.Gall
section
variable {d O:Int} {U:Nat} {YZ Z:Nat→Int} {V:Nat} {J:Nat→Int}
end
noncomputable def eG (x:List AV):Int:=match x with
 | [.agg (.G [.int _ d,.slcT _ (.M [.arr _ z _]) _ U _,.slcT _ (.M [.arr _ J _]) _ V _])]=>bL d U z V J
 | _=>0
section
variable (O:Int) (U:Nat) (Z:Nat→Int) (V:Nat) (J:Nat→Int) (dt:Int) (X Y:Nat→Int)
variable (n:Nat)
end
end Go.Eng
end
section
namespace Go.Eng
open Go.Proofs Go.Eng.Gall
noncomputable def eZ (x:List AV):Nat→Int:=match x with
 | [.agg (.G [.int _ d,.slcT _ (.M [.arr _ z _]) _ U _,.slcT _ (.M [.arr _ J _]) _ V _]),.int _ k]=>aC (uZ (hJ d U z V J k.toNat))
 | _=>fun _=>0
noncomputable def bG (O:Int) (U:Nat) (Z:Nat→Int):Nat→Int:=Gt (Ei O U Z) U
def bM (V:Nat) (J:Nat→Int):Nat→Int:=w8 (IG J) V
section
variable (O:Int) (U:Nat) (Z:Nat→Int) (V:Nat) (J:Nat→Int) (mo:Nat) (zo:Nat→Int) (k:Int)
def yc (x:List AV):Prop:=x=[bj O U Z V J]∨x=[bj O U (bG O U Z) V (bM V J)]
def II (x:List AV):Prop:=x=[bj O U Z V J,.int .i64 k]∨x=[bj O U (bG O U Z) V (bM V J),.int .i64 k]
def IJ (x:List AV):Prop:=x=[bj O U Z V J,aF mo zo false]∨x=[bj O U (bG O U Z) V (bM V J),aF mo (qX (me mo zo) mo) false]
theorem Cz (h0:bL O U Z V J=0) (hx:bL O U (bG O U Z) V (bM V J)=0):Q.cntF U (dg O U (bG O U Z)) (fI V (bM V J))=Q.cntF U (dg O U Z) (fI V J)∧rR U (dg O U (bG O U Z)) V (bM V J) mo (qX (me mo zo) mo)=rR U (dg O U Z) V J mo zo:=by
 obtain ⟨h1,h2,h3,h4,h5,h6⟩:=ke h0;obtain ⟨g1,g2,g3,g4,g5,g6⟩:=ke hx;have hb:∀ c,c<U→fA J c V<2 ^ U:=fun c _=>qf J c U V fun i hi=>(h5 i hi).1;have hd:∀ c,c<U→fA (bM V J) c V<2 ^ U:=fun c _=>qf _ c U V fun i hi=>(g5 i hi).1;have hW:=My (U:=U) (Z:=Z) h3.1 (Rl O U Z);exact ⟨Oz h1.2 hb hd (Mv h5 (OA V J)) hW,Rm (OA V J) hW (Up mo zo)⟩
theorem Mw (h0:bL O U Z V J=0) (hx:bL O U (bG O U Z) V (bM V J)=0):wA O U (bG O U Z) V (bM V J)=none↔wA O U Z V J=none:=by
 rw[Hm h0,Hm hx,(Cz O U Z V J 0 (fun _=>0) h0 hx).1]
theorem Iq (h0:bL O U Z V J=0) (hx:bL O U (bG O U Z) V (bM V J)=0) {c:Nat} (hc:c<U):(hJ O U Z V J c).reverse=(hJ O U (bG O U Z) V (bM V J) c).map (fun k=>U-1-k):=by
 obtain ⟨h1,h2,h3,h4,h5,h6⟩:=ke h0;obtain ⟨g1,g2,g3,g4,g5,g6⟩:=ke hx;exact Rn (H9 O U Z V J h1.2 h3 h4 h5 h6) (H9 O U _ V _ h1.2 h3 g4 g5 g6) Ba Ba (Mv h5 (OA V J)) (My h3.1 (Rl O U Z)) hc
theorem Ip (h0:bL O U Z V J=0) (hx:bL O U (bG O U Z) V (bM V J)=0) {c:Nat} (hc:c<U):(hJ O U (bG O U Z) V (bM V J) c).length=(hJ O U Z V J c).length:=by
 have:=congrArg List.length (Iq O U Z V J h0 hx hc);simpa using this.symm
theorem Hw {c j:Nat} (h:j<(hJ O U Z V J c).length):(hJ O U Z V J c)[j]<U:=by
 have:=List.getElem_mem h;unfold hJ IF at this;exact List.mem_range.1 (List.mem_filter.1 this).1
theorem El (h0:bL O U Z V J=0) (hx:bL O U (bG O U Z) V (bM V J)=0) {c:Nat} (hc:c<U) (j:Nat) (hj:j<(hJ O U Z V J c).length):aC (uZ (hJ O U (bG O U Z) V (bM V J) c)) ((hJ O U Z V J c).length-1-j)=(U:Int)-1-aC (uZ (hJ O U Z V J c)) j:=by
 have e:=Iq O U Z V J h0 hx hc;have el:=Ip O U Z V J h0 hx hc;have hi:=Hw O U Z V J hj;generalize hJ O U Z V J c=L at *;have hp:∀ i (hi:i<(hJ O U (bG O U Z) V (bM V J) c).length),(hJ O U (bG O U Z) V (bM V J) c)[i]<U:=fun i hi=>Hw O U _ V _ hi;generalize hJ O U (bG O U Z) V (bM V J) c=M at *;have hb:L.length-1-j<M.length:=by omega
 have e2:L.reverse[L.length-1-j]?=(M.map (fun k=>U-1-k))[L.length-1-j]?:=by rw[e]
 rw[List.getElem?_reverse wO,List.getElem?_map,show L.length-1-(L.length-1-j)=j by omega,List.getElem?_eq_getElem hj,List.getElem?_eq_getElem hb] at e2;have e3:L[j]=U-1-M[L.length-1-j]:=by simpa using e2
 have hm:=hp _ hb;rw[kj,kj];unfold uZ;rw[List.getD_eq_getElem?_getD,List.getD_eq_getElem?_getD,List.getElem?_map,List.getElem?_map,List.getElem?_eq_getElem hj,List.getElem?_eq_getElem hb];simp only[Option.map_some,Option.getD_some];omega
theorem DU (c j:Nat) (hj:j<(hJ O U Z V J c).length):0≤aC (uZ (hJ O U Z V J c)) j∧aC (uZ (hJ O U Z V J c)) j<U:=by
 have hi:=Hw O U Z V J hj;rw[kj];unfold uZ;rw[List.getD_eq_getElem?_getD,List.getElem?_map,List.getElem?_eq_getElem hj];simp only[Option.map_some,Option.getD_some];omega
theorem DV (c:Nat):(hJ O U Z V J c).length≤U:=by
 unfold hJ IF;exact Nat.le_trans (List.length_filter_le _ _) (by simp)
theorem A6 (n:Nat) (h0:bL O U Z V J=0) (hk:0≤k∧k<U) (hm:mo≤1000) (a30:List AV→AV) (G:Prop) (hG:G→bL O U (bG O U Z) V (bM V J)=0) (ha:G→IE O U Z V J k=a30 [bj O U Z V J,.int .i64 k]∧IE O U (bG O U Z) V (bM V J) k=a30 [bj O U (bG O U Z) V (bM V J),.int .i64 k]) (q:Nat):(tV (gT (gT (tV (gT aK 15 FG) 23 (yc O U Z V J) (fun x=>.int .i64 (eG x))) 34 (fun x=>some (G∧yc O U Z V J x,.tup [.int .i64 (Q.cntF U (dg O U Z) (fI V J)),.int .i64 (Int.ofNat 0)]))) 30 (fun x=>some (G∧II O U Z V J k x,a30 x))) 39 (fun x=>G∧IJ O U Z V J mo zo x) (fun x=>.int .i64 (rR U (dg O U Z) V J mo zo))).Ok (cd (n+16+q)):=by
 obtain ⟨h1,h2,_⟩:=ke h0;refine Ii (Ii (yI (Ii (VL (c:=n+16+q) wO (bp _)) (fun A H hA=>?_)) (fun A H hA=>?_)) (fun A H hA=>?_)) (fun A H hA=>?_)
 · rw[show n+16+q=n+13+q+3 by omega];rcases hA with rfl | rfl<;>exact VF (n+13+q) _ U _ V _ H wO wO
 · rw[show n+16+q=n+1+q+15 by omega];obtain ⟨g,hA⟩:=hA;have hx:=hG g;rcases hA with rfl | rfl
   · have:=VH (n+1+q) O U Z V J H wO wO;unfold RD at this;rw[if_pos h0] at this;exact this
   · have:=VH (n+1+q) O U (bG O U Z) V (bM V J) H wO wO;unfold RD at this;rw[if_pos hx,(Cz O U Z V J mo zo h0 hx).1] at this;exact this
 · rw[show n+16+q=n+2+q+14 by omega];obtain ⟨g,hA⟩:=hA;rcases hA with rfl | rfl
   · have:=VG (n+2+q) O U Z V J H k wO wO;rw[(ha g).1] at this;exact this
   · have:=VG (n+2+q) O U (bG O U Z) V (bM V J) H k wO wO;rw[(ha g).2] at this;exact this
 · rw[show n+16+q=n+1+q+15 by omega];obtain ⟨g,hA⟩:=hA;have hx:=hG g;rcases hA with rfl | rfl
   · exact VI (n+1+q) O U Z V J mo zo H wO h0 hm
   · have:=VI (n+1+q) O U (bG O U Z) V (bM V J) mo (qX (me mo zo) mo) H wO hx hm;rw[(Cz O U Z V J mo zo h0 hx).2] at this;exact this
theorem Jr (h0:bL O U Z V J=0) (hk:0≤k∧k<U):vW O U Z V J k=0:=by
 unfold vW;rw[if_pos h0,if_neg (show ¬ (k<0∨(U:Int)≤k) by omega)]
theorem Ka (h0:bL O U Z V J=0) (hx:bL O U (bG O U Z) V (bM V J)=0) (hk:0≤k∧k<U) (ho:wA O U Z V J=none):IE O U Z V J k=.tup [aF (hJ O U Z V J k.toNat).length (eZ [bj O U Z V J,.int .i64 k]) false,.int .i64 (Int.ofNat 0)]∧IE O U (bG O U Z) V (bM V J) k=.tup [aF (hJ O U Z V J k.toNat).length (eZ [bj O U (bG O U Z) V (bM V J),.int .i64 k]) false,.int .i64 (Int.ofNat 0)]:=by
 have hl:=Ip O U Z V J h0 hx (c:=k.toNat) wO;unfold IE;rw[if_pos (Jr _ _ _ _ _ _ h0 hk),if_pos ho,if_pos (Jr _ _ _ _ _ _ hx hk),if_pos ((Mw O U Z V J h0 hx).2 ho),hl];exact ⟨rfl,rfl⟩
theorem Kb (h0:bL O U Z V J=0) (hx:bL O U (bG O U Z) V (bM V J)=0) (hk:0≤k∧k<U) (ho:¬ wA O U Z V J=none):IE O U Z V J k=.tup [.nils,.int .i64 (Int.ofNat 13)]∧IE O U (bG O U Z) V (bM V J) k=.tup [.nils,.int .i64 (Int.ofNat 13)]:=by
 unfold IE;rw[if_pos (Jr _ _ _ _ _ _ h0 hk),if_neg ho,if_pos (Jr _ _ _ _ _ _ hx hk),if_neg (fun h=>ho ((Mw O U Z V J h0 hx).1 h))];exact ⟨rfl,rfl⟩
end
end Go.Eng
end
