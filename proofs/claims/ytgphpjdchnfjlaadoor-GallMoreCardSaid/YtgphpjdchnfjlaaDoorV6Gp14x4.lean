/- Gall: the first right order, colour by colour (plain law). -/
import Derived.Test.YtgphpjdchnfjlaaDoorV6Gbex12
set_option linter.unusedVariables false
set_option linter.unusedSimpArgs false
set_option maxRecDepth 100000
section
namespace Go.Eng
open Go.Proofs Go.Eng.Gall Go.Eng.Q
def nN (W:Nat→Int) (L:List Nat) (i:Nat):Int:=if i / 2 ∈ L then (L.idxOf (i / 2):Int) else W i
theorem F1 (W:Nat→Int):nN W []=W:=by funext i;unfold nN;rw[if_neg (by simp)]
theorem ID {L:List Nat} {c x:Nat} (hc:c ∉ L):(L++[c]).idxOf x=if x ∈ L then L.idxOf x else if x=c then L.length else L.length+1:=by
 rw[List.idxOf_append];split
 · rfl
 · by_cases e:x=c
   · subst e;rw[if_pos rfl,List.idxOf_cons_self,Nat.zero_add]
   · rw[if_neg e,List.idxOf_cons,List.idxOf_nil];have:(c == x)=false:=by simpa using fun h=>e h.symm
     rw[this];simp;omega
theorem F0 {W:Nat→Int} {L:List Nat} {c:Nat} (hc:c ∉ L):nN W (L++[c])=cu (cu (nN W L) (2*c) (L.length:Int)) (2*c+1) (L.length:Int):=by
 rw[iP,iP];funext i;dsimp only;unfold nN;rw[ID hc];by_cases e:i / 2=c
 · rw[if_pos (by rw[e];simp),if_neg (by rw[e];exact hc),if_pos e];by_cases e1:i=2*c+1
   · rw[if_pos e1]
   · rw[if_neg e1,if_pos wO]
 · have e1:i≠2*c+1:=by omega
   have e2:i≠2*c:=by omega
   rw[if_neg e1,if_neg e2];by_cases h:i / 2 ∈ L
   · rw[if_pos (by simp[h]),if_pos h,if_pos h]
   · rw[if_neg (by simp[h,e]),if_neg h]
section
variable {n:Nat} {g:Nat→Nat} {W:Nat→Int}
def Nv (W:Nat→Int) (L:List Nat):Prop:=∀ i (h:i<L.length),W (2*L[i])≤(i:Int)∧(i:Int)≤W (2*L[i]+1)
theorem J9 (hS:gm n W g) {L:List Nat} (hl:L.length≤10) (hL:∀ x ∈ L,x<n):gm n (nN W L) g:=by
 refine ⟨hS.len,fun j=>?_,fun j hj=>?_,hS.bef,hS.off,hS.nob⟩
 · unfold nN;split
   · have:=@List.idxOf_le_length _ _ _ L (j / 2);omega
   · exact hS.win j
 · unfold nN;rw[if_neg (fun h=>by have:=hL _ h;have:=hS.len;omega)];exact hS.zer j hj
theorem Og (hW:∀ c,c<n→0≤W (2*c)∧W (2*c+1)<n) {L:List Nat} (hl:L.length≤n) (c:Nat) (hc:c<n):0≤nN W L (2*c)∧nN W L (2*c+1)<n:=by
 unfold nN;rw[show 2*c / 2=c by omega,show (2*c+1) / 2=c by omega];split
 · rename_i h;have:=List.idxOf_lt_length_iff.2 h;omega
 · exact hW c hc
theorem J8 (hn:n≤10) (hg:∀ c,c<n→g c<2 ^ n) {L:List Nat} (hd:L.Nodup) (hL:∀ x ∈ L,x<n) (hs:Nv W L) (R:List Nat):R ∈ ro n (okW (nN W L) (bI g)) n↔R ∈ ro n (okW W (bI g)) n∧R.take L.length=L:=by
 rw[jr hn hg,jr hn hg];have hw:∀ c b,b<2→nN W L (2*c+b)=if c ∈ L then (L.idxOf c:Int) else W (2*c+b):=fun c b hb=>by
  unfold nN;rw[show (2*c+b) / 2=c by omega]
 constructor
 · rintro ⟨h1,h2,h3,h4⟩;refine ⟨⟨h1,h2,h3,fun i hi=>⟨(h4 i hi).1,?_⟩⟩,?_⟩
   · have h5:=(h4 i hi).2;have e0:=hw R[i] 0 wO;rw[Nat.add_zero] at e0;rw[e0,hw R[i] 1 wO] at h5;by_cases hm:R[i] ∈ L
     · rw[if_pos hm,if_pos hm] at h5;obtain ⟨hj,he⟩:=iZ hm;have:=hs _ hj;rw[he] at this;have e:L.idxOf R[i]=i:=by omega
       rw[e] at this;exact this
     · rw[if_neg hm,if_neg hm] at h5;exact h5
   · have hle:L.length≤R.length:=by rw[h1];have:=eM hd (M:=List.range n) (fun x hx=>List.mem_range.2 (hL x hx));rwa [List.length_range] at this
     refine List.ext_getElem (by rw[List.length_take];omega) (fun j a1 a2=>?_);rw[List.getElem_take];have hR:L[j] ∈ R:=lh h2 h1 h3 (hL _ (List.getElem_mem a2));obtain ⟨hi,he⟩:=iZ hR;have h5:=(h4 _ hi).2;rw[he] at h5;have e0:=hw L[j] 0 wO;rw[Nat.add_zero] at e0;rw[e0,hw L[j] 1 wO,if_pos (List.getElem_mem a2),if_pos (List.getElem_mem a2),Bf hd a2] at h5;have e:R.idxOf L[j]=j:=by omega
     rw[← he];congr 1;exact e.symm
 · rintro ⟨⟨h1,h2,h3,h4⟩,h5⟩;refine ⟨h1,h2,h3,fun i hi=>⟨(h4 i hi).1,?_⟩⟩;have e0:=hw R[i] 0 wO;rw[Nat.add_zero] at e0;rw[e0,hw R[i] 1 wO];by_cases hm:R[i] ∈ L
   · rw[if_pos hm,if_pos hm];obtain ⟨hj,he⟩:=iZ hm;have hjR:L.idxOf R[i]<R.length:=by
      have:=congrArg List.length h5;rw[List.length_take] at this;omega
     have e1:R[L.idxOf R[i]]=L[L.idxOf R[i]]:=by
      have:(R.take L.length)[L.idxOf R[i]]'(by rw[h5];exact hj)=L[L.idxOf R[i]]:=by simp only[h5]
      rw[List.getElem_take] at this;exact this
     have e2:L.idxOf R[i]=i:=by
      have e3:R[L.idxOf R[i]]=R[i]:=by rw[e1,he]
      rw[← Bf h2 hjR,e3,Bf h2 hi]
     omega
   · rw[if_neg hm,if_neg hm];exact (h4 i hi).2
variable (n g W)
noncomputable def CZ (W:Nat→Int):Bool:=(lF (qB (jz n g W)) n n).isNone
noncomputable def rN (L:List Nat) (c:Nat):Bool:=!(mask L).testBit c && okW W (bI g) L.length (mask L) c && CZ n g (nN W (L++[c]))
noncomputable def iR:Nat→List Nat
 | 0=>[]
 | k+1=>iR k++[if dH (rN n g W (iR k)) n=true then fN (rN n g W (iR k)) n 0 else 0]
variable {n g W}
theorem xb (hS:gm n W g) (hW:∀ c,c<n→0≤W (2*c)∧W (2*c+1)<n) {L:List Nat} (hd:L.Nodup) (hL:∀ x ∈ L,x<n) (hs:Nv W L):CZ n g (nN W L)=true↔∃ R ∈ ro n (okW W (bI g)) n,R.take L.length=L:=by
 have hle:L.length≤n:=by have:=eM hd (M:=List.range n) (fun x hx=>List.mem_range.2 (hL x hx));rwa [List.length_range] at this
 unfold CZ;rw[Option.isNone_iff_eq_none,Ly (J9 hS (by have:=hS.len;omega) hL) (Og hW hle)];constructor
 · rintro ⟨R,hR⟩;exact ⟨R,(J8 hS.len hS.bef hd hL hs R).1 hR⟩
 · rintro ⟨R,hR⟩;exact ⟨R,(J8 hS.len hS.bef hd hL hs R).2 hR⟩
theorem Hk {L:List Nat} {c:Nat} (h:Nv W L) (hc:W (2*c)≤(L.length:Int)∧(L.length:Int)≤W (2*c+1)):Nv W (L++[c]):=fun i hi=>by
 by_cases e:i<L.length
 · rw[List.getElem_append_left e];exact h i e
 · have:i=L.length:=by rw[List.length_append,List.length_singleton] at hi;omega
   subst this;rw[List.getElem_append_right (Nat.le_refl _)];simp only[Nat.sub_self,List.getElem_cons_zero];exact hc
structure Nu (n:Nat) (g:Nat→Nat) (W:Nat→Int) (k:Nat) (L:List Nat):Prop where
 len:L.length=k
 nd:L.Nodup
 lt:∀ x ∈ L,x<n
 su:Nv W L
 ex:∃ R ∈ ro n (okW W (bI g)) n,R.take k=L
theorem Kk {n k:Nat} {g:Nat→Nat} {W:Nat→Int} {X c:Nat} (h:okW W (bI g) k X c=true):W (2*c)≤(k:Int)∧(k:Int)≤W (2*c+1):=by
 unfold okW at h;rw[Bool.and_eq_true,Bool.and_eq_true,br,br,decide_eq_true_iff,decide_eq_true_iff] at h;exact h.2
theorem Oi (hS:gm n W g) (hW:∀ c,c<n→0≤W (2*c)∧W (2*c+1)<n) {k:Nat} {L:List Nat} (hB:Nu n g W k L) {R:List Nat} (hR:R ∈ ro n (okW W (bI g)) n) (ht:R.take k=L) (hk:k<R.length):rN n g W L R[k]=true:=by
 obtain ⟨h1,h2,h3⟩:=lJ hR;have h4:=(uf.1 hR).2 k hk;rw[ht] at h4;have hnm:R[k] ∉ L:=fun h=>by
  have:=h4.2.1;rw[cK hB.nd,decide_eq_true h] at this;cases this
 have ho:okW W (bI g) L.length (mask L) R[k]=true:=by rw[hB.len];exact h4.2.2
 unfold rN;rw[h4.2.1,ho,Bool.not_false,Bool.true_and,Bool.true_and];have hs:=Kk (n:=n) ho;refine (xb hS hW ?_ ?_ (Hk hB.su hs)).2 ⟨R,hR,?_⟩
 · rw[List.nodup_append];exact ⟨hB.nd,by simp,fun x hx y hy he=>by rw[List.mem_singleton] at hy;rw[hy] at he;rw[he] at hx;exact hnm hx⟩
 · intro x hx;rcases List.mem_append.1 hx with hx | hx
   · exact hB.lt x hx
   · rw[List.mem_singleton] at hx;subst hx;exact h4.1
 · rw[List.length_append,List.length_singleton,hB.len,List.take_add_one,ht];simp[hk]
theorem Cw (hS:gm n W g) (hW:∀ c,c<n→0≤W (2*c)∧W (2*c+1)<n) {k:Nat} (hB:Nu n g W k (iR n g W k)) (hk:k<n):dH (rN n g W (iR n g W k)) n=true∧fN (rN n g W (iR n g W k)) n 0<n∧rN n g W (iR n g W k) (fN (rN n g W (iR n g W k)) n 0)=true∧Nu n g W (k+1) (iR n g W (k+1)):=by
 obtain ⟨R,hR,ht⟩:=hB.ex;obtain ⟨h1,h2,h3⟩:=lJ hR;have hx:dH (rN n g W (iR n g W k)) n=true:=(cP _ _).2 ⟨R[k]'wO,(h3 _ (List.getElem_mem _)),Oi hS hW hB hR ht wO⟩;have hf:=pd hx;have hgo:=(rL (rN n g W (iR n g W k)) n 0).2.2.2 wO;refine ⟨hx,hf,hgo,?_⟩;have e:iR n g W (k+1)=iR n g W k++[fN (rN n g W (iR n g W k)) n 0]:=by
  show iR n g W k++[if dH (rN n g W (iR n g W k)) n=true then fN (rN n g W (iR n g W k)) n 0 else 0]=_;rw[if_pos hx]
 rw[e];generalize fN (rN n g W (iR n g W k)) n 0=c at *;generalize iR n g W k=L at *;unfold rN at hgo;rw[Bool.and_eq_true,Bool.and_eq_true,Bool.not_eq_true'] at hgo;obtain ⟨⟨g1,g2⟩,g3⟩:=hgo;have hnm:c ∉ L:=fun h=>by rw[cK hB.nd,decide_eq_true h] at g1;cases g1
 have hd:(L++[c]).Nodup:=by
  rw[List.nodup_append];exact ⟨hB.nd,by simp,fun x hx y hy he=>by rw[List.mem_singleton] at hy;rw[hy] at he;rw[he] at hx;exact hnm hx⟩
 have hlt:∀ x ∈ L++[c],x<n:=by
  intro x hx;rcases List.mem_append.1 hx with hx | hx
  · exact hB.lt x hx
  · rw[List.mem_singleton] at hx;subst hx;exact hf
 have hs:=Hk hB.su (Kk (n:=n) g2);refine ⟨by rw[List.length_append,hB.len];rfl,hd,hlt,hs,?_⟩;have:=(xb hS hW hd hlt hs).1 g3;rwa [List.length_append,hB.len] at this
theorem sM (hS:gm n W g) (hW:∀ c,c<n→0≤W (2*c)∧W (2*c+1)<n) (h:CZ n g W=true):∀ k,k≤n→Nu n g W k (iR n g W k)
 | 0,_=>by
   have:=(xb hS hW (L:=[]) List.nodup_nil (by simp) (fun i hi=>by cases hi)).1 (by rw[F1];exact h);exact ⟨rfl,List.nodup_nil,by simp[iR],(fun i hi=>by cases hi),this⟩
 | k+1,hk=>(Cw hS hW (sM hS hW h k wO) wO).2.2.2
theorem FU (hS:gm n W g) (hW:∀ c,c<n→0≤W (2*c)∧W (2*c+1)<n) (h:CZ n g W=true):iR n g W n ∈ ro n (okW W (bI g)) n:=by
 obtain ⟨R,hR,ht⟩:=(sM hS hW h n (Nat.le_refl n)).ex;rw[← ht,List.take_of_length_le (by rw[(lJ hR).1];omega)];exact hR
end
end Go.Eng
end
section
namespace Go.Eng
open Int (ofNat)
open Go.Proofs Go.Eng.Gall
noncomputable def DZ (d:Nat):AV:=.fn (.func 93) [] [.ptr (d+2) 4 0 0,.ptr (d+2) 0 0 0,.ptr d 0 0 0,.ptr (d+2) 1 0 0]
noncomputable def A2 (U:Nat) (j:Int):aE:=[(1,DZ 1),(7,.int .i64 (ofNat U)),(8,.int .i64 j)]
noncomputable def Nf (s:Nat) (R:Row):AV:=.fn (.func 90) [] [.ptrT (some s) (.G [.ptrT none R 0]) 0]
noncomputable def lY (U:Nat) (j:Int):aE:=[(0,.yld 1 5),(9,.int .i64 (ofNat U)),(10,.int .i64 j)]
noncomputable def D2 (R:Row):aE:=[(1,.ptr 0 0 0 0),(3,.ptr 0 1 0 0),(6,.ptr 0 3 0 0),(7,.ptr 0 4 0 0),(19,Nf 0 R)]
noncomputable def Fo (R X:Row) (a b:AV) (A:AV) (l:Int):List (Nat×ao):=[(0,.row (.G [.ptrT none R 0])),(0,.row X),(0,.row (.G [a,b,.undef])),(0,.row (.G [A])),(0,.row (.I .u64 [l]))]
noncomputable def Mh (R X:Row) (a b:AV) (l:Int) (k:Nat×ao):bK:=⟨false,Fo R X a b .nils l++[k]⟩
noncomputable def HI (R X:Row) (a b:AV) (l:Int) (k:Nat×ao) (v m:Nat) (y:Nat→Int):bK:=⟨false,Fo R X a b (.slc 0 6 v 0 1 m none) l++[k,(v,.row (.M [.arr .i64 y m]))]⟩
noncomputable def xL (k:Int):bK:=⟨false,[(0,.row (.I .i64 [k]))]⟩
noncomputable def HJ (R X:Row) (b2 b3:Nat×ao) (l:Int) (rest:List (Nat×ao)):bK:=⟨false,(0,.row (.G [.ptrT none R 0]))::(0,.row X)::b2::b3::(0,.row (.I .u64 [l]))::rest⟩
theorem t92 (n:Nat) (U:Nat) (H:aa) (j:Int) (q:Bool):aJ (bP n 92 16) (il (xI aM 93 [.int .i64 j,.ptr 3 4 0 0,.ptr 3 0 0 0,.ptr 1 0 0 0,.ptr 3 1 0 0] (aw::H) (.ok (.bool q,aw::H))) n 0) aV aR (part Tryd.f92 [1,0,1,0,0]) (hints (A2 U j)) (aw::H) =
 Tr.ite (bQ j (ofNat U)) (Tr.reqP ([AV.int .i64 j,AV.ptr 3 4 0 0,AV.ptr 3 0 0 0,AV.ptr 1 0 0 0,AV.ptr 3 1 0 0]=[AV.int .i64 j,AV.ptr 3 4 0 0,AV.ptr 3 0 0 0,AV.ptr 1 0 0 0,AV.ptr 3 1 0 0]∧aw::H=aw::H) (Tr.ite q (Tr.ok (Ex.ret,[(4,AV.int .i64 j,none)],aw::H)) (Tr.ok (Ex.normal,[(1,AV.fn (Fn.func 93) [] [AV.ptr 3 4 0 0,AV.ptr 3 0 0 0,AV.ptr 1 0 0 0,AV.ptr 3 1 0 0],none),(7,iI U,none),(8,AV.int .i64 (bh .i64 j (ofNat 1)),none)],aw::H)))) (Tr.ok (Ex.exit 0,[(1,AV.fn (Fn.func 93) [] [AV.ptr 3 4 0 0,AV.ptr 3 0 0 0,AV.ptr 1 0 0 0,AV.ptr 3 1 0 0],none),(7,iI U,none),(8,AV.int .i64 j,none),(9,AV.bool false,some 1)],aw::H)):=by kernel_rfl
theorem SM (n:Nat) (U:Nat) (H:aa) (j:Int):aJ (bP n 92 16) (il aM n 0) aV aR (part Tryd.f92 [1,0,1,0,0]) (hints (A2 U j)) (aw::H) =
 Tr.ite (bQ j (ofNat U)) Tr.bad (Tr.ok (Ex.exit 0,[(1,AV.fn (Fn.func 93) [] [AV.ptr 3 4 0 0,AV.ptr 3 0 0 0,AV.ptr 1 0 0 0,AV.ptr 3 1 0 0],none),(7,iI U,none),(8,AV.int .i64 j,none),(9,AV.bool false,some 1)],aw::H)):=by kernel_rfl
theorem Xk (n:Nat) (U:Nat) (Z:Nat→Int) (H:aa) (q:Bool) (k:Int):bz Tryd.prog (cd n) 100000 92 Tryd.f92 (KtG.kt 92) (il aM n 0) (c9 aV 0 (A2 U (ofNat 0)) (aw::H) (.ite q (.ok (.ret,[(4,.int .i64 k,none)],aw::H)) (.ok (.normal,hints (A2 U (ofNat U)++[(9,.bool false)]),aw::H)))) aR [(slA 4 U Z,none),(DZ 0,none)] H =
 (fun (Z0:aE)=>Tr.reqP (Z0=Z0∧aw::H=aw::H) (Tr.ite q (Tr.ok ((AV.int .i64 k,none),H)) (Tr.ok ((iI 0,some 1),H)))) [(1,AV.fn (Fn.func 93) [] [AV.ptr 3 4 0 0,AV.ptr 3 0 0 0,AV.ptr 1 0 0 0,AV.ptr 3 1 0 0]),(7,iI U),(8,iI 0)]:=by kernel_rfl
theorem SJ (n:Nat) (U:Nat) (j:Int) (G G':aa):aJ (bP n 90 18) (O7 (il aM n 0) 1 5 [.int .i64 j] (aw::G) (.ok (.bool true,aw::G'))) aV aR (part Tryd.f90 [1,0,0]) (hints (lY U j)) (aw::G) =
 Tr.ite (bQ j (ofNat U)) (Tr.reqP ([AV.int .i64 j]=[AV.int .i64 j]∧aw::G=aw::G) (Tr.ite (bD true) (Tr.ok (Ex.ret,[(0,AV.yld 1 5,none),(9,iI U,none),(10,AV.int .i64 j,none),(16,AV.bool true,some 1)],aw::G')) (Tr.ok (Ex.normal,[(0,AV.yld 1 5,none),(9,iI U,none),(10,AV.int .i64 (bh .i64 j (ofNat 1)),none)],aw::G')))) (Tr.ok (Ex.exit 0,[(0,AV.yld 1 5,none),(9,iI U,none),(10,AV.int .i64 j,none),(11,AV.bool false,some 1)],aw::G)):=by kernel_rfl
theorem SK (n:Nat) (U:Nat) (j:Int) (G:aa):aJ (bP n 90 18) (il aM n 0) aV aR (part Tryd.f90 [1,0,0]) (hints (lY U j)) (aw::G) =
 Tr.ite (bQ j (ofNat U)) Tr.bad (Tr.ok (Ex.exit 0,[(0,AV.yld 1 5,none),(9,iI U,none),(10,AV.int .i64 j,none),(11,AV.bool false,some 1)],aw::G)):=by kernel_rfl
theorem S2 (n:Nat) (O:Int) (U:Nat) (Z:Nat→Int) (V:Nat) (J:Nat→Int) (W B:Nat→Int) (G G':aa):bz Tryd.prog (cd n) 100000 90 Tryd.f90 (KtG.kt 90) (il aM n 0) (c9 aV 0 (lY U (ofNat 0)) (aw::G) (.ok (.normal,hints (lY U (ofNat U)++[(11,.bool false)]),aw::G'))) aR [(.yld 0 5,none),(.ptrT (some 0) (.G [shV O U Z V J W B]) 0,none)] G =
 Tr.reqP ([(0,AV.yld 1 5),(9,iI U),(10,iI 0)]=[(0,AV.yld 1 5),(9,iI U),(10,iI 0)]∧aw::G=aw::G) (Tr.ok ((AV.tup [],none),G')):=by kernel_rfl
theorem Px (n:Nat) (R:Row) (L:bK) (H:aa) (k:Int):aJ (iQ n 74 43 2 5) (il aM n 0) aV aR (part Tryd.f74 [1,1,1,1,1,0,1,0,0]) (hints [(1,.ptr 2 0 0 0),(3,.ptr 2 1 0 0),(6,.ptr 2 3 0 0),(7,.ptr 2 4 0 0),(19,Nf 2 R),(20,.int .i64 k)]) (aw::aw::L::H) =
 Tr.ok (Ex.normal,[(1,AV.ptr 2 0 0 0,none),(3,AV.ptr 2 1 0 0,none),(6,AV.ptr 2 3 0 0,none),(7,AV.ptr 2 4 0 0,none),(8,AV.ptr 0 0 0 0,none)],(bO [(0,ao.row (Row.I .i64 [k]))])::aw::L::H):=by kernel_rfl
theorem Xl (n:Nat) (O:Int) (U:Nat) (Z:Nat→Int) (V:Nat) (J:Nat→Int) (W X B:Nat→Int) (H:aa) (b2 b3:Nat×ao) (l k c:Int) (rest:List (Nat×ao)) (s q:Bool) (f t:Int):bz Tryd.prog (cd n) 100000 93 Tryd.f93 (KtG.kt 93) (il (xI (tX aM 71 [shV O U Z V J W B,.int .i64 c,.int .i64 k] (.bool s)) 65 [.ptr 0 0 0 0] (⟨false,[(0,.row (shR O U Z V J (cu (cu X (dx (au 3 c 2) 3) k) (dx (ah (au 3 c 2) 1) 3) k) B))]⟩::aw::xL k::aw::HJ (shR O U Z V J W B) (shR O U Z V J X B) b2 b3 l rest::H) (.ok (.tup [.agg (.G [.int .i64 f,.int .i64 t,.undef]),.bool q],⟨false,[(0,.row (shR O U Z V J (cu (cu X (dx (au 3 c 2) 3) k) (dx (ah (au 3 c 2) 1) 3) k) B))]⟩::aw::xL k::aw::HJ (shR O U Z V J W B) (shR O U Z V J X B) b2 b3 l rest::H))) n 0) aV aR [(.int .i64 c,none),(.ptr 3 4 0 0,none),(.ptr 3 0 0 0,none),(.ptr 1 0 0 0,none),(.ptr 3 1 0 0,none)] (aw::xL k::aw::HJ (shR O U Z V J W B) (shR O U Z V J X B) b2 b3 l rest::H) =
 (fun (Z0:bK)=>((fun (Z1:bK)=>((fun (Z2:bK)=>Tr.req (dS (ofNat 0) c) (Tr.ite (bD (c7 (ny IntKind.u64 l (ep IntKind.u64 (ofNat 1) c)) (ofNat 0))) (Tr.ok ((AV.bool false,some 1),aw::Z1::aw::Z0::H)) (Tr.req (bL c 10) (Tr.req (dX (au 23 c 1) 1 23 10) (Tr.ite (bD (c7 (AB IntKind.u64 (B (dx (au 23 c 1) 23)) l) (ofNat 0))) (Tr.ok ((AV.bool false,some 1),aw::Z1::aw::Z0::H)) (Tr.reqP ([shV O U Z V J W B,AV.int .i64 c,AV.int .i64 k]=[shV O U Z V J W B,AV.int .i64 c,AV.int .i64 k]) (Tr.ite (bD s) (Tr.ok ((AV.bool false,some 1),aw::Z1::aw::Z0::H)) (Tr.req (bL c 10) (Tr.req (aU 0 0) (Tr.req (dX (au 3 c 2) 1 3 20) (Tr.req (dX (ah (au 3 c 2) 1) 1 3 20) (Tr.reqP ([AV.ptr 0 0 0 0]=[AV.ptr 0 0 0 0]∧Z2::aw::Z1::aw::Z0::H=Z2::aw::Z1::aw::Z0::H) (Tr.ok ((AV.bool (bD q),none),aw::Z1::aw::Z0::H)))))))))))))) (bO [(0,ao.row (shR O U Z V J (cu (cu X (dx (au 3 c 2) 3) k) (dx (ah (au 3 c 2) 1) 3) k) B))]))) (bO [(0,ao.row (Row.I .i64 [k]))]))) (bO ((0,ao.row (Row.G [shV O U Z V J W B]))::(0,ao.row (shR O U Z V J X B))::b2::b3::(0,ao.row (Row.I IntKind.u64 [l]))::rest)):=by kernel_rfl
theorem S3 (n:Nat) (O:Int) (U:Nat) (Z:Nat→Int) (V:Nat) (J:Nat→Int) (W X B:Nat→Int) (H:aa) (b2 b3:Nat×ao) (l k c:Int) (rest:List (Nat×ao)) (s:Bool):bz Tryd.prog (cd n) 100000 93 Tryd.f93 (KtG.kt 93) (il (tN (tX aM 71 [shV O U Z V J W B,.int .i64 c,.int .i64 k] (.bool s)) 65) n 0) aV aR [(.int .i64 c,none),(.ptr 3 4 0 0,none),(.ptr 3 0 0 0,none),(.ptr 1 0 0 0,none),(.ptr 3 1 0 0,none)] (aw::xL k::aw::HJ (shR O U Z V J W B) (shR O U Z V J X B) b2 b3 l rest::H) =
 (fun (Z0:bK)=>Tr.req (dS (ofNat 0) c) (Tr.ite (bD (c7 (ny IntKind.u64 l (ep IntKind.u64 (ofNat 1) c)) (ofNat 0))) (Tr.ok ((AV.bool false,some 1),aw::(bO [(0,ao.row (Row.I .i64 [k]))])::aw::Z0::H)) (Tr.req (bL c 10) (Tr.req (dX (au 23 c 1) 1 23 10) (Tr.ite (bD (c7 (AB IntKind.u64 (B (dx (au 23 c 1) 23)) l) (ofNat 0))) (Tr.ok ((AV.bool false,some 1),aw::(bO [(0,ao.row (Row.I .i64 [k]))])::aw::Z0::H)) (Tr.reqP ([shV O U Z V J W B,AV.int .i64 c,AV.int .i64 k]=[shV O U Z V J W B,AV.int .i64 c,AV.int .i64 k]) (Tr.ite (bD s) (Tr.ok ((AV.bool false,some 1),aw::(bO [(0,ao.row (Row.I .i64 [k]))])::aw::Z0::H)) (Tr.req (bL c 10) (Tr.req (aU 0 0) (Tr.req (dX (au 3 c 2) 1 3 20) (Tr.req (dX (ah (au 3 c 2) 1) 1 3 20) Tr.bad))))))))))) (bO ((0,ao.row (Row.G [shV O U Z V J W B]))::(0,ao.row (shR O U Z V J X B))::b2::b3::(0,ao.row (Row.I IntKind.u64 [l]))::rest)):=by kernel_rfl
theorem SB (n:Nat) (O:Int) (U:Nat) (Z:Nat→Int) (V:Nat) (J:Nat→Int) (W X B:Nat→Int) (H:aa) (a b:AV) (l k c:Int) (K:Nat×ao):aJ (iQ n 74 43 2 5) (il (xI aM 92 [slA 4 U Z,DZ 0] (xL k::aw::Mh (shR O U Z V J W B) (shR O U Z V J X B) a b l K::H) (.ok (.int .i64 c,xL k::aw::Mh (shR O U Z V J W B) (shR O U Z V J X B) a b l K::H))) n 0) aV aR (part Tryd.f74 [1,1,1,1,1,0,1,0,1]) (hints [(1,.ptr 2 0 0 0),(3,.ptr 2 1 0 0),(6,.ptr 2 3 0 0),(7,.ptr 2 4 0 0),(8,.ptr 0 0 0 0)]) (xL k::aw::Mh (shR O U Z V J W B) (shR O U Z V J X B) a b l K::H) =
 (fun (Z0:bK)=>((fun (Z1:List AV)=>Tr.reqP (Z1=Z1∧(bO [(0,ao.row (Row.I .i64 [k]))])::aw::Z0::H=(bO [(0,ao.row (Row.I .i64 [k]))])::aw::Z0::H) (Tr.req (bL c 10) (Tr.req (aU 0 0) (Tr.req (dX (au 3 c 2) 1 3 20) (Tr.req (dX (ah (au 3 c 2) 1) 1 3 20) (Tr.req (dS (ofNat 0) c) (Tr.req (bC (bH 0 0) (bH 0 1)) (Tr.req (da 0 1 8) (Tr.req (aU 0 0) (Tr.req (bH 1 1) (Tr.ok (Ex.normal,[],(bO [(0,ao.row (Row.I .i64 [k])),(0,ao.row (Row.I .i64 [c])),(0,ao.dead)])::aw::(bO [(0,ao.row (Row.G [shV O U Z V J W B])),(0,ao.row (shR O U Z V J (cu (cu X (dx (au 3 c 2) 3) k) (dx (ah (au 3 c 2) 1) 3) k) B)),(0,ao.row (Row.G [a,b,AV.undef])),(0,ao.row (Row.G [AV.slc 0 6 0 0 1 1 none])),(0,ao.row (Row.I IntKind.u64 [r8 IntKind.u64 l (ep IntKind.u64 (ofNat 1) c)])),K,(0,ao.row (rM (ar [c]) 1))])::H)))))))))))) [slA 4 U Z,AV.fn (Fn.func 93) [] [AV.ptr 2 4 0 0,AV.ptr 2 0 0 0,AV.ptr 0 0 0 0,AV.ptr 2 1 0 0]])) (bO [(0,ao.row (Row.G [shV O U Z V J W B])),(0,ao.row (shR O U Z V J X B)),(0,ao.row (Row.G [a,b,AV.undef])),(0,ao.row (Row.G [AV.nils])),(0,ao.row (Row.I IntKind.u64 [l])),K]):=by kernel_rfl
theorem SC (n:Nat) (O:Int) (U:Nat) (Z:Nat→Int) (V:Nat) (J:Nat→Int) (W X B:Nat→Int) (H:aa) (a b:AV) (l k c:Int) (K:Nat×ao) (v m:Nat) (y:Nat→Int):aJ (iQ n 74 43 2 5) (il (xI aM 92 [slA 4 U Z,DZ 0] (xL k::aw::HI (shR O U Z V J W B) (shR O U Z V J X B) a b l K v m y::H) (.ok (.int .i64 c,xL k::aw::HI (shR O U Z V J W B) (shR O U Z V J X B) a b l K v m y::H))) n 0) aV aR (part Tryd.f74 [1,1,1,1,1,0,1,0,1]) (hints [(1,.ptr 2 0 0 0),(3,.ptr 2 1 0 0),(6,.ptr 2 3 0 0),(7,.ptr 2 4 0 0),(8,.ptr 0 0 0 0)]) (xL k::aw::HI (shR O U Z V J W B) (shR O U Z V J X B) a b l K v m y::H) =
 (fun (Z0:bK)=>((fun (Z1:List AV)=>Tr.reqP (Z1=Z1∧(bO [(0,ao.row (Row.I .i64 [k]))])::aw::Z0::H=(bO [(0,ao.row (Row.I .i64 [k]))])::aw::Z0::H) (Tr.req (bL c 10) (Tr.req (aU 0 0) (Tr.req (dX (au 3 c 2) 1 3 20) (Tr.req (dX (ah (au 3 c 2) 1) 1 3 20) (Tr.req (dS (ofNat 0) c) (Tr.req (bC (bH 0 0) (bH 0 1)) (Tr.req (da m 1 8) (Tr.req (aU 0 0) (Tr.req (bH 1 1) (Tr.req (aU v v) (Tr.req (aU (ah 0 m) m) (Tr.ok (Ex.normal,[],(bO [(0,ao.row (Row.I .i64 [k])),(0,ao.row (Row.I .i64 [c]))])::aw::(bO [(0,ao.row (Row.G [shV O U Z V J W B])),(0,ao.row (shR O U Z V J (cu (cu X (dx (au 3 c 2) 3) k) (dx (ah (au 3 c 2) 1) 3) k) B)),(0,ao.row (Row.G [a,b,AV.undef])),(0,ao.row (Row.G [AV.slc 0 6 (Nat.succ v) 0 1 (ah m 1) none])),(0,ao.row (Row.I IntKind.u64 [r8 IntKind.u64 l (ep IntKind.u64 (ofNat 1) c)])),K,(Nat.succ v,ao.row (rM (bJ (iO y 0) m (ar [c])) (ah m 1)))])::H)))))))))))))) [slA 4 U Z,AV.fn (Fn.func 93) [] [AV.ptr 2 4 0 0,AV.ptr 2 0 0 0,AV.ptr 0 0 0 0,AV.ptr 2 1 0 0]])) (bO [(0,ao.row (Row.G [shV O U Z V J W B])),(0,ao.row (shR O U Z V J X B)),(0,ao.row (Row.G [a,b,AV.undef])),(0,ao.row (Row.G [AV.slc 0 6 v 0 1 m none])),(0,ao.row (Row.I IntKind.u64 [l])),K,(v,ao.row (rM y m))]):=by kernel_rfl
theorem Xa (n:Nat) (O:Int) (U:Nat) (Z:Nat→Int) (V:Nat) (J:Nat→Int) (W X B:Nat→Int) (H:aa) (f t l:Int) (v m:Nat) (y:Nat→Int):bz Tryd.prog (cd n) 100000 74 Tryd.f74 (KtG.kt 74) (il (xI (tX aM 70 [shV O U Z V J W B] (Nf 0 (shR O U Z V J W B))) 65 [.ptr 0 1 0 0] (⟨false,[(0,.row (.G [shV O U Z V J W B])),(0,.row (shR O U Z V J W B))]⟩::H) (.ok (.tup [.agg (.G [.int .i64 f,.int .i64 t,.undef]),.bool false],⟨false,[(0,.row (.G [shV O U Z V J W B])),(0,.row (shR O U Z V J W B))]⟩::H))) n 0) aV (HN aR (fun _=>true) (D2 (shR O U Z V J W B)) (⟨false,Fo (shR O U Z V J W B) (shR O U Z V J W B) (.int .i64 f) (.int .i64 t) .nils (ofNat 0)⟩::H) (.ok (.normal,hints (D2 (shR O U Z V J W B)),HI (shR O U Z V J W B) (shR O U Z V J X B) (.int .i64 f) (.int .i64 t) l (0,.dead) v m y::H))) [(shV O U Z V J W B,none)] H =
 (fun (Z0:bK)=>((fun (Z1:aE)=>((fun (Z2:bK)=>Tr.reqP ([AV.ptr 0 1 0 0]=[AV.ptr 0 1 0 0]∧Z2::H=Z2::H) (Tr.ite false (Tr.ok ((AV.nils,none),H)) (Tr.reqP ([shV O U Z V J W B]=[shV O U Z V J W B]) (Tr.reqP (Z1=Z1∧Z0::H=Z0::H) (Tr.req (aU v v) (Tr.req (dX 0 m 0 m) (Tr.ok ((bk m (iO y 0) false,none),H)))))))) (bO [(0,ao.row (Row.G [shV O U Z V J W B])),(0,ao.row (shR O U Z V J W B))]))) [(1,AV.ptr 0 0 0 0),(3,AV.ptr 0 1 0 0),(6,AV.ptr 0 3 0 0),(7,AV.ptr 0 4 0 0),(19,AV.fn (Fn.func 90) [] [AV.ptrT (some 0) (Row.G [shV O U Z V J W B]) 0])])) (bO [(0,ao.row (Row.G [shV O U Z V J W B])),(0,ao.row (shR O U Z V J W B)),(0,ao.row (Row.G [AV.int .i64 f,AV.int .i64 t,AV.undef])),(0,ao.row (Row.G [AV.nils])),(0,ao.row (Row.I IntKind.u64 [ofNat 0]))]):=by kernel_rfl
theorem S0 (n:Nat) (O:Int) (U:Nat) (Z:Nat→Int) (V:Nat) (J:Nat→Int) (W B:Nat→Int) (H:aa) (f t:Int):bz Tryd.prog (cd n) 100000 74 Tryd.f74 (KtG.kt 74) (il (xI (tX aM 70 [shV O U Z V J W B] (Nf 0 (shR O U Z V J W B))) 65 [.ptr 0 1 0 0] (⟨false,[(0,.row (.G [shV O U Z V J W B])),(0,.row (shR O U Z V J W B))]⟩::H) (.ok (.tup [.agg (.G [.int .i64 f,.int .i64 t,.undef]),.bool true],⟨false,[(0,.row (.G [shV O U Z V J W B])),(0,.row (shR O U Z V J W B))]⟩::H))) n 0) aV aR [(shV O U Z V J W B,none)] H =
 (fun (Z0:bK)=>Tr.reqP ([AV.ptr 0 1 0 0]=[AV.ptr 0 1 0 0]∧Z0::H=Z0::H) (Tr.ite true (Tr.ok ((AV.nils,none),H)) (Tr.reqP ([shV O U Z V J W B]=[shV O U Z V J W B]) Tr.bad))) (bO [(0,ao.row (Row.G [shV O U Z V J W B])),(0,ao.row (shR O U Z V J W B))]):=by kernel_rfl
theorem Ud (n:Nat) (O:Int) (U:Nat) (Z:Nat→Int) (V:Nat) (J:Nat→Int) (W B:Nat→Int) (H:aa):bz Tryd.prog (cd n) 100000 70 Tryd.f70 (KtG.kt 70) (il aM n 0) aV aR [(shV O U Z V J W B,none)] H =
 Tr.ok ((AV.fn (Fn.func 90) [] [AV.ptrT (some 0) (Row.G [shV O U Z V J W B]) 0],none),H):=by kernel_rfl
theorem W1 (n:Nat) (O:Int) (U:Nat) (Z:Nat→Int) (V:Nat) (J:Nat→Int) (W B:Nat→Int) (H:aa) (m:Nat) (y:Nat→Int):bz Tryd.prog (cd n) 100000 38 Tryd.f38 (KtG.kt 38) (il (tX (tX aM 49 [bX O U Z V J,.nils] (.tup [shV O U Z V J W B,.int .i64 (ofNat 0)])) 74 [shV O U Z V J W B] (bk m y false)) n 0) aV aR [(bX O U Z V J,none)] H =
 Tr.reqP ([bX O U Z V J,AV.nils]=[bX O U Z V J,AV.nils]) (Tr.ite (bD (c7 (ofNat 0) (ofNat 0))) (Tr.ok ((AV.tup [AV.nils,iI 0],none),H)) (Tr.reqP ([shV O U Z V J W B]=[shV O U Z V J W B]) (Tr.req (bt 0 m) (Tr.ite false (Tr.ok ((AV.tup [AV.nils,iI 13],none),H)) (Tr.req (CV (ofNat m) (ofNat m) 8) (Tr.req (bH (w6 m (cg (ofNat m))) m) (Tr.req (bH (ah 0 (w6 m (cg (ofNat m)))) m) (Tr.req (aU 0 0) (Tr.req (dX 0 (w6 m (cg (ofNat m))) 0 (cg (ofNat m))) (Tr.req (aU 0 0) (Tr.req (dX 0 (cg (ofNat m)) 0 (cg (ofNat m))) (Tr.ok ((AV.tup [AV.slcT none (rM (iO (nz (fun x=>ofNat 0) 0 y (w6 m (cg (ofNat m)))) 0) (cg (ofNat m))) 1 (cg (ofNat m)) (aU (cg (ofNat m)) (cg (ofNat m))),iI 0],none),H))))))))))))):=by kernel_rfl
theorem SR (n:Nat) (O:Int) (U:Nat) (Z:Nat→Int) (V:Nat) (J:Nat→Int) (W B:Nat→Int) (H:aa):bz Tryd.prog (cd n) 100000 38 Tryd.f38 (KtG.kt 38) (il (tX (tX aM 49 [bX O U Z V J,.nils] (.tup [shV O U Z V J W B,.int .i64 (ofNat 0)])) 74 [shV O U Z V J W B] .nils) n 0) aV aR [(bX O U Z V J,none)] H =
 Tr.reqP ([bX O U Z V J,AV.nils]=[bX O U Z V J,AV.nils]) (Tr.ite (bD (c7 (ofNat 0) (ofNat 0))) (Tr.ok ((AV.tup [AV.nils,iI 0],none),H)) (Tr.reqP ([shV O U Z V J W B]=[shV O U Z V J W B]) (Tr.ite true (Tr.ok ((AV.tup [AV.nils,iI 13],none),H)) (Tr.req (CV (ofNat 0) (ofNat 0) 8) Tr.bad)))):=by kernel_rfl
end Go.Eng
end
section
namespace Go.Eng
open Int (ofNat)
open Go.Proofs Go.Eng.Gall
theorem Un:∀ b,(0,b) ∈ aO (a7 Tryd.f92)→b=.loop (part Tryd.f92 [1,0,1,0,0]):=eP (by kernel_rfl)
theorem Qe:∀ b,(0,b) ∈ aO (a7 Tryd.f90)→b=.loop (part Tryd.f90 [1,0,0]):=eP (by kernel_rfl)
section
variable (n:Nat) (O:Int) (U:Nat) (Z:Nat→Int) (V:Nat) (J:Nat→Int)
theorem UJ (H:aa) (p:Nat→Bool) (hl:U≤1000) (h93:∀ j,j<U→cd n (.fn 93) [.int .i64 (j:Int),.ptr 3 4 0 0,.ptr 3 0 0 0,.ptr 1 0 0 0,.ptr 3 1 0 0] (aw::H)=some (.bool (p j),aw::H)) :
 cd (n+1) (.fn 92) [slA 4 U Z,DZ 0] H=some (.int .i64 ((if dH p U=true then fN p U 0 else 0:Nat):Int),H):=by
 have lp:=jE (n:=n) (f:=92) (nt:=16) (c:=part Tryd.f92 [1,0,1,0,0]) 0 (fun j=>A2 U (j:Int)) (fun _=>aw::H) U p (fun j=>([(4,.int .i64 (j:Int))],aw::H)) (A2 U (ofNat U)++[(9,.bool false)],aw::H) wO (fun j hj=>?_) ?_
 · refine bU (n:=n) Tryd.func92 rfl rfl rfl (Xk n U Z H (dH p U) (fN p U 0:Nat)) (aA n) (bf (aj _ _) Un (fun x hx=>dQ hx lp)) (ak _ _) ?_
   refine Tr.an ⟨rfl,rfl⟩ (Tr.af (fun q=>Tr.ai ⟨?_,rfl⟩) (fun q=>Tr.ai ⟨?_,rfl⟩))
   · rw[if_pos q]
   · rw[if_neg (by rw[q];decide)];rfl
 · have T:=t92 n U H (j:Int) (p j)
   rw[fI wO] at T
   refine aI T (bV _ _ (fq (bo _) (fun x hy=>by rw[← Tr.ab hy];exact h93 j hj))) (aj _ _) (ak _ _) ?_
   refine Tr.af (fun _=>Tr.an ⟨rfl,rfl⟩ (Tr.af (fun q=>Tr.ai ?_) (fun q=>Tr.ai ?_))) wJ
   · rw[if_pos q];rfl
   · rw[if_neg (by rw[q];decide)];exact ⟨rfl,rfl⟩
 · obtain ⟨x,h1,rfl⟩:=aI (Q:=fun x=>x=(.exit 0,A2 U (ofNat U)++[(9,.bool false)],aw::H)) (SM n U H (ofNat U)) (aA n) (aj _ _) (ak _ _) (by
    refine Tr.af wJ (fun h0=>Tr.ai rfl))
   exact h1
theorem Kr (W:Nat→Int) (g:Nat→Nat) (HH:aa) (i:Nat) (hr:cX HH 0 i 0=some (shR O U Z V J W (bI g))) (hS:gm U W g):∃ f t,cd (n+4) (.fn 65) [.ptr 0 i 0 0] HH=some (.tup [.agg (.G [.int .i64 f,.int .i64 t,.undef]),.bool (!CZ U g W)],HH):=by
 have h:=Uz n O U Z V J W [⟨true,[]⟩] g hS;have e:=MB (.inr rfl) hr rfl h;unfold CZ;cases hc:lF (qB (jz U g W)) U U with
 | none =>
   rw[hc] at e;exact ⟨ofNat 0,ofNat 0,oZ e⟩
 | some v =>
   obtain ⟨f,t⟩:=v;rw[hc] at e;exact ⟨f,t,oZ e⟩
variable (W:Nat→Int) (g:Nat→Nat) (H:aa)
theorem Pd (k:Nat) (c:Nat):Ds W (c:Int) (k:Int)=(dS (W (2*c)) (k:Int) && dS (k:Int) (W (2*c+1))):=by
 unfold Ds;rw[br,br];rfl
theorem UK (hS:gm U W g) (L:List Nat) (hd:L.Nodup) (hL:∀ x ∈ L,x<U) (hk:L.length<U) (b2 b3:Nat×ao) (rest:List (Nat×ao)) (c:Nat) (hc:c<U) :
 cd (n+5) (.fn 93) [.int .i64 (c:Int),.ptr 3 4 0 0,.ptr 3 0 0 0,.ptr 1 0 0 0,.ptr 3 1 0 0] (aw::xL (L.length:Int)::aw::HJ (shR O U Z V J W (bI g)) (shR O U Z V J (nN W L) (bI g)) b2 b3 (mask L:Int) rest::H)=some (.bool (rN U g W L c),aw::xL (L.length:Int)::aw::HJ (shR O U Z V J W (bI g)) (shR O U Z V J (nN W L) (bI g)) b2 b3 (mask L:Int) rest::H):=by
 have hlc:=hS.len
 have hm:mask L<2 ^ U:=ni hd hL
 have hm62:mask L<2 ^ 62:=Nat.lt_of_lt_of_le hm (Nat.pow_le_pow_right wO wO)
 have h71:∀ H,cd (n+4) (.fn 71) [shV O U Z V J W (bI g),.int .i64 (c:Int),.int .i64 (L.length:Int)] H=some (.bool (Ds W (c:Int) (L.length:Int)),H):=fun H=>TY (n+3) O U Z V J H W (bI g) (c:Int) L.length wO
 have e1:dx (au 23 (c:Int) 1) 23=c:=by rw[bN,dq];omega
 have e2:dx (au 3 (c:Int) 2) 3=2*c:=by rw[bN,dq];omega
 have e3:dx (ah (au 3 (c:Int) 2) 1) 3=2*c+1:=by rw[bN,aF,dq];omega
 have E:rN U g W L c=(!(mask L).testBit c && (c7 (AB .u64 (bI g c) (mask L:Int)) (ofNat 0) && Ds W (c:Int) (L.length:Int)) && CZ U g (nN W (L++[c]))):=by
  unfold rN Q.okW;rw[Pd]
 have B1:c7 (ny .u64 (mask L:Int) (ep .u64 (ofNat 1) (c:Int))) (ofNat 0)=!(mask L).testBit c:=Q.AK hm62 wO
 by_cases hb:(mask L).testBit c=true
 · have T:=S3 (n+4) O U Z V J W (nN W L) (bI g) H b2 b3 (mask L:Int) (L.length:Int) (c:Int) rest (Ds W (c:Int) (L.length:Int))
   rw[B1,hb] at T
   rw[E,hb]
   refine bU (n:=n+4) Tryd.func93 rfl rfl rfl T (bV _ _ (Hm (dL (bo _) h71))) (aj _ _) (ak _ _) ?_
   refine Tr.ae wG (Tr.af (fun _=>Tr.ai ⟨rfl,rfl⟩) (fun q=>by simp[aW] at q))
 · have hb:(mask L).testBit c=false:=by simpa using hb
   have hnm:c ∉ L:=fun h=>by rw[cK hd,decide_eq_true h] at hb;cases hb
   have hd2:(L++[c]).Nodup:=by
    rw[List.nodup_append];exact ⟨hd,by simp,fun x hx y hy he=>by rw[List.mem_singleton] at hy;rw[hy] at he;rw[he] at hx;exact hnm hx⟩
   have hL2:∀ x ∈ L++[c],x<U:=by
    intro x hx;rcases List.mem_append.1 hx with hx | hx
    · exact hL x hx
    · rw[List.mem_singleton] at hx;omega
   have hS2:gm U (nN W (L++[c])) g:=J9 hS (by rw[List.length_append];simp;omega) hL2
   obtain ⟨f,t,h65⟩:=Kr n O U Z V J (nN W (L++[c])) g (⟨false,[(0,.row (shR O U Z V J (nN W (L++[c])) (bI g)))]⟩::aw::xL (L.length:Int)::aw::HJ (shR O U Z V J W (bI g)) (shR O U Z V J (nN W L) (bI g)) b2 b3 (mask L:Int) rest::H) 0 rfl hS2
   have T:=Xl (n+4) O U Z V J W (nN W L) (bI g) H b2 b3 (mask L:Int) (L.length:Int) (c:Int) rest (Ds W (c:Int) (L.length:Int)) (!CZ U g (nN W (L++[c]))) f t
   rw[B1,hb,e1,e2,e3,← F0 hnm] at T
   rw[E,hb]
   refine bU (n:=n+4) Tryd.func93 rfl rfl rfl T (bV _ _ (fq (dL (bo _) h71) (fun x hy=>by rw[← Tr.ab hy];exact h65))) (aj _ _) (ak _ _) ?_
   clear T h65 h71
   have ei:au 23 (c:Int) 1=23+c:=by rw[bN];omega
   have ej:au 3 (c:Int) 2=3+c*2:=by rw[bN];omega
   rw[ei,ej]
   refine Tr.ae wG (Tr.af (fun q=>by simp[aW] at q) (fun _=>Tr.ae wG (Tr.ae wG (Tr.af (fun q=>Tr.ai ⟨?_,rfl⟩) (fun q=>?_)))))
   all_goals rw[aW] at q
   · have q:(!c7 (AB .u64 (bI g c) (mask L:Int)) (ofNat 0))=true:=q
     rw[Bool.not_eq_true'] at q
     rw[q];rfl
   have q:(!c7 (AB .u64 (bI g c) (mask L:Int)) (ofNat 0))=false:=q
   rw[Bool.not_eq_false'] at q
   rw[q]
   refine Tr.an rfl (Tr.af (fun q2=>Tr.ai ⟨?_,rfl⟩) (fun q2=>?_))
   all_goals rw[aW] at q2
   · rw[Bool.not_eq_true'] at q2
     rw[q2];rfl
   rw[Bool.not_eq_false'] at q2
   rw[q2]
   refine Tr.ae wG (Tr.ae wG (Tr.ae wG (Tr.ae wG (Tr.an ⟨rfl,rfl⟩ (Tr.ai ⟨?_,rfl⟩)))))
   rw[aW,Bool.not_not];rfl
theorem Qm (W B:Nat→Int) (St:Nat→aa) (hk:U≤1000) (hr:∀ j,j<U→cd n (.round 1 5) [.int .i64 (j:Int)] (aw::St j)=some (.bool true,aw::St (j+1))) :
 cd (n+1) (.fn 90) [.yld 0 5,.ptrT (some 0) (.G [shV O U Z V J W B]) 0] (St 0)=some (.tup [],St U):=by
 have hx:=jY (n:=n) (f:=90) (nt:=18) (c:=part Tryd.f90 [1,0,0]) 0 (fun j=>lY U (j:Int)) (fun j=>aw::St j) U (lY U (ofNat U)++[(11,.bool false)],aw::St U) wO (fun j hj=>?_) ?_
 · refine bU (n:=n) Tryd.func90 rfl rfl rfl (S2 n O U Z V J W B (St 0) (St U)) (aA _) (bf (aj _ _) Qe (fun x h=>by rw[← Tr.ab h];simp only[eD.st,aP];exact hx)) (ak _ _) ?_
   exact Tr.an ⟨rfl,rfl⟩ (Tr.ai ⟨rfl,rfl⟩)
 · refine aI (SJ n U (j:Int) (St j) (St (j+1))) (BA (aA n) (fun x hy=>by rw[← Tr.ab hy];exact hr j hj)) (aj _ _) (ak _ _) ?_
   rw[fI wO]
   generalize St (j+1)=G' at *
   generalize St j=G at *
   exact wF
 · obtain ⟨x,h1,rfl⟩:=aI (Q:=fun x=>x=(.exit 0,lY U (ofNat U)++[(11,.bool false)],aw::St U)) (SK n U (ofNat U) (St U)) (aA n) (aj _ _) (ak _ _) (by
    refine Tr.af (fun hc=>?_) (fun hc=>Tr.ai rfl);simp (disch:=omega) only[nV,nW] at hc;omega)
   exact h1
end
end Go.Eng
end
section
namespace Go.Eng
open Int (ofNat)
open Go.Proofs Go.Eng.Gall
theorem wb {n d i:Nat} {args:List AV} {H H2 R:aa} {l l2:iy} {fr fr1 fr2:aE} {lv lv1:bK}
 (hg:az H d i=(0,.loop l)) (hl:aK H d=false) (hs:l.state=.ready) (hp:jL l.nt (kN (d+1) l.fr) l.params (args.map (mX 1))=some fr)
 (h1:exec (iQ n l.fn l.nt (d+1) i) l.assign fr (aw::H)=some (.normal,fr1,lv1::H))
 (h2:exec (iQ n l.fn l.nt (d+1) i) l.body fr1 (dB (lv1::H) (d+1) i (0,.loop { l with state:=.busy }))=some (.normal,fr2,lv::H2)) (hg2:az H2 d i=(0,.loop l2)) (hR:R=dB H2 d i (0,.loop { l2 with state:=.ready,pending:=none })) :
 cd (n+1) (.round d i) args H=some (.bool true,R):=by
 rw[hR]
 exact zn (P:=Tryd.prog) (ora:=ia) (KT:=KtG.kt) (fu:=100000) (e:=.normal) hg hl hs hp h1 (by rw[show az (lv1::H) (d+1) i=az H d i from rfl];exact hg) hs h2 hg2
noncomputable def vM:Code:=part Tryd.f74 [1,1,1,1,1,0,1,0,0]
noncomputable def CL:Code:=part Tryd.f74 [1,1,1,1,1,0,1,0,1]
theorem WL:dK (a7 Tryd.f74)=[(.tmp 19,#[20],vM,CL)]:=by kernel_rfl
noncomputable def eW (R:Row):iy:={ state:=.ready,pending:=none,fn:=74,nt:=43,fr:=D2 R,params:=[20],assign:=vM,body:=CL }
def kD (L:List Nat):List Int:=L.map fun x:Nat=>(x:Int)
noncomputable def P0 (R:Row) (X:List Nat→Row) (a b:AV) (K:Nat×ao):List Nat→bK
 | []=>Mh R (X []) a b (ofNat 0) K
 | c::r=>HI R (X (c::r)) a b (mask (c::r):Int) K r.length (r.length+1) (ar (kD (c::r)))
section
variable (n:Nat) (O:Int) (U:Nat) (Z:Nat→Int) (V:Nat) (J:Nat→Int) (W:Nat→Int) (g:Nat→Nat) (H:aa)
noncomputable def AE (L:List Nat):Row:=shR O U Z V J (nN W L) (bI g)
theorem Jb {L:List Nat} (hd:L.Nodup) (hm:mask L<2 ^ 62) {c:Nat} (hc:c<62) (hno:c ∉ L):r8 .u64 (mask L:Int) (ep .u64 (ofNat 1) (c:Int))=(mask (L++[c]):Int):=by
 rw[mK];exact Q.AL hm hc (by rw[cK hd];exact decide_eq_false hno)
theorem Sp (hS:gm U W g) (hW:∀ c,c<U→0≤W (2*c)∧W (2*c+1)<U) (a b:AV) {k:Nat} (hk:k<U) (hB:Nu U g W k (iR U g W k)) :
 cd (n+7) (.round 1 5) [.int .i64 (k:Int)] (aw::P0 (shR O U Z V J W (bI g)) (AE O U Z V J W g) a b (0,.loop (eW (shR O U Z V J W (bI g)))) (iR U g W k)::H)=some (.bool true,aw::P0 (shR O U Z V J W (bI g)) (AE O U Z V J W g) a b (0,.loop (eW (shR O U Z V J W (bI g)))) (iR U g W (k+1))::H):=by
 obtain ⟨hx,hf,hgo,hB1⟩:=Cw hS hW hB hk
 have e:iR U g W (k+1)=iR U g W k++[fN (rN U g W (iR U g W k)) U 0]:=by
  show iR U g W k++[if dH (rN U g W (iR U g W k)) U=true then fN (rN U g W (iR U g W k)) U 0 else 0]=_;rw[if_pos hx]
 have hlc:=hS.len
 have h92:∀ (b2 b3:Nat×ao) (rest:List (Nat×ao)),cd (n+6) (.fn 92) [slA 4 U Z,DZ 0] (xL (k:Int)::aw::HJ (shR O U Z V J W (bI g)) (AE O U Z V J W g (iR U g W k)) b2 b3 (mask (iR U g W k):Int) rest::H)=some (.int .i64 (fN (rN U g W (iR U g W k)) U 0:Nat),xL (k:Int)::aw::HJ (shR O U Z V J W (bI g)) (AE O U Z V J W g (iR U g W k)) b2 b3 (mask (iR U g W k):Int) rest::H):=fun b2 b3 rest=>by
  have:=UJ (n+5) U Z (xL (k:Int)::aw::HJ (shR O U Z V J W (bI g)) (AE O U Z V J W g (iR U g W k)) b2 b3 (mask (iR U g W k):Int) rest::H) (rN U g W (iR U g W k)) wO (fun j hj=>by
   have:=UK n O U Z V J W g H hS (iR U g W k) hB.nd hB.lt (by rw[hB.len];exact hk) b2 b3 rest j hj;rw[hB.len] at this;exact this)
  rw[if_pos hx] at this;exact this
 rw[e] at hB1 ⊢
 generalize fN (rN U g W (iR U g W k)) U 0=c at *
 have hlen:=hB.len
 generalize iR U g W k=L at *
 have hnm:c ∉ L:=fun h=>by
  have:=hB1.nd;rw[List.nodup_append] at this;exact this.2.2 c h c (by simp) rfl
 have hm62:mask L<2 ^ 62:=Nat.lt_of_lt_of_le (ni hB.nd hB.lt) (Nat.pow_le_pow_right wO wO)
 have eo:=Jb hB.nd hm62 (show c<62 by omega) hnm
 have ex:=F0 (W:=W) hnm
 have e2:dx (au 3 (c:Int) 2) 3=2*c:=by rw[bN,dq];omega
 have e3:dx (ah (au 3 (c:Int) 2) 1) 3=2*c+1:=by rw[bN,aF,dq];omega
 have ej:au 3 (c:Int) 2=3+c*2:=by rw[bN];omega
 have e1:=ng (kD L) (c:Int)
 cases L with
 | nil =>
   obtain rfl:k=0:=hlen.symm
   have ex':cu (cu (nN W []) (2*c) (ofNat 0)) (2*c+1) (ofNat 0)=nN W [c]:=ex.symm
   have eo':r8 .u64 (ofNat 0) (ep .u64 (ofNat 1) (c:Int))=(mask [c]:Int):=eo
   have h1:exec (iQ (n+6) 74 43 2 5) vM [(1,.ptr 2 0 0 0),(3,.ptr 2 1 0 0),(6,.ptr 2 3 0 0),(7,.ptr 2 4 0 0),(19,Nf 2 (shR O U Z V J W (bI g))),(20,.int .i64 (ofNat 0))] (aw::aw::Mh (shR O U Z V J W (bI g)) (AE O U Z V J W g []) a b (ofNat 0) (0,.loop (eW (shR O U Z V J W (bI g))))::H)=some (.normal,[(1,.ptr 2 0 0 0),(3,.ptr 2 1 0 0),(6,.ptr 2 3 0 0),(7,.ptr 2 4 0 0),(8,.ptr 0 0 0 0)],xL (ofNat 0)::aw::Mh (shR O U Z V J W (bI g)) (AE O U Z V J W g []) a b (ofNat 0) (0,.loop (eW (shR O U Z V J W (bI g))))::H) :=
    ja (Px (n+6) _ _ H (ofNat 0)) (aA _) (aj _ _) (ak _ _) (Tr.ai rfl)
   have T:=SB (n+6) O U Z V J W (nN W []) (bI g) H a b (ofNat 0) (ofNat 0) (c:Int) (0,.loop { eW (shR O U Z V J W (bI g)) with state:=.busy })
   rw[e2,e3,ex',eo',ej] at T
   obtain ⟨y,h2,h3⟩:=oc (Q:=fun y=>y=(.normal,[],⟨false,[(0,.row (.I .i64 [ofNat 0])),(0,.row (.I .i64 [(c:Int)])),(0,.dead)]⟩::aw::HI (shR O U Z V J W (bI g)) (AE O U Z V J W g [c]) a b (mask [c]:Int) (0,.loop { eW (shR O U Z V J W (bI g)) with state:=.busy }) 0 1 (ar [(c:Int)])::H)) T (bV _ _ (fq (bo _) (fun x hy=>by rw[← Tr.ab hy];exact h92 (0,.row (.G [a,b,.undef])) (0,.row (.G [.nils])) [(0,.loop { eW (shR O U Z V J W (bI g)) with state:=.busy })]))) (aj _ _) (ak _ _) (by
    clear T h92 h1;generalize eW (shR O U Z V J W (bI g))=L at *;exact wF)
   subst h3
   exact wb (l:=eW (shR O U Z V J W (bI g))) (l2:={ eW (shR O U Z V J W (bI g)) with state:=.busy }) rfl rfl rfl rfl h1 h2 rfl rfl
 | cons x r =>
   have hk':(x::r).length=k:=hlen
   have hrl:r.length+1=k:=hlen
   rw[hk'] at ex
   have ex':=ex.symm
   have e1':bJ (iO (ar (kD (x::r))) 0) (r.length+1) (ar [(c:Int)])=ar (kD (x::r++[c])):=by
    have:(kD (x::r)).length=r.length+1:=by simp[kD]
    rw[this] at e1;rw[e1];simp[kD]
   have h1:exec (iQ (n+6) 74 43 2 5) vM [(1,.ptr 2 0 0 0),(3,.ptr 2 1 0 0),(6,.ptr 2 3 0 0),(7,.ptr 2 4 0 0),(19,Nf 2 (shR O U Z V J W (bI g))),(20,.int .i64 (k:Int))] (aw::aw::HI (shR O U Z V J W (bI g)) (AE O U Z V J W g (x::r)) a b (mask (x::r):Int) (0,.loop (eW (shR O U Z V J W (bI g)))) r.length (r.length+1) (ar (kD (x::r)))::H)=some (.normal,[(1,.ptr 2 0 0 0),(3,.ptr 2 1 0 0),(6,.ptr 2 3 0 0),(7,.ptr 2 4 0 0),(8,.ptr 0 0 0 0)],xL (k:Int)::aw::HI (shR O U Z V J W (bI g)) (AE O U Z V J W g (x::r)) a b (mask (x::r):Int) (0,.loop (eW (shR O U Z V J W (bI g)))) r.length (r.length+1) (ar (kD (x::r)))::H) :=
    ja (Px (n+6) _ _ H (k:Int)) (aA _) (aj _ _) (ak _ _) (Tr.ai rfl)
   have T:=SC (n+6) O U Z V J W (nN W (x::r)) (bI g) H a b (mask (x::r):Int) (k:Int) (c:Int) (0,.loop { eW (shR O U Z V J W (bI g)) with state:=.busy }) r.length (r.length+1) (ar (kD (x::r)))
   have e5:ah (r.length+1) 1=r.length+1+1:=by rw[aF]
   rw[e2,e3,ex',eo,e1',e5,ej] at T
   obtain ⟨y,h2,h3⟩:=oc (Q:=fun y=>y=(.normal,[],⟨false,[(0,.row (.I .i64 [(k:Int)])),(0,.row (.I .i64 [(c:Int)]))]⟩::aw::HI (shR O U Z V J W (bI g)) (AE O U Z V J W g (x::r++[c])) a b (mask (x::r++[c]):Int) (0,.loop { eW (shR O U Z V J W (bI g)) with state:=.busy }) (r.length+1) (r.length+1+1) (ar (kD (x::r++[c])))::H)) T (bV _ _ (fq (bo _) (fun y hy=>by rw[← Tr.ab hy];exact h92 (0,.row (.G [a,b,.undef])) (0,.row (.G [.slc 0 6 r.length 0 1 (r.length+1) none])) [(0,.loop { eW (shR O U Z V J W (bI g)) with state:=.busy }),(r.length,.row (.M [.arr .i64 (ar (kD (x::r))) (r.length+1)]))]))) (aj _ _) (ak _ _) (by
    clear T h92 h1;have hkl:r.length≤20:=by omega
    generalize eW (shR O U Z V J W (bI g))=L at *;generalize ar (kD (x::r++[c]))=Y at *;exact wF)
   subst h3
   have e4:(r++[c]).length=r.length+1:=by simp
   refine wb (l:=eW (shR O U Z V J W (bI g))) (l2:={ eW (shR O U Z V J W (bI g)) with state:=.busy }) rfl rfl rfl rfl h1 h2 rfl ?_
   show aw::HI _ _ _ _ _ _ (r++[c]).length ((r++[c]).length+1) (ar (kD (x::(r++[c]))))::H=_
   rw[e4];rfl
theorem Xq (hS:gm U W g) (hW:∀ c,c<U→0≤W (2*c)∧W (2*c+1)<U) (h0:CZ U g W=true) (a b:AV):exec (bP (n+8) 74 43) (.rangeFunc (.tmp 19) #[20] vM CL) (D2 (shR O U Z V J W (bI g))) (⟨false,Fo (shR O U Z V J W (bI g)) (shR O U Z V J W (bI g)) a b .nils (ofNat 0)⟩::H)=some (.normal,D2 (shR O U Z V J W (bI g)),dN (P0 (shR O U Z V J W (bI g)) (AE O U Z V J W g) a b (0,.loop (eW (shR O U Z V J W (bI g)))) (iR U g W U)::H) 0 5):=by
 have e0:AE O U Z V J W g []=shR O U Z V J W (bI g):=by unfold AE;rw[F1]
 have h:=Qm (n+7) O U Z V J W (bI g) (fun k=>P0 (shR O U Z V J W (bI g)) (AE O U Z V J W g) a b (0,.loop (eW (shR O U Z V J W (bI g)))) (iR U g W k)::H) (by have:=hS.len;omega) (fun j hj=>Sp n O U Z V J W g H hS hW a b hj (sM hS hW h0 j wO));have h':cd (n+8) (.fn 90) [.yld 0 5,.ptrT (some 0) (.G [shV O U Z V J W (bI g)]) 0] (Mh (shR O U Z V J W (bI g)) (AE O U Z V J W g []) a b (ofNat 0) (0,.loop (eW (shR O U Z V J W (bI g))))::H)=_:=h;rw[e0] at h';refine ub (cx:=bP (n+8) 74 43) (l:=eW (shR O U Z V J W (bI g))) (f:=.tmp 19) (ps:=#[20]) (fr:=D2 (shR O U Z V J W (bI g))) (H:=⟨false,Fo (shR O U Z V J W (bI g)) (shR O U Z V J W (bI g)) a b .nils (ofNat 0)⟩::H) (g:=90) (a:=[]) (b:=[.ptrT (some 0) (.G [shV O U Z V J W (bI g)]) 0]) rfl rfl rfl h' ?_ rfl rfl;cases iR U g W U with
 | nil=>rfl
 | cons x r=>rfl
theorem Sj {c:Nat} {fr:aE} {G:aa} {Y:eD} (hx:exec (bP c 74 43) (.rangeFunc (.tmp 19) #[20] vM CL) fr G=some Y.st):(HN aR (fun _=>true) fr G (.ok Y)).Ok (bP c 74 43) (a7 Tryd.f74) :=
 BC (ak _ _) (fun f ps a b _ hm x hx2=>by
  rw[WL] at hm;simp only[List.mem_cons,Prod.mk.injEq,List.not_mem_nil,or_false] at hm;obtain ⟨rfl,rfl,rfl,rfl⟩:=hm;rw[← Tr.ab hx2];exact hx)
theorem UA (hS:gm U W g) (hW:∀ c,c<U→0≤W (2*c)∧W (2*c+1)<U) (hl:1≤U):cd (n+9) (.fn 74) [shV O U Z V J W (bI g)] H=some (if CZ U g W=true then bk U (ar (kD (iR U g W U))) false else .nils,H):=by
 obtain ⟨f,t,h65⟩:=Kr (n+4) O U Z V J W g (⟨false,[(0,.row (.G [shV O U Z V J W (bI g)])),(0,.row (shR O U Z V J W (bI g)))]⟩::H) 1 rfl hS;have h70:∀ H,cd (n+8) (.fn 70) [shV O U Z V J W (bI g)] H=some (Nf 0 (shR O U Z V J W (bI g)),H):=fun H=>by
  refine bU (n:=n+7) Tryd.func70 rfl rfl rfl (Ud (n+7) O U Z V J W (bI g) H) (aA _) (aj _ _) (ak _ _) ?_;exact Tr.ai ⟨rfl,rfl⟩
 by_cases h0:CZ U g W=true
 · rw[if_pos h0];rw[h0] at h65;have hlen:=(sM hS hW h0 U (Nat.le_refl _)).len;have hx:=Xq n O U Z V J W g H hS hW h0 (.int .i64 f) (.int .i64 t);cases hL:iR U g W U with
   | nil=>rw[hL] at hlen;simp at hlen;omega
   | cons x r =>
     rw[hL] at hx hlen;have hr:r.length+1=U:=by simpa using hlen
     have T:=Xa (n+8) O U Z V J W (nN W (x::r)) (bI g) H f t (mask (x::r):Int) r.length (r.length+1) (ar (kD (x::r)));rw[fj] at T;refine bU (n:=n+8) Tryd.func74 rfl rfl rfl T (bV _ _ (fq (dL (bo _) h70) (fun y hy=>by rw[← Tr.ab hy];exact h65))) (aj _ _) (Sj (by simp only[eD.st,aP];exact hx)) ?_;clear T hx h65 h70;rw[← hr];refine Tr.an ⟨rfl,rfl⟩ (Tr.af (fun q=>by cases q) (fun _=>Tr.an rfl (Tr.an ⟨rfl,rfl⟩ ?_)));exact wF
 · rw[if_neg h0];have h0:CZ U g W=false:=by simpa using h0
   rw[h0] at h65;refine bU (n:=n+8) Tryd.func74 rfl rfl rfl (S0 (n+8) O U Z V J W (bI g) H f t) (bV _ _ (fq (dL (bo _) h70) (fun y hy=>by rw[← Tr.ab hy];exact h65))) (aj _ _) (ak _ _) ?_;exact Tr.an ⟨rfl,rfl⟩ (Tr.af (fun _=>Tr.ai ⟨rfl,rfl⟩) (fun q=>by cases q))
end
end Go.Eng
end
