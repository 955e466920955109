/- Gall: the first right order, colour by colour (plain law). -/
import Derived.Test.YtgphpjdchnfjlaaDoorV5Gbex12
set_option linter.unusedVariables false
set_option linter.unusedSimpArgs false
set_option maxRecDepth 100000
section
namespace Go.Eng
open Go.Proofs Go.Eng.Gall Go.Eng.Q
def nM (W:Nat→Int) (L:List Nat) (i:Nat):Int:=if i / 2 ∈ L then (L.idxOf (i / 2):Int) else W i
theorem Gt (W:Nat→Int):nM W []=W:=by funext i;unfold nM;rw[if_neg (by simp)]
theorem I5 {L:List Nat} {c x:Nat} (hc:c ∉ L):(L++[c]).idxOf x=if x ∈ L then L.idxOf x else if x=c then L.length else L.length+1:=by
 rw[List.idxOf_append];split
 · rfl
 · by_cases e:x=c
   · subst e;rw[if_pos rfl,List.idxOf_cons_self,Nat.zero_add]
   · rw[if_neg e,List.idxOf_cons,List.idxOf_nil];have:(c == x)=false:=by simpa using fun h=>e h.symm
     rw[this];simp;omega
theorem Gs {W:Nat→Int} {L:List Nat} {c:Nat} (hc:c ∉ L):nM W (L++[c])=dh (dh (nM W L) (2*c) (L.length:Int)) (2*c+1) (L.length:Int):=by
 rw[hJ,hJ];funext i;dsimp only;unfold nM;rw[I5 hc];by_cases e:i / 2=c
 · rw[if_pos (by rw[e];simp),if_neg (by rw[e];exact hc),if_pos e];by_cases e1:i=2*c+1
   · rw[if_pos e1]
   · rw[if_neg e1,if_pos wO]
 · have e1:i≠2*c+1:=by omega
   have e2:i≠2*c:=by omega
   rw[if_neg e1,if_neg e2];by_cases h:i / 2 ∈ L
   · rw[if_pos (by simp[h]),if_pos h,if_pos h]
   · rw[if_neg (by simp[h,e]),if_neg h]
section
variable {n:Nat} {g:Nat→Nat} {W:Nat→Int}
def N3 (W:Nat→Int) (L:List Nat):Prop:=∀ i (h:i<L.length),W (2*L[i])≤(i:Int)∧(i:Int)≤W (2*L[i]+1)
theorem Ky (hS:eN n W g) {L:List Nat} (hl:L.length≤10) (hL:∀ x ∈ L,x<n):eN n (nM W L) g:=by
 refine ⟨hS.len,fun j=>?_,fun j hj=>?_,hS.bef,hS.off,hS.nob⟩
 · unfold nM;split
   · have:=@List.idxOf_le_length _ _ _ L (j / 2);omega
   · exact hS.win j
 · unfold nM;rw[if_neg (fun h=>by have:=hL _ h;have:=hS.len;omega)];exact hS.zer j hj
theorem OS (hW:∀ c,c<n→0≤W (2*c)∧W (2*c+1)<n) {L:List Nat} (hl:L.length≤n) (c:Nat) (hc:c<n):0≤nM W L (2*c)∧nM W L (2*c+1)<n:=by
 unfold nM;rw[show 2*c / 2=c by omega,show (2*c+1) / 2=c by omega];split
 · rename_i h;have:=List.idxOf_lt_length_iff.2 h;omega
 · exact hW c hc
theorem Kx (hn:n≤10) (hg:∀ c,c<n→g c<2 ^ n) {L:List Nat} (hd:L.Nodup) (hL:∀ x ∈ L,x<n) (hs:N3 W L) (R:List Nat):R ∈ ro n (okW (nM W L) (bI g)) n↔R ∈ ro n (okW W (bI g)) n∧R.take L.length=L:=by
 rw[fw hn hg,fw hn hg];have hw:∀ c b,b<2→nM W L (2*c+b)=if c ∈ L then (L.idxOf c:Int) else W (2*c+b):=fun c b hb=>by
  unfold nM;rw[show (2*c+b) / 2=c by omega]
 constructor
 · rintro ⟨h1,h2,h3,h4⟩;refine ⟨⟨h1,h2,h3,fun i hi=>⟨(h4 i hi).1,?_⟩⟩,?_⟩
   · have h5:=(h4 i hi).2;have e0:=hw R[i] 0 wO;rw[Nat.add_zero] at e0;rw[e0,hw R[i] 1 wO] at h5;by_cases hm:R[i] ∈ L
     · rw[if_pos hm,if_pos hm] at h5;obtain ⟨hj,he⟩:=gz hm;have:=hs _ hj;rw[he] at this;have e:L.idxOf R[i]=i:=by omega
       rw[e] at this;exact this
     · rw[if_neg hm,if_neg hm] at h5;exact h5
   · have hle:L.length≤R.length:=by rw[h1];have:=eT hd (M:=List.range n) (fun x hx=>List.mem_range.2 (hL x hx));rwa [List.length_range] at this
     refine List.ext_getElem (by rw[List.length_take];omega) (fun j a1 a2=>?_);rw[List.getElem_take];have hR:L[j] ∈ R:=gb h2 h1 h3 (hL _ (List.getElem_mem a2));obtain ⟨hi,he⟩:=gz hR;have h5:=(h4 _ hi).2;rw[he] at h5;have e0:=hw L[j] 0 wO;rw[Nat.add_zero] at e0;rw[e0,hw L[j] 1 wO,if_pos (List.getElem_mem a2),if_pos (List.getElem_mem a2),tc hd a2] at h5;have e:R.idxOf L[j]=j:=by omega
     rw[← he];congr 1;exact e.symm
 · rintro ⟨⟨h1,h2,h3,h4⟩,h5⟩;refine ⟨h1,h2,h3,fun i hi=>⟨(h4 i hi).1,?_⟩⟩;have e0:=hw R[i] 0 wO;rw[Nat.add_zero] at e0;rw[e0,hw R[i] 1 wO];by_cases hm:R[i] ∈ L
   · rw[if_pos hm,if_pos hm];obtain ⟨hj,he⟩:=gz hm;have hjR:L.idxOf R[i]<R.length:=by
      have:=congrArg List.length h5;rw[List.length_take] at this;omega
     have e1:R[L.idxOf R[i]]=L[L.idxOf R[i]]:=by
      have:(R.take L.length)[L.idxOf R[i]]'(by rw[h5];exact hj)=L[L.idxOf R[i]]:=by simp only[h5]
      rw[List.getElem_take] at this;exact this
     have e2:L.idxOf R[i]=i:=by
      have e3:R[L.idxOf R[i]]=R[i]:=by rw[e1,he]
      rw[← tc h2 hjR,e3,tc h2 hi]
     omega
   · rw[if_neg hm,if_neg hm];exact (h4 i hi).2
variable (n g W)
noncomputable def vt (W:Nat→Int):Bool:=(kS (qB (eU n g W)) n n).isNone
noncomputable def rS (L:List Nat) (c:Nat):Bool:=!(mask L).testBit c && okW W (bI g) L.length (mask L) c && vt n g (nM W (L++[c]))
noncomputable def iY:Nat→List Nat
 | 0=>[]
 | k+1=>iY k++[if dk (rS n g W (iY k)) n=true then fN (rS n g W (iY k)) n 0 else 0]
variable {n g W}
theorem xy (hS:eN n W g) (hW:∀ c,c<n→0≤W (2*c)∧W (2*c+1)<n) {L:List Nat} (hd:L.Nodup) (hL:∀ x ∈ L,x<n) (hs:N3 W L):vt n g (nM W L)=true↔∃ R ∈ ro n (okW W (bI g)) n,R.take L.length=L:=by
 have hle:L.length≤n:=by have:=eT hd (M:=List.range n) (fun x hx=>List.mem_range.2 (hL x hx));rwa [List.length_range] at this
 unfold vt;rw[Option.isNone_iff_eq_none,wM (Ky hS (by have:=hS.len;omega) hL) (OS hW hle)];constructor
 · rintro ⟨R,hR⟩;exact ⟨R,(Kx hS.len hS.bef hd hL hs R).1 hR⟩
 · rintro ⟨R,hR⟩;exact ⟨R,(Kx hS.len hS.bef hd hL hs R).2 hR⟩
theorem HQ {L:List Nat} {c:Nat} (h:N3 W L) (hc:W (2*c)≤(L.length:Int)∧(L.length:Int)≤W (2*c+1)):N3 W (L++[c]):=fun i hi=>by
 by_cases e:i<L.length
 · rw[List.getElem_append_left e];exact h i e
 · have:i=L.length:=by rw[List.length_append,List.length_singleton] at hi;omega
   subst this;rw[List.getElem_append_right (Nat.le_refl _)];simp only[Nat.sub_self,List.getElem_cons_zero];exact hc
structure N2 (n:Nat) (g:Nat→Nat) (W:Nat→Int) (k:Nat) (L:List Nat):Prop where
 len:L.length=k
 nd:L.Nodup
 lt:∀ x ∈ L,x<n
 su:N3 W L
 ex:∃ R ∈ ro n (okW W (bI g)) n,R.take k=L
theorem KL {n k:Nat} {g:Nat→Nat} {W:Nat→Int} {X c:Nat} (h:okW W (bI g) k X c=true):W (2*c)≤(k:Int)∧(k:Int)≤W (2*c+1):=by
 unfold okW at h;rw[Bool.and_eq_true,Bool.and_eq_true,bk,bk,decide_eq_true_iff,decide_eq_true_iff] at h;exact h.2
theorem OU (hS:eN n W g) (hW:∀ c,c<n→0≤W (2*c)∧W (2*c+1)<n) {k:Nat} {L:List Nat} (hB:N2 n g W k L) {R:List Nat} (hR:R ∈ ro n (okW W (bI g)) n) (ht:R.take k=L) (hk:k<R.length):rS n g W L R[k]=true:=by
 obtain ⟨h1,h2,h3⟩:=j9 hR;have h4:=(uk.1 hR).2 k hk;rw[ht] at h4;have hnm:R[k] ∉ L:=fun h=>by
  have:=h4.2.1;rw[cV hB.nd,decide_eq_true h] at this;cases this
 have ho:okW W (bI g) L.length (mask L) R[k]=true:=by rw[hB.len];exact h4.2.2
 unfold rS;rw[h4.2.1,ho,Bool.not_false,Bool.true_and,Bool.true_and];have hs:=KL (n:=n) ho;refine (xy hS hW ?_ ?_ (HQ hB.su hs)).2 ⟨R,hR,?_⟩
 · rw[List.nodup_append];exact ⟨hB.nd,by simp,fun x hx y hy he=>by rw[List.mem_singleton] at hy;rw[hy] at he;rw[he] at hx;exact hnm hx⟩
 · intro x hx;rcases List.mem_append.1 hx with hx | hx
   · exact hB.lt x hx
   · rw[List.mem_singleton] at hx;subst hx;exact h4.1
 · rw[List.length_append,List.length_singleton,hB.len,List.take_add_one,ht];simp[hk]
theorem CX (hS:eN n W g) (hW:∀ c,c<n→0≤W (2*c)∧W (2*c+1)<n) {k:Nat} (hB:N2 n g W k (iY n g W k)) (hk:k<n):dk (rS n g W (iY n g W k)) n=true∧fN (rS n g W (iY n g W k)) n 0<n∧rS n g W (iY n g W k) (fN (rS n g W (iY n g W k)) n 0)=true∧N2 n g W (k+1) (iY n g W (k+1)):=by
 obtain ⟨R,hR,ht⟩:=hB.ex;obtain ⟨h1,h2,h3⟩:=j9 hR;have hx:dk (rS n g W (iY n g W k)) n=true:=(cQ _ _).2 ⟨R[k]'wO,(h3 _ (List.getElem_mem _)),OU hS hW hB hR ht wO⟩;have hf:=pd hx;have hgo:=(rR (rS n g W (iY n g W k)) n 0).2.2.2 wO;refine ⟨hx,hf,hgo,?_⟩;have e:iY n g W (k+1)=iY n g W k++[fN (rS n g W (iY n g W k)) n 0]:=by
  show iY n g W k++[if dk (rS n g W (iY n g W k)) n=true then fN (rS n g W (iY n g W k)) n 0 else 0]=_;rw[if_pos hx]
 rw[e];generalize fN (rS n g W (iY n g W k)) n 0=c at *;generalize iY n g W k=L at *;unfold rS at hgo;rw[Bool.and_eq_true,Bool.and_eq_true,Bool.not_eq_true'] at hgo;obtain ⟨⟨g1,g2⟩,g3⟩:=hgo;have hnm:c ∉ L:=fun h=>by rw[cV hB.nd,decide_eq_true h] at g1;cases g1
 have hd:(L++[c]).Nodup:=by
  rw[List.nodup_append];exact ⟨hB.nd,by simp,fun x hx y hy he=>by rw[List.mem_singleton] at hy;rw[hy] at he;rw[he] at hx;exact hnm hx⟩
 have hlt:∀ x ∈ L++[c],x<n:=by
  intro x hx;rcases List.mem_append.1 hx with hx | hx
  · exact hB.lt x hx
  · rw[List.mem_singleton] at hx;subst hx;exact hf
 have hs:=HQ hB.su (KL (n:=n) g2);refine ⟨by rw[List.length_append,hB.len];rfl,hd,hlt,hs,?_⟩;have:=(xy hS hW hd hlt hs).1 g3;rwa [List.length_append,hB.len] at this
theorem sQ (hS:eN n W g) (hW:∀ c,c<n→0≤W (2*c)∧W (2*c+1)<n) (h:vt n g W=true):∀ k,k≤n→N2 n g W k (iY n g W k)
 | 0,_=>by
   have:=(xy hS hW (L:=[]) List.nodup_nil (by simp) (fun i hi=>by cases hi)).1 (by rw[Gt];exact h);exact ⟨rfl,List.nodup_nil,by simp[iY],(fun i hi=>by cases hi),this⟩
 | k+1,hk=>(CX hS hW (sQ hS hW h k wO) wO).2.2.2
theorem Gl (hS:eN n W g) (hW:∀ c,c<n→0≤W (2*c)∧W (2*c+1)<n) (h:vt n g W=true):iY n g W n ∈ ro n (okW W (bI g)) n:=by
 obtain ⟨R,hR,ht⟩:=(sQ hS hW h n (Nat.le_refl n)).ex;rw[← ht,List.take_of_length_le (by rw[(j9 hR).1];omega)];exact hR
end
end Go.Eng
end
section
namespace Go.Eng
open Int (ofNat)
open Go.Proofs Go.Eng.Gall
noncomputable def Em (d:Nat):AV:=.fn (.func 93) [] [.ptr (d+2) 4 0 0,.ptr (d+2) 0 0 0,.ptr d 0 0 0,.ptr (d+2) 1 0 0]
noncomputable def Bw (U:Nat) (j:Int):aD:=[(1,Em 1),(7,.int .i64 (ofNat U)),(8,.int .i64 j)]
noncomputable def Cn (s:Nat) (R:Row):AV:=.fn (.func 90) [] [.ptrT (some s) (.G [.ptrT none R 0]) 0]
noncomputable def lZ (U:Nat) (j:Int):aD:=[(0,.yld 1 5),(9,.int .i64 (ofNat U)),(10,.int .i64 j)]
noncomputable def Er (R:Row):aD:=[(1,.ptr 0 0 0 0),(3,.ptr 0 1 0 0),(6,.ptr 0 3 0 0),(7,.ptr 0 4 0 0),(19,Cn 0 R)]
noncomputable def FQ (R X:Row) (a b:AV) (A:AV) (l:Int):List (Nat×al):=[(0,.row (.G [.ptrT none R 0])),(0,.row X),(0,.row (.G [a,b,.undef])),(0,.row (.G [A])),(0,.row (.I .u64 [l]))]
noncomputable def MF (R X:Row) (a b:AV) (l:Int) (k:Nat×al):bC:=⟨false,FQ R X a b .nils l++[k]⟩
noncomputable def Ie (R X:Row) (a b:AV) (l:Int) (k:Nat×al) (v m:Nat) (y:Nat→Int):bC:=⟨false,FQ R X a b (.slc 0 6 v 0 1 m none) l++[k,(v,.row (.M [.arr .i64 y m]))]⟩
noncomputable def x8 (k:Int):bC:=⟨false,[(0,.row (.I .i64 [k]))]⟩
noncomputable def Ig (R X:Row) (b2 b3:Nat×al) (l:Int) (rest:List (Nat×al)):bC:=⟨false,(0,.row (.G [.ptrT none R 0]))::(0,.row X)::b2::b3::(0,.row (.I .u64 [l]))::rest⟩
theorem t92 (n:Nat) (U:Nat) (H:aa) (j:Int) (q:Bool):aF (bJ n 92 16) (il (kX aC 93 [.int .i64 j,.ptr 3 4 0 0,.ptr 3 0 0 0,.ptr 1 0 0 0,.ptr 3 1 0 0] (ao::H) (.ok (.bool q,ao::H))) n 0) aK aJ (part Tryd.f92 [1,0,1,0,0]) (hints (Bw U j)) (ao::H) =
 Tr.ite (bF j (ofNat U)) (Tr.reqP ([AV.int .i64 j,AV.ptr 3 4 0 0,AV.ptr 3 0 0 0,AV.ptr 1 0 0 0,AV.ptr 3 1 0 0]=[AV.int .i64 j,AV.ptr 3 4 0 0,AV.ptr 3 0 0 0,AV.ptr 1 0 0 0,AV.ptr 3 1 0 0]∧ao::H=ao::H) (Tr.ite q (Tr.ok (Ex.ret,[(4,AV.int .i64 j,none)],ao::H)) (Tr.ok (Ex.normal,[(1,AV.fn (Fn.func 93) [] [AV.ptr 3 4 0 0,AV.ptr 3 0 0 0,AV.ptr 1 0 0 0,AV.ptr 3 1 0 0],none),(7,iI U,none),(8,AV.int .i64 (bj .i64 j (ofNat 1)),none)],ao::H)))) (Tr.ok (Ex.exit 0,[(1,AV.fn (Fn.func 93) [] [AV.ptr 3 4 0 0,AV.ptr 3 0 0 0,AV.ptr 1 0 0 0,AV.ptr 3 1 0 0],none),(7,iI U,none),(8,AV.int .i64 j,none),(9,AV.bool false,some 1)],ao::H)):=by kernel_rfl
theorem TS (n:Nat) (U:Nat) (H:aa) (j:Int):aF (bJ n 92 16) (il aC n 0) aK aJ (part Tryd.f92 [1,0,1,0,0]) (hints (Bw U j)) (ao::H) =
 Tr.ite (bF j (ofNat U)) Tr.bad (Tr.ok (Ex.exit 0,[(1,AV.fn (Fn.func 93) [] [AV.ptr 3 4 0 0,AV.ptr 3 0 0 0,AV.ptr 1 0 0 0,AV.ptr 3 1 0 0],none),(7,iI U,none),(8,AV.int .i64 j,none),(9,AV.bool false,some 1)],ao::H)):=by kernel_rfl
theorem YY (n:Nat) (U:Nat) (Z:Nat→Int) (H:aa) (q:Bool) (k:Int):aZ Tryd.prog (cd n) 100000 92 Tryd.f92 (KtG.kt 92) (il aC n 0) (cE aK 0 (Bw U (ofNat 0)) (ao::H) (.ite q (.ok (.ret,[(4,.int .i64 k,none)],ao::H)) (.ok (.normal,hints (Bw U (ofNat U)++[(9,.bool false)]),ao::H)))) aJ [(slA 4 U Z,none),(Em 0,none)] H =
 (fun (Z0:aD)=>Tr.reqP (Z0=Z0∧ao::H=ao::H) (Tr.ite q (Tr.ok ((AV.int .i64 k,none),H)) (Tr.ok ((iI 0,some 1),H)))) [(1,AV.fn (Fn.func 93) [] [AV.ptr 3 4 0 0,AV.ptr 3 0 0 0,AV.ptr 1 0 0 0,AV.ptr 3 1 0 0]),(7,iI U),(8,iI 0)]:=by kernel_rfl
theorem TO (n:Nat) (U:Nat) (j:Int) (G G':aa):aF (bJ n 90 18) (NY (il aC n 0) 1 5 [.int .i64 j] (ao::G) (.ok (.bool true,ao::G'))) aK aJ (part Tryd.f90 [1,0,0]) (hints (lZ U j)) (ao::G) =
 Tr.ite (bF j (ofNat U)) (Tr.reqP ([AV.int .i64 j]=[AV.int .i64 j]∧ao::G=ao::G) (Tr.ite (bf true) (Tr.ok (Ex.ret,[(0,AV.yld 1 5,none),(9,iI U,none),(10,AV.int .i64 j,none),(16,AV.bool true,some 1)],ao::G')) (Tr.ok (Ex.normal,[(0,AV.yld 1 5,none),(9,iI U,none),(10,AV.int .i64 (bj .i64 j (ofNat 1)),none)],ao::G')))) (Tr.ok (Ex.exit 0,[(0,AV.yld 1 5,none),(9,iI U,none),(10,AV.int .i64 j,none),(11,AV.bool false,some 1)],ao::G)):=by kernel_rfl
theorem TP (n:Nat) (U:Nat) (j:Int) (G:aa):aF (bJ n 90 18) (il aC n 0) aK aJ (part Tryd.f90 [1,0,0]) (hints (lZ U j)) (ao::G) =
 Tr.ite (bF j (ofNat U)) Tr.bad (Tr.ok (Ex.exit 0,[(0,AV.yld 1 5,none),(9,iI U,none),(10,AV.int .i64 j,none),(11,AV.bool false,some 1)],ao::G)):=by kernel_rfl
theorem Ul (n:Nat) (O:Int) (U:Nat) (Z:Nat→Int) (V:Nat) (J:Nat→Int) (W B:Nat→Int) (G G':aa):aZ Tryd.prog (cd n) 100000 90 Tryd.f90 (KtG.kt 90) (il aC n 0) (cE aK 0 (lZ U (ofNat 0)) (ao::G) (.ok (.normal,hints (lZ U (ofNat U)++[(11,.bool false)]),ao::G'))) aJ [(.yld 0 5,none),(.ptrT (some 0) (.G [shV O U Z V J W B]) 0,none)] G =
 Tr.reqP ([(0,AV.yld 1 5),(9,iI U),(10,iI 0)]=[(0,AV.yld 1 5),(9,iI U),(10,iI 0)]∧ao::G=ao::G) (Tr.ok ((AV.tup [],none),G')):=by kernel_rfl
theorem Qe (n:Nat) (R:Row) (L:bC) (H:aa) (k:Int):aF (gw n 74 43 2 5) (il aC n 0) aK aJ (part Tryd.f74 [1,1,1,1,1,0,1,0,0]) (hints [(1,.ptr 2 0 0 0),(3,.ptr 2 1 0 0),(6,.ptr 2 3 0 0),(7,.ptr 2 4 0 0),(19,Cn 2 R),(20,.int .i64 k)]) (ao::ao::L::H) =
 Tr.ok (Ex.normal,[(1,AV.ptr 2 0 0 0,none),(3,AV.ptr 2 1 0 0,none),(6,AV.ptr 2 3 0 0,none),(7,AV.ptr 2 4 0 0,none),(8,AV.ptr 0 0 0 0,none)],(bm [(0,al.row (Row.I .i64 [k]))])::ao::L::H):=by kernel_rfl
theorem YZ (n:Nat) (O:Int) (U:Nat) (Z:Nat→Int) (V:Nat) (J:Nat→Int) (W X B:Nat→Int) (H:aa) (b2 b3:Nat×al) (l k c:Int) (rest:List (Nat×al)) (s q:Bool) (f t:Int):aZ Tryd.prog (cd n) 100000 93 Tryd.f93 (KtG.kt 93) (il (kX (tX aC 71 [shV O U Z V J W B,.int .i64 c,.int .i64 k] (.bool s)) 65 [.ptr 0 0 0 0] (⟨false,[(0,.row (shR O U Z V J (dh (dh X (bQ (aq 3 c 2) 3) k) (bQ (au (aq 3 c 2) 1) 3) k) B))]⟩::ao::x8 k::ao::Ig (shR O U Z V J W B) (shR O U Z V J X B) b2 b3 l rest::H) (.ok (.tup [.agg (.G [.int .i64 f,.int .i64 t,.undef]),.bool q],⟨false,[(0,.row (shR O U Z V J (dh (dh X (bQ (aq 3 c 2) 3) k) (bQ (au (aq 3 c 2) 1) 3) k) B))]⟩::ao::x8 k::ao::Ig (shR O U Z V J W B) (shR O U Z V J X B) b2 b3 l rest::H))) n 0) aK aJ [(.int .i64 c,none),(.ptr 3 4 0 0,none),(.ptr 3 0 0 0,none),(.ptr 1 0 0 0,none),(.ptr 3 1 0 0,none)] (ao::x8 k::ao::Ig (shR O U Z V J W B) (shR O U Z V J X B) b2 b3 l rest::H) =
 (fun (Z0:bC)=>((fun (Z1:bC)=>((fun (Z2:bC)=>Tr.req (di (ofNat 0) c) (Tr.ite (bf (cq (mj IntKind.u64 l (eC IntKind.u64 (ofNat 1) c)) (ofNat 0))) (Tr.ok ((AV.bool false,some 1),ao::Z1::ao::Z0::H)) (Tr.req (cu c 10) (Tr.req (dP (aq 23 c 1) 1 23 10) (Tr.ite (bf (cq (A3 IntKind.u64 (B (bQ (aq 23 c 1) 23)) l) (ofNat 0))) (Tr.ok ((AV.bool false,some 1),ao::Z1::ao::Z0::H)) (Tr.reqP ([shV O U Z V J W B,AV.int .i64 c,AV.int .i64 k]=[shV O U Z V J W B,AV.int .i64 c,AV.int .i64 k]) (Tr.ite (bf s) (Tr.ok ((AV.bool false,some 1),ao::Z1::ao::Z0::H)) (Tr.req (cu c 10) (Tr.req (cH 0 0) (Tr.req (dP (aq 3 c 2) 1 3 20) (Tr.req (dP (au (aq 3 c 2) 1) 1 3 20) (Tr.reqP ([AV.ptr 0 0 0 0]=[AV.ptr 0 0 0 0]∧Z2::ao::Z1::ao::Z0::H=Z2::ao::Z1::ao::Z0::H) (Tr.ok ((AV.bool (bf q),none),ao::Z1::ao::Z0::H)))))))))))))) (bm [(0,al.row (shR O U Z V J (dh (dh X (bQ (aq 3 c 2) 3) k) (bQ (au (aq 3 c 2) 1) 3) k) B))]))) (bm [(0,al.row (Row.I .i64 [k]))]))) (bm ((0,al.row (Row.G [shV O U Z V J W B]))::(0,al.row (shR O U Z V J X B))::b2::b3::(0,al.row (Row.I IntKind.u64 [l]))::rest)):=by kernel_rfl
theorem Uo (n:Nat) (O:Int) (U:Nat) (Z:Nat→Int) (V:Nat) (J:Nat→Int) (W X B:Nat→Int) (H:aa) (b2 b3:Nat×al) (l k c:Int) (rest:List (Nat×al)) (s:Bool):aZ Tryd.prog (cd n) 100000 93 Tryd.f93 (KtG.kt 93) (il (tN (tX aC 71 [shV O U Z V J W B,.int .i64 c,.int .i64 k] (.bool s)) 65) n 0) aK aJ [(.int .i64 c,none),(.ptr 3 4 0 0,none),(.ptr 3 0 0 0,none),(.ptr 1 0 0 0,none),(.ptr 3 1 0 0,none)] (ao::x8 k::ao::Ig (shR O U Z V J W B) (shR O U Z V J X B) b2 b3 l rest::H) =
 (fun (Z0:bC)=>Tr.req (di (ofNat 0) c) (Tr.ite (bf (cq (mj IntKind.u64 l (eC IntKind.u64 (ofNat 1) c)) (ofNat 0))) (Tr.ok ((AV.bool false,some 1),ao::(bm [(0,al.row (Row.I .i64 [k]))])::ao::Z0::H)) (Tr.req (cu c 10) (Tr.req (dP (aq 23 c 1) 1 23 10) (Tr.ite (bf (cq (A3 IntKind.u64 (B (bQ (aq 23 c 1) 23)) l) (ofNat 0))) (Tr.ok ((AV.bool false,some 1),ao::(bm [(0,al.row (Row.I .i64 [k]))])::ao::Z0::H)) (Tr.reqP ([shV O U Z V J W B,AV.int .i64 c,AV.int .i64 k]=[shV O U Z V J W B,AV.int .i64 c,AV.int .i64 k]) (Tr.ite (bf s) (Tr.ok ((AV.bool false,some 1),ao::(bm [(0,al.row (Row.I .i64 [k]))])::ao::Z0::H)) (Tr.req (cu c 10) (Tr.req (cH 0 0) (Tr.req (dP (aq 3 c 2) 1 3 20) (Tr.req (dP (au (aq 3 c 2) 1) 1 3 20) Tr.bad))))))))))) (bm ((0,al.row (Row.G [shV O U Z V J W B]))::(0,al.row (shR O U Z V J X B))::b2::b3::(0,al.row (Row.I IntKind.u64 [l]))::rest)):=by kernel_rfl
theorem TK (n:Nat) (O:Int) (U:Nat) (Z:Nat→Int) (V:Nat) (J:Nat→Int) (W X B:Nat→Int) (H:aa) (a b:AV) (l k c:Int) (K:Nat×al):aF (gw n 74 43 2 5) (il (kX aC 92 [slA 4 U Z,Em 0] (x8 k::ao::MF (shR O U Z V J W B) (shR O U Z V J X B) a b l K::H) (.ok (.int .i64 c,x8 k::ao::MF (shR O U Z V J W B) (shR O U Z V J X B) a b l K::H))) n 0) aK aJ (part Tryd.f74 [1,1,1,1,1,0,1,0,1]) (hints [(1,.ptr 2 0 0 0),(3,.ptr 2 1 0 0),(6,.ptr 2 3 0 0),(7,.ptr 2 4 0 0),(8,.ptr 0 0 0 0)]) (x8 k::ao::MF (shR O U Z V J W B) (shR O U Z V J X B) a b l K::H) =
 (fun (Z0:bC)=>((fun (Z1:List AV)=>Tr.reqP (Z1=Z1∧(bm [(0,al.row (Row.I .i64 [k]))])::ao::Z0::H=(bm [(0,al.row (Row.I .i64 [k]))])::ao::Z0::H) (Tr.req (cu c 10) (Tr.req (cH 0 0) (Tr.req (dP (aq 3 c 2) 1 3 20) (Tr.req (dP (au (aq 3 c 2) 1) 1 3 20) (Tr.req (di (ofNat 0) c) (Tr.req (bT (dW 0 0) (dW 0 1)) (Tr.req (iv 0 1 8) (Tr.req (cH 0 0) (Tr.req (dW 1 1) (Tr.ok (Ex.normal,[],(bm [(0,al.row (Row.I .i64 [k])),(0,al.row (Row.I .i64 [c])),(0,al.dead)])::ao::(bm [(0,al.row (Row.G [shV O U Z V J W B])),(0,al.row (shR O U Z V J (dh (dh X (bQ (aq 3 c 2) 3) k) (bQ (au (aq 3 c 2) 1) 3) k) B)),(0,al.row (Row.G [a,b,AV.undef])),(0,al.row (Row.G [AV.slc 0 6 0 0 1 1 none])),(0,al.row (Row.I IntKind.u64 [sf IntKind.u64 l (eC IntKind.u64 (ofNat 1) c)])),K,(0,al.row (rM (az [c]) 1))])::H)))))))))))) [slA 4 U Z,AV.fn (Fn.func 93) [] [AV.ptr 2 4 0 0,AV.ptr 2 0 0 0,AV.ptr 0 0 0 0,AV.ptr 2 1 0 0]])) (bm [(0,al.row (Row.G [shV O U Z V J W B])),(0,al.row (shR O U Z V J X B)),(0,al.row (Row.G [a,b,AV.undef])),(0,al.row (Row.G [AV.nils])),(0,al.row (Row.I IntKind.u64 [l])),K]):=by kernel_rfl
theorem TL (n:Nat) (O:Int) (U:Nat) (Z:Nat→Int) (V:Nat) (J:Nat→Int) (W X B:Nat→Int) (H:aa) (a b:AV) (l k c:Int) (K:Nat×al) (v m:Nat) (y:Nat→Int):aF (gw n 74 43 2 5) (il (kX aC 92 [slA 4 U Z,Em 0] (x8 k::ao::Ie (shR O U Z V J W B) (shR O U Z V J X B) a b l K v m y::H) (.ok (.int .i64 c,x8 k::ao::Ie (shR O U Z V J W B) (shR O U Z V J X B) a b l K v m y::H))) n 0) aK aJ (part Tryd.f74 [1,1,1,1,1,0,1,0,1]) (hints [(1,.ptr 2 0 0 0),(3,.ptr 2 1 0 0),(6,.ptr 2 3 0 0),(7,.ptr 2 4 0 0),(8,.ptr 0 0 0 0)]) (x8 k::ao::Ie (shR O U Z V J W B) (shR O U Z V J X B) a b l K v m y::H) =
 (fun (Z0:bC)=>((fun (Z1:List AV)=>Tr.reqP (Z1=Z1∧(bm [(0,al.row (Row.I .i64 [k]))])::ao::Z0::H=(bm [(0,al.row (Row.I .i64 [k]))])::ao::Z0::H) (Tr.req (cu c 10) (Tr.req (cH 0 0) (Tr.req (dP (aq 3 c 2) 1 3 20) (Tr.req (dP (au (aq 3 c 2) 1) 1 3 20) (Tr.req (di (ofNat 0) c) (Tr.req (bT (dW 0 0) (dW 0 1)) (Tr.req (iv m 1 8) (Tr.req (cH 0 0) (Tr.req (dW 1 1) (Tr.req (cH v v) (Tr.req (cH (au 0 m) m) (Tr.ok (Ex.normal,[],(bm [(0,al.row (Row.I .i64 [k])),(0,al.row (Row.I .i64 [c]))])::ao::(bm [(0,al.row (Row.G [shV O U Z V J W B])),(0,al.row (shR O U Z V J (dh (dh X (bQ (aq 3 c 2) 3) k) (bQ (au (aq 3 c 2) 1) 3) k) B)),(0,al.row (Row.G [a,b,AV.undef])),(0,al.row (Row.G [AV.slc 0 6 (Nat.succ v) 0 1 (au m 1) none])),(0,al.row (Row.I IntKind.u64 [sf IntKind.u64 l (eC IntKind.u64 (ofNat 1) c)])),K,(Nat.succ v,al.row (rM (qb (qO y 0) m (az [c])) (au m 1)))])::H)))))))))))))) [slA 4 U Z,AV.fn (Fn.func 93) [] [AV.ptr 2 4 0 0,AV.ptr 2 0 0 0,AV.ptr 0 0 0 0,AV.ptr 2 1 0 0]])) (bm [(0,al.row (Row.G [shV O U Z V J W B])),(0,al.row (shR O U Z V J X B)),(0,al.row (Row.G [a,b,AV.undef])),(0,al.row (Row.G [AV.slc 0 6 v 0 1 m none])),(0,al.row (Row.I IntKind.u64 [l])),K,(v,al.row (rM y m))]):=by kernel_rfl
theorem YI (n:Nat) (O:Int) (U:Nat) (Z:Nat→Int) (V:Nat) (J:Nat→Int) (W X B:Nat→Int) (H:aa) (f t l:Int) (v m:Nat) (y:Nat→Int):aZ Tryd.prog (cd n) 100000 74 Tryd.f74 (KtG.kt 74) (il (kX (tX aC 70 [shV O U Z V J W B] (Cn 0 (shR O U Z V J W B))) 65 [.ptr 0 1 0 0] (⟨false,[(0,.row (.G [shV O U Z V J W B])),(0,.row (shR O U Z V J W B))]⟩::H) (.ok (.tup [.agg (.G [.int .i64 f,.int .i64 t,.undef]),.bool false],⟨false,[(0,.row (.G [shV O U Z V J W B])),(0,.row (shR O U Z V J W B))]⟩::H))) n 0) aK (EY aJ (fun _=>true) (Er (shR O U Z V J W B)) (⟨false,FQ (shR O U Z V J W B) (shR O U Z V J W B) (.int .i64 f) (.int .i64 t) .nils (ofNat 0)⟩::H) (.ok (.normal,hints (Er (shR O U Z V J W B)),Ie (shR O U Z V J W B) (shR O U Z V J X B) (.int .i64 f) (.int .i64 t) l (0,.dead) v m y::H))) [(shV O U Z V J W B,none)] H =
 (fun (Z0:bC)=>((fun (Z1:aD)=>((fun (Z2:bC)=>Tr.reqP ([AV.ptr 0 1 0 0]=[AV.ptr 0 1 0 0]∧Z2::H=Z2::H) (Tr.ite false (Tr.ok ((AV.nils,none),H)) (Tr.reqP ([shV O U Z V J W B]=[shV O U Z V J W B]) (Tr.reqP (Z1=Z1∧Z0::H=Z0::H) (Tr.req (cH v v) (Tr.req (dP 0 m 0 m) (Tr.ok ((aP m (qO y 0) false,none),H)))))))) (bm [(0,al.row (Row.G [shV O U Z V J W B])),(0,al.row (shR O U Z V J W B))]))) [(1,AV.ptr 0 0 0 0),(3,AV.ptr 0 1 0 0),(6,AV.ptr 0 3 0 0),(7,AV.ptr 0 4 0 0),(19,AV.fn (Fn.func 90) [] [AV.ptrT (some 0) (Row.G [shV O U Z V J W B]) 0])])) (bm [(0,al.row (Row.G [shV O U Z V J W B])),(0,al.row (shR O U Z V J W B)),(0,al.row (Row.G [AV.int .i64 f,AV.int .i64 t,AV.undef])),(0,al.row (Row.G [AV.nils])),(0,al.row (Row.I IntKind.u64 [ofNat 0]))]):=by kernel_rfl
theorem Ui (n:Nat) (O:Int) (U:Nat) (Z:Nat→Int) (V:Nat) (J:Nat→Int) (W B:Nat→Int) (H:aa) (f t:Int):aZ Tryd.prog (cd n) 100000 74 Tryd.f74 (KtG.kt 74) (il (kX (tX aC 70 [shV O U Z V J W B] (Cn 0 (shR O U Z V J W B))) 65 [.ptr 0 1 0 0] (⟨false,[(0,.row (.G [shV O U Z V J W B])),(0,.row (shR O U Z V J W B))]⟩::H) (.ok (.tup [.agg (.G [.int .i64 f,.int .i64 t,.undef]),.bool true],⟨false,[(0,.row (.G [shV O U Z V J W B])),(0,.row (shR O U Z V J W B))]⟩::H))) n 0) aK aJ [(shV O U Z V J W B,none)] H =
 (fun (Z0:bC)=>Tr.reqP ([AV.ptr 0 1 0 0]=[AV.ptr 0 1 0 0]∧Z0::H=Z0::H) (Tr.ite true (Tr.ok ((AV.nils,none),H)) (Tr.reqP ([shV O U Z V J W B]=[shV O U Z V J W B]) Tr.bad))) (bm [(0,al.row (Row.G [shV O U Z V J W B])),(0,al.row (shR O U Z V J W B))]):=by kernel_rfl
theorem Ug (n:Nat) (O:Int) (U:Nat) (Z:Nat→Int) (V:Nat) (J:Nat→Int) (W B:Nat→Int) (H:aa):aZ Tryd.prog (cd n) 100000 70 Tryd.f70 (KtG.kt 70) (il aC n 0) aK aJ [(shV O U Z V J W B,none)] H =
 Tr.ok ((AV.fn (Fn.func 90) [] [AV.ptrT (some 0) (Row.G [shV O U Z V J W B]) 0],none),H):=by kernel_rfl
theorem Yv (n:Nat) (O:Int) (U:Nat) (Z:Nat→Int) (V:Nat) (J:Nat→Int) (W B:Nat→Int) (H:aa) (m:Nat) (y:Nat→Int):aZ Tryd.prog (cd n) 100000 38 Tryd.f38 (KtG.kt 38) (il (tX (tX aC 49 [bt O U Z V J,.nils] (.tup [shV O U Z V J W B,.int .i64 (ofNat 0)])) 74 [shV O U Z V J W B] (aP m y false)) n 0) aK aJ [(bt O U Z V J,none)] H =
 Tr.reqP ([bt O U Z V J,AV.nils]=[bt O U Z V J,AV.nils]) (Tr.ite (bf (cq (ofNat 0) (ofNat 0))) (Tr.ok ((AV.tup [AV.nils,iI 0],none),H)) (Tr.reqP ([shV O U Z V J W B]=[shV O U Z V J W B]) (Tr.req (bX 0 m) (Tr.ite false (Tr.ok ((AV.tup [AV.nils,iI 13],none),H)) (Tr.req (Dl (ofNat m) (ofNat m) 8) (Tr.req (dW (xt m (b8 (ofNat m))) m) (Tr.req (dW (au 0 (xt m (b8 (ofNat m)))) m) (Tr.req (cH 0 0) (Tr.req (dP 0 (xt m (b8 (ofNat m))) 0 (b8 (ofNat m))) (Tr.req (cH 0 0) (Tr.req (dP 0 (b8 (ofNat m)) 0 (b8 (ofNat m))) (Tr.ok ((AV.tup [AV.slcT none (rM (qO (nz (fun x=>ofNat 0) 0 y (xt m (b8 (ofNat m)))) 0) (b8 (ofNat m))) 1 (b8 (ofNat m)) (cH (b8 (ofNat m)) (b8 (ofNat m))),iI 0],none),H))))))))))))):=by kernel_rfl
theorem T3 (n:Nat) (O:Int) (U:Nat) (Z:Nat→Int) (V:Nat) (J:Nat→Int) (W B:Nat→Int) (H:aa):aZ Tryd.prog (cd n) 100000 38 Tryd.f38 (KtG.kt 38) (il (tX (tX aC 49 [bt O U Z V J,.nils] (.tup [shV O U Z V J W B,.int .i64 (ofNat 0)])) 74 [shV O U Z V J W B] .nils) n 0) aK aJ [(bt O U Z V J,none)] H =
 Tr.reqP ([bt O U Z V J,AV.nils]=[bt O U Z V J,AV.nils]) (Tr.ite (bf (cq (ofNat 0) (ofNat 0))) (Tr.ok ((AV.tup [AV.nils,iI 0],none),H)) (Tr.reqP ([shV O U Z V J W B]=[shV O U Z V J W B]) (Tr.ite true (Tr.ok ((AV.tup [AV.nils,iI 13],none),H)) (Tr.req (Dl (ofNat 0) (ofNat 0) 8) Tr.bad)))):=by kernel_rfl
end Go.Eng
end
section
namespace Go.Eng
open Int (ofNat)
open Go.Proofs Go.Eng.Gall
theorem VQ:∀ b,(0,b) ∈ aI (aW Tryd.f92)→b=.loop (part Tryd.f92 [1,0,1,0,0]):=dJ (by kernel_rfl)
theorem Q3:∀ b,(0,b) ∈ aI (aW Tryd.f90)→b=.loop (part Tryd.f90 [1,0,0]):=dJ (by kernel_rfl)
section
variable (n:Nat) (O:Int) (U:Nat) (Z:Nat→Int) (V:Nat) (J:Nat→Int)
theorem Wi (H:aa) (p:Nat→Bool) (hl:U≤1000) (h93:∀ j,j<U→cd n (.fn 93) [.int .i64 (j:Int),.ptr 3 4 0 0,.ptr 3 0 0 0,.ptr 1 0 0 0,.ptr 3 1 0 0] (ao::H)=some (.bool (p j),ao::H)) :
 cd (n+1) (.fn 92) [slA 4 U Z,Em 0] H=some (.int .i64 ((if dk p U=true then fN p U 0 else 0:Nat):Int),H):=by
 have lp:=ff (n:=n) (f:=92) (nt:=16) (c:=part Tryd.f92 [1,0,1,0,0]) 0 (fun j=>Bw U (j:Int)) (fun _=>ao::H) U p (fun j=>([(4,.int .i64 (j:Int))],ao::H)) (Bw U (ofNat U)++[(9,.bool false)],ao::H) wO (fun j hj=>?_) ?_
 · refine bp (n:=n) Tryd.func92 rfl rfl rfl (YY n U Z H (dk p U) (fN p U 0:Nat)) (aw n) (aU (ah _ _) VQ (fun x hx=>cK hx lp)) (aj _ _) ?_
   refine Tr.ak ⟨rfl,rfl⟩ (Tr.ae (fun q=>Tr.ag ⟨?_,rfl⟩) (fun q=>Tr.ag ⟨?_,rfl⟩))
   · rw[if_pos q]
   · rw[if_neg (by rw[q];decide)];rfl
 · have T:=t92 n U H (j:Int) (p j)
   rw[dO wO] at T
   refine aA T (bw _ _ (bN (aR _) (fun x hy=>by rw[← Tr.af hy];exact h93 j hj))) (ah _ _) (aj _ _) ?_
   refine Tr.ae (fun _=>Tr.ak ⟨rfl,rfl⟩ (Tr.ae (fun q=>Tr.ag ?_) (fun q=>Tr.ag ?_))) wJ
   · rw[if_pos q];rfl
   · rw[if_neg (by rw[q];decide)];exact ⟨rfl,rfl⟩
 · obtain ⟨x,h1,rfl⟩:=aA (Q:=fun x=>x=(.exit 0,Bw U (ofNat U)++[(9,.bool false)],ao::H)) (TS n U H (ofNat U)) (aw n) (ah _ _) (aj _ _) (by
    refine Tr.ae wJ (fun h0=>Tr.ag rfl))
   exact h1
theorem DM (W:Nat→Int) (g:Nat→Nat) (HH:aa) (i:Nat) (hr:c8 HH 0 i 0=some (shR O U Z V J W (bI g))) (hS:eN U W g):∃ f t,cd (n+4) (.fn 65) [.ptr 0 i 0 0] HH=some (.tup [.agg (.G [.int .i64 f,.int .i64 t,.undef]),.bool (!vt U g W)],HH):=by
 have h:=Vl n O U Z V J W [⟨true,[]⟩] g hS;have e:=M7 (.inr rfl) hr rfl h;unfold vt;cases hc:kS (qB (eU U g W)) U U with
 | none =>
   rw[hc] at e;exact ⟨ofNat 0,ofNat 0,oZ e⟩
 | some v =>
   obtain ⟨f,t⟩:=v;rw[hc] at e;exact ⟨f,t,oZ e⟩
variable (W:Nat→Int) (g:Nat→Nat) (H:aa)
theorem KV (k:Nat) (c:Nat):oT W (c:Int) (k:Int)=(di (W (2*c)) (k:Int) && di (k:Int) (W (2*c+1))):=by
 unfold oT;rw[bk,bk];rfl
theorem Wj (hS:eN U W g) (L:List Nat) (hd:L.Nodup) (hL:∀ x ∈ L,x<U) (hk:L.length<U) (b2 b3:Nat×al) (rest:List (Nat×al)) (c:Nat) (hc:c<U) :
 cd (n+5) (.fn 93) [.int .i64 (c:Int),.ptr 3 4 0 0,.ptr 3 0 0 0,.ptr 1 0 0 0,.ptr 3 1 0 0] (ao::x8 (L.length:Int)::ao::Ig (shR O U Z V J W (bI g)) (shR O U Z V J (nM W L) (bI g)) b2 b3 (mask L:Int) rest::H)=some (.bool (rS U g W L c),ao::x8 (L.length:Int)::ao::Ig (shR O U Z V J W (bI g)) (shR O U Z V J (nM W L) (bI g)) b2 b3 (mask L:Int) rest::H):=by
 have hlc:=hS.len
 have hm:mask L<2 ^ U:=nk hd hL
 have hm62:mask L<2 ^ 62:=Nat.lt_of_lt_of_le hm (Nat.pow_le_pow_right wO wO)
 have h71:∀ H,cd (n+4) (.fn 71) [shV O U Z V J W (bI g),.int .i64 (c:Int),.int .i64 (L.length:Int)] H=some (.bool (oT W (c:Int) (L.length:Int)),H):=fun H=>Vm (n+3) O U Z V J H W (bI g) (c:Int) L.length wO
 have e1:bQ (aq 23 (c:Int) 1) 23=c:=by rw[bo,cw];omega
 have e2:bQ (aq 3 (c:Int) 2) 3=2*c:=by rw[bo,cw];omega
 have e3:bQ (au (aq 3 (c:Int) 2) 1) 3=2*c+1:=by rw[bo,aH,cw];omega
 have E:rS U g W L c=(!(mask L).testBit c && (cq (A3 .u64 (bI g c) (mask L:Int)) (ofNat 0) && oT W (c:Int) (L.length:Int)) && vt U g (nM W (L++[c]))):=by
  unfold rS Q.okW;rw[KV]
 have B1:cq (mj .u64 (mask L:Int) (eC .u64 (ofNat 1) (c:Int))) (ofNat 0)=!(mask L).testBit c:=Q.Bb hm62 wO
 by_cases hb:(mask L).testBit c=true
 · have T:=Uo (n+4) O U Z V J W (nM W L) (bI g) H b2 b3 (mask L:Int) (L.length:Int) (c:Int) rest (oT W (c:Int) (L.length:Int))
   rw[B1,hb] at T
   rw[E,hb]
   refine bp (n:=n+4) Tryd.func93 rfl rfl rfl T (bw _ _ (uG (bW (aR _) h71))) (ah _ _) (aj _ _) ?_
   refine Tr.ab wG (Tr.ae (fun _=>Tr.ag ⟨rfl,rfl⟩) (fun q=>by simp[av] at q))
 · have hb:(mask L).testBit c=false:=by simpa using hb
   have hnm:c ∉ L:=fun h=>by rw[cV hd,decide_eq_true h] at hb;cases hb
   have hd2:(L++[c]).Nodup:=by
    rw[List.nodup_append];exact ⟨hd,by simp,fun x hx y hy he=>by rw[List.mem_singleton] at hy;rw[hy] at he;rw[he] at hx;exact hnm hx⟩
   have hL2:∀ x ∈ L++[c],x<U:=by
    intro x hx;rcases List.mem_append.1 hx with hx | hx
    · exact hL x hx
    · rw[List.mem_singleton] at hx;omega
   have hS2:eN U (nM W (L++[c])) g:=Ky hS (by rw[List.length_append];simp;omega) hL2
   obtain ⟨f,t,h65⟩:=DM n O U Z V J (nM W (L++[c])) g (⟨false,[(0,.row (shR O U Z V J (nM W (L++[c])) (bI g)))]⟩::ao::x8 (L.length:Int)::ao::Ig (shR O U Z V J W (bI g)) (shR O U Z V J (nM W L) (bI g)) b2 b3 (mask L:Int) rest::H) 0 rfl hS2
   have T:=YZ (n+4) O U Z V J W (nM W L) (bI g) H b2 b3 (mask L:Int) (L.length:Int) (c:Int) rest (oT W (c:Int) (L.length:Int)) (!vt U g (nM W (L++[c]))) f t
   rw[B1,hb,e1,e2,e3,← Gs hnm] at T
   rw[E,hb]
   refine bp (n:=n+4) Tryd.func93 rfl rfl rfl T (bw _ _ (bN (bW (aR _) h71) (fun x hy=>by rw[← Tr.af hy];exact h65))) (ah _ _) (aj _ _) ?_
   clear T h65 h71
   have ei:aq 23 (c:Int) 1=23+c:=by rw[bo];omega
   have ej:aq 3 (c:Int) 2=3+c*2:=by rw[bo];omega
   rw[ei,ej]
   refine Tr.ab wG (Tr.ae (fun q=>by simp[av] at q) (fun _=>Tr.ab wG (Tr.ab wG (Tr.ae (fun q=>Tr.ag ⟨?_,rfl⟩) (fun q=>?_)))))
   all_goals rw[av] at q
   · have q:(!cq (A3 .u64 (bI g c) (mask L:Int)) (ofNat 0))=true:=q
     rw[Bool.not_eq_true'] at q
     rw[q];rfl
   have q:(!cq (A3 .u64 (bI g c) (mask L:Int)) (ofNat 0))=false:=q
   rw[Bool.not_eq_false'] at q
   rw[q]
   refine Tr.ak rfl (Tr.ae (fun q2=>Tr.ag ⟨?_,rfl⟩) (fun q2=>?_))
   all_goals rw[av] at q2
   · rw[Bool.not_eq_true'] at q2
     rw[q2];rfl
   rw[Bool.not_eq_false'] at q2
   rw[q2]
   refine Tr.ab wG (Tr.ab wG (Tr.ab wG (Tr.ab wG (Tr.ak ⟨rfl,rfl⟩ (Tr.ag ⟨?_,rfl⟩)))))
   rw[av,Bool.not_not];rfl
theorem Rf (W B:Nat→Int) (St:Nat→aa) (hk:U≤1000) (hr:∀ j,j<U→cd n (.round 1 5) [.int .i64 (j:Int)] (ao::St j)=some (.bool true,ao::St (j+1))) :
 cd (n+1) (.fn 90) [.yld 0 5,.ptrT (some 0) (.G [shV O U Z V J W B]) 0] (St 0)=some (.tup [],St U):=by
 have hx:=jh (n:=n) (f:=90) (nt:=18) (c:=part Tryd.f90 [1,0,0]) 0 (fun j=>lZ U (j:Int)) (fun j=>ao::St j) U (lZ U (ofNat U)++[(11,.bool false)],ao::St U) wO (fun j hj=>?_) ?_
 · refine bp (n:=n) Tryd.func90 rfl rfl rfl (Ul n O U Z V J W B (St 0) (St U)) (aw _) (aU (ah _ _) Q3 (fun x h=>by rw[← Tr.af h];simp only[ev.st,aN];exact hx)) (aj _ _) ?_
   exact Tr.ak ⟨rfl,rfl⟩ (Tr.ag ⟨rfl,rfl⟩)
 · refine aA (TO n U (j:Int) (St j) (St (j+1))) (qJ (aw n) (fun x hy=>by rw[← Tr.af hy];exact hr j hj)) (ah _ _) (aj _ _) ?_
   rw[dO wO]
   generalize St (j+1)=G' at *
   generalize St j=G at *
   exact wF
 · obtain ⟨x,h1,rfl⟩:=aA (Q:=fun x=>x=(.exit 0,lZ U (ofNat U)++[(11,.bool false)],ao::St U)) (TP n U (ofNat U) (St U)) (aw n) (ah _ _) (aj _ _) (by
    refine Tr.ae (fun hc=>?_) (fun hc=>Tr.ag rfl);simp (disch:=omega) only[nV,nW] at hc;omega)
   exact h1
end
end Go.Eng
end
section
namespace Go.Eng
open Int (ofNat)
open Go.Proofs Go.Eng.Gall
theorem wx {n d i:Nat} {args:List AV} {H H2 R:aa} {l l2:gu} {fr fr1 fr2:aD} {lv lv1:bC}
 (hg:aB H d i=(0,.loop l)) (hl:aM H d=false) (hs:l.state=.ready) (hp:ju l.nt (jU (d+1) l.fr) l.params (args.map (mf 1))=some fr)
 (h1:exec (gw n l.fn l.nt (d+1) i) l.assign fr (ao::H)=some (.normal,fr1,lv1::H))
 (h2:exec (gw n l.fn l.nt (d+1) i) l.body fr1 (dD (lv1::H) (d+1) i (0,.loop { l with state:=.busy }))=some (.normal,fr2,lv::H2)) (hg2:aB H2 d i=(0,.loop l2)) (hR:R=dD H2 d i (0,.loop { l2 with state:=.ready,pending:=none })) :
 cd (n+1) (.round d i) args H=some (.bool true,R):=by
 rw[hR]
 exact uo (P:=Tryd.prog) (ora:=gL) (KT:=KtG.kt) (fu:=100000) (e:=.normal) hg hl hs hp h1 (by rw[show aB (lv1::H) (d+1) i=aB H d i from rfl];exact hg) hs h2 hg2
noncomputable def vZ:Code:=part Tryd.f74 [1,1,1,1,1,0,1,0,0]
noncomputable def Dd:Code:=part Tryd.f74 [1,1,1,1,1,0,1,0,1]
theorem Yg:dH (aW Tryd.f74)=[(.tmp 19,#[20],vZ,Dd)]:=by kernel_rfl
noncomputable def fg (R:Row):gu:={ state:=.ready,pending:=none,fn:=74,nt:=43,fr:=Er R,params:=[20],assign:=vZ,body:=Dd }
def gZ (L:List Nat):List Int:=L.map fun x:Nat=>(x:Int)
noncomputable def QO (R:Row) (X:List Nat→Row) (a b:AV) (K:Nat×al):List Nat→bC
 | []=>MF R (X []) a b (ofNat 0) K
 | c::r=>Ie R (X (c::r)) a b (mask (c::r):Int) K r.length (r.length+1) (az (gZ (c::r)))
section
variable (n:Nat) (O:Int) (U:Nat) (Z:Nat→Int) (V:Nat) (J:Nat→Int) (W:Nat→Int) (g:Nat→Nat) (H:aa)
noncomputable def A5 (L:List Nat):Row:=shR O U Z V J (nM W L) (bI g)
theorem Jy {L:List Nat} (hd:L.Nodup) (hm:mask L<2 ^ 62) {c:Nat} (hc:c<62) (hno:c ∉ L):sf .u64 (mask L:Int) (eC .u64 (ofNat 1) (c:Int))=(mask (L++[c]):Int):=by
 rw[mP];exact Q.Bc hm hc (by rw[cV hd];exact decide_eq_false hno)
theorem Tt (hS:eN U W g) (hW:∀ c,c<U→0≤W (2*c)∧W (2*c+1)<U) (a b:AV) {k:Nat} (hk:k<U) (hB:N2 U g W k (iY U g W k)) :
 cd (n+7) (.round 1 5) [.int .i64 (k:Int)] (ao::QO (shR O U Z V J W (bI g)) (A5 O U Z V J W g) a b (0,.loop (fg (shR O U Z V J W (bI g)))) (iY U g W k)::H)=some (.bool true,ao::QO (shR O U Z V J W (bI g)) (A5 O U Z V J W g) a b (0,.loop (fg (shR O U Z V J W (bI g)))) (iY U g W (k+1))::H):=by
 obtain ⟨hx,hf,hgo,hB1⟩:=CX hS hW hB hk
 have e:iY U g W (k+1)=iY U g W k++[fN (rS U g W (iY U g W k)) U 0]:=by
  show iY U g W k++[if dk (rS U g W (iY U g W k)) U=true then fN (rS U g W (iY U g W k)) U 0 else 0]=_;rw[if_pos hx]
 have hlc:=hS.len
 have h92:∀ (b2 b3:Nat×al) (rest:List (Nat×al)),cd (n+6) (.fn 92) [slA 4 U Z,Em 0] (x8 (k:Int)::ao::Ig (shR O U Z V J W (bI g)) (A5 O U Z V J W g (iY U g W k)) b2 b3 (mask (iY U g W k):Int) rest::H)=some (.int .i64 (fN (rS U g W (iY U g W k)) U 0:Nat),x8 (k:Int)::ao::Ig (shR O U Z V J W (bI g)) (A5 O U Z V J W g (iY U g W k)) b2 b3 (mask (iY U g W k):Int) rest::H):=fun b2 b3 rest=>by
  have:=Wi (n+5) U Z (x8 (k:Int)::ao::Ig (shR O U Z V J W (bI g)) (A5 O U Z V J W g (iY U g W k)) b2 b3 (mask (iY U g W k):Int) rest::H) (rS U g W (iY U g W k)) wO (fun j hj=>by
   have:=Wj n O U Z V J W g H hS (iY U g W k) hB.nd hB.lt (by rw[hB.len];exact hk) b2 b3 rest j hj;rw[hB.len] at this;exact this)
  rw[if_pos hx] at this;exact this
 rw[e] at hB1 ⊢
 generalize fN (rS U g W (iY U g W k)) U 0=c at *
 have hlen:=hB.len
 generalize iY U g W k=L at *
 have hnm:c ∉ L:=fun h=>by
  have:=hB1.nd;rw[List.nodup_append] at this;exact this.2.2 c h c (by simp) rfl
 have hm62:mask L<2 ^ 62:=Nat.lt_of_lt_of_le (nk hB.nd hB.lt) (Nat.pow_le_pow_right wO wO)
 have eo:=Jy hB.nd hm62 (show c<62 by omega) hnm
 have ex:=Gs (W:=W) hnm
 have e2:bQ (aq 3 (c:Int) 2) 3=2*c:=by rw[bo,cw];omega
 have e3:bQ (au (aq 3 (c:Int) 2) 1) 3=2*c+1:=by rw[bo,aH,cw];omega
 have ej:aq 3 (c:Int) 2=3+c*2:=by rw[bo];omega
 have e1:=lu (gZ L) (c:Int)
 cases L with
 | nil =>
   obtain rfl:k=0:=hlen.symm
   have ex':dh (dh (nM W []) (2*c) (ofNat 0)) (2*c+1) (ofNat 0)=nM W [c]:=ex.symm
   have eo':sf .u64 (ofNat 0) (eC .u64 (ofNat 1) (c:Int))=(mask [c]:Int):=eo
   have h1:exec (gw (n+6) 74 43 2 5) vZ [(1,.ptr 2 0 0 0),(3,.ptr 2 1 0 0),(6,.ptr 2 3 0 0),(7,.ptr 2 4 0 0),(19,Cn 2 (shR O U Z V J W (bI g))),(20,.int .i64 (ofNat 0))] (ao::ao::MF (shR O U Z V J W (bI g)) (A5 O U Z V J W g []) a b (ofNat 0) (0,.loop (fg (shR O U Z V J W (bI g))))::H)=some (.normal,[(1,.ptr 2 0 0 0),(3,.ptr 2 1 0 0),(6,.ptr 2 3 0 0),(7,.ptr 2 4 0 0),(8,.ptr 0 0 0 0)],x8 (ofNat 0)::ao::MF (shR O U Z V J W (bI g)) (A5 O U Z V J W g []) a b (ofNat 0) (0,.loop (fg (shR O U Z V J W (bI g))))::H) :=
    fW (Qe (n+6) _ _ H (ofNat 0)) (aw _) (ah _ _) (aj _ _) (Tr.ag rfl)
   have T:=TK (n+6) O U Z V J W (nM W []) (bI g) H a b (ofNat 0) (ofNat 0) (c:Int) (0,.loop { fg (shR O U Z V J W (bI g)) with state:=.busy })
   rw[e2,e3,ex',eo',ej] at T
   obtain ⟨y,h2,h3⟩:=j0 (Q:=fun y=>y=(.normal,[],⟨false,[(0,.row (.I .i64 [ofNat 0])),(0,.row (.I .i64 [(c:Int)])),(0,.dead)]⟩::ao::Ie (shR O U Z V J W (bI g)) (A5 O U Z V J W g [c]) a b (mask [c]:Int) (0,.loop { fg (shR O U Z V J W (bI g)) with state:=.busy }) 0 1 (az [(c:Int)])::H)) T (bw _ _ (bN (aR _) (fun x hy=>by rw[← Tr.af hy];exact h92 (0,.row (.G [a,b,.undef])) (0,.row (.G [.nils])) [(0,.loop { fg (shR O U Z V J W (bI g)) with state:=.busy })]))) (ah _ _) (aj _ _) (by
    clear T h92 h1;generalize fg (shR O U Z V J W (bI g))=L at *;exact wF)
   subst h3
   exact wx (l:=fg (shR O U Z V J W (bI g))) (l2:={ fg (shR O U Z V J W (bI g)) with state:=.busy }) rfl rfl rfl rfl h1 h2 rfl rfl
 | cons x r =>
   have hk':(x::r).length=k:=hlen
   have hrl:r.length+1=k:=hlen
   rw[hk'] at ex
   have ex':=ex.symm
   have e1':qb (qO (az (gZ (x::r))) 0) (r.length+1) (az [(c:Int)])=az (gZ (x::r++[c])):=by
    have:(gZ (x::r)).length=r.length+1:=by simp[gZ]
    rw[this] at e1;rw[e1];simp[gZ]
   have h1:exec (gw (n+6) 74 43 2 5) vZ [(1,.ptr 2 0 0 0),(3,.ptr 2 1 0 0),(6,.ptr 2 3 0 0),(7,.ptr 2 4 0 0),(19,Cn 2 (shR O U Z V J W (bI g))),(20,.int .i64 (k:Int))] (ao::ao::Ie (shR O U Z V J W (bI g)) (A5 O U Z V J W g (x::r)) a b (mask (x::r):Int) (0,.loop (fg (shR O U Z V J W (bI g)))) r.length (r.length+1) (az (gZ (x::r)))::H)=some (.normal,[(1,.ptr 2 0 0 0),(3,.ptr 2 1 0 0),(6,.ptr 2 3 0 0),(7,.ptr 2 4 0 0),(8,.ptr 0 0 0 0)],x8 (k:Int)::ao::Ie (shR O U Z V J W (bI g)) (A5 O U Z V J W g (x::r)) a b (mask (x::r):Int) (0,.loop (fg (shR O U Z V J W (bI g)))) r.length (r.length+1) (az (gZ (x::r)))::H) :=
    fW (Qe (n+6) _ _ H (k:Int)) (aw _) (ah _ _) (aj _ _) (Tr.ag rfl)
   have T:=TL (n+6) O U Z V J W (nM W (x::r)) (bI g) H a b (mask (x::r):Int) (k:Int) (c:Int) (0,.loop { fg (shR O U Z V J W (bI g)) with state:=.busy }) r.length (r.length+1) (az (gZ (x::r)))
   have e5:au (r.length+1) 1=r.length+1+1:=by rw[aH]
   rw[e2,e3,ex',eo,e1',e5,ej] at T
   obtain ⟨y,h2,h3⟩:=j0 (Q:=fun y=>y=(.normal,[],⟨false,[(0,.row (.I .i64 [(k:Int)])),(0,.row (.I .i64 [(c:Int)]))]⟩::ao::Ie (shR O U Z V J W (bI g)) (A5 O U Z V J W g (x::r++[c])) a b (mask (x::r++[c]):Int) (0,.loop { fg (shR O U Z V J W (bI g)) with state:=.busy }) (r.length+1) (r.length+1+1) (az (gZ (x::r++[c])))::H)) T (bw _ _ (bN (aR _) (fun y hy=>by rw[← Tr.af hy];exact h92 (0,.row (.G [a,b,.undef])) (0,.row (.G [.slc 0 6 r.length 0 1 (r.length+1) none])) [(0,.loop { fg (shR O U Z V J W (bI g)) with state:=.busy }),(r.length,.row (.M [.arr .i64 (az (gZ (x::r))) (r.length+1)]))]))) (ah _ _) (aj _ _) (by
    clear T h92 h1;have hkl:r.length≤20:=by omega
    generalize fg (shR O U Z V J W (bI g))=L at *;generalize az (gZ (x::r++[c]))=Y at *;exact wF)
   subst h3
   have e4:(r++[c]).length=r.length+1:=by simp
   refine wx (l:=fg (shR O U Z V J W (bI g))) (l2:={ fg (shR O U Z V J W (bI g)) with state:=.busy }) rfl rfl rfl rfl h1 h2 rfl ?_
   show ao::Ie _ _ _ _ _ _ (r++[c]).length ((r++[c]).length+1) (az (gZ (x::(r++[c]))))::H=_
   rw[e4];rfl
theorem Y5 (hS:eN U W g) (hW:∀ c,c<U→0≤W (2*c)∧W (2*c+1)<U) (h0:vt U g W=true) (a b:AV):exec (bJ (n+8) 74 43) (.rangeFunc (.tmp 19) #[20] vZ Dd) (Er (shR O U Z V J W (bI g))) (⟨false,FQ (shR O U Z V J W (bI g)) (shR O U Z V J W (bI g)) a b .nils (ofNat 0)⟩::H)=some (.normal,Er (shR O U Z V J W (bI g)),dR (QO (shR O U Z V J W (bI g)) (A5 O U Z V J W g) a b (0,.loop (fg (shR O U Z V J W (bI g)))) (iY U g W U)::H) 0 5):=by
 have e0:A5 O U Z V J W g []=shR O U Z V J W (bI g):=by unfold A5;rw[Gt]
 have h:=Rf (n+7) O U Z V J W (bI g) (fun k=>QO (shR O U Z V J W (bI g)) (A5 O U Z V J W g) a b (0,.loop (fg (shR O U Z V J W (bI g)))) (iY U g W k)::H) (by have:=hS.len;omega) (fun j hj=>Tt n O U Z V J W g H hS hW a b hj (sQ hS hW h0 j wO));have h':cd (n+8) (.fn 90) [.yld 0 5,.ptrT (some 0) (.G [shV O U Z V J W (bI g)]) 0] (MF (shR O U Z V J W (bI g)) (A5 O U Z V J W g []) a b (ofNat 0) (0,.loop (fg (shR O U Z V J W (bI g))))::H)=_:=h;rw[e0] at h';refine mV (cx:=bJ (n+8) 74 43) (l:=fg (shR O U Z V J W (bI g))) (f:=.tmp 19) (ps:=#[20]) (fr:=Er (shR O U Z V J W (bI g))) (H:=⟨false,FQ (shR O U Z V J W (bI g)) (shR O U Z V J W (bI g)) a b .nils (ofNat 0)⟩::H) (g:=90) (a:=[]) (b:=[.ptrT (some 0) (.G [shV O U Z V J W (bI g)]) 0]) rfl rfl rfl h' ?_ rfl rfl;cases iY U g W U with
 | nil=>rfl
 | cons x r=>rfl
theorem Tk {c:Nat} {fr:aD} {G:aa} {Y:ev} (hx:exec (bJ c 74 43) (.rangeFunc (.tmp 19) #[20] vZ Dd) fr G=some Y.st):(EY aJ (fun _=>true) fr G (.ok Y)).Ok (bJ c 74 43) (aW Tryd.f74) :=
 xL (aj _ _) (fun f ps a b _ hm x hx2=>by
  rw[Yg] at hm;simp only[List.mem_cons,Prod.mk.injEq,List.not_mem_nil,or_false] at hm;obtain ⟨rfl,rfl,rfl,rfl⟩:=hm;rw[← Tr.af hx2];exact hx)
theorem V5 (hS:eN U W g) (hW:∀ c,c<U→0≤W (2*c)∧W (2*c+1)<U) (hl:1≤U):cd (n+9) (.fn 74) [shV O U Z V J W (bI g)] H=some (if vt U g W=true then aP U (az (gZ (iY U g W U))) false else .nils,H):=by
 obtain ⟨f,t,h65⟩:=DM (n+4) O U Z V J W g (⟨false,[(0,.row (.G [shV O U Z V J W (bI g)])),(0,.row (shR O U Z V J W (bI g)))]⟩::H) 1 rfl hS;have h70:∀ H,cd (n+8) (.fn 70) [shV O U Z V J W (bI g)] H=some (Cn 0 (shR O U Z V J W (bI g)),H):=fun H=>by
  refine bp (n:=n+7) Tryd.func70 rfl rfl rfl (Ug (n+7) O U Z V J W (bI g) H) (aw _) (ah _ _) (aj _ _) ?_;exact Tr.ag ⟨rfl,rfl⟩
 by_cases h0:vt U g W=true
 · rw[if_pos h0];rw[h0] at h65;have hlen:=(sQ hS hW h0 U (Nat.le_refl _)).len;have hx:=Y5 n O U Z V J W g H hS hW h0 (.int .i64 f) (.int .i64 t);cases hL:iY U g W U with
   | nil=>rw[hL] at hlen;simp at hlen;omega
   | cons x r =>
     rw[hL] at hx hlen;have hr:r.length+1=U:=by simpa using hlen
     have T:=YI (n+8) O U Z V J W (nM W (x::r)) (bI g) H f t (mask (x::r):Int) r.length (r.length+1) (az (gZ (x::r)));rw[iz] at T;refine bp (n:=n+8) Tryd.func74 rfl rfl rfl T (bw _ _ (bN (bW (aR _) h70) (fun y hy=>by rw[← Tr.af hy];exact h65))) (ah _ _) (Tk (by simp only[ev.st,aN];exact hx)) ?_;clear T hx h65 h70;rw[← hr];refine Tr.ak ⟨rfl,rfl⟩ (Tr.ae (fun q=>by cases q) (fun _=>Tr.ak rfl (Tr.ak ⟨rfl,rfl⟩ ?_)));exact wF
 · rw[if_neg h0];have h0:vt U g W=false:=by simpa using h0
   rw[h0] at h65;refine bp (n:=n+8) Tryd.func74 rfl rfl rfl (Ui (n+8) O U Z V J W (bI g) H f t) (bw _ _ (bN (bW (aR _) h70) (fun y hy=>by rw[← Tr.af hy];exact h65))) (ah _ _) (aj _ _) ?_;exact Tr.ak ⟨rfl,rfl⟩ (Tr.ae (fun _=>Tr.ag ⟨rfl,rfl⟩) (fun q=>by cases q))
end
end Go.Eng
end
section
namespace Go.Eng
open Go.Proofs Go.Eng.Gall
end Go.Eng
end
section
namespace Go.Eng
open Go.Proofs Go.Eng.Gall
section
variable (n:Nat) (O:Int) (U:Nat) (Z:Nat→Int) (V:Nat) (J:Nat→Int) (H:aa)
variable (f t:Int) (m:Nat) (z:Nat→Int)
end
end Go.Eng
end
section
namespace Go.Eng
open Go.Proofs Go.Eng.Gall
section
variable (n:Nat) (O:Int) (U:Nat) (Z:Nat→Int) (V:Nat) (J:Nat→Int) (H:aa) (f t:Int) (m:Nat) (z:Nat→Int)
end
end Go.Eng
end
