/- Bath: plain facts on the points. -/
import Derived.Test.YtigmfpmabgekoaaGreatV11Bq2x3
import Derived.Test.YtigmfpmabgekoaaGreatV11Bc5x23
import Derived.Test.YtigmfpmabgekoaaGreatV11Bq6x7
set_option linter.unusedVariables false
set_option linter.unusedSimpArgs false
set_option maxRecDepth 100000
section
namespace Go.Eng
theorem BD {a:Nat→Int} {n:Nat} (ha:∀ i j,i≤j→j<n→a i≤a j):∀ j,j≤n→(oK a j).Pairwise (· < ·)∧∀ x,x ∈ oK a j↔∃ i,i<j∧a i=x
 | 0,_=>⟨List.Pairwise.nil,fun x=>⟨(fun h=>by cases h),(fun ⟨i,h,_⟩=>by omega)⟩⟩
 | j + 1,h=>by
   obtain ⟨i1,i2⟩:=BD ha j (by omega)
   have e:oK a (j+1)=if j=0∨a j≠a (j-1) then oK a j++[a j] else oK a j:=rfl
   rw[e]
   by_cases c:j=0∨a j≠a (j-1)
   · rw[if_pos c]
     refine ⟨List.pairwise_append.2 ⟨i1,List.pairwise_singleton _ _,fun x hx y hy=>?_⟩,fun x=>?_⟩
     · obtain ⟨i,h1,h2⟩:=(i2 x).1 hx
       rw[List.mem_singleton] at hy
       subst hy;subst h2
       rcases c with c | c
       · omega
       · have h3:=ha i (j-1) (by omega) (by omega)
         have h4:=ha (j-1) j (by omega) (by omega)
         omega
     · rw[List.mem_append,List.mem_singleton,i2]
       constructor
       · rintro (⟨i,h1,h2⟩ | h1)
         · exact ⟨i,by omega,h2⟩
         · exact ⟨j,by omega,h1.symm⟩
       · rintro ⟨i,h1,h2⟩
         by_cases hi:i=j
         · subst hi;exact .inr h2.symm
         · exact .inl ⟨i,by omega,h2⟩
   · rw[if_neg c]
     have c1:j≠0:=fun h=>c (.inl h)
     have c2:a j=a (j-1):=Classical.byContradiction fun h=>c (.inr h)
     refine ⟨i1,fun x=>?_⟩
     rw[i2]
     constructor
     · rintro ⟨i,h1,h2⟩;exact ⟨i,by omega,h2⟩
     · rintro ⟨i,h1,h2⟩
       by_cases hi:i=j
       · subst hi;exact ⟨i-1,by omega,by rw[← c2];exact h2⟩
       · exact ⟨i,by omega,h2⟩
theorem Ch (z g:Nat→Int):∀ j x,x ∈ zw z g j↔∃ i,i<j∧cQ z (g i).toNat=x
 | 0,x=>⟨(fun h=>by cases h),(fun ⟨i,h,_⟩=>by omega)⟩
 | j + 1,x=>by
   show x ∈ zw z g j++[_]↔_
   rw[List.mem_append,List.mem_singleton,Ch z g j]
   constructor
   · rintro (⟨i,h1,h2⟩ | h1)
     · exact ⟨i,by omega,h2⟩
     · exact ⟨j,by omega,h1.symm⟩
   · rintro ⟨i,h1,h2⟩
     by_cases hi:i=j
     · subst hi;exact .inr h2.symm
     · exact .inl ⟨i,by omega,h2⟩
theorem FA (l:Nat) (z:Nat→Int):(cX l z).Pairwise (· < ·)∧∀ x,x ∈ cX l z↔∃ i,i<l∧cQ z i≤bU z i∧cQ z i=x:=by
 have hA:(AN l z).length=(dl (gE z) l).length:=r9 _ _ _
 have hs:=FY (AN l z)
 have hsl:=Cu (AN l z)
 have hm:∀ i j,i≤j→j<(dl (gE z) l).length→an (gV (AN l z)) i≤an (gV (AN l z)) j:=fun i j h1 h2=>by
  rw[gu]
  dsimp only
  by_cases e:i=j
  · subst e;exact Int.le_refl _
  have:=List.pairwise_iff_getElem.1 hs i j (by omega) (by omega) (by omega)
  rw[List.getD_eq_getElem?_getD,List.getD_eq_getElem?_getD,List.getElem?_eq_getElem (by omega),List.getElem?_eq_getElem (by omega)]
  exact this
 obtain ⟨p1,p2⟩:=BD hm _ (Nat.le_refl _)
 refine ⟨p1,fun x=>?_⟩
 unfold cX
 rw[p2]
 have e1:(∃ i,i<(dl (gE z) l).length∧an (gV (AN l z)) i=x)↔x ∈ AN l z:=by
  rw[← (zW (AN l z)).mem_iff,List.mem_iff_getElem]
  constructor
  · rintro ⟨i,h1,h2⟩
    refine ⟨i,by omega,?_⟩
    rw[← h2,gu]
    dsimp only
    rw[List.getD_eq_getElem?_getD,List.getElem?_eq_getElem (by omega)];rfl
  · rintro ⟨i,h1,h2⟩
    refine ⟨i,by omega,?_⟩
    rw[← h2,gu]
    dsimp only
    rw[List.getD_eq_getElem?_getD,List.getElem?_eq_getElem (by omega)];rfl
 rw[e1]
 unfold AN
 rw[Ch]
 constructor
 · rintro ⟨i,h1,h2⟩
   have:=np (dl (gE z) l) i h1
   obtain ⟨q,q1,q2,q3⟩:=(p8 _ _ _).1 this
   rw[q1] at h2
   refine ⟨q,q2,?_,h2⟩
   unfold gE at q3
   split at q3
   · assumption
   · cases q3
 · rintro ⟨i,h1,h2,h3⟩
   have hin:(i:Int) ∈ dl (gE z) l:=(p8 _ _ _).2 ⟨i,rfl,h1,by unfold gE;rw[if_pos h2]⟩
   obtain ⟨q,q1,q2⟩:=List.mem_iff_getElem.1 hin
   refine ⟨q,q1,?_⟩
   rw[gu]
   dsimp only
   rw[List.getD_eq_getElem?_getD,List.getElem?_eq_getElem q1,q2]
   exact h3
theorem HL {l:Nat} {z:Nat→Int} (h:bp l z=0):(cX l z).length≤14:=by
 have:=sK (gE z) l
 have h2:=wu (an (gV (AN l z))) (dl (gE z) l).length
 have h3:=(bM h).1
 unfold cX
 omega
theorem Kf {l:Nat} {z:Nat→Int} {P:Nat→Int} (hP:∀ i,i<(cX l z).length→P i=(cX l z).getD i 0) :
 (∀ i j,i<j→j<(cX l z).length→P i<P j)∧(∀ i,i<l→cQ z i≤bU z i→∃ j,j<(cX l z).length∧P j=cQ z i)∧∀ j,j<(cX l z).length→∃ i,i<l∧cQ z i≤bU z i∧P j=cQ z i:=by
 obtain ⟨p1,p2⟩:=FA l z
 have hg:∀ i (h:i<(cX l z).length),P i=(cX l z)[i]:=fun i h=>by
  rw[hP i h,List.getD_eq_getElem?_getD,List.getElem?_eq_getElem h];rfl
 refine ⟨fun i j hij hj=>?_,fun i hi hc=>?_,fun j hj=>?_⟩
 · rw[hg i (by omega),hg j hj]
   exact List.pairwise_iff_getElem.1 p1 i j (by omega) hj hij
 · obtain ⟨j,j1,j2⟩:=List.mem_iff_getElem.1 ((p2 _).2 ⟨i,hi,hc,rfl⟩)
   exact ⟨j,j1,by rw[hg j j1,j2]⟩
 · obtain ⟨i,i1,i2,i3⟩:=(p2 _).1 (List.getElem_mem hj)
   exact ⟨i,i1,i2,by rw[hg j hj,i3]⟩
end Go.Eng
end
section
namespace Go.Eng
open Go.Proofs
theorem Gx {h:List Int→Bool} {g:List Int→Int} {c:Nat} (hE:∃ es,oM (.str 2) es h g c) (h0:h [-1,0]=true):∃ r,sj h g r:=by
 obtain ⟨es,hE⟩:=hE
 obtain ⟨ks,k1,k2,k3,k4⟩:=BF hE (List.range es.length) (fun j hj=>by simpa using hj)
 obtain ⟨s1,s2⟩:=mh (g:=g) ks (-1,0)
 refine ⟨Bz g ks (-1,0),?_,fun e he=>s2 e (.inr ?_)⟩
 · rcases s1 with s1 | s1
   · rw[s1];exact h0
   · exact k2 _ s1
 · obtain ⟨_,j,j1,j2⟩:=hE.all _ he
   obtain ⟨e',e1,e2⟩:=k3 j (by simpa using j1) _ j2
   simp only[List.cons.injEq,and_true] at e2
   rw[show e=e' from Prod.ext e2.1 e2.2]
   exact e1
structure Mo (l:Nat) (z:Nat→Int) (K:Nat) (M:Int) (B:List Int):Prop where
 most:pV l (cQ z) (bU z) (gI z) K M
 wo:Bi l (cQ z) (bU z) (gI z) B=M
 len:B.length≤K
 srt:B.Pairwise (· < ·)
 rg:∀ x ∈ B,-10000≤x∧x≤10000
theorem Ik (P:Nat→Int) (b:Int→Nat→Int) (k:Nat) (p:Int):((List.range k).map fun j=>P (oL b k p j).toNat).reverse=Ah P b k p:=by
 refine List.ext_getElem (by simp[lQ]) (fun i h1 h2=>?_)
 rw[lQ] at h2
 have:=F6 P b k p i h2
 rw[List.getD_eq_getElem?_getD,List.getElem?_eq_getElem (by rw[lQ];exact h2)] at this
 simp only[Option.getD_some] at this
 rw[this]
 simp
theorem Gb {l:Nat} {z:Nat→Int} (h:bp l z=0):∀ i,i<l→0≤gI z i:=fun i hi=>by
 have:=(bM h).2 i hi
 unfold gI;omega
theorem LF {l:Nat} {z:Nat→Int} (h:bp l z=0) {i:Nat} (hi:i<l) (hc:cQ z i≤bU z i):-10000≤cQ z i∧cQ z i≤10000∧bU z i≤10000:=by
 have:=(bM h).2 i hi
 unfold cQ bU at *;omega
theorem LN {l K m:Nat} {z P:Nat→Int} (h:bp l z=0) (hm:m=(cX l z).length) (hP:∀ i,i<(cX l z).length→P i=(cX l z).getD i 0) :
 ∃ (p:Int) (k:Nat),sj (gb (eM l z P) K m cR).h (gb (eM l z P) K m cR).g (p,(k:Int))∧k≤K ∧
  (∀ j,j<k→0≤oL (fun q i=>(gb (eM l z P) K m cR).g2 [q,(i:Int)]) k p j∧oL (fun q i=>(gb (eM l z P) K m cR).g2 [q,(i:Int)]) k p j<m) ∧
  oL (fun q i=>(gb (eM l z P) K m cR).g2 [q,(i:Int)]) k p k=-1 ∧
  Mo l z K ((gb (eM l z P) K m cR).g [p,(k:Int)]) (Ah P (fun q i=>(gb (eM l z P) K m cR).g2 [q,(i:Int)]) k p):=by
 obtain ⟨P1,P2,P3⟩:=Kf hP
 rw[← hm] at P1 P2 P3
 have t:=Kt l (cQ z) (bU z) (gI z) P m K
 have hB:=Jh (a:=xL l (cQ z) (bU z) (gI z) P) (W:=rF (gI z) l) (fun f p=>DV (Gb h) f p) (K:=K) m
 have hE:=JC (a:=xL l (cQ z) (bU z) (gI z) P) (K:=K) m
 show ∃ (p:Int) (k:Nat),sj (gb (xL l (cQ z) (bU z) (gI z) P) K m cR).h (gb (xL l (cQ z) (bU z) (gI z) P) K m cR).g (p,(k:Int))∧k≤K ∧
  (∀ j,j<k→0≤oL (fun q i=>(gb (xL l (cQ z) (bU z) (gI z) P) K m cR).g2 [q,(i:Int)]) k p j∧oL (fun q i=>(gb (xL l (cQ z) (bU z) (gI z) P) K m cR).g2 [q,(i:Int)]) k p j<m) ∧
  oL (fun q i=>(gb (xL l (cQ z) (bU z) (gI z) P) K m cR).g2 [q,(i:Int)]) k p k=-1 ∧
  Mo l z K ((gb (xL l (cQ z) (bU z) (gI z) P) K m cR).g [p,(k:Int)]) (Ah P (fun q i=>(gb (xL l (cQ z) (bU z) (gI z) P) K m cR).g2 [q,(i:Int)]) k p)
 generalize gb (xL l (cQ z) (bU z) (gI z) P) K m cR=S at *
 obtain ⟨⟨p,q⟩,hr⟩:=Gx hE t.at0.1
 have hq:=hB p q hr.1
 obtain ⟨k,rfl⟩:∃ k:Nat,q=k:=⟨q.toNat,by omega⟩
 have hh:(fun (p:Int) (n:Nat)=>S.h [p,(n:Int)]) p k=true:=hr.1
 have hk:k≤K:=by
  rcases t.from_ p k hh with ⟨_,e⟩ | ⟨_,_,_,e,_⟩<;>omega
 have hg:∀ q k',S.h [q,((k':Nat):Int)]=true→S.g [q,(k':Int)]≤S.g [p,(k:Int)]:=fun q k' hq=>by
  have:=sA.1 (hr.2 (q,(k':Int)) hq)
  dsimp only at this
  omega
 obtain ⟨w1,w2,w3,_⟩:=F1 t P1 k p hh
 have a1:=fun j hj=>Be t hh j hj
 refine ⟨p,k,hr,hk,fun j hj=>(a1 j (by omega)).2 hj,F2 t hh,⟨Ii t P1 (Gb h) P2 hh hk hg,w1,by rw[lQ];exact hk,w3,fun x hx=>?_⟩⟩
 obtain ⟨i,i1,_,rfl⟩:=w2 x hx
 obtain ⟨j,j1,j2,j3⟩:=P3 i i1
 have:=LF h j1 j2
 omega
end Go.Eng
end
section
namespace Go.Eng
open Go.Proofs
open Go.Proofs.YtigmfpmabgekoaaGreat.Known (mostS mostL most)
theorem LU (n s l m:Nat) (y P:Nat→Int) (K:Int) (H:aa):aX (bz n 79 156) (il (tX (tX aU 81 [iJ (s+1) l y] (Ai 0 (.nils))) 92 [Ai 0 (.nils)] (.nils)) n 0) aZ a6 (part Tryz.f79 [1,0]) (hints [(0,iJ (s+1) l y),(1,.int .i64 K)]) (aB::H) =
 Tr.reqP ([AV.ptrT (some (Nat.succ s)) (Row.G [aJ 7 l y]) 0]=[AV.ptrT (some (Nat.succ s)) (Row.G [aJ 7 l y]) 0]) (Tr.reqP ([AV.fn (Fn.func 112) [] [AV.ptrT (some 0) (Row.G [AV.nils]) 0]]=[AV.fn (Fn.func 112) [] [AV.ptrT (some 0) (Row.G [AV.nils]) 0]]) (Tr.ok (Ex.normal,[(0,AV.ptrT (some (Nat.succ s)) (Row.G [aJ 7 l y]) 0,none),(1,AV.int .i64 K,none),(6,AV.nils,none)],aB::H))):=by kernel_rfl
theorem LV (n s l m:Nat) (y P:Nat→Int) (K:Int) (H:aa):aX (bz n 79 156) (il aU n 0) aZ a6 (part Tryz.f79 [1,1,0]) (hints [(0,iJ (s+1) l y),(1,.int .i64 K),(6,.nils)]) (aB::H) =
 Tr.ok (Ex.normal,[(0,AV.ptrT (some (Nat.succ s)) (Row.G [aJ 7 l y]) 0,none),(1,AV.int .i64 K,none),(6,AV.nils,none),(7,AV.map 0 0,none)],{ lock:=false,bs:=[(0,ak.fmap (KK.str 2) (m7 (fun x=>false) [Int.negSucc 0,Int.ofNat 0] true) (nQ (fun x=>Int.ofNat 0) [Int.negSucc 0,Int.ofNat 0] (Int.ofNat 0)) (qR false 0))] } :: H):=by kernel_rfl
theorem LW (n s l m:Nat) (y P:Nat→Int) (K:Int) (h:List Int→Bool) (g:List Int→Int) (c:Nat) (H:aa):aX (bz n 79 156) (il aU n 0) aZ a6 (part Tryz.f79 [1,1,1,0]) (hints [(0,iJ (s+1) l y),(1,.int .i64 K),(6,.nils),(7,.map 0 0)]) (⟨false,[(0,.fmap (.str 2) h g c)]⟩::H) =
 Tr.ok (Ex.normal,[(0,AV.ptrT (some (Nat.succ s)) (Row.G [aJ 7 l y]) 0,none),(1,AV.int .i64 K,none),(6,AV.nils,none),(7,AV.map 0 0,none),(8,AV.map 0 1,none)],{ lock:=false,bs:=[(0,ak.fmap (KK.str 2) h g c),(0,ak.fmap (KK.str 2) (fun x=>false) (fun x=>Int.ofNat 0) 0)] } :: H):=by kernel_rfl
theorem LX (n s l m:Nat) (y P:Nat→Int) (K:Int) (h:List Int→Bool) (g:List Int→Int) (c:Nat) (h2:List Int→Bool) (g2:List Int→Int) (c2:Nat) (H:aa):aX (bz n 79 156) (il aU n 0) aZ a6 (part Tryz.f79 [1,1,1,1,0]) (hints [(0,iJ (s+1) l y),(1,.int .i64 K),(6,.nils),(7,.map 0 0),(8,.map 0 1)]) (dM h g c h2 g2 c2 []::H) =
 Tr.ok (Ex.normal,[(0,AV.ptrT (some (Nat.succ s)) (Row.G [aJ 7 l y]) 0,none),(1,AV.int .i64 K,none),(6,AV.nils,none),(7,AV.map 0 0,none),(8,AV.map 0 1,none),(32,AV.int .i64 (Int.ofNat 0),some 1),(33,AV.int .i64 (Int.ofNat 0),some 1),(34,AV.bool false,some 1)],{ lock:=false,bs:=[(0,ak.fmap (KK.str 2) h g c),(0,ak.fmap (KK.str 2) h2 g2 c2)] } :: H):=by kernel_rfl
theorem L4 (n s l m:Nat) (y P:Nat→Int) (K:Int) (h:List Int→Bool) (g:List Int→Int) (c:Nat) (h2:List Int→Bool) (g2:List Int→Int) (c2:Nat) (H:aa):aX (bz n 79 156) (il aU n 0) aZ a6 (part Tryz.f79 [1,1,1,1,1,0]) (hints [(0,iJ (s+1) l y),(1,.int .i64 K),(6,.nils),(7,.map 0 0),(8,.map 0 1),(32,.int .i64 (Int.ofNat 0)),(33,.int .i64 (Int.ofNat 0)),(34,.bool false)]) (dM h g c h2 g2 c2 []::H) =
 Tr.ok (Ex.normal,[(6,AV.nils,none),(7,AV.map 0 0,none),(8,AV.map 0 1,none),(17,AV.ptr 0 2 0 0,none)],{ lock:=false,bs:=[(0,ak.fmap (KK.str 2) h g c),(0,ak.fmap (KK.str 2) h2 g2 c2),(0,ak.row (Row.I .i64 [Int.negSucc 0,Int.ofNat 0]))] } :: H):=by kernel_rfl
theorem IQ (n m:Nat) (P:Nat→Int) (h:List Int→Bool) (g:List Int→Int) (c:Nat) (h2:List Int→Bool) (g2:List Int→Int) (c2:Nat) (x y:Int) (H:aa):(Go.Proofs.YtigmfpmabgekoaaGreat.Known.mostS).A0 (bz n 79 156) (il aU n 0) (hints [(6,.nils),(7,.map 0 0),(8,.map 0 1),(17,.ptr 0 2 0 0)]) (dM h g c h2 g2 c2 [eY x y]::H) =
 Tr.ok ([(6,AV.nils,none),(7,AV.map 0 0,none),(8,AV.map 0 1,none),(17,AV.ptr 0 2 0 0,none),(90,AV.map 0 0,none)],{ lock:=false,bs:=[(0,ak.fmap (KK.str 2) h g c),(0,ak.fmap (KK.str 2) h2 g2 c2),(0,ak.row (Row.I .i64 [x,y]))] } :: H):=by kernel_rfl
theorem L7 (n m:Nat) (P:Nat→Int) (h:List Int→Bool) (g:List Int→Int) (c:Nat) (h2:List Int→Bool) (g2:List Int→Int) (c2:Nat) (b1 b2 b3:List (Nat×ak)) (a b v x y:Int):(Go.Proofs.YtigmfpmabgekoaaGreat.Known.mostL).oD (bz n 79 156) (il aU n 0) aZ a6 3 4 (.agg (.I .i64 [a,b]),.int .i64 v) (hints [(6,.nils),(7,.map 4 0),(8,.map 0 1),(17,.ptr 0 2 0 0),(91,.ptr 0 3 0 0)]) (⟨false,[(0,.dead),(0,.fmap (.str 2) h2 g2 c2),eY x y,(0,.dead)]⟩::[⟨true,b1⟩,⟨true,b2⟩,⟨true,b3⟩,iD (.fmap (.str 2) h g c)]) =
 (fun (Z0:aM)=>((fun (Z1:bn)=>((fun (Z2:bn)=>((fun (Z3:bn)=>Tr.ite (dq (g [x,y]) v) (Tr.ok (Z0,[Z2,{ lock:=true,bs:=b1 },{ lock:=true,bs:=b2 },{ lock:=true,bs:=b3 },Z1])) (Tr.ite (dm v (g [x,y])) (Tr.ite (dq b y) (Tr.ok (Z0,[Z2,{ lock:=true,bs:=b1 },{ lock:=true,bs:=b2 },{ lock:=true,bs:=b3 },Z1])) (Tr.ite (dm b y) (Tr.ite (dq a x) (Tr.ok (Z0,[Z2,{ lock:=true,bs:=b1 },{ lock:=true,bs:=b2 },{ lock:=true,bs:=b3 },Z1])) (Tr.ok (Z0,[Z3,{ lock:=true,bs:=b1 },{ lock:=true,bs:=b2 },{ lock:=true,bs:=b3 },Z1]))) (Tr.ok (Z0,[Z3,{ lock:=true,bs:=b1 },{ lock:=true,bs:=b2 },{ lock:=true,bs:=b3 },Z1])))) (Tr.ok (Z0,[Z3,{ lock:=true,bs:=b1 },{ lock:=true,bs:=b2 },{ lock:=true,bs:=b3 },Z1])))) { lock:=false,bs:=[(0,ak.dead),(0,ak.fmap (KK.str 2) h2 g2 c2),(0,ak.row (Row.I .i64 [x,y])),(0,ak.dead)] })) { lock:=false,bs:=[(0,ak.dead),(0,ak.fmap (KK.str 2) h2 g2 c2),(0,ak.row (Row.I .i64 [a,b])),(0,ak.dead)] })) { lock:=true,bs:=[(0,ak.fmap (KK.str 2) h g c)] })) [(6,AV.nils,none),(7,AV.map 4 0,none),(8,AV.map 0 1,none),(17,AV.ptr 0 2 0 0,none),(91,AV.ptr 0 3 0 0,none)]:=by kernel_rfl
theorem L8 (n m:Nat) (P:Nat→Int) (h:List Int→Bool) (g:List Int→Int) (c:Nat) (h2:List Int→Bool) (g2:List Int→Int) (c2:Nat) (b1 b2 b3:List (Nat×ak)) (a b v x y:Int):(Go.Proofs.YtigmfpmabgekoaaGreat.Known.mostL).oD (bz n 79 156) (il aU n 0) aZ a6 3 4 (.agg (.I .i64 [a,b]),.int .i64 v) (hints [(6,.nils),(7,.map 4 0),(8,.map 0 1),(17,.ptr 0 2 0 0),(90,.map 4 0),(91,.ptr 0 3 0 0)]) (⟨false,[(0,.dead),(0,.fmap (.str 2) h2 g2 c2),eY x y,(0,.dead)]⟩::[⟨true,b1⟩,⟨true,b2⟩,⟨true,b3⟩,iD (.fmap (.str 2) h g c)]) =
 (fun (Z0:aM)=>((fun (Z1:bn)=>((fun (Z2:bn)=>((fun (Z3:bn)=>Tr.ite (dq (g [x,y]) v) (Tr.ok (Z0,[Z2,{ lock:=true,bs:=b1 },{ lock:=true,bs:=b2 },{ lock:=true,bs:=b3 },Z1])) (Tr.ite (dm v (g [x,y])) (Tr.ite (dq b y) (Tr.ok (Z0,[Z2,{ lock:=true,bs:=b1 },{ lock:=true,bs:=b2 },{ lock:=true,bs:=b3 },Z1])) (Tr.ite (dm b y) (Tr.ite (dq a x) (Tr.ok (Z0,[Z2,{ lock:=true,bs:=b1 },{ lock:=true,bs:=b2 },{ lock:=true,bs:=b3 },Z1])) (Tr.ok (Z0,[Z3,{ lock:=true,bs:=b1 },{ lock:=true,bs:=b2 },{ lock:=true,bs:=b3 },Z1]))) (Tr.ok (Z0,[Z3,{ lock:=true,bs:=b1 },{ lock:=true,bs:=b2 },{ lock:=true,bs:=b3 },Z1])))) (Tr.ok (Z0,[Z3,{ lock:=true,bs:=b1 },{ lock:=true,bs:=b2 },{ lock:=true,bs:=b3 },Z1])))) { lock:=false,bs:=[(0,ak.dead),(0,ak.fmap (KK.str 2) h2 g2 c2),(0,ak.row (Row.I .i64 [x,y])),(0,ak.dead)] })) { lock:=false,bs:=[(0,ak.dead),(0,ak.fmap (KK.str 2) h2 g2 c2),(0,ak.row (Row.I .i64 [a,b])),(0,ak.dead)] })) { lock:=true,bs:=[(0,ak.fmap (KK.str 2) h g c)] })) [(6,AV.nils,none),(7,AV.map 4 0,none),(8,AV.map 0 1,none),(17,AV.ptr 0 2 0 0,none),(91,AV.ptr 0 3 0 0,none)]:=by kernel_rfl
theorem L5 (n D m:Nat) (P:Nat→Int) (h2:List Int→Bool) (g2:List Int→Int) (c2:Nat) (R:aa) (x y:Int):(Go.Proofs.YtigmfpmabgekoaaGreat.Known.mostL).yQ (bz n 79 156) (il aU n 0) (hints [(6,.nils),(7,.map D 0),(8,.map 0 1),(17,.ptr 0 2 0 0),(91,.ptr 0 3 0 0)]) (⟨false,[(0,.dead),(0,.fmap (.str 2) h2 g2 c2),eY x y,(0,.dead)]⟩::R) =
 Tr.ok ([(6,AV.nils,none),(7,AV.map D 0,none),(8,AV.map 0 1,none),(17,AV.ptr 0 2 0 0,none),(91,AV.ptr 0 3 0 0,none),(92,AV.tup [AV.bool false],none),(93,AV.bool false,none)],{ lock:=false,bs:=[(0,ak.dead),(0,ak.fmap (KK.str 2) h2 g2 c2),(0,ak.row (Row.I .i64 [x,y])),(0,ak.dead)] } :: R):=by kernel_rfl
end Go.Eng
end
section
namespace Go.Eng
open Go.Proofs
noncomputable def s6 (m:Nat) (P:Nat→Int):av:=[(6,.nils),(7,.map 4 0),(8,.map 0 1),(17,.ptr 0 2 0 0),(91,.ptr 0 3 0 0)]
noncomputable def vk (m:Nat) (P:Nat→Int):av:=[(6,.nils),(7,.map 4 0),(8,.map 0 1),(17,.ptr 0 2 0 0),(90,.map 4 0),(91,.ptr 0 3 0 0)]
section
variable (n m:Nat) (P:Nat→Int) (h:List Int→Bool) (g:List Int→Int) (c:Nat) (h2:List Int→Bool) (g2:List Int→Int) (c2:Nat) (b1 b2 b3:List (Nat×ak))
theorem Mb (x e:Int×Int):cV mL (bz n 79 156) 3 4 (pS b1 b2 b3 h g c) (yO g e) (s6 m P,fi h2 g2 c2 x)=some (s6 m P,fi h2 g2 c2 (if ur g e x=true then e else x)):=by
 obtain ⟨x,y⟩:=x
 obtain ⟨a,b⟩:=e
 refine xn (L7 n m P h g c h2 g2 c2 b1 b2 b3 a b (g [a,b]) x y) (aO n) (ag _ _) (ah _ _) ?_
 have hb:=ng (g:=g) (x:=(a,b)) (y:=(x,y))
 dsimp only at hb
 rw[eV,eV,eV,cg,cg]
 by_cases k1:g [x,y]<g [a,b]
 · rw[decide_eq_true k1,if_pos (hb.2 (.inl k1))]
   exact Tr.al (fun _=>Tr.aw ⟨rfl,rfl⟩) (fun hc=>by cases hc)
 · rw[decide_eq_false k1]
   refine Tr.al (fun hc=>by cases hc) (fun _=>?_)
   by_cases k2:g [a,b]=g [x,y]
   · rw[show (g [a,b] == g [x,y])=true from beq_iff_eq.2 k2]
     refine Tr.al (fun _=>?_) (fun hc=>by cases hc)
     by_cases k3:b<y
     · rw[decide_eq_true k3,if_pos (hb.2 (.inr ⟨k2,.inl k3⟩))]
       exact Tr.al (fun _=>Tr.aw ⟨rfl,rfl⟩) (fun hc=>by cases hc)
     · rw[decide_eq_false k3]
       refine Tr.al (fun hc=>by cases hc) (fun _=>?_)
       by_cases k4:b=y
       · rw[show (b == y)=true from beq_iff_eq.2 k4]
         refine Tr.al (fun _=>?_) (fun hc=>by cases hc)
         by_cases k5:a<x
         · rw[decide_eq_true k5,if_pos (hb.2 (.inr ⟨k2,.inr ⟨k4,k5⟩⟩))]
           exact Tr.al (fun _=>Tr.aw ⟨rfl,rfl⟩) (fun hc=>by cases hc)
         · rw[decide_eq_false k5,if_neg (fun q=>by have:=hb.1 q;omega)]
           exact Tr.al (fun hc=>by cases hc) (fun _=>Tr.aw ⟨rfl,rfl⟩)
       · rw[show (b == y)=false from beq_eq_false_iff_ne.2 k4,if_neg (fun q=>by have:=hb.1 q;omega)]
         exact Tr.al (fun hc=>by cases hc) (fun _=>Tr.aw ⟨rfl,rfl⟩)
   · rw[show (g [a,b] == g [x,y])=false from beq_eq_false_iff_ne.2 k2,if_neg (fun q=>by have:=hb.1 q;omega)]
     exact Tr.al (fun hc=>by cases hc) (fun _=>Tr.aw ⟨rfl,rfl⟩)
theorem Kh (x e:Int×Int):cV mL (bz n 79 156) 3 4 (pS b1 b2 b3 h g c) (yO g e) (vk m P,fi h2 g2 c2 x)=some (s6 m P,fi h2 g2 c2 (if ur g e x=true then e else x)):=by
 obtain ⟨x,y⟩:=x
 obtain ⟨a,b⟩:=e
 refine xn (L8 n m P h g c h2 g2 c2 b1 b2 b3 a b (g [a,b]) x y) (aO n) (ag _ _) (ah _ _) ?_
 have hb:=ng (g:=g) (x:=(a,b)) (y:=(x,y))
 dsimp only at hb
 rw[eV,eV,eV,cg,cg]
 by_cases k1:g [x,y]<g [a,b]
 · rw[decide_eq_true k1,if_pos (hb.2 (.inl k1))]
   exact Tr.al (fun _=>Tr.aw ⟨rfl,rfl⟩) (fun hc=>by cases hc)
 · rw[decide_eq_false k1]
   refine Tr.al (fun hc=>by cases hc) (fun _=>?_)
   by_cases k2:g [a,b]=g [x,y]
   · rw[show (g [a,b] == g [x,y])=true from beq_iff_eq.2 k2]
     refine Tr.al (fun _=>?_) (fun hc=>by cases hc)
     by_cases k3:b<y
     · rw[decide_eq_true k3,if_pos (hb.2 (.inr ⟨k2,.inl k3⟩))]
       exact Tr.al (fun _=>Tr.aw ⟨rfl,rfl⟩) (fun hc=>by cases hc)
     · rw[decide_eq_false k3]
       refine Tr.al (fun hc=>by cases hc) (fun _=>?_)
       by_cases k4:b=y
       · rw[show (b == y)=true from beq_iff_eq.2 k4]
         refine Tr.al (fun _=>?_) (fun hc=>by cases hc)
         by_cases k5:a<x
         · rw[decide_eq_true k5,if_pos (hb.2 (.inr ⟨k2,.inr ⟨k4,k5⟩⟩))]
           exact Tr.al (fun _=>Tr.aw ⟨rfl,rfl⟩) (fun hc=>by cases hc)
         · rw[decide_eq_false k5,if_neg (fun q=>by have:=hb.1 q;omega)]
           exact Tr.al (fun hc=>by cases hc) (fun _=>Tr.aw ⟨rfl,rfl⟩)
       · rw[show (b == y)=false from beq_eq_false_iff_ne.2 k4,if_neg (fun q=>by have:=hb.1 q;omega)]
         exact Tr.al (fun hc=>by cases hc) (fun _=>Tr.aw ⟨rfl,rfl⟩)
   · rw[show (g [a,b] == g [x,y])=false from beq_eq_false_iff_ne.2 k2,if_neg (fun q=>by have:=hb.1 q;omega)]
     exact Tr.al (fun hc=>by cases hc) (fun _=>Tr.aw ⟨rfl,rfl⟩)
theorem BK:∀ (ks:List (Int×Int)) (x:Int×Int),dv mL (bz n 79 156) 3 4 (pS b1 b2 b3 h g c) (ks.map (yO g)) (s6 m P,fi h2 g2 c2 x)=some (s6 m P,fi h2 g2 c2 (Bz g ks x))
 | [],x=>rfl
 | e::ks,x=>by
   show (match cV mL (bz n 79 156) 3 4 (pS b1 b2 b3 h g c) (yO g e) (s6 m P,fi h2 g2 c2 x) with
    | some t=>dv mL (bz n 79 156) 3 4 (pS b1 b2 b3 h g c) (ks.map (yO g)) t
    | none=>none)=_
   rw[Mb]
   exact BK ks _
theorem Lx (x:Int×Int):mL.last (bz n 79 156) (s6 m P) (fi h2 g2 c2 x::pS b1 b2 b3 h g c)=some (s6 m P++[(92,.tup [.bool false]),(93,.bool false)],fi h2 g2 c2 x::pS b1 b2 b3 h g c) :=
 yP (L5 n 4 m P h2 g2 c2 (pS b1 b2 b3 h g c) x.1 x.2) (aO _) (Tr.aw rfl)
end
theorem GN (n m:Nat) (P:Nat→Int) (h:List Int→Bool) (g:List Int→Int) (c:Nat) (h2:List Int→Bool) (g2:List Int→Int) (c2:Nat) (b1 b2 b3:List (Nat×ak)) (x r:Int×Int) (hx:h [x.1,x.2]=true) (hr:sj h g r) :
 sl (bz n 79 156) mL 3 (pS b1 b2 b3 h g c) (vk m P,fi h2 g2 c2 x) (.str 2) h g c (s6 m P++[(92,.tup [.bool false]),(93,.bool false)],fi h2 g2 c2 r):=by
 refine ⟨rfl,fun es hE vs v1 v2 v3=>?_⟩
 obtain ⟨ks,l1,l2,l3,l4⟩:=BF hE vs v3
 have cov:∀ e:Int×Int,h [e.1,e.2]=true→e ∈ ks:=fun e he=>by
  obtain ⟨_,j,j1,j2⟩:=hE.all _ he
  obtain ⟨e',he',e2⟩:=l3 j (yo v1 v2 v3 j1) _ j2
  simp only[List.cons.injEq,and_true] at e2
  have:e=e':=Prod.ext e2.1 e2.2
  rw[this];exact he'
 obtain ⟨s1,s2⟩:=mh (g:=g) ks x
 have hb:Bz g ks x=r:=by
  refine BA (g:=g) ?_ (s2 r (.inr (cov r hr.1)))
  refine hr.2 _ ?_
  rcases s1 with e | e
  · rw[e];exact hx
  · exact l2 _ e
 rw[l1]
 have hf:dv mL (bz n 79 156) 3 4 (pS b1 b2 b3 h g c) (ks.map (yO g)) (vk m P,fi h2 g2 c2 x)=some (s6 m P,fi h2 g2 c2 (Bz g ks x)):=by
  cases ks with
  | nil=>exact (List.not_mem_nil (cov x hx)).elim
  | cons e ks =>
    show (match cV mL (bz n 79 156) 3 4 (pS b1 b2 b3 h g c) (yO g e) (vk m P,fi h2 g2 c2 x) with
     | some t=>dv mL (bz n 79 156) 3 4 (pS b1 b2 b3 h g c) (ks.map (yO g)) t
     | none=>none)=_
    rw[Kh]
    exact BK n m P h g c h2 g2 c2 b1 b2 b3 ks _
 refine ⟨_,hf,?_⟩
 rw[hb]
 exact Lx n m P h g c h2 g2 c2 b1 b2 b3 r
noncomputable def jX (m:Nat) (P:Nat→Int):av:=[(6,.nils),(7,.map 0 0),(8,.map 0 1),(17,.ptr 0 2 0 0)]
noncomputable def EB (m:Nat) (P:Nat→Int):av:=jX m P++[(91,.ptr 0 3 0 0),(92,.tup [.bool false]),(93,.bool false)]
theorem FE (n m:Nat) (P:Nat→Int) (S:MS) (k1 k2 k3:Bool) (b1 b2 b3:List (Nat×ak)) (x r:Int×Int) (hE:∃ es,oM (.str 2) es S.h S.g S.c) (hx:S.h [x.1,x.2]=true) (hr:sj S.h S.g r) :
 gR (bz n 79 156) mS mL (jX m P) (kf S [eY x.1 x.2]::[⟨k1,b1⟩,⟨k2,b2⟩,⟨k3,b3⟩])=some (EB m P,kf S [eY r.1 r.2,(0,.dead)]::[⟨k1,b1⟩,⟨k2,b2⟩,⟨k3,b3⟩]):=by
 have hp:cO (bz n 79 156).P (bz n 79 156).nt (bz n 79 156).call mS.ops0 mS.pre (jX m P) (kf S [eY x.1 x.2]::[⟨k1,b1⟩,⟨k2,b2⟩,⟨k3,b3⟩])=some (jX m P++[(90,.map 0 0)],kf S [eY x.1 x.2]::[⟨k1,b1⟩,⟨k2,b2⟩,⟨k3,b3⟩]):=by
  have:=bD.r8 (S:=mS) (cx:=bz n 79 156) (callR:=il aU n 0) (aO _) (fr:=hints (jX m P)) (H:=kf S [eY x.1 x.2]::[⟨k1,b1⟩,⟨k2,b2⟩,⟨k3,b3⟩]) (by
   show (bD.A0 _ _ _ _ _).run=_
   have:=IQ n m P S.h S.g S.c S.h2 S.g2 S.c2 x.1 x.2 [⟨k1,b1⟩,⟨k2,b2⟩,⟨k3,b3⟩]
   exact congrArg Tr.run this)
  rw[aY] at this
  exact this
 have hends:=GN n m P S.h S.g S.c S.h2 S.g2 S.c2 b1 b2 b3 x r hx hr
 unfold gR
 rw[hp]
 show (@dite _ (∃ y,sl (bz n 79 156) mL 3 (pS b1 b2 b3 S.h S.g S.c) (vk m P,fi S.h2 S.g2 S.c2 x) (.str 2) S.h S.g S.c y) (Classical.propDecidable _)
  (fun hx=>if (Classical.choose hx).2.bs.all (fun x=>qV 4 0 x.2) && ((j6 (su 4 0) (Classical.choose hx).1).all (fun x=>lV 4 0 x.2) && eT (ao (Classical.choose hx).2.bs 0).2) then some (j6 (su 4 0) (Classical.choose hx).1,dB ((Classical.choose hx).2::[⟨k1,b1⟩,⟨k2,b2⟩,⟨k3,b3⟩]) 0 0 (0,.fmap (.str 2) S.h S.g S.c)) else none)
  (fun _=>none))=_
 have hex:∃ y,sl (bz n 79 156) mL 3 (pS b1 b2 b3 S.h S.g S.c) (vk m P,fi S.h2 S.g2 S.c2 x) (.str 2) S.h S.g S.c y:=⟨_,hends⟩
 have hy:Classical.choose hex=(s6 m P++[(92,.tup [.bool false]),(93,.bool false)],fi S.h2 S.g2 S.c2 r):=by
  have hc:=Classical.choose_spec hex
  obtain ⟨es,hE⟩:=hE
  obtain ⟨s1,e1,e2⟩:=hc.2 es hE (List.range es.length) List.nodup_range (by simp) (fun j hj=>by simpa using hj)
  obtain ⟨s2,f1,f2⟩:=hends.2 es hE (List.range es.length) List.nodup_range (by simp) (fun j hj=>by simpa using hj)
  rw[e1] at f1
  obtain rfl:=Option.some.inj f1
  rw[e2] at f2
  simp only[Option.some.injEq,Prod.mk.injEq,List.cons.injEq,and_true] at f2
  exact Prod.ext f2.1 f2.2
 rw[dif_pos hex,hy]
 refine (if_pos ?_).trans ?_
 · rfl
 · rfl
end Go.Eng
end
section
namespace Go.Eng
open Go.Proofs
theorem PF (n s l m:Nat) (y P Q:Nat→Int) (K:Int) (H:aa):aX (bz n 79 156) (il (tX (tX aU 81 [iJ (s+1) l y] (Ai 0 (cI m P false))) 92 [Ai 0 (cI m P false)] (cI m Q false)) n 0) aZ a6 (part Tryz.f79 [1,0]) (hints [(0,iJ (s+1) l y),(1,.int .i64 K)]) (aB::H) =
 (fun (Z0:Row)=>((fun (Z1:List AV)=>Tr.reqP ([AV.ptrT (some (Nat.succ s)) Z0 0]=[AV.ptrT (some (Nat.succ s)) Z0 0]) (Tr.reqP (Z1=Z1) (Tr.ok (Ex.normal,[(0,AV.ptrT (some (Nat.succ s)) Z0 0,none),(1,AV.int .i64 K,none),(6,AV.slcT none (Row.M [aW.arr .i64 Q m]) 1 m false,none)],aB::H)))) [AV.fn (Fn.func 112) [] [AV.ptrT (some 0) (Row.G [AV.slcT none (Row.M [aW.arr .i64 P m]) 1 m false]) 0]])) (Row.G [AV.slcT none (Row.M [aW.arr .i64 y (aD l 7)]) 7 l false]):=by kernel_rfl
theorem PG (n s l m:Nat) (y P:Nat→Int) (K:Int) (H:aa):aX (bz n 79 156) (il aU n 0) aZ a6 (part Tryz.f79 [1,1,0]) (hints [(0,iJ (s+1) l y),(1,.int .i64 K),(6,cI m P false)]) (aB::H) =
 Tr.ok (Ex.normal,[(0,AV.ptrT (some (Nat.succ s)) (Row.G [AV.slcT none (Row.M [aW.arr .i64 y (aD l 7)]) 7 l false]) 0,none),(1,AV.int .i64 K,none),(6,AV.slcT none (Row.M [aW.arr .i64 P m]) 1 m false,none),(7,AV.map 0 0,none)],{ lock:=false,bs:=[(0,ak.fmap (KK.str 2) (m7 (fun x=>false) [Int.negSucc 0,Int.ofNat 0] true) (nQ (fun x=>Int.ofNat 0) [Int.negSucc 0,Int.ofNat 0] (Int.ofNat 0)) (qR false 0))] } :: H):=by kernel_rfl
theorem PH (n s l m:Nat) (y P:Nat→Int) (K:Int) (h:List Int→Bool) (g:List Int→Int) (c:Nat) (H:aa):aX (bz n 79 156) (il aU n 0) aZ a6 (part Tryz.f79 [1,1,1,0]) (hints [(0,iJ (s+1) l y),(1,.int .i64 K),(6,cI m P false),(7,.map 0 0)]) (⟨false,[(0,.fmap (.str 2) h g c)]⟩::H) =
 Tr.ok (Ex.normal,[(0,AV.ptrT (some (Nat.succ s)) (Row.G [AV.slcT none (Row.M [aW.arr .i64 y (aD l 7)]) 7 l false]) 0,none),(1,AV.int .i64 K,none),(6,AV.slcT none (Row.M [aW.arr .i64 P m]) 1 m false,none),(7,AV.map 0 0,none),(8,AV.map 0 1,none)],{ lock:=false,bs:=[(0,ak.fmap (KK.str 2) h g c),(0,ak.fmap (KK.str 2) (fun x=>false) (fun x=>Int.ofNat 0) 0)] } :: H):=by kernel_rfl
theorem PS (n m v k:Nat) (P b b':Nat→Int) (h:List Int→Bool) (g:List Int→Int) (c:Nat) (h2:List Int→Bool) (g2:List Int→Int) (c2:Nat) (x y:Int) (H:aa):aX (bz n 79 156) (il (jc aU 94 (Q0 v k b b' h g c h2 g2 c2 (-1) 0 H)) n 0) (gf aZ 8 (kA m P .nils (g [x,y])) (dM h g c h2 g2 c2 [eY x y,(0,.dead),eY (-1) 0]::H) (.ok (.normal,hints (kA m P (.slc 0 5 v 0 1 k none) (g [x,y])++[(136,.bool false)]),dM h g c h2 g2 c2 [eY (-1) 0,(0,.dead),eY (-1) 0,(v,.row (.M [.arr .i64 b k]))]::H))) a6 (part Tryz.f79 [1,1,1,1,1,1,1]) (hints (yl m P)) (dM h g c h2 g2 c2 [eY x y,(0,.dead)]::H) =
 (fun (Z0:Nat×ak)=>((fun (Z1:av)=>((fun (Z2:bn)=>((fun (Z3:bn)=>Tr.reqP (Z1=Z1∧Z3::H=Z3::H) (Tr.reqP ([AV.slc 0 5 v 0 1 k none]=[AV.slc 0 5 v 0 1 k none]∧Z2::H=Z2::H) (Tr.ok (Ex.ret,[(4,AV.int .i64 (g [x,y]),none),(5,AV.slc 0 5 v 0 1 k none,none)],{ lock:=false,bs:=[(0,ak.fmap (KK.str 2) h g c),(0,ak.fmap (KK.str 2) h2 g2 c2),Z0,(0,ak.dead),Z0,(v,ak.row (Row.M [aW.arr .i64 b' k]))] } :: H)))) { lock:=false,bs:=[(0,ak.fmap (KK.str 2) h g c),(0,ak.fmap (KK.str 2) h2 g2 c2),(0,ak.row (Row.I .i64 [x,y])),(0,ak.dead),Z0] })) { lock:=false,bs:=[(0,ak.fmap (KK.str 2) h g c),(0,ak.fmap (KK.str 2) h2 g2 c2),Z0,(0,ak.dead),Z0,(v,ak.row (Row.M [aW.arr .i64 b k]))] })) [(6,AV.slcT none (Row.M [aW.arr .i64 P m]) 1 m false),(8,AV.map 0 1),(17,AV.ptr 0 2 0 0),(21,AV.int .i64 (g [x,y])),(22,AV.nils),(23,AV.ptr 0 4 0 0)])) (0,ak.row (Row.I .i64 [Int.negSucc 0,Int.ofNat 0])):=by kernel_rfl
theorem PU (n m:Nat) (P:Nat→Int) (h:List Int→Bool) (g:List Int→Int) (c:Nat) (h2:List Int→Bool) (g2:List Int→Int) (c2:Nat) (x y:Int) (H:aa):aX (bz n 79 156) (il (tX aU 94 [.nils] (.tup [])) n 0) (gf aZ 8 (kA m P .nils (g [x,y])) (dM h g c h2 g2 c2 [eY x y,(0,.dead),eY (-1) 0]::H) (.ok (.normal,hints (kA m P .nils (g [x,y])++[(136,.bool false)]),dM h g c h2 g2 c2 [eY (-1) 0,(0,.dead),eY (-1) 0]::H))) a6 (part Tryz.f79 [1,1,1,1,1,1,1]) (hints (yl m P)) (dM h g c h2 g2 c2 [eY x y,(0,.dead)]::H) =
 (fun (Z0:bn)=>((fun (Z1:av)=>Tr.reqP (Z1=Z1∧Z0::H=Z0::H) (Tr.reqP ([AV.nils]=[AV.nils]) (Tr.ok (Ex.ret,[(4,AV.int .i64 (g [x,y]),none),(5,AV.nils,none)],{ lock:=false,bs:=[(0,ak.fmap (KK.str 2) h g c),(0,ak.fmap (KK.str 2) h2 g2 c2),(0,ak.row (Row.I .i64 [Int.negSucc 0,Int.ofNat 0])),(0,ak.dead),(0,ak.row (Row.I .i64 [Int.negSucc 0,Int.ofNat 0]))] } :: H)))) [(6,AV.slcT none (Row.M [aW.arr .i64 P m]) 1 m false),(8,AV.map 0 1),(17,AV.ptr 0 2 0 0),(21,AV.int .i64 (g [x,y])),(22,AV.nils),(23,AV.ptr 0 4 0 0)])) { lock:=false,bs:=[(0,ak.fmap (KK.str 2) h g c),(0,ak.fmap (KK.str 2) h2 g2 c2),(0,ak.row (Row.I .i64 [x,y])),(0,ak.dead),(0,ak.row (Row.I .i64 [Int.negSucc 0,Int.ofNat 0]))] }:=by kernel_rfl
end Go.Eng
end
section
namespace Go.Eng
open Go.Proofs
open Go.Proofs.YtigmfpmabgekoaaGreat.Known (mostS mostL most navB bd79)
theorem PT (n:Nat) (h:List Int→Bool) (g:List Int→Int) (c:Nat) (h2:List Int→Bool) (g2:List Int→Int) (c2:Nat) (H:aa):aX (bz n 79 156) (il (tX aU 94 [.nils] (.tup [])) n 0) aZ a6 (part Tryz.f79 [1,1,1,1,1,1,1]) (hints [(6,.nils),(7,.map 0 0),(8,.map 0 1),(17,.ptr 0 2 0 0),(91,.ptr 0 3 0 0),(92,.tup [.bool false]),(93,.bool false)]) (dM h g c h2 g2 c2 [eY (-1) 0,(0,.dead)]::H) =
 Tr.ite (b8 (fa (dm (Int.negSucc 0) (Int.negSucc 0)) (dm (Int.ofNat 0) (Int.ofNat 0)))) Tr.bad (Tr.reqP ([AV.nils]=[AV.nils]) (Tr.ok (Ex.ret,[(4,AV.int .i64 (g [Int.negSucc 0,Int.ofNat 0]),none),(5,AV.nils,none)],{ lock:=false,bs:=[(0,ak.fmap (KK.str 2) h g c),(0,ak.fmap (KK.str 2) h2 g2 c2),(0,ak.row (Row.I .i64 [Int.negSucc 0,Int.ofNat 0])),(0,ak.dead),(0,ak.row (Row.I .i64 [Int.negSucc 0,Int.ofNat 0]))] } :: H))):=by kernel_rfl
theorem Q5 {n s l:Nat} {y:Nat→Int} {K:Int} {H:aa} {fr:av} {lv:bn} {V:AV}
 (hp:gx (bz n 79 156) mostS mostL most.suf most.pre [(0,iJ (s+1) l y),(1,.int .i64 K)] (aB::H)=some (.ret,fr,lv::H))
 (hv:(match eE Tryz.prog fr (lv::H) Tryz.f79.results.toList with
   | some vs=>some (cT lv.bs 5 (one vs),H)
   | none=>none)=some (V,H)):cd (n+1) (.fn 79) [iJ s l y,.int .i64 K] H=some (V,H):=by
 have e156:Tryz.f79.ntmps=156:=by kernel_rfl
 have ho:l7 (cd n) 79 [iJ s l y,.int .i64 K] H=some (V,H):=by
  show tK Tryz.prog KtB.kt 100000 most (cd n) [iJ s l y,.int .i64 K] H=_
  unfold tK
  rw[show Tryz.prog.funcs[most.f]?=some Tryz.f79 from Tryz.func79]
  dsimp only
  rw[if_pos (by rw[e156];rfl),e156]
  rw[show gx (⟨Tryz.prog,cd n,100000,most.f,156,KtB.kt most.f,none⟩:Cx) most.S most.L most.suf most.pre (dy 0 [iJ s l y,.int .i64 K]) (⟨false,[]⟩::H)=_ from hp]
  exact hv
 unfold cd
 rw[show cJ Tryz.prog l7 KtB.kt 100000 (n+1) (.fn 79) [iJ s l y,.int .i64 K] H=(match l7 (cd n) 79 [iJ s l y,.int .i64 K] H with
  | some r=>some r
  | none=>_) from rfl,ho]
theorem fG {cx:Cx} {S:bD} {L:bj} {suf c:Code} {r:List Code} {fr fr2:av} {H H2:aa} (h:exec cx c fr H=some (.normal,fr2,H2)):gx cx S L suf (c::r) fr H=gx cx S L suf r fr2 H2:=by
 show (match c9 cx c fr H with
  | some (.normal,fr,H)=>gx cx S L suf r fr H
  | x=>x)=_
 rw[dr,h]
theorem Fx {cx:Cx} {S:bD} {L:bj} {suf:Code} {fr fr2:av} {H H2:aa} (h:eC cx S L fr H=some (fr2,H2)):gx cx S L suf [] fr H=exec cx suf fr2 H2:=by
 show (match eC cx S L fr H with
  | some (fr,H)=>c9 cx suf fr H
  | none=>none)=_
 rw[h]
 exact dr _ _ _ _
end Go.Eng
end
section
namespace Go.Eng
open Go.Proofs
open Go.Proofs.YtigmfpmabgekoaaGreat.Known (mostS mostL most navB bd79)
theorem ry {cx:Cx} {S:bD} {L:bj} {fr fr1:av} {H:aa} {l1:bn} {r1:aa} {i:Nat} {q:KK} {h:List Int→Bool} {g:List Int→Int} {c:Nat} (hp:cO cx.P cx.nt cx.call S.ops0 S.pre fr H=some (fr1,l1::r1)) (hf:br fr1 S.m=.map 0 i) (hg:au (l1::r1) 0 i=(0,.fmap q h g c)):m4 cx S L fr H=none:=by
 have a1:m5 cx S L fr H=none:=by
  unfold m5
  rw[hp];dsimp only;rw[hf];simp only[hg]
 have a2:kM cx S L fr H=none:=by
  unfold kM
  rw[hp];dsimp only;rw[hf]
 have a3:kN cx S L fr H=none:=by
  unfold kN
  rw[hp];dsimp only;rw[hf]
 unfold m4 kL
 rw[a1,a2,a3]
theorem LY (n m:Nat) (P:Nat→Int) (S:MS) (H:aa) (x:Int×Int):cO (bz n 79 156).P (bz n 79 156).nt (bz n 79 156).call mostS.ops0 mostS.pre (nI m P) (kf S [eY x.1 x.2]::H)=some (nI m P++[(90,.map 0 0)],kf S [eY x.1 x.2]::H):=by
 have:=bD.r8 (S:=mS) (cx:=bz n 79 156) (callR:=il aU n 0) (aO _) (fr:=hints (nI m P)) (H:=kf S [eY x.1 x.2]::H) (by
  show (bD.A0 _ _ _ _ _).run=_
  have:=L6 n m P S.h S.g S.c S.h2 S.g2 S.c2 x.1 x.2 H
  exact congrArg Tr.run this)
 rw[aY] at this
 exact this
theorem Ke (n m:Nat) (P:Nat→Int) (S:MS) (H:aa) (x:Int×Int):cO (bz n 79 156).P (bz n 79 156).nt (bz n 79 156).call mostS.ops0 mostS.pre (jX m P) (kf S [eY x.1 x.2]::H)=some (jX m P++[(90,.map 0 0)],kf S [eY x.1 x.2]::H):=by
 have:=bD.r8 (S:=mS) (cx:=bz n 79 156) (callR:=il aU n 0) (aO _) (fr:=hints (jX m P)) (H:=kf S [eY x.1 x.2]::H) (by
  show (bD.A0 _ _ _ _ _).run=_
  have:=IQ n m P S.h S.g S.c S.h2 S.g2 S.c2 x.1 x.2 H
  exact congrArg Tr.run this)
 rw[aY] at this
 exact this
theorem Fi:(⟨false,[(0,ak.fmap (KK.str 2) (m7 (fun x=>false) [Int.negSucc 0,Int.ofNat 0] true) (nQ (fun x=>Int.ofNat 0) [Int.negSucc 0,Int.ofNat 0] (Int.ofNat 0)) (qR false 0)),(0,ak.fmap (KK.str 2) (fun x=>false) (fun x=>Int.ofNat 0) 0)]⟩:bn)=kf cR []:=by
 rw[pK,pL,sH];rfl
section
variable {l K:Nat} {z:Nat→Int} (h:bp l z=0) (hK:K≤15)
theorem PW (n m:Nat) (P:Nat→Int) (S:MS) (k:Nat) (p:Int) (H:aa) (hk:k≤1000) (hm:m≤1000) (htr:∀ j,j<k→0≤oL (fun q i=>S.g2 [q,(i:Int)]) k p j∧oL (fun q i=>S.g2 [q,(i:Int)]) k p j<m) (hend:oL (fun q i=>S.g2 [q,(i:Int)]) k p k=-1) :
 ∃ fr lv,exec (bz (n+2) 79 156) (part Tryz.f79 [1,1,1,1,1,1,1]) (yl m P) (kf S [eY p (k:Nat),(0,.dead)]::H)=some (.ret,fr,lv::H)∧(match eE Tryz.prog fr (lv::H) Tryz.f79.results.toList with
  | some vs=>some (cT lv.bs 5 (one vs),H)
  | none=>none)=some (.tup [.int .i64 (S.g [p,(k:Int)]),dA (qI (CJ P (fun q i=>S.g2 [q,(i:Int)]) k p) k).reverse],H):=by
 have hx:=Pa (n+2) m P S k p (S.g [p,(k:Int)]) H hk hm htr hend
 have hl:=lK (CJ P (fun q i=>S.g2 [q,(i:Int)]) k p) k
 generalize qI (CJ P (fun q i=>S.g2 [q,(i:Int)]) k p) k=L at *
 cases L with
 | nil =>
   obtain ⟨x,h1,rfl⟩:=aG (Q:=fun x=>x=(.ret,[(4,.int .i64 (S.g [p,(k:Int)])),(5,.nils)],(dM S.h S.g S.c S.h2 S.g2 S.c2 [eY (-1) 0,(0,.dead),eY (-1) 0]:bn)::H)) (PU (n+2) m P S.h S.g S.c S.h2 S.g2 S.c2 p (k:Nat) H) (dC _ (n+2) (dP (aT _) (fun H=>K1 n H))) (bL (ag _ _) KU (fun x h=>by rw[← Tr.ab h];simp only[gY.st,aY];exact hx)) (ah _ _) (Tr.ay ⟨rfl,rfl⟩ (Tr.ay rfl (Tr.aw rfl)))
   exact ⟨_,_,h1,by kernel_rfl⟩
 | cons a r =>
   have hk1:k=r.length+1:=by simpa using hl.symm
   have h94:=fun H=>Ru (n+1) r.length (r.length+1) (an (a::r)) S.h S.g S.c S.h2 S.g2 S.c2 (-1) 0 H (by omega) (by omega)
   have hrv:=HT (a::r)
   simp only[List.length_cons] at hrv
   rw[hrv] at h94
   have hlr:(a::r).reverse.length=r.length+1:=by simp
   generalize (a::r).reverse=R at *
   cases R with
   | nil=>simp at hlr
   | cons a2 r2 =>
     simp only[List.length_cons,Nat.add_right_cancel_iff] at hlr
     obtain ⟨x,h1,rfl⟩:=aG (Q:=fun x=>x=(.ret,[(4,.int .i64 (S.g [p,(k:Int)])),(5,.slc 0 5 r.length 0 1 (r.length+1) none)],(dM S.h S.g S.c S.h2 S.g2 S.c2 [eY (-1) 0,(0,.dead),eY (-1) 0,(r.length,.row (.M [.arr .i64 (an (a2::r2)) (r.length+1)]))]:bn)::H)) (PS (n+2) m r.length (r.length+1) P (an (a::r)) (an (a2::r2)) S.h S.g S.c S.h2 S.g2 S.c2 p (k:Nat) H) (dC _ (n+2) (jd (aT _) (fun args G x hx=>by
      unfold Q0 at hx
      obtain ⟨⟨rfl,rfl⟩,h2⟩:=Tr.c7 hx
      rw[← Tr.ab h2]
      exact h94 H))) (bL (ag _ _) KU (fun x h=>by rw[← Tr.ab h];simp only[gY.st,aY];exact hx)) (ah _ _) (Tr.ay ⟨rfl,rfl⟩ (Tr.ay ⟨rfl,rfl⟩ (Tr.aw rfl)))
     refine ⟨_,_,h1,?_⟩
     rw[← hlr]
     have hres:eE Tryz.prog [(4,.int .i64 (S.g [p,(k:Int)])),(5,.slc 0 5 r2.length 0 1 (r2.length+1) none)] ((dM S.h S.g S.c S.h2 S.g2 S.c2 [eY (-1) 0,(0,.dead),eY (-1) 0,(r2.length,.row (.M [.arr .i64 (an (a2::r2)) (r2.length+1)]))]:bn)::H) Tryz.f79.results.toList=some [.int .i64 (S.g [p,(k:Int)]),.slc 0 5 r2.length 0 1 (r2.length+1) none]:=by kernel_rfl
     rw[hres]
     show some (cT _ 5 (.tup [_,_]),H)=_
     simp[cT,ao,dM,eY,Row.sub,Row.len,aC,aI,fX,dA]
end
end Go.Eng
end
