/- Bath: plain facts on the points. -/
import Derived.Test.YtigmfpmabgekoaaGreatV12Bq2x3
import Derived.Test.YtigmfpmabgekoaaGreatV12Bc5x23
import Derived.Test.YtigmfpmabgekoaaGreatV12Bq6x7
set_option linter.unusedVariables false
set_option linter.unusedSimpArgs false
set_option maxRecDepth 100000
section
namespace Go.Eng
theorem BX {a:Nat→Int} {n:Nat} (ha:∀ i j,i≤j→j<n→a i≤a j):∀ j,j≤n→(oU a j).Pairwise (· < ·)∧∀ x,x ∈ oU a j↔∃ i,i<j∧a i=x
 | 0,_=>⟨List.Pairwise.nil,fun x=>⟨(fun h=>by cases h),(fun ⟨i,h,_⟩=>by omega)⟩⟩
 | j + 1,h=>by
   obtain ⟨i1,i2⟩:=BX ha j (by omega)
   have e:oU a (j+1)=if j=0∨a j≠a (j-1) then oU a j++[a j] else oU a j:=rfl
   rw[e]
   by_cases c:j=0∨a j≠a (j-1)
   · rw[if_pos c]
     refine ⟨List.pairwise_append.2 ⟨i1,List.pairwise_singleton _ _,fun x hx y hy=>?_⟩,fun x=>?_⟩
     · obtain ⟨i,h1,h2⟩:=(i2 x).1 hx
       rw[List.mem_singleton] at hy
       subst hy;subst h2
       rcases c with c | c
       · omega
       · have h3:=ha i (j-1) (by omega) (by omega)
         have h4:=ha (j-1) j (by omega) (by omega)
         omega
     · rw[List.mem_append,List.mem_singleton,i2]
       constructor
       · rintro (⟨i,h1,h2⟩ | h1)
         · exact ⟨i,by omega,h2⟩
         · exact ⟨j,by omega,h1.symm⟩
       · rintro ⟨i,h1,h2⟩
         by_cases hi:i=j
         · subst hi;exact .inr h2.symm
         · exact .inl ⟨i,by omega,h2⟩
   · rw[if_neg c]
     have c1:j≠0:=fun h=>c (.inl h)
     have c2:a j=a (j-1):=Classical.byContradiction fun h=>c (.inr h)
     refine ⟨i1,fun x=>?_⟩
     rw[i2]
     constructor
     · rintro ⟨i,h1,h2⟩;exact ⟨i,by omega,h2⟩
     · rintro ⟨i,h1,h2⟩
       by_cases hi:i=j
       · subst hi;exact ⟨i-1,by omega,by rw[← c2];exact h2⟩
       · exact ⟨i,by omega,h2⟩
theorem CF (z g:Nat→Int):∀ j x,x ∈ zN z g j↔∃ i,i<j∧cq z (g i).toNat=x
 | 0,x=>⟨(fun h=>by cases h),(fun ⟨i,h,_⟩=>by omega)⟩
 | j + 1,x=>by
   show x ∈ zN z g j++[_]↔_
   rw[List.mem_append,List.mem_singleton,CF z g j]
   constructor
   · rintro (⟨i,h1,h2⟩ | h1)
     · exact ⟨i,by omega,h2⟩
     · exact ⟨j,by omega,h1.symm⟩
   · rintro ⟨i,h1,h2⟩
     by_cases hi:i=j
     · subst hi;exact .inr h2.symm
     · exact .inl ⟨i,by omega,h2⟩
theorem Ga (l:Nat) (z:Nat→Int):(cU l z).Pairwise (· < ·)∧∀ x,x ∈ cU l z↔∃ i,i<l∧cq z i≤bE z i∧cq z i=x:=by
 have hA:(A6 l z).length=(dl (gK z) l).length:=sA _ _ _
 have hs:=Gz (A6 l z)
 have hsl:=CS (A6 l z)
 have hm:∀ i j,i≤j→j<(dl (gK z) l).length→aB (g8 (A6 l z)) i≤aB (g8 (A6 l z)) j:=fun i j h1 h2=>by
  rw[fI]
  dsimp only
  by_cases e:i=j
  · subst e;exact Int.le_refl _
  have:=List.pairwise_iff_getElem.1 hs i j (by omega) (by omega) (by omega)
  rw[List.getD_eq_getElem?_getD,List.getD_eq_getElem?_getD,List.getElem?_eq_getElem (by omega),List.getElem?_eq_getElem (by omega)]
  exact this
 obtain ⟨p1,p2⟩:=BX hm _ (Nat.le_refl _)
 refine ⟨p1,fun x=>?_⟩
 unfold cU
 rw[p2]
 have e1:(∃ i,i<(dl (gK z) l).length∧aB (g8 (A6 l z)) i=x)↔x ∈ A6 l z:=by
  rw[← (Ak (A6 l z)).mem_iff,List.mem_iff_getElem]
  constructor
  · rintro ⟨i,h1,h2⟩
    refine ⟨i,by omega,?_⟩
    rw[← h2,fI]
    dsimp only
    rw[List.getD_eq_getElem?_getD,List.getElem?_eq_getElem (by omega)];rfl
  · rintro ⟨i,h1,h2⟩
    refine ⟨i,by omega,?_⟩
    rw[← h2,fI]
    dsimp only
    rw[List.getD_eq_getElem?_getD,List.getElem?_eq_getElem (by omega)];rfl
 rw[e1]
 unfold A6
 rw[CF]
 constructor
 · rintro ⟨i,h1,h2⟩
   have:=nz (dl (gK z) l) i h1
   obtain ⟨q,q1,q2,q3⟩:=(qm _ _ _).1 this
   rw[q1] at h2
   refine ⟨q,q2,?_,h2⟩
   unfold gK at q3
   split at q3
   · assumption
   · cases q3
 · rintro ⟨i,h1,h2,h3⟩
   have hin:(i:Int) ∈ dl (gK z) l:=(qm _ _ _).2 ⟨i,rfl,h1,by unfold gK;rw[if_pos h2]⟩
   obtain ⟨q,q1,q2⟩:=List.mem_iff_getElem.1 hin
   refine ⟨q,q1,?_⟩
   rw[fI]
   dsimp only
   rw[List.getD_eq_getElem?_getD,List.getElem?_eq_getElem q1,q2]
   exact h3
theorem Il {l:Nat} {z:Nat→Int} (h:bh l z=0):(cU l z).length≤14:=by
 have:=s7 (gK z) l
 have h2:=wT (aB (g8 (A6 l z))) (dl (gK z) l).length
 have h3:=(bM h).1
 unfold cU
 omega
theorem KQ {l:Nat} {z:Nat→Int} {P:Nat→Int} (hP:∀ i,i<(cU l z).length→P i=(cU l z).getD i 0) :
 (∀ i j,i<j→j<(cU l z).length→P i<P j)∧(∀ i,i<l→cq z i≤bE z i→∃ j,j<(cU l z).length∧P j=cq z i)∧∀ j,j<(cU l z).length→∃ i,i<l∧cq z i≤bE z i∧P j=cq z i:=by
 obtain ⟨p1,p2⟩:=Ga l z
 have hg:∀ i (h:i<(cU l z).length),P i=(cU l z)[i]:=fun i h=>by
  rw[hP i h,List.getD_eq_getElem?_getD,List.getElem?_eq_getElem h];rfl
 refine ⟨fun i j hij hj=>?_,fun i hi hc=>?_,fun j hj=>?_⟩
 · rw[hg i (by omega),hg j hj]
   exact List.pairwise_iff_getElem.1 p1 i j (by omega) hj hij
 · obtain ⟨j,j1,j2⟩:=List.mem_iff_getElem.1 ((p2 _).2 ⟨i,hi,hc,rfl⟩)
   exact ⟨j,j1,by rw[hg j j1,j2]⟩
 · obtain ⟨i,i1,i2,i3⟩:=(p2 _).1 (List.getElem_mem hj)
   exact ⟨i,i1,i2,by rw[hg j hj,i3]⟩
end Go.Eng
end
section
namespace Go.Eng
open Go.Proofs
theorem G5 {h:List Int→Bool} {g:List Int→Int} {c:Nat} (hE:∃ es,oW (.str 2) es h g c) (h0:h [-1,0]=true):∃ r,sE h g r:=by
 obtain ⟨es,hE⟩:=hE
 obtain ⟨ks,k1,k2,k3,k4⟩:=BZ hE (List.range es.length) (fun j hj=>by simpa using hj)
 obtain ⟨s1,s2⟩:=mz (g:=g) ks (-1,0)
 refine ⟨BS g ks (-1,0),?_,fun e he=>s2 e (.inr ?_)⟩
 · rcases s1 with s1 | s1
   · rw[s1];exact h0
   · exact k2 _ s1
 · obtain ⟨_,j,j1,j2⟩:=hE.all _ he
   obtain ⟨e',e1,e2⟩:=k3 j (by simpa using j1) _ j2
   simp only[List.cons.injEq,and_true] at e2
   rw[show e=e' from Prod.ext e2.1 e2.2]
   exact e1
structure Mo (l:Nat) (z:Nat→Int) (K:Nat) (M:Int) (B:List Int):Prop where
 most:iD l (cq z) (bE z) (gm z) K M
 wo:uC l (cq z) (bE z) (gm z) B=M
 len:B.length≤K
 srt:B.Pairwise (· < ·)
 rg:∀ x ∈ B,-10000≤x∧x≤10000
theorem IN (P:Nat→Int) (b:Int→Nat→Int) (k:Nat) (p:Int):((List.range k).map fun j=>P (oV b k p j).toNat).reverse=AA P b k p:=by
 refine List.ext_getElem (by simp[lY]) (fun i h1 h2=>?_)
 rw[lY] at h2
 have:=GJ P b k p i h2
 rw[List.getD_eq_getElem?_getD,List.getElem?_eq_getElem (by rw[lY];exact h2)] at this
 simp only[Option.getD_some] at this
 rw[this]
 simp
theorem Jy {l:Nat} {z:Nat→Int} (h:bh l z=0):∀ i,i<l→0≤gm z i:=fun i hi=>by
 have:=(bM h).2 i hi
 unfold gm;omega
theorem Mk {l:Nat} {z:Nat→Int} (h:bh l z=0) {i:Nat} (hi:i<l) (hc:cq z i≤bE z i):-10000≤cq z i∧cq z i≤10000∧bE z i≤10000:=by
 have:=(bM h).2 i hi
 unfold cq bE at *;omega
theorem Mv {l K m:Nat} {z P:Nat→Int} (h:bh l z=0) (hm:m=(cU l z).length) (hP:∀ i,i<(cU l z).length→P i=(cU l z).getD i 0) :
 ∃ (p:Int) (k:Nat),sE (gl (eN l z P) K m cO).h (gl (eN l z P) K m cO).g (p,(k:Int))∧k≤K ∧
  (∀ j,j<k→0≤oV (fun q i=>(gl (eN l z P) K m cO).g2 [q,(i:Int)]) k p j∧oV (fun q i=>(gl (eN l z P) K m cO).g2 [q,(i:Int)]) k p j<m) ∧
  oV (fun q i=>(gl (eN l z P) K m cO).g2 [q,(i:Int)]) k p k=-1 ∧
  Mo l z K ((gl (eN l z P) K m cO).g [p,(k:Int)]) (AA P (fun q i=>(gl (eN l z P) K m cO).g2 [q,(i:Int)]) k p):=by
 obtain ⟨P1,P2,P3⟩:=KQ hP
 rw[← hm] at P1 P2 P3
 have t:=K5 l (cq z) (bE z) (gm z) P m K
 have hB:=JR (a:=yf l (cq z) (bE z) (gm z) P) (W:=ku (gm z) l) (fun f p=>Er (Jy h) f p) (K:=K) m
 have hE:=Kb (a:=yf l (cq z) (bE z) (gm z) P) (K:=K) m
 show ∃ (p:Int) (k:Nat),sE (gl (yf l (cq z) (bE z) (gm z) P) K m cO).h (gl (yf l (cq z) (bE z) (gm z) P) K m cO).g (p,(k:Int))∧k≤K ∧
  (∀ j,j<k→0≤oV (fun q i=>(gl (yf l (cq z) (bE z) (gm z) P) K m cO).g2 [q,(i:Int)]) k p j∧oV (fun q i=>(gl (yf l (cq z) (bE z) (gm z) P) K m cO).g2 [q,(i:Int)]) k p j<m) ∧
  oV (fun q i=>(gl (yf l (cq z) (bE z) (gm z) P) K m cO).g2 [q,(i:Int)]) k p k=-1 ∧
  Mo l z K ((gl (yf l (cq z) (bE z) (gm z) P) K m cO).g [p,(k:Int)]) (AA P (fun q i=>(gl (yf l (cq z) (bE z) (gm z) P) K m cO).g2 [q,(i:Int)]) k p)
 generalize gl (yf l (cq z) (bE z) (gm z) P) K m cO=S at *
 obtain ⟨⟨p,q⟩,hr⟩:=G5 hE t.at0.1
 have hq:=hB p q hr.1
 obtain ⟨k,rfl⟩:∃ k:Nat,q=k:=⟨q.toNat,by omega⟩
 have hh:(fun (p:Int) (n:Nat)=>S.h [p,(n:Int)]) p k=true:=hr.1
 have hk:k≤K:=by
  rcases t.from_ p k hh with ⟨_,e⟩ | ⟨_,_,_,e,_⟩<;>omega
 have hg:∀ q k',S.h [q,((k':Nat):Int)]=true→S.g [q,(k':Int)]≤S.g [p,(k:Int)]:=fun q k' hq=>by
  have:=sR.1 (hr.2 (q,(k':Int)) hq)
  dsimp only at this
  omega
 obtain ⟨w1,w2,w3,_⟩:=GC t P1 k p hh
 have a1:=fun j hj=>Bz t hh j hj
 refine ⟨p,k,hr,hk,fun j hj=>(a1 j (by omega)).2 hj,GD t hh,⟨IL t P1 (Jy h) P2 hh hk hg,w1,by rw[lY];exact hk,w3,fun x hx=>?_⟩⟩
 obtain ⟨i,i1,_,rfl⟩:=w2 x hx
 obtain ⟨j,j1,j2,j3⟩:=P3 i i1
 have:=Mk h j1 j2
 omega
end Go.Eng
end
section
namespace Go.Eng
open Go.Proofs
open Go.Proofs.YtigmfpmabgekoaaGreat.Known (mostS mostL most)
theorem MB (n s l m:Nat) (y P:Nat→Int) (K:Int) (H:aa):aN (bp n 79 156) (il (tX (tX aR 81 [iO (s+1) l y] (AB 0 (.nils))) 92 [AB 0 (.nils)] (.nils)) n 0) aW aX (part Tryz.f79 [1,0]) (hints [(0,iO (s+1) l y),(1,.int .i64 K)]) (aC::H) =
 Tr.reqP ([AV.ptrT (some (Nat.succ s)) (Row.G [aG 7 l y]) 0]=[AV.ptrT (some (Nat.succ s)) (Row.G [aG 7 l y]) 0]) (Tr.reqP ([AV.fn (Fn.func 112) [] [AV.ptrT (some 0) (Row.G [AV.nils]) 0]]=[AV.fn (Fn.func 112) [] [AV.ptrT (some 0) (Row.G [AV.nils]) 0]]) (Tr.ok (Ex.normal,[(0,AV.ptrT (some (Nat.succ s)) (Row.G [aG 7 l y]) 0,none),(1,AV.int .i64 K,none),(6,AV.nils,none)],aC::H))):=by kernel_rfl
theorem MC (n s l m:Nat) (y P:Nat→Int) (K:Int) (H:aa):aN (bp n 79 156) (il aR n 0) aW aX (part Tryz.f79 [1,1,0]) (hints [(0,iO (s+1) l y),(1,.int .i64 K),(6,.nils)]) (aC::H) =
 Tr.ok (Ex.normal,[(0,AV.ptrT (some (Nat.succ s)) (Row.G [aG 7 l y]) 0,none),(1,AV.int .i64 K,none),(6,AV.nils,none),(7,AV.map 0 0,none)],{ lock:=false,bs:=[(0,ak.fmap (KK.str 2) (ni (fun x=>false) [Int.negSucc 0,Int.ofNat 0] true) (oa (fun x=>Int.ofNat 0) [Int.negSucc 0,Int.ofNat 0] (Int.ofNat 0)) (re false 0))] } :: H):=by kernel_rfl
theorem MD (n s l m:Nat) (y P:Nat→Int) (K:Int) (h:List Int→Bool) (g:List Int→Int) (c:Nat) (H:aa):aN (bp n 79 156) (il aR n 0) aW aX (part Tryz.f79 [1,1,1,0]) (hints [(0,iO (s+1) l y),(1,.int .i64 K),(6,.nils),(7,.map 0 0)]) (⟨false,[(0,.fmap (.str 2) h g c)]⟩::H) =
 Tr.ok (Ex.normal,[(0,AV.ptrT (some (Nat.succ s)) (Row.G [aG 7 l y]) 0,none),(1,AV.int .i64 K,none),(6,AV.nils,none),(7,AV.map 0 0,none),(8,AV.map 0 1,none)],{ lock:=false,bs:=[(0,ak.fmap (KK.str 2) h g c),(0,ak.fmap (KK.str 2) (fun x=>false) (fun x=>Int.ofNat 0) 0)] } :: H):=by kernel_rfl
theorem ME (n s l m:Nat) (y P:Nat→Int) (K:Int) (h:List Int→Bool) (g:List Int→Int) (c:Nat) (h2:List Int→Bool) (g2:List Int→Int) (c2:Nat) (H:aa):aN (bp n 79 156) (il aR n 0) aW aX (part Tryz.f79 [1,1,1,1,0]) (hints [(0,iO (s+1) l y),(1,.int .i64 K),(6,.nils),(7,.map 0 0),(8,.map 0 1)]) (dH h g c h2 g2 c2 []::H) =
 Tr.ok (Ex.normal,[(0,AV.ptrT (some (Nat.succ s)) (Row.G [aG 7 l y]) 0,none),(1,AV.int .i64 K,none),(6,AV.nils,none),(7,AV.map 0 0,none),(8,AV.map 0 1,none),(32,AV.int .i64 (Int.ofNat 0),some 1),(33,AV.int .i64 (Int.ofNat 0),some 1),(34,AV.bool false,some 1)],{ lock:=false,bs:=[(0,ak.fmap (KK.str 2) h g c),(0,ak.fmap (KK.str 2) h2 g2 c2)] } :: H):=by kernel_rfl
theorem MO (n s l m:Nat) (y P:Nat→Int) (K:Int) (h:List Int→Bool) (g:List Int→Int) (c:Nat) (h2:List Int→Bool) (g2:List Int→Int) (c2:Nat) (H:aa):aN (bp n 79 156) (il aR n 0) aW aX (part Tryz.f79 [1,1,1,1,1,0]) (hints [(0,iO (s+1) l y),(1,.int .i64 K),(6,.nils),(7,.map 0 0),(8,.map 0 1),(32,.int .i64 (Int.ofNat 0)),(33,.int .i64 (Int.ofNat 0)),(34,.bool false)]) (dH h g c h2 g2 c2 []::H) =
 Tr.ok (Ex.normal,[(6,AV.nils,none),(7,AV.map 0 0,none),(8,AV.map 0 1,none),(17,AV.ptr 0 2 0 0,none)],{ lock:=false,bs:=[(0,ak.fmap (KK.str 2) h g c),(0,ak.fmap (KK.str 2) h2 g2 c2),(0,ak.row (Row.I .i64 [Int.negSucc 0,Int.ofNat 0]))] } :: H):=by kernel_rfl
theorem Jo (n m:Nat) (P:Nat→Int) (h:List Int→Bool) (g:List Int→Int) (c:Nat) (h2:List Int→Bool) (g2:List Int→Int) (c2:Nat) (x y:Int) (H:aa):(Go.Proofs.YtigmfpmabgekoaaGreat.Known.mostS).Bi (bp n 79 156) (il aR n 0) (hints [(6,.nils),(7,.map 0 0),(8,.map 0 1),(17,.ptr 0 2 0 0)]) (dH h g c h2 g2 c2 [fe x y]::H) =
 Tr.ok ([(6,AV.nils,none),(7,AV.map 0 0,none),(8,AV.map 0 1,none),(17,AV.ptr 0 2 0 0,none),(90,AV.map 0 0,none)],{ lock:=false,bs:=[(0,ak.fmap (KK.str 2) h g c),(0,ak.fmap (KK.str 2) h2 g2 c2),(0,ak.row (Row.I .i64 [x,y]))] } :: H):=by kernel_rfl
theorem MR (n m:Nat) (P:Nat→Int) (h:List Int→Bool) (g:List Int→Int) (c:Nat) (h2:List Int→Bool) (g2:List Int→Int) (c2:Nat) (b1 b2 b3:List (Nat×ak)) (a b v x y:Int):(Go.Proofs.YtigmfpmabgekoaaGreat.Known.mostL).oM (bp n 79 156) (il aR n 0) aW aX 3 4 (.agg (.I .i64 [a,b]),.int .i64 v) (hints [(6,.nils),(7,.map 4 0),(8,.map 0 1),(17,.ptr 0 2 0 0),(91,.ptr 0 3 0 0)]) (⟨false,[(0,.dead),(0,.fmap (.str 2) h2 g2 c2),fe x y,(0,.dead)]⟩::[⟨true,b1⟩,⟨true,b2⟩,⟨true,b3⟩,iJ (.fmap (.str 2) h g c)]) =
 (fun (Z0:aT)=>((fun (Z1:bm)=>((fun (Z2:bm)=>((fun (Z3:bm)=>Tr.ite (df (g [x,y]) v) (Tr.ok (Z0,[Z2,{ lock:=true,bs:=b1 },{ lock:=true,bs:=b2 },{ lock:=true,bs:=b3 },Z1])) (Tr.ite (dD v (g [x,y])) (Tr.ite (df b y) (Tr.ok (Z0,[Z2,{ lock:=true,bs:=b1 },{ lock:=true,bs:=b2 },{ lock:=true,bs:=b3 },Z1])) (Tr.ite (dD b y) (Tr.ite (df a x) (Tr.ok (Z0,[Z2,{ lock:=true,bs:=b1 },{ lock:=true,bs:=b2 },{ lock:=true,bs:=b3 },Z1])) (Tr.ok (Z0,[Z3,{ lock:=true,bs:=b1 },{ lock:=true,bs:=b2 },{ lock:=true,bs:=b3 },Z1]))) (Tr.ok (Z0,[Z3,{ lock:=true,bs:=b1 },{ lock:=true,bs:=b2 },{ lock:=true,bs:=b3 },Z1])))) (Tr.ok (Z0,[Z3,{ lock:=true,bs:=b1 },{ lock:=true,bs:=b2 },{ lock:=true,bs:=b3 },Z1])))) { lock:=false,bs:=[(0,ak.dead),(0,ak.fmap (KK.str 2) h2 g2 c2),(0,ak.row (Row.I .i64 [x,y])),(0,ak.dead)] })) { lock:=false,bs:=[(0,ak.dead),(0,ak.fmap (KK.str 2) h2 g2 c2),(0,ak.row (Row.I .i64 [a,b])),(0,ak.dead)] })) { lock:=true,bs:=[(0,ak.fmap (KK.str 2) h g c)] })) [(6,AV.nils,none),(7,AV.map 4 0,none),(8,AV.map 0 1,none),(17,AV.ptr 0 2 0 0,none),(91,AV.ptr 0 3 0 0,none)]:=by kernel_rfl
theorem MT (n m:Nat) (P:Nat→Int) (h:List Int→Bool) (g:List Int→Int) (c:Nat) (h2:List Int→Bool) (g2:List Int→Int) (c2:Nat) (b1 b2 b3:List (Nat×ak)) (a b v x y:Int):(Go.Proofs.YtigmfpmabgekoaaGreat.Known.mostL).oM (bp n 79 156) (il aR n 0) aW aX 3 4 (.agg (.I .i64 [a,b]),.int .i64 v) (hints [(6,.nils),(7,.map 4 0),(8,.map 0 1),(17,.ptr 0 2 0 0),(90,.map 4 0),(91,.ptr 0 3 0 0)]) (⟨false,[(0,.dead),(0,.fmap (.str 2) h2 g2 c2),fe x y,(0,.dead)]⟩::[⟨true,b1⟩,⟨true,b2⟩,⟨true,b3⟩,iJ (.fmap (.str 2) h g c)]) =
 (fun (Z0:aT)=>((fun (Z1:bm)=>((fun (Z2:bm)=>((fun (Z3:bm)=>Tr.ite (df (g [x,y]) v) (Tr.ok (Z0,[Z2,{ lock:=true,bs:=b1 },{ lock:=true,bs:=b2 },{ lock:=true,bs:=b3 },Z1])) (Tr.ite (dD v (g [x,y])) (Tr.ite (df b y) (Tr.ok (Z0,[Z2,{ lock:=true,bs:=b1 },{ lock:=true,bs:=b2 },{ lock:=true,bs:=b3 },Z1])) (Tr.ite (dD b y) (Tr.ite (df a x) (Tr.ok (Z0,[Z2,{ lock:=true,bs:=b1 },{ lock:=true,bs:=b2 },{ lock:=true,bs:=b3 },Z1])) (Tr.ok (Z0,[Z3,{ lock:=true,bs:=b1 },{ lock:=true,bs:=b2 },{ lock:=true,bs:=b3 },Z1]))) (Tr.ok (Z0,[Z3,{ lock:=true,bs:=b1 },{ lock:=true,bs:=b2 },{ lock:=true,bs:=b3 },Z1])))) (Tr.ok (Z0,[Z3,{ lock:=true,bs:=b1 },{ lock:=true,bs:=b2 },{ lock:=true,bs:=b3 },Z1])))) { lock:=false,bs:=[(0,ak.dead),(0,ak.fmap (KK.str 2) h2 g2 c2),(0,ak.row (Row.I .i64 [x,y])),(0,ak.dead)] })) { lock:=false,bs:=[(0,ak.dead),(0,ak.fmap (KK.str 2) h2 g2 c2),(0,ak.row (Row.I .i64 [a,b])),(0,ak.dead)] })) { lock:=true,bs:=[(0,ak.fmap (KK.str 2) h g c)] })) [(6,AV.nils,none),(7,AV.map 4 0,none),(8,AV.map 0 1,none),(17,AV.ptr 0 2 0 0,none),(91,AV.ptr 0 3 0 0,none)]:=by kernel_rfl
theorem MP (n D m:Nat) (P:Nat→Int) (h2:List Int→Bool) (g2:List Int→Int) (c2:Nat) (R:aa) (x y:Int):(Go.Proofs.YtigmfpmabgekoaaGreat.Known.mostL).zf (bp n 79 156) (il aR n 0) (hints [(6,.nils),(7,.map D 0),(8,.map 0 1),(17,.ptr 0 2 0 0),(91,.ptr 0 3 0 0)]) (⟨false,[(0,.dead),(0,.fmap (.str 2) h2 g2 c2),fe x y,(0,.dead)]⟩::R) =
 Tr.ok ([(6,AV.nils,none),(7,AV.map D 0,none),(8,AV.map 0 1,none),(17,AV.ptr 0 2 0 0,none),(91,AV.ptr 0 3 0 0,none),(92,AV.tup [AV.bool false],none),(93,AV.bool false,none)],{ lock:=false,bs:=[(0,ak.dead),(0,ak.fmap (KK.str 2) h2 g2 c2),(0,ak.row (Row.I .i64 [x,y])),(0,ak.dead)] } :: R):=by kernel_rfl
end Go.Eng
end
section
namespace Go.Eng
open Go.Proofs
noncomputable def tr (m:Nat) (P:Nat→Int):ay:=[(6,.nils),(7,.map 4 0),(8,.map 0 1),(17,.ptr 0 2 0 0),(91,.ptr 0 3 0 0)]
noncomputable def vI (m:Nat) (P:Nat→Int):ay:=[(6,.nils),(7,.map 4 0),(8,.map 0 1),(17,.ptr 0 2 0 0),(90,.map 4 0),(91,.ptr 0 3 0 0)]
section
variable (n m:Nat) (P:Nat→Int) (h:List Int→Bool) (g:List Int→Int) (c:Nat) (h2:List Int→Bool) (g2:List Int→Int) (c2:Nat) (b1 b2 b3:List (Nat×ak))
theorem MW (x e:Int×Int):cS mL (bp n 79 156) 3 4 (qa b1 b2 b3 h g c) (zd g e) (tr m P,fm h2 g2 c2 x)=some (tr m P,fm h2 g2 c2 (if uO g e x=true then e else x)):=by
 obtain ⟨x,y⟩:=x
 obtain ⟨a,b⟩:=e
 refine xN (MR n m P h g c h2 g2 c2 b1 b2 b3 a b (g [a,b]) x y) (aI n) (af _ _) (ag _ _) ?_
 have hb:=nq (g:=g) (x:=(a,b)) (y:=(x,y))
 dsimp only at hb
 rw[fa,fa,fa,cn,cn]
 by_cases k1:g [x,y]<g [a,b]
 · rw[decide_eq_true k1,if_pos (hb.2 (.inl k1))]
   exact Tr.al (fun _=>Tr.av ⟨rfl,rfl⟩) (fun hc=>by cases hc)
 · rw[decide_eq_false k1]
   refine Tr.al (fun hc=>by cases hc) (fun _=>?_)
   by_cases k2:g [a,b]=g [x,y]
   · rw[show (g [a,b] == g [x,y])=true from beq_iff_eq.2 k2]
     refine Tr.al (fun _=>?_) (fun hc=>by cases hc)
     by_cases k3:b<y
     · rw[decide_eq_true k3,if_pos (hb.2 (.inr ⟨k2,.inl k3⟩))]
       exact Tr.al (fun _=>Tr.av ⟨rfl,rfl⟩) (fun hc=>by cases hc)
     · rw[decide_eq_false k3]
       refine Tr.al (fun hc=>by cases hc) (fun _=>?_)
       by_cases k4:b=y
       · rw[show (b == y)=true from beq_iff_eq.2 k4]
         refine Tr.al (fun _=>?_) (fun hc=>by cases hc)
         by_cases k5:a<x
         · rw[decide_eq_true k5,if_pos (hb.2 (.inr ⟨k2,.inr ⟨k4,k5⟩⟩))]
           exact Tr.al (fun _=>Tr.av ⟨rfl,rfl⟩) (fun hc=>by cases hc)
         · rw[decide_eq_false k5,if_neg (fun q=>by have:=hb.1 q;omega)]
           exact Tr.al (fun hc=>by cases hc) (fun _=>Tr.av ⟨rfl,rfl⟩)
       · rw[show (b == y)=false from beq_eq_false_iff_ne.2 k4,if_neg (fun q=>by have:=hb.1 q;omega)]
         exact Tr.al (fun hc=>by cases hc) (fun _=>Tr.av ⟨rfl,rfl⟩)
   · rw[show (g [a,b] == g [x,y])=false from beq_eq_false_iff_ne.2 k2,if_neg (fun q=>by have:=hb.1 q;omega)]
     exact Tr.al (fun hc=>by cases hc) (fun _=>Tr.av ⟨rfl,rfl⟩)
theorem KS (x e:Int×Int):cS mL (bp n 79 156) 3 4 (qa b1 b2 b3 h g c) (zd g e) (vI m P,fm h2 g2 c2 x)=some (tr m P,fm h2 g2 c2 (if uO g e x=true then e else x)):=by
 obtain ⟨x,y⟩:=x
 obtain ⟨a,b⟩:=e
 refine xN (MT n m P h g c h2 g2 c2 b1 b2 b3 a b (g [a,b]) x y) (aI n) (af _ _) (ag _ _) ?_
 have hb:=nq (g:=g) (x:=(a,b)) (y:=(x,y))
 dsimp only at hb
 rw[fa,fa,fa,cn,cn]
 by_cases k1:g [x,y]<g [a,b]
 · rw[decide_eq_true k1,if_pos (hb.2 (.inl k1))]
   exact Tr.al (fun _=>Tr.av ⟨rfl,rfl⟩) (fun hc=>by cases hc)
 · rw[decide_eq_false k1]
   refine Tr.al (fun hc=>by cases hc) (fun _=>?_)
   by_cases k2:g [a,b]=g [x,y]
   · rw[show (g [a,b] == g [x,y])=true from beq_iff_eq.2 k2]
     refine Tr.al (fun _=>?_) (fun hc=>by cases hc)
     by_cases k3:b<y
     · rw[decide_eq_true k3,if_pos (hb.2 (.inr ⟨k2,.inl k3⟩))]
       exact Tr.al (fun _=>Tr.av ⟨rfl,rfl⟩) (fun hc=>by cases hc)
     · rw[decide_eq_false k3]
       refine Tr.al (fun hc=>by cases hc) (fun _=>?_)
       by_cases k4:b=y
       · rw[show (b == y)=true from beq_iff_eq.2 k4]
         refine Tr.al (fun _=>?_) (fun hc=>by cases hc)
         by_cases k5:a<x
         · rw[decide_eq_true k5,if_pos (hb.2 (.inr ⟨k2,.inr ⟨k4,k5⟩⟩))]
           exact Tr.al (fun _=>Tr.av ⟨rfl,rfl⟩) (fun hc=>by cases hc)
         · rw[decide_eq_false k5,if_neg (fun q=>by have:=hb.1 q;omega)]
           exact Tr.al (fun hc=>by cases hc) (fun _=>Tr.av ⟨rfl,rfl⟩)
       · rw[show (b == y)=false from beq_eq_false_iff_ne.2 k4,if_neg (fun q=>by have:=hb.1 q;omega)]
         exact Tr.al (fun hc=>by cases hc) (fun _=>Tr.av ⟨rfl,rfl⟩)
   · rw[show (g [a,b] == g [x,y])=false from beq_eq_false_iff_ne.2 k2,if_neg (fun q=>by have:=hb.1 q;omega)]
     exact Tr.al (fun hc=>by cases hc) (fun _=>Tr.av ⟨rfl,rfl⟩)
theorem B8:∀ (ks:List (Int×Int)) (x:Int×Int),dm mL (bp n 79 156) 3 4 (qa b1 b2 b3 h g c) (ks.map (zd g)) (tr m P,fm h2 g2 c2 x)=some (tr m P,fm h2 g2 c2 (BS g ks x))
 | [],x=>rfl
 | e::ks,x=>by
   show (match cS mL (bp n 79 156) 3 4 (qa b1 b2 b3 h g c) (zd g e) (tr m P,fm h2 g2 c2 x) with
    | some t=>dm mL (bp n 79 156) 3 4 (qa b1 b2 b3 h g c) (ks.map (zd g)) t
    | none=>none)=_
   rw[MW]
   exact B8 ks _
theorem Md (x:Int×Int):mL.last (bp n 79 156) (tr m P) (fm h2 g2 c2 x::qa b1 b2 b3 h g c)=some (tr m P++[(92,.tup [.bool false]),(93,.bool false)],fm h2 g2 c2 x::qa b1 b2 b3 h g c) :=
 ze (MP n 4 m P h2 g2 c2 (qa b1 b2 b3 h g c) x.1 x.2) (aI _) (Tr.av rfl)
end
theorem Hk (n m:Nat) (P:Nat→Int) (h:List Int→Bool) (g:List Int→Int) (c:Nat) (h2:List Int→Bool) (g2:List Int→Int) (c2:Nat) (b1 b2 b3:List (Nat×ak)) (x r:Int×Int) (hx:h [x.1,x.2]=true) (hr:sE h g r) :
 sG (bp n 79 156) mL 3 (qa b1 b2 b3 h g c) (vI m P,fm h2 g2 c2 x) (.str 2) h g c (tr m P++[(92,.tup [.bool false]),(93,.bool false)],fm h2 g2 c2 r):=by
 refine ⟨rfl,fun es hE vs v1 v2 v3=>?_⟩
 obtain ⟨ks,l1,l2,l3,l4⟩:=BZ hE vs v3
 have cov:∀ e:Int×Int,h [e.1,e.2]=true→e ∈ ks:=fun e he=>by
  obtain ⟨_,j,j1,j2⟩:=hE.all _ he
  obtain ⟨e',he',e2⟩:=l3 j (yH v1 v2 v3 j1) _ j2
  simp only[List.cons.injEq,and_true] at e2
  have:e=e':=Prod.ext e2.1 e2.2
  rw[this];exact he'
 obtain ⟨s1,s2⟩:=mz (g:=g) ks x
 have hb:BS g ks x=r:=by
  refine BV (g:=g) ?_ (s2 r (.inr (cov r hr.1)))
  refine hr.2 _ ?_
  rcases s1 with e | e
  · rw[e];exact hx
  · exact l2 _ e
 rw[l1]
 have hf:dm mL (bp n 79 156) 3 4 (qa b1 b2 b3 h g c) (ks.map (zd g)) (vI m P,fm h2 g2 c2 x)=some (tr m P,fm h2 g2 c2 (BS g ks x)):=by
  cases ks with
  | nil=>exact (List.not_mem_nil (cov x hx)).elim
  | cons e ks =>
    show (match cS mL (bp n 79 156) 3 4 (qa b1 b2 b3 h g c) (zd g e) (vI m P,fm h2 g2 c2 x) with
     | some t=>dm mL (bp n 79 156) 3 4 (qa b1 b2 b3 h g c) (ks.map (zd g)) t
     | none=>none)=_
    rw[KS]
    exact B8 n m P h g c h2 g2 c2 b1 b2 b3 ks _
 refine ⟨_,hf,?_⟩
 rw[hb]
 exact Md n m P h g c h2 g2 c2 b1 b2 b3 r
noncomputable def kd (m:Nat) (P:Nat→Int):ay:=[(6,.nils),(7,.map 0 0),(8,.map 0 1),(17,.ptr 0 2 0 0)]
noncomputable def Fi (m:Nat) (P:Nat→Int):ay:=kd m P++[(91,.ptr 0 3 0 0),(92,.tup [.bool false]),(93,.bool false)]
theorem Ge (n m:Nat) (P:Nat→Int) (S:MS) (k1 k2 k3:Bool) (b1 b2 b3:List (Nat×ak)) (x r:Int×Int) (hE:∃ es,oW (.str 2) es S.h S.g S.c) (hx:S.h [x.1,x.2]=true) (hr:sE S.h S.g r) :
 g5 (bp n 79 156) mS mL (kd m P) (kx S [fe x.1 x.2]::[⟨k1,b1⟩,⟨k2,b2⟩,⟨k3,b3⟩])=some (Fi m P,kx S [fe r.1 r.2,(0,.dead)]::[⟨k1,b1⟩,⟨k2,b2⟩,⟨k3,b3⟩]):=by
 have hp:cL (bp n 79 156).P (bp n 79 156).nt (bp n 79 156).call mS.ops0 mS.pre (kd m P) (kx S [fe x.1 x.2]::[⟨k1,b1⟩,⟨k2,b2⟩,⟨k3,b3⟩])=some (kd m P++[(90,.map 0 0)],kx S [fe x.1 x.2]::[⟨k1,b1⟩,⟨k2,b2⟩,⟨k3,b3⟩]):=by
  have:=bC.sw (S:=mS) (cx:=bp n 79 156) (callR:=il aR n 0) (aI _) (fr:=hints (kd m P)) (H:=kx S [fe x.1 x.2]::[⟨k1,b1⟩,⟨k2,b2⟩,⟨k3,b3⟩]) (by
   show (bC.Bi _ _ _ _ _).run=_
   have:=Jo n m P S.h S.g S.c S.h2 S.g2 S.c2 x.1 x.2 [⟨k1,b1⟩,⟨k2,b2⟩,⟨k3,b3⟩]
   exact congrArg Tr.run this)
  rw[aP] at this
  exact this
 have hends:=Hk n m P S.h S.g S.c S.h2 S.g2 S.c2 b1 b2 b3 x r hx hr
 unfold g5
 rw[hp]
 show (@dite _ (∃ y,sG (bp n 79 156) mL 3 (qa b1 b2 b3 S.h S.g S.c) (vI m P,fm S.h2 S.g2 S.c2 x) (.str 2) S.h S.g S.c y) (Classical.propDecidable _)
  (fun hx=>if (Classical.choose hx).2.bs.all (fun x=>rj 4 0 x.2) && ((kh (sN 4 0) (Classical.choose hx).1).all (fun x=>l8 4 0 x.2) && eY (an (Classical.choose hx).2.bs 0).2) then some (kh (sN 4 0) (Classical.choose hx).1,dx ((Classical.choose hx).2::[⟨k1,b1⟩,⟨k2,b2⟩,⟨k3,b3⟩]) 0 0 (0,.fmap (.str 2) S.h S.g S.c)) else none)
  (fun _=>none))=_
 have hex:∃ y,sG (bp n 79 156) mL 3 (qa b1 b2 b3 S.h S.g S.c) (vI m P,fm S.h2 S.g2 S.c2 x) (.str 2) S.h S.g S.c y:=⟨_,hends⟩
 have hy:Classical.choose hex=(tr m P++[(92,.tup [.bool false]),(93,.bool false)],fm S.h2 S.g2 S.c2 r):=by
  have hc:=Classical.choose_spec hex
  obtain ⟨es,hE⟩:=hE
  obtain ⟨s1,e1,e2⟩:=hc.2 es hE (List.range es.length) List.nodup_range (by simp) (fun j hj=>by simpa using hj)
  obtain ⟨s2,f1,f2⟩:=hends.2 es hE (List.range es.length) List.nodup_range (by simp) (fun j hj=>by simpa using hj)
  rw[e1] at f1
  obtain rfl:=Option.some.inj f1
  rw[e2] at f2
  simp only[Option.some.injEq,Prod.mk.injEq,List.cons.injEq,and_true] at f2
  exact Prod.ext f2.1 f2.2
 rw[dif_pos hex,hy]
 refine (if_pos ?_).trans ?_
 · rfl
 · rfl
end Go.Eng
end
section
namespace Go.Eng
open Go.Proofs
theorem Qv (n s l m:Nat) (y P Q:Nat→Int) (K:Int) (H:aa):aN (bp n 79 156) (il (tX (tX aR 81 [iO (s+1) l y] (AB 0 (bD m P false))) 92 [AB 0 (bD m P false)] (bD m Q false)) n 0) aW aX (part Tryz.f79 [1,0]) (hints [(0,iO (s+1) l y),(1,.int .i64 K)]) (aC::H) =
 (fun (Z0:Row)=>((fun (Z1:List AV)=>Tr.reqP ([AV.ptrT (some (Nat.succ s)) Z0 0]=[AV.ptrT (some (Nat.succ s)) Z0 0]) (Tr.reqP (Z1=Z1) (Tr.ok (Ex.normal,[(0,AV.ptrT (some (Nat.succ s)) Z0 0,none),(1,AV.int .i64 K,none),(6,AV.slcT none (Row.M [aL.arr .i64 Q m]) 1 m false,none)],aC::H)))) [AV.fn (Fn.func 112) [] [AV.ptrT (some 0) (Row.G [AV.slcT none (Row.M [aL.arr .i64 P m]) 1 m false]) 0]])) (Row.G [AV.slcT none (Row.M [aL.arr .i64 y (aq l 7)]) 7 l false]):=by kernel_rfl
theorem Qw (n s l m:Nat) (y P:Nat→Int) (K:Int) (H:aa):aN (bp n 79 156) (il aR n 0) aW aX (part Tryz.f79 [1,1,0]) (hints [(0,iO (s+1) l y),(1,.int .i64 K),(6,bD m P false)]) (aC::H) =
 Tr.ok (Ex.normal,[(0,AV.ptrT (some (Nat.succ s)) (Row.G [AV.slcT none (Row.M [aL.arr .i64 y (aq l 7)]) 7 l false]) 0,none),(1,AV.int .i64 K,none),(6,AV.slcT none (Row.M [aL.arr .i64 P m]) 1 m false,none),(7,AV.map 0 0,none)],{ lock:=false,bs:=[(0,ak.fmap (KK.str 2) (ni (fun x=>false) [Int.negSucc 0,Int.ofNat 0] true) (oa (fun x=>Int.ofNat 0) [Int.negSucc 0,Int.ofNat 0] (Int.ofNat 0)) (re false 0))] } :: H):=by kernel_rfl
theorem Qx (n s l m:Nat) (y P:Nat→Int) (K:Int) (h:List Int→Bool) (g:List Int→Int) (c:Nat) (H:aa):aN (bp n 79 156) (il aR n 0) aW aX (part Tryz.f79 [1,1,1,0]) (hints [(0,iO (s+1) l y),(1,.int .i64 K),(6,bD m P false),(7,.map 0 0)]) (⟨false,[(0,.fmap (.str 2) h g c)]⟩::H) =
 Tr.ok (Ex.normal,[(0,AV.ptrT (some (Nat.succ s)) (Row.G [AV.slcT none (Row.M [aL.arr .i64 y (aq l 7)]) 7 l false]) 0,none),(1,AV.int .i64 K,none),(6,AV.slcT none (Row.M [aL.arr .i64 P m]) 1 m false,none),(7,AV.map 0 0,none),(8,AV.map 0 1,none)],{ lock:=false,bs:=[(0,ak.fmap (KK.str 2) h g c),(0,ak.fmap (KK.str 2) (fun x=>false) (fun x=>Int.ofNat 0) 0)] } :: H):=by kernel_rfl
theorem QG (n m v k:Nat) (P b b':Nat→Int) (h:List Int→Bool) (g:List Int→Int) (c:Nat) (h2:List Int→Bool) (g2:List Int→Int) (c2:Nat) (x y:Int) (H:aa):aN (bp n 79 156) (il (fS aR 94 (RL v k b b' h g c h2 g2 c2 (-1) 0 H)) n 0) (eP aW 8 (kJ m P .nils (g [x,y])) (dH h g c h2 g2 c2 [fe x y,(0,.dead),fe (-1) 0]::H) (.ok (.normal,hints (kJ m P (.slc 0 5 v 0 1 k none) (g [x,y])++[(136,.bool false)]),dH h g c h2 g2 c2 [fe (-1) 0,(0,.dead),fe (-1) 0,(v,.row (.M [.arr .i64 b k]))]::H))) aX (part Tryz.f79 [1,1,1,1,1,1,1]) (hints (yE m P)) (dH h g c h2 g2 c2 [fe x y,(0,.dead)]::H) =
 (fun (Z0:Nat×ak)=>((fun (Z1:ay)=>((fun (Z2:bm)=>((fun (Z3:bm)=>Tr.reqP (Z1=Z1∧Z3::H=Z3::H) (Tr.reqP ([AV.slc 0 5 v 0 1 k none]=[AV.slc 0 5 v 0 1 k none]∧Z2::H=Z2::H) (Tr.ok (Ex.ret,[(4,AV.int .i64 (g [x,y]),none),(5,AV.slc 0 5 v 0 1 k none,none)],{ lock:=false,bs:=[(0,ak.fmap (KK.str 2) h g c),(0,ak.fmap (KK.str 2) h2 g2 c2),Z0,(0,ak.dead),Z0,(v,ak.row (Row.M [aL.arr .i64 b' k]))] } :: H)))) { lock:=false,bs:=[(0,ak.fmap (KK.str 2) h g c),(0,ak.fmap (KK.str 2) h2 g2 c2),(0,ak.row (Row.I .i64 [x,y])),(0,ak.dead),Z0] })) { lock:=false,bs:=[(0,ak.fmap (KK.str 2) h g c),(0,ak.fmap (KK.str 2) h2 g2 c2),Z0,(0,ak.dead),Z0,(v,ak.row (Row.M [aL.arr .i64 b k]))] })) [(6,AV.slcT none (Row.M [aL.arr .i64 P m]) 1 m false),(8,AV.map 0 1),(17,AV.ptr 0 2 0 0),(21,AV.int .i64 (g [x,y])),(22,AV.nils),(23,AV.ptr 0 4 0 0)])) (0,ak.row (Row.I .i64 [Int.negSucc 0,Int.ofNat 0])):=by kernel_rfl
theorem QI (n m:Nat) (P:Nat→Int) (h:List Int→Bool) (g:List Int→Int) (c:Nat) (h2:List Int→Bool) (g2:List Int→Int) (c2:Nat) (x y:Int) (H:aa):aN (bp n 79 156) (il (tX aR 94 [.nils] (.tup [])) n 0) (eP aW 8 (kJ m P .nils (g [x,y])) (dH h g c h2 g2 c2 [fe x y,(0,.dead),fe (-1) 0]::H) (.ok (.normal,hints (kJ m P .nils (g [x,y])++[(136,.bool false)]),dH h g c h2 g2 c2 [fe (-1) 0,(0,.dead),fe (-1) 0]::H))) aX (part Tryz.f79 [1,1,1,1,1,1,1]) (hints (yE m P)) (dH h g c h2 g2 c2 [fe x y,(0,.dead)]::H) =
 (fun (Z0:bm)=>((fun (Z1:ay)=>Tr.reqP (Z1=Z1∧Z0::H=Z0::H) (Tr.reqP ([AV.nils]=[AV.nils]) (Tr.ok (Ex.ret,[(4,AV.int .i64 (g [x,y]),none),(5,AV.nils,none)],{ lock:=false,bs:=[(0,ak.fmap (KK.str 2) h g c),(0,ak.fmap (KK.str 2) h2 g2 c2),(0,ak.row (Row.I .i64 [Int.negSucc 0,Int.ofNat 0])),(0,ak.dead),(0,ak.row (Row.I .i64 [Int.negSucc 0,Int.ofNat 0]))] } :: H)))) [(6,AV.slcT none (Row.M [aL.arr .i64 P m]) 1 m false),(8,AV.map 0 1),(17,AV.ptr 0 2 0 0),(21,AV.int .i64 (g [x,y])),(22,AV.nils),(23,AV.ptr 0 4 0 0)])) { lock:=false,bs:=[(0,ak.fmap (KK.str 2) h g c),(0,ak.fmap (KK.str 2) h2 g2 c2),(0,ak.row (Row.I .i64 [x,y])),(0,ak.dead),(0,ak.row (Row.I .i64 [Int.negSucc 0,Int.ofNat 0]))] }:=by kernel_rfl
end Go.Eng
end
section
namespace Go.Eng
open Go.Proofs
open Go.Proofs.YtigmfpmabgekoaaGreat.Known (mostS mostL most navB bd79)
theorem QH (n:Nat) (h:List Int→Bool) (g:List Int→Int) (c:Nat) (h2:List Int→Bool) (g2:List Int→Int) (c2:Nat) (H:aa):aN (bp n 79 156) (il (tX aR 94 [.nils] (.tup [])) n 0) aW aX (part Tryz.f79 [1,1,1,1,1,1,1]) (hints [(6,.nils),(7,.map 0 0),(8,.map 0 1),(17,.ptr 0 2 0 0),(91,.ptr 0 3 0 0),(92,.tup [.bool false]),(93,.bool false)]) (dH h g c h2 g2 c2 [fe (-1) 0,(0,.dead)]::H) =
 Tr.ite (bG (gJ (dD (Int.negSucc 0) (Int.negSucc 0)) (dD (Int.ofNat 0) (Int.ofNat 0)))) Tr.bad (Tr.reqP ([AV.nils]=[AV.nils]) (Tr.ok (Ex.ret,[(4,AV.int .i64 (g [Int.negSucc 0,Int.ofNat 0]),none),(5,AV.nils,none)],{ lock:=false,bs:=[(0,ak.fmap (KK.str 2) h g c),(0,ak.fmap (KK.str 2) h2 g2 c2),(0,ak.row (Row.I .i64 [Int.negSucc 0,Int.ofNat 0])),(0,ak.dead),(0,ak.row (Row.I .i64 [Int.negSucc 0,Int.ofNat 0]))] } :: H))):=by kernel_rfl
theorem RR {n s l:Nat} {y:Nat→Int} {K:Int} {H:aa} {fr:ay} {lv:bm} {V:AV}
 (hp:gB (bp n 79 156) mostS mostL most.suf most.pre [(0,iO (s+1) l y),(1,.int .i64 K)] (aC::H)=some (.ret,fr,lv::H))
 (hv:(match eE Tryz.prog fr (lv::H) Tryz.f79.results.toList with
   | some vs=>some (cQ lv.bs 5 (one vs),H)
   | none=>none)=some (V,H)):cd (n+1) (.fn 79) [iO s l y,.int .i64 K] H=some (V,H):=by
 have e156:Tryz.f79.ntmps=156:=by kernel_rfl
 have ho:mg (cd n) 79 [iO s l y,.int .i64 K] H=some (V,H):=by
  show ue Tryz.prog KtB.kt 100000 most (cd n) [iO s l y,.int .i64 K] H=_
  unfold ue
  rw[show Tryz.prog.funcs[most.f]?=some Tryz.f79 from Tryz.func79]
  dsimp only
  rw[if_pos (by rw[e156];rfl),e156]
  rw[show gB (⟨Tryz.prog,cd n,100000,most.f,156,KtB.kt most.f,none⟩:Cx) most.S most.L most.suf most.pre (dv 0 [iO s l y,.int .i64 K]) (⟨false,[]⟩::H)=_ from hp]
  exact hv
 unfold cd
 rw[show cH Tryz.prog mg KtB.kt 100000 (n+1) (.fn 79) [iO s l y,.int .i64 K] H=(match mg (cd n) 79 [iO s l y,.int .i64 K] H with
  | some r=>some r
  | none=>_) from rfl,ho]
theorem fJ {cx:Cx} {S:bC} {L:bk} {suf c:Code} {r:List Code} {fr fr2:ay} {H H2:aa} (h:exec cx c fr H=some (.normal,fr2,H2)):gB cx S L suf (c::r) fr H=gB cx S L suf r fr2 H2:=by
 show (match c5 cx c fr H with
  | some (.normal,fr,H)=>gB cx S L suf r fr H
  | x=>x)=_
 rw[dk,h]
theorem F7 {cx:Cx} {S:bC} {L:bk} {suf:Code} {fr fr2:ay} {H H2:aa} (h:eC cx S L fr H=some (fr2,H2)):gB cx S L suf [] fr H=exec cx suf fr2 H2:=by
 show (match eC cx S L fr H with
  | some (fr,H)=>c5 cx suf fr H
  | none=>none)=_
 rw[h]
 exact dk _ _ _ _
end Go.Eng
end
section
namespace Go.Eng
open Go.Proofs
open Go.Proofs.YtigmfpmabgekoaaGreat.Known (mostS mostL most navB bd79)
theorem rM {cx:Cx} {S:bC} {L:bk} {fr fr1:ay} {H:aa} {l1:bm} {r1:aa} {i:Nat} {q:KK} {h:List Int→Bool} {g:List Int→Int} {c:Nat} (hp:cL cx.P cx.nt cx.call S.ops0 S.pre fr H=some (fr1,l1::r1)) (hf:br fr1 S.m=.map 0 i) (hg:ar (l1::r1) 0 i=(0,.fmap q h g c)):nf cx S L fr H=none:=by
 have a1:ng cx S L fr H=none:=by
  unfold ng
  rw[hp];dsimp only;rw[hf];simp only[hg]
 have a2:kT cx S L fr H=none:=by
  unfold kT
  rw[hp];dsimp only;rw[hf]
 have a3:kU cx S L fr H=none:=by
  unfold kU
  rw[hp];dsimp only;rw[hf]
 unfold nf kS
 rw[a1,a2,a3]
theorem MF (n m:Nat) (P:Nat→Int) (S:MS) (H:aa) (x:Int×Int):cL (bp n 79 156).P (bp n 79 156).nt (bp n 79 156).call mostS.ops0 mostS.pre (nR m P) (kx S [fe x.1 x.2]::H)=some (nR m P++[(90,.map 0 0)],kx S [fe x.1 x.2]::H):=by
 have:=bC.sw (S:=mS) (cx:=bp n 79 156) (callR:=il aR n 0) (aI _) (fr:=hints (nR m P)) (H:=kx S [fe x.1 x.2]::H) (by
  show (bC.Bi _ _ _ _ _).run=_
  have:=MQ n m P S.h S.g S.c S.h2 S.g2 S.c2 x.1 x.2 H
  exact congrArg Tr.run this)
 rw[aP] at this
 exact this
theorem KP (n m:Nat) (P:Nat→Int) (S:MS) (H:aa) (x:Int×Int):cL (bp n 79 156).P (bp n 79 156).nt (bp n 79 156).call mostS.ops0 mostS.pre (kd m P) (kx S [fe x.1 x.2]::H)=some (kd m P++[(90,.map 0 0)],kx S [fe x.1 x.2]::H):=by
 have:=bC.sw (S:=mS) (cx:=bp n 79 156) (callR:=il aR n 0) (aI _) (fr:=hints (kd m P)) (H:=kx S [fe x.1 x.2]::H) (by
  show (bC.Bi _ _ _ _ _).run=_
  have:=Jo n m P S.h S.g S.c S.h2 S.g2 S.c2 x.1 x.2 H
  exact congrArg Tr.run this)
 rw[aP] at this
 exact this
theorem FU:(⟨false,[(0,ak.fmap (KK.str 2) (ni (fun x=>false) [Int.negSucc 0,Int.ofNat 0] true) (oa (fun x=>Int.ofNat 0) [Int.negSucc 0,Int.ofNat 0] (Int.ofNat 0)) (re false 0)),(0,ak.fmap (KK.str 2) (fun x=>false) (fun x=>Int.ofNat 0) 0)]⟩:bm)=kx cO []:=by
 rw[pW,pX,sZ];rfl
section
variable {l K:Nat} {z:Nat→Int} (h:bh l z=0) (hK:K≤15)
theorem QJ (n m:Nat) (P:Nat→Int) (S:MS) (k:Nat) (p:Int) (H:aa) (hk:k≤1000) (hm:m≤1000) (htr:∀ j,j<k→0≤oV (fun q i=>S.g2 [q,(i:Int)]) k p j∧oV (fun q i=>S.g2 [q,(i:Int)]) k p j<m) (hend:oV (fun q i=>S.g2 [q,(i:Int)]) k p k=-1) :
 ∃ fr lv,exec (bp (n+2) 79 156) (part Tryz.f79 [1,1,1,1,1,1,1]) (yE m P) (kx S [fe p (k:Nat),(0,.dead)]::H)=some (.ret,fr,lv::H)∧(match eE Tryz.prog fr (lv::H) Tryz.f79.results.toList with
  | some vs=>some (cQ lv.bs 5 (one vs),H)
  | none=>none)=some (.tup [.int .i64 (S.g [p,(k:Int)]),dA (qX (C8 P (fun q i=>S.g2 [q,(i:Int)]) k p) k).reverse],H):=by
 have hx:=P4 (n+2) m P S k p (S.g [p,(k:Int)]) H hk hm htr hend
 have hl:=lT (C8 P (fun q i=>S.g2 [q,(i:Int)]) k p) k
 generalize qX (C8 P (fun q i=>S.g2 [q,(i:Int)]) k p) k=L at *
 cases L with
 | nil =>
   obtain ⟨x,h1,rfl⟩:=aD (Q:=fun x=>x=(.ret,[(4,.int .i64 (S.g [p,(k:Int)])),(5,.nils)],(dH S.h S.g S.c S.h2 S.g2 S.c2 [fe (-1) 0,(0,.dead),fe (-1) 0]:bm)::H)) (QI (n+2) m P S.h S.g S.c S.h2 S.g2 S.c2 p (k:Nat) H) (cD _ (n+2) (gb (aO _) (fun H=>LD n H))) (bz (af _ _) Lu (fun x h=>by rw[← Tr.ab h];simp only[gi.st,aP];exact hx)) (ag _ _) (Tr.aw ⟨rfl,rfl⟩ (Tr.aw rfl (Tr.av rfl)))
   exact ⟨_,_,h1,by kernel_rfl⟩
 | cons a r =>
   have hk1:k=r.length+1:=by simpa using hl.symm
   have h94:=fun H=>Sm (n+1) r.length (r.length+1) (aB (a::r)) S.h S.g S.c S.h2 S.g2 S.c2 (-1) 0 H (by omega) (by omega)
   have hrv:=Iu (a::r)
   simp only[List.length_cons] at hrv
   rw[hrv] at h94
   have hlr:(a::r).reverse.length=r.length+1:=by simp
   generalize (a::r).reverse=R at *
   cases R with
   | nil=>simp at hlr
   | cons a2 r2 =>
     simp only[List.length_cons,Nat.add_right_cancel_iff] at hlr
     obtain ⟨x,h1,rfl⟩:=aD (Q:=fun x=>x=(.ret,[(4,.int .i64 (S.g [p,(k:Int)])),(5,.slc 0 5 r.length 0 1 (r.length+1) none)],(dH S.h S.g S.c S.h2 S.g2 S.c2 [fe (-1) 0,(0,.dead),fe (-1) 0,(r.length,.row (.M [.arr .i64 (aB (a2::r2)) (r.length+1)]))]:bm)::H)) (QG (n+2) m r.length (r.length+1) P (aB (a::r)) (aB (a2::r2)) S.h S.g S.c S.h2 S.g2 S.c2 p (k:Nat) H) (cD _ (n+2) (ji (aO _) (fun args G x hx=>by
      unfold RL at hx
      obtain ⟨⟨rfl,rfl⟩,h2⟩:=Tr.cY hx
      rw[← Tr.ab h2]
      exact h94 H))) (bz (af _ _) Lu (fun x h=>by rw[← Tr.ab h];simp only[gi.st,aP];exact hx)) (ag _ _) (Tr.aw ⟨rfl,rfl⟩ (Tr.aw ⟨rfl,rfl⟩ (Tr.av rfl)))
     refine ⟨_,_,h1,?_⟩
     rw[← hlr]
     have hres:eE Tryz.prog [(4,.int .i64 (S.g [p,(k:Int)])),(5,.slc 0 5 r2.length 0 1 (r2.length+1) none)] ((dH S.h S.g S.c S.h2 S.g2 S.c2 [fe (-1) 0,(0,.dead),fe (-1) 0,(r2.length,.row (.M [.arr .i64 (aB (a2::r2)) (r2.length+1)]))]:bm)::H) Tryz.f79.results.toList=some [.int .i64 (S.g [p,(k:Int)]),.slc 0 5 r2.length 0 1 (r2.length+1) none]:=by kernel_rfl
     rw[hres]
     show some (cQ _ 5 (.tup [_,_]),H)=_
     simp[cQ,an,dH,fe,Row.sub,Row.len,aE,aM,gd,dA]
end
end Go.Eng
end
