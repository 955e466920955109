/- Lay: what a plan's turns are; a right plan is one only if no cells crowd; Plan's answer is right. -/
import Derived.Test.YtoomemfhcbajoaaV4Lb44x3
import Derived.Test.YtoomemfhcbajoaaV4EngRnLx7
import Derived.Test.YtoomemfhcbajoaaV4EngKtL
import Derived.Test.YtoomemfhcbajoaaProg
import Derived.KernelRfl
import Derived.Test.YtoomemfhcbajoaaChecked
set_option linter.unusedVariables false
set_option linter.unusedSimpArgs false
set_option maxRecDepth 100000
section
namespace Go.Eng
theorem BU:∀ n,cn (fun _=>true) n=n
 | 0=>rfl
 | n+1=>by
   show cn (fun _=>true) n+1=n+1
   rw[BU n]
theorem G1 {l:Nat} {z:Nat→Int} {c:Int} (h:nq l z c=false):0≤c∧c<l∧z c.toNat=0:=by
 unfold nq at h
 simp only[Bool.or_eq_false_iff,Bool.not_eq_false',Bool.and_eq_true,decide_eq_true_eq,decide_eq_false_iff_not,ne_eq,Classical.not_not] at h
 exact ⟨h.1.1,h.1.2,h.2⟩
section
variable {l m:Nat} {f:Nat→Nat→Int} {g:Nat→Nat}
def Nb (l:Nat) (f:Nat→Nat→Int) (g:Nat→Nat) (m:Nat):Prop:=∀ i,i<m→∀ j,j<g i→0≤f i j∧f i j<l∧fm (f i) ((i+1:Nat):Int) (cP f g i) j (f i j).toNat=0
theorem Jb (h:bX (np l f g) m=false):Nb l f g m:=fun i hi j hj=>G1 (eZ (eZ h i hi) j hj)
theorem Db {o:Nat→Int} {T:Int} {z:Nat→Int} {c:Nat} (hc:z c≠0):∀ J,(∀ j,j<J→fm o T z j (o j).toNat=0)→fm o T z J c=z c
 | 0,_=>rfl
 | J + 1,h=>by
   have ih:=Db (o:=o) (T:=T) hc J (fun j hj=>h j (by omega))
   show uI (fm o T z J) (o J).toNat T c=z c
   unfold uI
   by_cases e:c=(o J).toNat
   · have:=h J (by omega)
     rw[← e,ih] at this
     exact absurd this hc
   · rw[if_neg e,ih]
theorem GI {o:Nat→Int} {T:Int} {z:Nat→Int} (hT:T≠0) {j:Nat}:∀ J,j<J→(∀ j,j<J→fm o T z j (o j).toNat=0)→fm o T z J (o j).toNat=T
 | 0,hj,_=>by omega
 | J + 1,hj,h=>by
   show uI (fm o T z J) (o J).toNat T (o j).toNat=T
   unfold uI
   by_cases e:(o j).toNat=(o J).toNat
   · rw[if_pos e]
   · rw[if_neg e]
     have:j≠J:=fun e2=>e (by rw[e2])
     exact GI hT J (by omega) (fun j hj=>h j (by omega))
theorem xU {o:Nat→Int} {T:Int} {z:Nat→Int} {c:Nat}:∀ J,fm o T z J c=z c∨∃ j,j<J∧(o j).toNat=c∧fm o T z J c=T
 | 0=>.inl rfl
 | J + 1=>by
   show uI (fm o T z J) (o J).toNat T c=z c∨∃ j,j<J+1∧(o j).toNat=c∧uI (fm o T z J) (o J).toNat T c=T
   unfold uI
   by_cases e:c=(o J).toNat
   · rw[if_pos e];exact .inr ⟨J,by omega,e.symm,rfl⟩
   · rw[if_neg e]
     rcases xU (o:=o) (T:=T) (z:=z) (c:=c) J with h | ⟨j,h1,h2,h3⟩
     · exact .inl h
     · exact .inr ⟨j,by omega,h2,h3⟩
theorem Dh {c:Nat} {i:Nat} (hc:cP f g i c≠0):∀ q,Nb l f g (i+q)→cP f g (i+q) c=cP f g i c
 | 0,_=>rfl
 | q+1,h=>by
   have ih:=Dh hc q (fun i' hi=>h i' (by omega))
   show fm (f (i+q)) ((i+q+1:Nat):Int) (cP f g (i+q)) (g (i+q)) c=_
   rw[Db (by rw[ih];exact hc) _ (fun j hj=>(h (i+q) (by omega) j hj).2.2),ih]
theorem Li (h:Nb l f g m) {i j:Nat} (hi:i<m) (hj:j<g i):cP f g m (f i j).toNat=((i+1:Nat):Int):=by
 have e1:cP f g (i+1) (f i j).toNat=((i+1:Nat):Int):=by
  show fm (f i) ((i+1:Nat):Int) (cP f g i) (g i) (f i j).toNat=_
  exact GI (by omega) (g i) hj (fun j hj=>(h i hi j hj).2.2)
 obtain ⟨q,rfl⟩:∃ q,m=i+1+q:=⟨m-(i+1),by omega⟩
 rw[Dh (by rw[e1];omega) q h,e1]
theorem Dg {c:Nat}:∀ m,cP f g m c≠0→∃ i,i<m∧∃ j,j<g i∧(f i j).toNat=c∧cP f g m c=((i+1:Nat):Int)
 | 0,h=>absurd rfl h
 | m + 1,h=>by
   have e:cP f g (m+1) c=fm (f m) ((m+1:Nat):Int) (cP f g m) (g m) c:=rfl
   rcases xU (o:=f m) (T:=((m+1:Nat):Int)) (z:=cP f g m) (c:=c) (g m) with h1 | ⟨j,h1,h2,h3⟩
   · rw[e,h1] at h
     obtain ⟨i,a,j,b,cc,dd⟩:=Dg m h
     exact ⟨i,by omega,j,b,cc,by rw[e,h1];exact dd⟩
   · exact ⟨m,by omega,j,h1,h2,by rw[e,h3]⟩
theorem JA {o:Nat→Int} {T:Int} {z:Nat→Int} (hT:T≠0):∀ J,(∀ j,j<J→0≤o j∧o j<l∧fm o T z j (o j).toNat=0)→cn (fun c=>decide (fm o T z J c≠0)) l=cn (fun c=>decide (z c≠0)) l+J
 | 0,_=>rfl
 | J+1,h=>by
   have ih:=JA (o:=o) (T:=T) (z:=z) hT J (fun j hj=>h j (by omega))
   obtain ⟨h1,h2,h3⟩:=h J (by omega)
   rw[gR (p:=fun c=>decide (fm o T z J c≠0)) (q:=fun c=>decide (fm o T z (J+1) c≠0)) (i:=(o J).toNat) (by simp[h3]) (by
    show decide (uI (fm o T z J) (o J).toNat T (o J).toNat≠0)=true
    unfold uI
    rw[if_pos rfl];simpa using hT) (fun j _ hj=>by
    show decide (uI (fm o T z J) (o J).toNat T j≠0)=_
    unfold uI
    rw[if_neg hj]) (by omega),ih,Nat.add_assoc]
theorem JD:∀ m,Nb l f g m→cn (fun c=>decide (cP f g m c≠0)) l=bD g m
 | 0,_=>mO (fun j _=>by show decide (Int.ofNat 0≠0)=false;decide)
 | m+1,h=>by
   have ih:=JD m (fun i hi=>h i (by omega))
   have:=JA (l:=l) (o:=f m) (T:=((m+1:Nat):Int)) (z:=cP f g m) (by omega) (g m) (h m (by omega))
   rw[ih] at this
   exact this
theorem NH (hm:m≤40) (hb:bX (np l f g) m=false) (ht:bD g m=l):lO l m f g=0:=by
 unfold lO
 rw[if_neg (by omega),if_neg (by rw[hb,ht];simp)]
end
section
variable {l k:Nat} {t d:Nat→Int} {h:Int} {m:Nat} {f:Nat→Nat→Int} {g:Nat→Nat}
structure Rp (l k:Nat) (t d:Nat→Int) (h:Int) (m:Nat) (f:Nat→Nat→Int) (g:Nat→Nat):Prop where
 sh:Sh l t k d
 h1:1≤h
 h10:h≤10
 tn:lO l m f g=0
 gh:∀ i,i<m→(g i:Int)≤h
 ru:∀ j,j<l→0≤t j→cP f g m j<cP f g m (t j).toNat
 la:∀ j,j<l→cP f g m j≤d j
theorem MT (r:Rp l k t d h m f g):uA l k t d h m f g=0:=by
 unfold uA
 have a:=JO r.sh r.h1 r.h10
 rw[if_neg (by rw[a];decide),if_neg (by rw[r.tn];decide),if_neg,if_neg,if_neg]
 · intro e
   obtain ⟨j,j1,j2⟩:=(dp _ _).1 e
   have:=r.la j j1
   unfold rE at j2
   rw[decide_eq_true_eq] at j2
   omega
 · intro e
   obtain ⟨j,j1,j2⟩:=(dp _ _).1 e
   unfold rL at j2
   rw[Bool.and_eq_true,decide_eq_true_eq,decide_eq_true_eq] at j2
   have:=r.ru j j1 j2.1
   omega
 · intro e
   obtain ⟨j,j1,j2⟩:=(dp _ _).1 e
   have:=r.gh j j1
   unfold uu at j2
   rw[decide_eq_true_eq] at j2
   omega
theorem Iq (hs:Sh l t k d) (hc:cg l t d h=true) (h1:1≤h) (h10:h≤10):Rp l k t d h (cV l t d h) (fP l k t d h (cV l t d h-1)) (gP l k t d h (cV l t d h-1)):=by
 have row:∀ i,i<cV l t d h→_:=fun i hi=>Gq hs hc ⟨h1,h10⟩ (T:=cV l t d h-1) hi (by omega)
 have hlen:∀ i,i<cV l t d h→(gP l k t d h (cV l t d h-1) i:Int)≤h:=fun i hi=>by
  have:=KQ hs hc ⟨h1,h10⟩ hi
  rw[(row i hi).1];exact this.2
 obtain ⟨T1,T40⟩:=(lC hs hc).2
 generalize cV l t d h-1=T at *
 have cell:∀ i,i<cV l t d h→∀ j,j<gP l k t d h T i→∃ c:Nat,c ∈ rN l k t d h i∧fP l k t d h T i j=c:=fun i hi j hj=>by
  exact ((row i hi).2.2 _).1 ⟨j,hj,rfl⟩
 have nb:∀ i,i<cV l t d h→∀ j,j<gP l k t d h T i→nq l (fm (fP l k t d h T i) ((i+1:Nat):Int) (cP (fP l k t d h T) (gP l k t d h T) i) j) (fP l k t d h T i j)=false:=fun i hi j hj=>by
  obtain ⟨c,c1,c2⟩:=cell i hi j hj
  have hcl:=((zV (h:=h) hs i).2 c c1).1
  unfold nq
  rw[c2,Int.toNat_natCast,decide_eq_true (show (0:Int)≤(c:Int) by omega),decide_eq_true (show (c:Int)<l by omega)]
  have:fm (fP l k t d h T i) ((i+1:Nat):Int) (cP (fP l k t d h T) (gP l k t d h T) i) j c=0:=by
   apply Classical.byContradiction
   intro hne
   rcases xU (o:=fP l k t d h T i) (T:=((i+1:Nat):Int)) (z:=cP (fP l k t d h T) (gP l k t d h T) i) (c:=c) j with e | ⟨j',e1,e2,_⟩
   · rw[e] at hne
     obtain ⟨i',q1,j',q2,q3,_⟩:=Dg i hne
     obtain ⟨c',c3,c4⟩:=cell i' (by omega) j' q2
     rw[c4,Int.toNat_natCast] at q3
     subst q3
     have:=KR hs c1 c3
     omega
   · have:=(row i hi).2.1 j' j e1 hj
     obtain ⟨c',c3,c4⟩:=cell i hi j' (by omega)
     rw[c4,Int.toNat_natCast] at e2
     rw[c4,c2] at this
     omega
  rw[this];rfl
 have hb:bX (np l (fP l k t d h T) (gP l k t d h T)) (cV l t d h)=false:=jc (fun i hi=>jc (fun j hj=>nb i hi j hj))
 have hset:∀ c,c<l→∃ i,i<cV l t d h∧c ∈ rN l k t d h i∧((i:Nat):Int)+1≤d c∧cP (fP l k t d h T) (gP l k t d h T) (cV l t d h) c=((i+1:Nat):Int):=fun c hcl=>by
  obtain ⟨i,i1,i2,i3⟩:=KO hs hc ⟨h1,h10⟩ hcl
  obtain ⟨j,j1,j2⟩:=((row i i1).2.2 (c:Int)).2 ⟨c,i3,rfl⟩
  have:=Li (Jb hb) i1 j1
  rw[j2,Int.toNat_natCast] at this
  exact ⟨i,i1,i3,i2,this⟩
 have htot:bD (gP l k t d h T) (cV l t d h)=l:=by
  rw[← JD (l:=l) (f:=fP l k t d h T) (cV l t d h) (Jb hb)]
  have:cn (fun c=>decide (cP (fP l k t d h T) (gP l k t d h T) (cV l t d h) c≠0)) l=cn (fun _=>true) l:=ey (fun c hcl=>by
   obtain ⟨i,_,_,_,e⟩:=hset c hcl
   rw[e]
   exact decide_eq_true (by omega))
  rw[this,BU]
 refine ⟨hs,h1,h10,NH T40 hb htot,hlen,fun j hj h0=>?_,fun j hj=>?_⟩
 · have htl:=hs.tl j hj
   obtain ⟨i,_,i2,_,e⟩:=hset j hj
   obtain ⟨i',_,i2',_,e'⟩:=hset (t j).toNat (by omega)
   have:=KP hs i2 i2' (by omega)
   rw[e,e'];omega
 · obtain ⟨i,_,_,i3,e⟩:=hset j hj
   rw[e];omega
end
end Go.Eng
end
section
namespace Go.Eng
open Go.Proofs
noncomputable def gL (A:List AV) (P:AV→Prop) (E:AV→Int):List AV→Option (Prop×AV)
 | [a,b,c]=>some ([a,b]=A∧P c,.int .i64 (E c))
 | _=>none
noncomputable def GP (m:Nat) (f:Nat→Nat→Int) (g:Nat→Nat) (j:Int):ar:=[(11,cA m f g),(16,.int .i64 j)]
noncomputable def yD (m:Nat) (f:Nat→Nat→Int) (g:Nat→Nat) (j q:Int):ar:=[(11,cA m f g),(16,.int .i64 j),(17,.int .i64 q)]
theorem Rv (n l k:Nat) (t d:Nat→Int) (h:Int) (m:Nat) (f:Nat→Nat→Int) (g:Nat→Nat) (b1 b2:Bool) (H:aa):aT Try.prog (cd n) 100000 4 Try.f4 (KtL.kt 4) (il (ur (tX (tX aB 15 [bw l t k d] (.bool b1)) 24 [cA m f g] (.bool b2)) 16 J6) n 0) aG aH [(bw l t k d,none),(.int .i64 h,none),(cA m f g,none)] H =
 (fun (Z0:List AV)=>((fun (Z1:List AV)=>Tr.reqP (Z0=Z0) (Tr.ite b1 (Tr.reqP True (Tr.ok ((AV.bool true,none),H))) (Tr.reqP (Z1=Z1) (Tr.ite b2 (Tr.reqP True (Tr.ok ((AV.bool true,none),H))) Tr.bad)))) [AV.slcT none (Row.F (fun j=>AV.slcT none (Row.M [ah.arr .i64 (f j) (g j)]) 1 (g j) false) m) 1 m false])) [AV.agg (Row.G [AV.slcT none (Row.M [ah.arr .i64 t l]) 1 l false,AV.slcT none (Row.M [ah.arr .i64 d k]) 1 k false])]:=by kernel_rfl
theorem QB (n l k:Nat) (t d:Nat→Int) (h:Int) (m:Nat) (f:Nat→Nat→Int) (g:Nat→Nat) (e c:Int) (P:AV→Prop) (E:AV→Int) (H:aa):aT Try.prog (cd n) 100000 4 Try.f4 (KtL.kt 4) (il (ur (ur (ur (tX (tX (tX (tX (tX (tX (tX aB 15 [bw l t k d] (.bool false)) 24 [cA m f g] (.bool false)) 25 [bw l t k d,cA m f g] (.tup [.nils,.int .i64 e])) 26 [bw l t k d,cA m f g] (.tup [.nils,.int .i64 e])) 23 [.nils,.nils] (.bool true)) 27 [bw l t k d,.int .i64 h] (.tup [.nils,.int .i64 c])) 28 [bw l t k d,.int .i64 h] (.int .i64 c)) 29 (gL [bw l t k d,.int .i64 h] P E)) 30 (gL [bw l t k d,.int .i64 h] P E)) 16 J6) n 0) (bG aG 0 [] [] .bad) aH [(bw l t k d,none),(.int .i64 h,none),(cA m f g,none)] H =
 (fun (Z0:Row)=>((fun (Z1:Row)=>((fun (Z2:List AV)=>Tr.reqP ([AV.agg Z0]=[AV.agg Z0]) (Tr.ite false (Tr.reqP True (Tr.ok ((AV.bool true,none),H))) (Tr.reqP ([AV.slcT none Z1 1 m false]=[AV.slcT none Z1 1 m false]) (Tr.ite false (Tr.reqP True (Tr.ok ((AV.bool true,none),H))) (Tr.reqP (Z2=Z2) (Tr.reqP (Z2=Z2) (Tr.reqP ([AV.agg Z0,AV.int .i64 h]=[AV.agg Z0,AV.int .i64 h]) (Tr.reqP ([AV.agg Z0,AV.int .i64 h]=[AV.agg Z0,AV.int .i64 h]) (Tr.reqP ([AV.agg Z0,AV.int .i64 h]=[AV.agg Z0,AV.int .i64 h]∧P (AV.slcT none Z1 1 m false)) (Tr.reqP ([AV.agg Z0,AV.int .i64 h]=[AV.agg Z0,AV.int .i64 h]∧P (AV.slcT none Z1 1 m false)) (Tr.ite (aQ (cw (E (AV.slcT none Z1 1 m false)) (E (AV.slcT none Z1 1 m false)))) (Tr.ok ((AV.bool false,some 1),H)) (Tr.reqP ([AV.nils,AV.nils]=[AV.nils,AV.nils]) (Tr.ite (aQ true) (Tr.ok ((AV.bool false,some 1),H)) (Tr.ite (aQ (cw e e)) (Tr.ok ((AV.bool false,some 1),H)) (Tr.ite (aQ (cw c c)) (Tr.ok ((AV.bool false,some 1),H)) (Tr.ite (aQ (cw c (Int.ofNat 0))) (Tr.reqP True (Tr.ok ((AV.bool true,none),H))) Tr.bad)))))))))))))))) [AV.agg Z0,AV.slcT none Z1 1 m false])) (Row.F (fun j=>AV.slcT none (Row.M [ah.arr .i64 (f j) (g j)]) 1 (g j) false) m))) (Row.G [AV.slcT none (Row.M [ah.arr .i64 t l]) 1 l false,AV.slcT none (Row.M [ah.arr .i64 d k]) 1 k false]):=by kernel_rfl
theorem UD (n l k:Nat) (t d:Nat→Int) (h:Int) (m:Nat) (f:Nat→Nat→Int) (g:Nat→Nat) (e:Int) (T:Nat) (F:Nat→Nat→Int) (G:Nat→Nat) (P:AV→Prop) (E:AV→Int) (H:aa):aT Try.prog (cd n) 100000 4 Try.f4 (KtL.kt 4) (il (ur (ur (ur (tX (tX (tX (tX (tX (tX (tX (tX aB 15 [bw l t k d] (.bool false)) 24 [cA m f g] (.bool false)) 25 [bw l t k d,cA m f g] (.tup [.nils,.int .i64 e])) 26 [bw l t k d,cA m f g] (.tup [.nils,.int .i64 e])) 23 [.nils,.nils] (.bool true)) 27 [bw l t k d,.int .i64 h] (.tup [cA T F G,.int .i64 0])) 28 [bw l t k d,.int .i64 h] (.int .i64 0)) 31 [bw l t k d,.int .i64 h] (.tup [.int .i64 (Int.ofNat T),.int .i64 0])) 29 (gL [bw l t k d,.int .i64 h] P E)) 30 (gL [bw l t k d,.int .i64 h] P E)) 16 J6) n 0) (bG aG 0 (GP T F G 0) (cM l t k d::H) (.ok (.normal,hints (GP T F G (Int.ofNat T)++[(103,.bool false)]),cM l t k d::H))) aH [(bw l t k d,none),(.int .i64 h,none),(cA m f g,none)] H =
 (fun (Z0:Row)=>((fun (Z1:Row)=>((fun (Z2:Row)=>((fun (Z3:List AV)=>Tr.reqP ([AV.agg Z0]=[AV.agg Z0]) (Tr.ite false (Tr.reqP True (Tr.ok ((AV.bool true,none),H))) (Tr.reqP ([AV.slcT none Z1 1 m false]=[AV.slcT none Z1 1 m false]) (Tr.ite false (Tr.reqP True (Tr.ok ((AV.bool true,none),H))) (Tr.reqP (Z3=Z3) (Tr.reqP (Z3=Z3) (Tr.reqP ([AV.agg Z0,AV.int .i64 h]=[AV.agg Z0,AV.int .i64 h]) (Tr.reqP ([AV.agg Z0,AV.int .i64 h]=[AV.agg Z0,AV.int .i64 h]) (Tr.reqP ([AV.agg Z0,AV.int .i64 h]=[AV.agg Z0,AV.int .i64 h]∧P (AV.slcT none Z1 1 m false)) (Tr.reqP ([AV.agg Z0,AV.int .i64 h]=[AV.agg Z0,AV.int .i64 h]∧P (AV.slcT none Z1 1 m false)) (Tr.ite (aQ (cw (E (AV.slcT none Z1 1 m false)) (E (AV.slcT none Z1 1 m false)))) (Tr.ok ((AV.bool false,some 1),H)) (Tr.reqP ([AV.nils,AV.nils]=[AV.nils,AV.nils]) (Tr.ite (aQ true) (Tr.ok ((AV.bool false,some 1),H)) (Tr.ite (aQ (cw e e)) (Tr.ok ((AV.bool false,some 1),H)) (Tr.ite (aQ (cw (Int.ofNat 0) (Int.ofNat 0))) (Tr.ok ((AV.bool false,some 1),H)) (Tr.ite (aQ (cw (Int.ofNat 0) (Int.ofNat 0))) (Tr.ite (cw (Int.ofNat T) (Int.ofNat 0)) (Tr.reqP True (Tr.ok ((AV.bool true,none),H))) (Tr.ok ((AV.bool false,some 1),H))) (Tr.reqP ([AV.agg Z0,AV.int .i64 h]=[AV.agg Z0,AV.int .i64 h]) (Tr.ite (aQ (cw (Int.ofNat 0) (Int.ofNat 0))) (Tr.ok ((AV.bool false,some 1),H)) (Tr.ite (aQ (cw (Int.ofNat T) (Int.ofNat T))) (Tr.ok ((AV.bool false,some 1),H)) (Tr.reqP ([AV.agg Z0,AV.int .i64 h]=[AV.agg Z0,AV.int .i64 h]∧P (AV.slcT none Z2 1 T false)) (Tr.ite (aQ (cw (E (AV.slcT none Z2 1 T false)) (Int.ofNat 0))) (Tr.ok ((AV.bool false,some 1),H)) (Tr.reqP ([(11,AV.slcT none Z2 1 T false),(16,AV.int .i64 (Int.ofNat 0))]=[(11,AV.slcT none Z2 1 T false),(16,AV.int .i64 (Int.ofNat 0))]∧{ lock:=false,bs:=[(0,ai.row Z0)] } :: H={ lock:=false,bs:=[(0,ai.row Z0)] } :: H) (Tr.reqP True (Tr.ok ((AV.bool true,none),H))))))))))))))))))))))))) [AV.agg Z0,AV.slcT none Z1 1 m false])) (Row.F (fun j=>AV.slcT none (Row.M [ah.arr .i64 (F j) (G j)]) 1 (G j) false) T))) (Row.F (fun j=>AV.slcT none (Row.M [ah.arr .i64 (f j) (g j)]) 1 (g j) false) m))) (Row.G [AV.slcT none (Row.M [ah.arr .i64 t l]) 1 l false,AV.slcT none (Row.M [ah.arr .i64 d k]) 1 k false]):=by kernel_rfl
theorem QA (n l k:Nat) (t d:Nat→Int) (h:Int) (m:Nat) (f:Nat→Nat→Int) (g:Nat→Nat) (e c:Int) (q:Nat) (Z:Nat→Int) (P:AV→Prop) (E:AV→Int) (H:aa):aT Try.prog (cd n) 100000 4 Try.f4 (KtL.kt 4) (il (ur (ur (ur (tX (tX (tX (tX (tX (tX (tX aB 15 [bw l t k d] (.bool false)) 24 [cA m f g] (.bool false)) 25 [bw l t k d,cA m f g] (.tup [(bU q Z false),.int .i64 e])) 26 [bw l t k d,cA m f g] (.tup [(bU q Z false),.int .i64 e])) 23 [(bU q Z false),(bU q Z false)] (.bool true)) 27 [bw l t k d,.int .i64 h] (.tup [.nils,.int .i64 c])) 28 [bw l t k d,.int .i64 h] (.int .i64 c)) 29 (gL [bw l t k d,.int .i64 h] P E)) 30 (gL [bw l t k d,.int .i64 h] P E)) 16 J6) n 0) (bG aG 0 [] [] .bad) aH [(bw l t k d,none),(.int .i64 h,none),(cA m f g,none)] H =
 (fun (Z0:Row)=>((fun (Z1:Row)=>((fun (Z2:List AV)=>((fun (Z3:List AV)=>Tr.reqP ([AV.agg Z0]=[AV.agg Z0]) (Tr.ite false (Tr.reqP True (Tr.ok ((AV.bool true,none),H))) (Tr.reqP ([AV.slcT none Z1 1 m false]=[AV.slcT none Z1 1 m false]) (Tr.ite false (Tr.reqP True (Tr.ok ((AV.bool true,none),H))) (Tr.reqP (Z2=Z2) (Tr.reqP (Z2=Z2) (Tr.reqP ([AV.agg Z0,AV.int .i64 h]=[AV.agg Z0,AV.int .i64 h]) (Tr.reqP ([AV.agg Z0,AV.int .i64 h]=[AV.agg Z0,AV.int .i64 h]) (Tr.reqP ([AV.agg Z0,AV.int .i64 h]=[AV.agg Z0,AV.int .i64 h]∧P (AV.slcT none Z1 1 m false)) (Tr.reqP ([AV.agg Z0,AV.int .i64 h]=[AV.agg Z0,AV.int .i64 h]∧P (AV.slcT none Z1 1 m false)) (Tr.ite (aQ (cw (E (AV.slcT none Z1 1 m false)) (E (AV.slcT none Z1 1 m false)))) (Tr.ok ((AV.bool false,some 1),H)) (Tr.reqP (Z3=Z3) (Tr.ite (aQ true) (Tr.ok ((AV.bool false,some 1),H)) (Tr.ite (aQ (cw e e)) (Tr.ok ((AV.bool false,some 1),H)) (Tr.ite (aQ (cw c c)) (Tr.ok ((AV.bool false,some 1),H)) (Tr.ite (aQ (cw c (Int.ofNat 0))) (Tr.reqP True (Tr.ok ((AV.bool true,none),H))) Tr.bad)))))))))))))))) [AV.slcT none (Row.M [ah.arr .i64 Z q]) 1 q false,AV.slcT none (Row.M [ah.arr .i64 Z q]) 1 q false])) [AV.agg Z0,AV.slcT none Z1 1 m false])) (Row.F (fun j=>AV.slcT none (Row.M [ah.arr .i64 (f j) (g j)]) 1 (g j) false) m))) (Row.G [AV.slcT none (Row.M [ah.arr .i64 t l]) 1 l false,AV.slcT none (Row.M [ah.arr .i64 d k]) 1 k false]):=by kernel_rfl
theorem UC (n l k:Nat) (t d:Nat→Int) (h:Int) (m:Nat) (f:Nat→Nat→Int) (g:Nat→Nat) (e:Int) (q:Nat) (Z:Nat→Int) (T:Nat) (F:Nat→Nat→Int) (G:Nat→Nat) (P:AV→Prop) (E:AV→Int) (H:aa):aT Try.prog (cd n) 100000 4 Try.f4 (KtL.kt 4) (il (ur (ur (ur (tX (tX (tX (tX (tX (tX (tX (tX aB 15 [bw l t k d] (.bool false)) 24 [cA m f g] (.bool false)) 25 [bw l t k d,cA m f g] (.tup [(bU q Z false),.int .i64 e])) 26 [bw l t k d,cA m f g] (.tup [(bU q Z false),.int .i64 e])) 23 [(bU q Z false),(bU q Z false)] (.bool true)) 27 [bw l t k d,.int .i64 h] (.tup [cA T F G,.int .i64 0])) 28 [bw l t k d,.int .i64 h] (.int .i64 0)) 31 [bw l t k d,.int .i64 h] (.tup [.int .i64 (Int.ofNat T),.int .i64 0])) 29 (gL [bw l t k d,.int .i64 h] P E)) 30 (gL [bw l t k d,.int .i64 h] P E)) 16 J6) n 0) (bG aG 0 (GP T F G 0) (cM l t k d::H) (.ok (.normal,hints (GP T F G (Int.ofNat T)++[(103,.bool false)]),cM l t k d::H))) aH [(bw l t k d,none),(.int .i64 h,none),(cA m f g,none)] H =
 (fun (Z0:Row)=>((fun (Z1:Row)=>((fun (Z2:Row)=>((fun (Z3:List AV)=>((fun (Z4:List AV)=>Tr.reqP ([AV.agg Z0]=[AV.agg Z0]) (Tr.ite false (Tr.reqP True (Tr.ok ((AV.bool true,none),H))) (Tr.reqP ([AV.slcT none Z1 1 m false]=[AV.slcT none Z1 1 m false]) (Tr.ite false (Tr.reqP True (Tr.ok ((AV.bool true,none),H))) (Tr.reqP (Z3=Z3) (Tr.reqP (Z3=Z3) (Tr.reqP ([AV.agg Z0,AV.int .i64 h]=[AV.agg Z0,AV.int .i64 h]) (Tr.reqP ([AV.agg Z0,AV.int .i64 h]=[AV.agg Z0,AV.int .i64 h]) (Tr.reqP ([AV.agg Z0,AV.int .i64 h]=[AV.agg Z0,AV.int .i64 h]∧P (AV.slcT none Z1 1 m false)) (Tr.reqP ([AV.agg Z0,AV.int .i64 h]=[AV.agg Z0,AV.int .i64 h]∧P (AV.slcT none Z1 1 m false)) (Tr.ite (aQ (cw (E (AV.slcT none Z1 1 m false)) (E (AV.slcT none Z1 1 m false)))) (Tr.ok ((AV.bool false,some 1),H)) (Tr.reqP (Z4=Z4) (Tr.ite (aQ true) (Tr.ok ((AV.bool false,some 1),H)) (Tr.ite (aQ (cw e e)) (Tr.ok ((AV.bool false,some 1),H)) (Tr.ite (aQ (cw (Int.ofNat 0) (Int.ofNat 0))) (Tr.ok ((AV.bool false,some 1),H)) (Tr.ite (aQ (cw (Int.ofNat 0) (Int.ofNat 0))) (Tr.ite (cw (Int.ofNat T) (Int.ofNat 0)) (Tr.reqP True (Tr.ok ((AV.bool true,none),H))) (Tr.ok ((AV.bool false,some 1),H))) (Tr.reqP ([AV.agg Z0,AV.int .i64 h]=[AV.agg Z0,AV.int .i64 h]) (Tr.ite (aQ (cw (Int.ofNat 0) (Int.ofNat 0))) (Tr.ok ((AV.bool false,some 1),H)) (Tr.ite (aQ (cw (Int.ofNat T) (Int.ofNat T))) (Tr.ok ((AV.bool false,some 1),H)) (Tr.reqP ([AV.agg Z0,AV.int .i64 h]=[AV.agg Z0,AV.int .i64 h]∧P (AV.slcT none Z2 1 T false)) (Tr.ite (aQ (cw (E (AV.slcT none Z2 1 T false)) (Int.ofNat 0))) (Tr.ok ((AV.bool false,some 1),H)) (Tr.reqP ([(11,AV.slcT none Z2 1 T false),(16,AV.int .i64 (Int.ofNat 0))]=[(11,AV.slcT none Z2 1 T false),(16,AV.int .i64 (Int.ofNat 0))]∧{ lock:=false,bs:=[(0,ai.row Z0)] } :: H={ lock:=false,bs:=[(0,ai.row Z0)] } :: H) (Tr.reqP True (Tr.ok ((AV.bool true,none),H))))))))))))))))))))))))) [AV.slcT none (Row.M [ah.arr .i64 Z q]) 1 q false,AV.slcT none (Row.M [ah.arr .i64 Z q]) 1 q false])) [AV.agg Z0,AV.slcT none Z1 1 m false])) (Row.F (fun j=>AV.slcT none (Row.M [ah.arr .i64 (F j) (G j)]) 1 (G j) false) T))) (Row.F (fun j=>AV.slcT none (Row.M [ah.arr .i64 (f j) (g j)]) 1 (g j) false) m))) (Row.G [AV.slcT none (Row.M [ah.arr .i64 t l]) 1 l false,AV.slcT none (Row.M [ah.arr .i64 d k]) 1 k false]):=by kernel_rfl
theorem Rt (n l k:Nat) (t d:Nat→Int) (m:Nat) (f:Nat→Nat→Int) (g:Nat→Nat) (j q:Int) (H:aa):aJ (bo n 4 132) (il aB n 0) aG aH (part Try.f4 [1,1,1,1,1,1,1,1,1,1,0,1,0,0,1,0,0,1,0,0]) (hints (yD m f g j q)) (cM l t k d::H) =
 (fun (Z0:aX)=>((fun (Z1:Nat×AV×Option Nat)=>Tr.req (b8 j m) (Tr.req (bV (an 0 j 1) m) (Tr.ite (bT q (Int.ofNat (g (an 0 j 1)))) (Tr.req (b8 j m) (Tr.req (bV (an 0 j 1) m) (Tr.req (b8 q (g (an 0 j 1))) (Tr.req (bV (an 0 q 1) (g (an 0 j 1))) (Tr.req (b8 j m) (Tr.req (bV (an 0 j 1) m) (Tr.req (b8 (bC .i64 q (Int.ofNat 1)) (g (an 0 j 1))) (Tr.req (bV (an 0 (bC .i64 q (Int.ofNat 1)) 1) (g (an 0 j 1))) (Tr.ite (lU (f (an 0 j 1) (an 0 q 1)) (f (an 0 j 1) (an 0 (bC .i64 q (Int.ofNat 1)) 1))) (Tr.ok (Ex.ret,[(6,AV.bool false,some 1)],Z0::H)) (Tr.ok (Ex.normal,[Z1,(16,AV.int .i64 j,none),(17,AV.int .i64 (bu .i64 q (Int.ofNat 1)),none)],Z0::H))))))))))) (Tr.ok (Ex.exit 2,[Z1,(16,AV.int .i64 j,none),(17,AV.int .i64 q,none),(112,AV.bool false,some 1)],Z0::H))))) (11,AV.slcT none (Row.F (fun j=>AV.slcT none (Row.M [ah.arr .i64 (f j) (g j)]) 1 (g j) false) m) 1 m false,none))) { lock:=false,bs:=[(0,ai.row (Row.G [AV.slcT none (Row.M [ah.arr .i64 t l]) 1 l false,AV.slcT none (Row.M [ah.arr .i64 d k]) 1 k false]))] }:=by kernel_rfl
theorem Up (n l k:Nat) (t d:Nat→Int) (m:Nat) (f:Nat→Nat→Int) (g:Nat→Nat) (j c:Int) (H:aa):aJ (bo n 4 132) (il aB n 0) (bG aG 2 (yD m f g j 1) (cM l t k d::H) (.ok (.normal,hints (yD m f g j c++[(112,.bool false)]),cM l t k d::H))) aH (part Try.f4 [1,1,1,1,1,1,1,1,1,1,0,1,0,0]) (hints (GP m f g j)) (cM l t k d::H) =
 (fun (Z0:aX)=>((fun (Z1:Row)=>((fun (Z2:ar)=>Tr.ite (bT j (Int.ofNat m)) (Tr.reqP (Z2=Z2∧Z0::H=Z0::H) (Tr.ok (Ex.normal,[(11,AV.slcT none Z1 1 m false,none),(16,AV.int .i64 (bu .i64 j (Int.ofNat 1)),none)],Z0::H))) (Tr.ok (Ex.exit 0,[(11,AV.slcT none Z1 1 m false,none),(16,AV.int .i64 j,none),(103,AV.bool false,some 1)],Z0::H))) [(11,AV.slcT none Z1 1 m false),(16,AV.int .i64 j),(17,AV.int .i64 (Int.ofNat 1))])) (Row.F (fun j=>AV.slcT none (Row.M [ah.arr .i64 (f j) (g j)]) 1 (g j) false) m))) { lock:=false,bs:=[(0,ai.row (Row.G [AV.slcT none (Row.M [ah.arr .i64 t l]) 1 l false,AV.slcT none (Row.M [ah.arr .i64 d k]) 1 k false]))] }:=by kernel_rfl
theorem Uo (n l k:Nat) (t d:Nat→Int) (m:Nat) (f:Nat→Nat→Int) (g:Nat→Nat) (j:Int) (H:aa):aJ (bo n 4 132) (il aB n 0) (bG aG 2 [] [] .bad) aH (part Try.f4 [1,1,1,1,1,1,1,1,1,1,0,1,0,0]) (hints (GP m f g j)) (cM l t k d::H) =
 (fun (Z0:aX)=>((fun (Z1:Row)=>Tr.ite (bT j (Int.ofNat m)) (Tr.reqP ([(11,AV.slcT none Z1 1 m false),(16,AV.int .i64 j),(17,AV.int .i64 (Int.ofNat 1))]=[]∧Z0::H=[]) Tr.bad) (Tr.ok (Ex.exit 0,[(11,AV.slcT none Z1 1 m false,none),(16,AV.int .i64 j,none),(103,AV.bool false,some 1)],Z0::H))) (Row.F (fun j=>AV.slcT none (Row.M [ah.arr .i64 (f j) (g j)]) 1 (g j) false) m))) { lock:=false,bs:=[(0,ai.row (Row.G [AV.slcT none (Row.M [ah.arr .i64 t l]) 1 l false,AV.slcT none (Row.M [ah.arr .i64 d k]) 1 k false]))] }:=by kernel_rfl
theorem b4:∀ b,(0,b) ∈ aF (bh Try.f4)→b=.loop (part Try.f4 [1,1,1,1,1,1,1,1,1,1,0,1,0,0]):=dw (by kernel_rfl)
theorem Q7:∀ b,(2,b) ∈ aF (part Try.f4 [1,1,1,1,1,1,1,1,1,1,0,1,0,0])→b=.loop (part Try.f4 [1,1,1,1,1,1,1,1,1,1,0,1,0,0,1,0,0,1,0,0]):=dw (by kernel_rfl)
section
variable {m m':Nat} {f f':Nat→Nat→Int} {g g':Nat→Nat}
theorem Iz (h:cA m f g=cA m' f' g'):m=m'∧f=f'∧g=g':=by
 unfold cA bU at h
 injection h with _ h1 _ h2 _
 injection h1 with h3 _
 refine ⟨h2,?_,?_⟩
 · funext j
   have:=congrFun h3 j
   injection this with _ a _ _ _
   injection a with a
   injection a with a _
   injection a with _ a _
 · funext j
   have:=congrFun h3 j
   injection this with _ _ _ a _
end
noncomputable def Hd (l k:Nat) (t d:Nat→Int) (h:Int) (c:AV):Int:=by
 classical exact if e:∃ q:Nat×(Nat→Nat→Int)×(Nat→Nat),c=cA q.1 q.2.1 q.2.2 then uA l k t d h e.choose.1 e.choose.2.1 e.choose.2.2 else 0
theorem Fb (l k:Nat) (t d:Nat→Int) (h:Int) (m:Nat) (f:Nat→Nat→Int) (g:Nat→Nat):Hd l k t d h (cA m f g)=uA l k t d h m f g:=by
 have e:∃ q:Nat×(Nat→Nat→Int)×(Nat→Nat),cA m f g=cA q.1 q.2.1 q.2.2:=⟨(m,f,g),rfl⟩
 unfold Hd
 rw[dif_pos e]
 obtain ⟨a,b,c⟩:=Iz e.choose_spec
 rw[← a,← b,← c]
def K0 (c:AV):Prop:=∃ (m:Nat) (f:Nat→Nat→Int) (g:Nat→Nat),c=cA m f g∧m≤50∧∀ i,i<m→g i≤40
theorem qS {c fn l k:Nat} {t d:Nat→Int} {h:Int} {T:pH} (hT:T.Ok (cd c)) (h2:∀ m f g H,m≤50→(∀ i,i<m→g i≤40)→cd c (.fn fn) [bw l t k d,.int .i64 h,cA m f g] H=some (.int .i64 (uA l k t d h m f g),H)):(ur T fn (gL [bw l t k d,.int .i64 h] K0 (Hd l k t d h))).Ok (cd c):=by
 refine pU hT (fun args p v hg hp H=>?_)
 unfold gL at hg
 split at hg
 · simp only[nP] at hg
   obtain ⟨rfl,rfl⟩:=hg
   obtain ⟨e,m,f,g,rfl,h3,h4⟩:=hp
   simp only[List.cons.injEq,and_true] at e
   obtain ⟨rfl,rfl⟩:=e
   rw[Fb]
   exact h2 m f g H h3 h4
 · cases hg
section
variable (n l k:Nat) (t d:Nat→Int) (h:Int) (m:Nat) (f:Nat→Nat→Int) (g:Nat→Nat) (H:aa)
theorem TZ (j:Nat) (hj:j<m) (hm:m≤1000) (hg:g j≤1000) (ha:∀ a b,a<b→b<g j→f j a<f j b):exec (bo n 4 132) (.block 2 (.loop (part Try.f4 [1,1,1,1,1,1,1,1,1,1,0,1,0,0,1,0,0,1,0,0]))) (yD m f g (j:Nat) ((0+1:Nat):Int)) (cM l t k d::H)=some (.normal,yD m f g (j:Nat) ((g j-1+1:Nat):Int)++[(112,.bool false)],cM l t k d::H):=by
 refine iM (n:=n) (f:=4) (nt:=132) (c:=part Try.f4 [1,1,1,1,1,1,1,1,1,1,0,1,0,0,1,0,0,1,0,0]) 2 (fun q=>yD m f g (j:Nat) ((q+1:Nat):Int)) (fun q=>cM l t k d::H) (g j-1) _ (by omega) (fun q hq=>?_) ?_
 · have:=ha q (q+1) (by omega) (by omega)
   refine aC (Rt n l k t d m f g (j:Nat) ((q+1:Nat):Int) H) (al n) (af _ _) (ag _ _) ?_
   show Tr.all _ (fun r=>_∧tidy _ _ _=(yD m f g (j:Nat) ((q+1+1:Nat):Int),cM l t k d::H))
   have es:bC .i64 ((q+1:Nat):Int) (Int.ofNat 1)=(q:Int):=by rw[qB (by show _≤((q+1:Nat):Int)-1;omega) (by show ((q+1:Nat):Int)-1≤_;omega)];show ((q+1:Nat):Int)-1=_;omega
   rw[cK (j:=q+1) (by omega),es]
   simp only[gK]
   exact wF
 · obtain ⟨x,hx,rfl⟩:=aC (Q:=fun x=>x=(.exit 2,yD m f g (j:Nat) ((g j-1+1:Nat):Int)++[(112,.bool false)],cM l t k d::H)) (Rt n l k t d m f g (j:Nat) ((g j-1+1:Nat):Int) H) (al n) (af _ _) (ag _ _) (by
    simp only[gK]
    generalize hG:g j=G at *
    exact wF
    )
   exact hx
theorem l4 (hm:m≤1000) (hg:∀ j,j<m→g j≤1000) (ha:∀ j,j<m→∀ a b,a<b→b<g j→f j a<f j b):exec (bo n 4 132) (.block 0 (.loop (part Try.f4 [1,1,1,1,1,1,1,1,1,1,0,1,0,0]))) (GP m f g ((0:Nat):Int)) (cM l t k d::H)=some (.normal,GP m f g (Int.ofNat m)++[(103,.bool false)],cM l t k d::H):=by
 refine iM (n:=n) (f:=4) (nt:=132) (c:=part Try.f4 [1,1,1,1,1,1,1,1,1,1,0,1,0,0]) 0 (fun j=>GP m f g (j:Nat)) (fun j=>cM l t k d::H) m _ (by omega) (fun j hj=>?_) ?_
 · have hx:=TZ n l k t d m f g H j hj hm (hg j hj) (ha j hj)
   refine aC (Up n l k t d m f g (j:Nat) ((g j-1+1:Nat):Int) H) (al n) (ay (af _ _) Q7 (fun x hy=>bI hy hx)) (ag _ _) ?_
   show Tr.all _ (fun r=>_∧tidy _ _ _=(GP m f g ((j+1:Nat):Int),cM l t k d::H))
   rw[cK (j:=j) (by omega)]
   exact wF
 · exact cr (Uo n l k t d m f g (Int.ofNat m) H) (al n) (ay (af _ _) Q7 (fun x hx=>(Tr.ae hx).elim)) (ag _ _) (by first | (simp (disch:=omega) only[nV,nW];done) | (simp (disch:=omega) only[nV,nW];omega))
theorem yU (q:Nat) (Z:Nat→Int):Ke q Z q Z=true:=(Hv q q Z Z).2 ⟨rfl,fun _ _=>rfl⟩
theorem c4:cd (n+14) (.fn 4) [bw l t k d,.int .i64 h,cA m f g] H=some (.bool true,H):=by
 have h15:∀ H,cd (n+13) (.fn 15) [bw l t k d] H=some (.bool (decide (40<l) || decide (40<k)),H):=fun H=>RP (n+12) l k t d H
 have h24:∀ H,cd (n+13) (.fn 24) [cA m f g] H=some (.bool (decide (50<m) || bX (fun j=>decide (40<g j)) m),H):=fun H=>RR (n+12) m f g H
 cases hb1:(decide (40<l) || decide (40<k)) with
 | true =>
   refine aE (n:=n+13) Try.func4 rfl rfl rfl (Rv (n+13) l k t d h m f g _ _ H) (aM _ (n+13) (Lj (by omega) (aP (aP (aD _) h15) h24))) (af _ _) (ag _ _) ?_
   rw[hb1]
   exact wF
 | false =>
   cases hb2:(decide (50<m) || bX (fun j=>decide (40<g j)) m) with
   | true =>
     refine aE (n:=n+13) Try.func4 rfl rfl rfl (Rv (n+13) l k t d h m f g _ _ H) (aM _ (n+13) (Lj (by omega) (aP (aP (aD _) h15) h24))) (af _ _) (ag _ _) ?_
     rw[hb1,hb2]
     exact wF
   | false =>
     rw[hb1] at h15
     rw[hb2] at h24
     simp only[Bool.or_eq_false_iff,decide_eq_false_iff_not] at hb1 hb2
     have hm:m≤50:=by omega
     have hl40:l≤40:=by omega
     have hg:∀ i,i<m→g i≤40:=fun i hi=>by
      have:=eZ hb2.2 i hi
      rw[decide_eq_false_iff_not] at this
      omega
     clear hb1 hb2
     obtain ⟨L,e,hL⟩:∃ (L:List Int) (e:Int),L.length≤l∧AG l k t d m f g=.tup [dA L,.int .i64 e]:=by
      unfold AG
      split
      · exact ⟨[],_,Nat.zero_le _,rfl⟩
      · split
        · exact ⟨[],_,Nat.zero_le _,rfl⟩
        · exact ⟨_,_,wM _ _,rfl⟩
     have h25:∀ H,cd (n+13) (.fn 25) [bw l t k d,cA m f g] H=some (.tup [dA L,.int .i64 e],H):=fun H=>by rw[show n+13=(n+4)+9 by omega,RS _ l k t d m f g H hm hg,hL.2]
     have h26:∀ H,cd (n+13) (.fn 26) [bw l t k d,cA m f g] H=some (.tup [dA L,.int .i64 e],H):=fun H=>by rw[show n+13=(n+10)+3 by omega,RT _ l k t d m f g H hm hg,hL.2]
     have h27:∀ H,cd (n+13) (.fn 27) [bw l t k d,.int .i64 h] H=some (KM l k t d h,H):=fun H=>RU (n+1) l k t d h H
     have h28:∀ H,cd (n+13) (.fn 28) [bw l t k d,.int .i64 h] H=some (.int .i64 (dr l k t d h),H):=fun H=>Og (n+9) l k t d H h
     have h29:∀ m f g H,m≤50→(∀ i,i<m→g i≤40)→cd (n+13) (.fn 29) [bw l t k d,.int .i64 h,cA m f g] H=some (.int .i64 (uA l k t d h m f g),H):=fun m f g H a b=>RV (n+2) l k t d h m f g H a b
     have h30:∀ m f g H,m≤50→(∀ i,i<m→g i≤40)→cd (n+13) (.fn 30) [bw l t k d,.int .i64 h,cA m f g] H=some (.int .i64 (uA l k t d h m f g),H):=fun m f g H a b=>RW (n+9) l k t d h m f g H a b
     have h31:∀ H,cd (n+13) (.fn 31) [bw l t k d,.int .i64 h] H=some (NI l k t d h,H):=fun H=>RX (n+8) l k t d H h
     have hP:K0 (cA m f g):=⟨m,f,g,rfl,hm,hg⟩
     by_cases hn:dr l k t d h=0
     · obtain ⟨a1,a2⟩:=rX hn
       obtain ⟨hs,g1,g2⟩:=lY a1
       have rp:=Iq hs a2 g1 g2
       have hp:=MT rp
       rw[show KM l k t d h=.tup [cA (cV l t d h) (fP l k t d h (cV l t d h-1)) (gP l k t d h (cV l t d h-1)),.int .i64 0] from by unfold KM;rw[if_pos hn]] at h27
       rw[hn] at h28
       rw[show NI l k t d h=.tup [.int .i64 (cV l t d h:Nat),.int .i64 0] from by unfold NI;rw[if_pos hn]] at h31
       have hT:=(lC hs a2).2
       have hlen:∀ j,j<cV l t d h→gP l k t d h (cV l t d h-1) j≤40:=fun j hj=>by
        have:=rp.gh j hj
        omega
       have hrow:∀ j,j<cV l t d h→∀ a b,a<b→b<gP l k t d h (cV l t d h-1) j→fP l k t d h (cV l t d h-1) j a<fP l k t d h (cV l t d h-1) j b:=fun j hj=>(Gq hs a2 ⟨g1,g2⟩ (T:=cV l t d h-1) hj (by omega)).2.1
       have hx:=l4 (n+13) l k t d (cV l t d h) (fP l k t d h (cV l t d h-1)) (gP l k t d h (cV l t d h-1)) H (by omega) (fun j hj=>by have:=hlen j hj;omega) hrow
       have hP2:K0 (cA (cV l t d h) (fP l k t d h (cV l t d h-1)) (gP l k t d h (cV l t d h-1))):=⟨_,_,_,rfl,by omega,hlen⟩
       have hE2:Hd l k t d h (cA (cV l t d h) (fP l k t d h (cV l t d h-1)) (gP l k t d h (cV l t d h-1)))=0:=by rw[Fb];exact hp
       clear rp hp hrow hlen
       generalize fP l k t d h (cV l t d h-1)=F at *
       generalize gP l k t d h (cV l t d h-1)=G at *
       generalize cV l t d h=T at *
       have hE2':Hd l k t d h (AV.slcT none (.F (fun j=>AV.slcT none (.M [.arr .i64 (F j) (G j)]) 1 (G j) false) T) 1 T false)=0:=hE2
       cases L with
       | nil =>
         refine aE (n:=n+13) Try.func4 rfl rfl rfl (UD (n+13) l k t d h m f g e T F G K0 (Hd l k t d h) H) (aM _ (n+13) (Lj (by omega) (qS (qS (aP (aP (aP (aP (aP (aP (aP (aP (aD _) h15) h24) h25) h26) (fun H=>LC (n+12) H)) h27) h28) h31) h29) h30))) (ay (af _ _) b4 (fun x hy=>bI hy hx)) (ag _ _) ?_
         repeat' first | (refine Tr.bk (fun hc=>?_) (fun hc=>?_)<;>(try simp (disch:=omega) only[nV,nW,hE2'] at hc)<;>(try (exfalso;omega))) | (refine Tr.cC ?_ ?_;· ((try simp (disch:=omega) only[nV,nW,hE2']);try omega)) | (refine Tr.bg ?_ ?_;· first | exact trivial | rfl | exact ⟨rfl,rfl⟩ | exact ⟨trivial,rfl⟩ | exact ⟨rfl,by assumption⟩ | exact ⟨rfl,rfl,rfl⟩ | (simp (disch:=omega) only[nV,nW,hE2'];done) | ((try simp (disch:=omega) only[nV,nW,hE2']);omega)) | fail
         all_goals first
          | exact Tr.bc ⟨rfl,rfl⟩
          | fail
       | cons a r =>
         rw[show dA (a::r)=bU (r.length+1) (au (a::r)) false from rfl] at h25 h26
         have h23:∀ H,cd (n+13) (.fn 23) [bU (r.length+1) (au (a::r)) false,bU (r.length+1) (au (a::r)) false] H=some (.bool true,H):=fun H=>by
          have:=hL.1
          simp only[List.length_cons] at this
          rw[Rc (n+12) _ _ _ _ _ _ _ (by omega),yU]
         generalize au (a::r)=Z at *
         generalize r.length+1=q at *
         refine aE (n:=n+13) Try.func4 rfl rfl rfl (UC (n+13) l k t d h m f g e q Z T F G K0 (Hd l k t d h) H) (aM _ (n+13) (Lj (by omega) (qS (qS (aP (aP (aP (aP (aP (aP (aP (aP (aD _) h15) h24) h25) h26) h23) h27) h28) h31) h29) h30))) (ay (af _ _) b4 (fun x hy=>bI hy hx)) (ag _ _) ?_
         repeat' first | (refine Tr.bk (fun hc=>?_) (fun hc=>?_)<;>(try simp (disch:=omega) only[nV,nW,hE2'] at hc)<;>(try (exfalso;omega))) | (refine Tr.cC ?_ ?_;· ((try simp (disch:=omega) only[nV,nW,hE2']);try omega)) | (refine Tr.bg ?_ ?_;· first | exact trivial | rfl | exact ⟨rfl,rfl⟩ | exact ⟨trivial,rfl⟩ | exact ⟨rfl,by assumption⟩ | exact ⟨rfl,rfl,rfl⟩ | (simp (disch:=omega) only[nV,nW,hE2'];done) | ((try simp (disch:=omega) only[nV,nW,hE2']);omega)) | fail
         all_goals first
          | exact Tr.bc ⟨rfl,rfl⟩
          | fail
     · rw [show KM l k t d h=.tup [.nils,.int .i64 (dr l k t d h)] from by unfold KM;rw[if_neg hn]] at h27
       generalize dr l k t d h=c at *
       cases L with
       | nil =>
         refine aE (n:=n+13) Try.func4 rfl rfl rfl (QB (n+13) l k t d h m f g e c K0 (Hd l k t d h) H) (aM _ (n+13) (Lj (by omega) (qS (qS (aP (aP (aP (aP (aP (aP (aP (aD _) h15) h24) h25) h26) (fun H=>LC (n+12) H)) h27) h28) h29) h30))) (ay (af _ _) b4 (fun x hx=>(Tr.ae hx).elim)) (ag _ _) ?_
         exact wF
       | cons a r =>
         rw[show dA (a::r)=bU (r.length+1) (au (a::r)) false from rfl] at h25 h26
         have h23:∀ H,cd (n+13) (.fn 23) [bU (r.length+1) (au (a::r)) false,bU (r.length+1) (au (a::r)) false] H=some (.bool true,H):=fun H=>by
          have:=hL.1
          simp only[List.length_cons] at this
          rw[Rc (n+12) _ _ _ _ _ _ _ (by omega),yU]
         generalize au (a::r)=Z at *
         generalize r.length+1=q at *
         refine aE (n:=n+13) Try.func4 rfl rfl rfl (QA (n+13) l k t d h m f g e c q Z K0 (Hd l k t d h) H) (aM _ (n+13) (Lj (by omega) (qS (qS (aP (aP (aP (aP (aP (aP (aP (aD _) h15) h24) h25) h26) h23) h27) h28) h29) h30))) (ay (af _ _) b4 (fun x hx=>(Tr.ae hx).elim)) (ag _ _) ?_
         exact wF
end
end Go.Eng
end
section
namespace Go.Proofs.Ytoomemfhcbajoaa.Known
open Go.Eng Go.Proofs
theorem named:dg Try.prog:=by
 have h:(Try.prog.funcs.toList.all fun fn=>fn.body.isNone || !(fn.name == "runtime.NumGoroutine"))=true:=by kernel_rfl
 intro f fn hf hb
 have:=List.all_eq_true.1 h fn (by simpa using Array.mem_of_getElem? hf)
 rw[hb] at this
 simpa using this
theorem mixed:Try.prog.follows .mixedOrders=true:=by kernel_rfl
theorem H5:∀ e ∈ ([]:List gl),bz Try.prog e:=fun e h=>by cases h
theorem cD {e:gl} {t:List gl} (h:bz Try.prog e) (k:∀ x ∈ t,bz Try.prog x):∀ x ∈ e::t,bz Try.prog x:=fun x hx=>by
 rcases List.mem_cons.1 hx with rfl | hx
 · exact h
 · exact k x hx
def Nv:List gl:=[]
theorem CX:∀ e ∈ Nv,bz Try.prog e:=H5
def cR:List Nat→Code→Code
 | [],c=>c
 | x :: p,c=>match c with
   | .seq a b=>match x with
     | 0=>cR p a
     | _=>cR p b
   | .cond _ a b=>match x with
     | 0=>cR p a
     | _=>cR p b
   | .block _ b=>cR p b
   | .loop b=>cR p b
   | .scope b=>cR p b
   | .rangeFunc _ _ a b=>match x with
     | 0=>cR p a
     | _=>cR p b
   | c=>c
def ln:Code→Array Oper
 | .region _ ops _=>ops
 | _=>#[]
noncomputable def eP:Code:=Try.f90.body.getD .skip
def Ka (l:List Oper):Oper:=l.headD { dst:=none,op:=.move (.tmp 0),type:=0,pos := "",after:=#[],guard:=none }
noncomputable def da:cQ:={ id0:=3,ops0:=ln (cR [1,1,1,0,0] eP),pre:=(ln (cR [1,1,1,0,0] eP)).toList.take 1,ro:=Ka ((ln (cR [1,1,1,0,0] eP)).toList.drop 1),m:=9,ty:=95 }
noncomputable def bB:bt:={ out:=0,gK:=4,id2:=5,nxt:=1,ops1:=ln (cR [1,1,1,0,1,0,0,0] eP),ops2:=ln (cR [1,1,1,0,1,0,0,1,1,0,0] eP),no:=Ka (ln (cR [1,1,1,0,1,0,0,0] eP)).toList,eo:=Ka (ln (cR [1,1,1,0,1,0,0,1,1,0,0] eP)).toList,t1:=(ln (cR [1,1,1,0,1,0,0,0] eP)).toList.tail,t2:=(ln (cR [1,1,1,0,1,0,0,1,1,0,0] eP)).toList.tail,it:=10,nx:=11,mo:=12,en:=13,rest:=cR [1,1,1,0,1,0,0,1,1,0,1] eP,km:=16775424 }
noncomputable def pick:oo:={ f:=90,pre:=[cR [0] eP,cR [1,0] eP,cR [1,1,0] eP],S:=da,L:=bB,suf:=cR [1,1,1,1] eP }
theorem Br:Try.f90.body=some (assemble pick.pre (da.code bB) pick.suf):=by kernel_rfl
theorem xt:da.ops0.toList=da.pre++[da.ro]:=by kernel_rfl
theorem xw:da.ro.op=.range da.ty (.tmp da.m):=by kernel_rfl
theorem xl:da.ro.dst=some bB.it:=by kernel_rfl
theorem xo:da.ro.guard=none:=by kernel_rfl
theorem xu:bB.ops1.toList=bB.no::bB.t1:=by kernel_rfl
theorem xx:bB.no.op=.next (.tmp bB.it) false:=by kernel_rfl
theorem xm:bB.no.dst=some bB.nx:=by kernel_rfl
theorem xp:bB.no.guard=none:=by kernel_rfl
theorem xv:bB.ops2.toList=bB.eo::bB.t2:=by kernel_rfl
theorem xy:bB.eo.op=.entry (.tmp bB.it):=by kernel_rfl
theorem xn:bB.eo.dst=some bB.en:=by kernel_rfl
theorem xr:bB.eo.guard=none:=by kernel_rfl
theorem xz:pick.Ok Try.prog:=⟨⟨Try.f90,Try.func90,Br⟩,⟨xt,xw,xl,xo,⟨_,_,Try.underlying95⟩⟩,⟨xu,xx,xm,xp,xv,xy,xn,xr⟩⟩
noncomputable def rs:List oo:=[pick]
theorem eX:∀ r ∈ rs,r.Ok Try.prog:=fun r h=>by
 rcases List.mem_cons.1 h with rfl | h
 · exact xz
 · cases h
end Go.Proofs.Ytoomemfhcbajoaa.Known
end
section
namespace Go.Proofs.Ytoomemfhcbajoaa.Known
open Go.Eng Go.Proofs
noncomputable def E1:gl:=⟨50,[.int .i64 5],.agg (.G [.slcT none (.I .i64 [2,2,6,5,5,6,-1]) 1 7 true,.slcT none (.I .i64 [5,5,5,5,5,5,5]) 1 7 true])⟩
theorem Ud:bz Try.prog E1:=ct named mixed CX eX [54,95] KtL.kt 100000 40 (H':=[⟨true,[]⟩]) (by kernel_rfl) (by kernel_rfl)
noncomputable def Nw:List gl:=E1::Nv
theorem CY:∀ e ∈ Nw,bz Try.prog e:=cD Ud CX
noncomputable def E2:gl:=⟨50,[.int .i64 4],.agg (.G [.slcT none (.I .i64 [2,2,6,5,5,6,-1]) 1 7 true,.slcT none (.I .i64 [4,4,4,4,4,4,4]) 1 7 true])⟩
theorem Ue:bz Try.prog E2:=ct named mixed CY eX [54,95] KtL.kt 100000 40 (H':=[⟨true,[]⟩]) (by kernel_rfl) (by kernel_rfl)
noncomputable def Nx:List gl:=E2::Nw
theorem CZ:∀ e ∈ Nx,bz Try.prog e:=cD Ue CY
end Go.Proofs.Ytoomemfhcbajoaa.Known
end
section
namespace Go.Proofs.Ytoomemfhcbajoaa.Known
open Go.Eng Go.Proofs
noncomputable def E3:gl:=⟨50,[.int .i64 3],.agg (.G [.slcT none (.I .i64 [2,2,6,5,5,6,-1]) 1 7 true,.slcT none (.I .i64 [3,3,3,3,3,3,3]) 1 7 true])⟩
theorem Uf:bz Try.prog E3:=ct named mixed CZ eX [54,95] KtL.kt 100000 40 (H':=[⟨true,[]⟩]) (by kernel_rfl) (by kernel_rfl)
noncomputable def Nz:List gl:=E3::Nx
theorem C0:∀ e ∈ Nz,bz Try.prog e:=cD Uf CZ
noncomputable def E4:gl:=⟨21,[.agg (.G [.slcT none (.I .i64 [2,2,6,5,5,6,-1]) 1 7 true,.slcT none (.I .i64 [5,5,5,5,5,5,5]) 1 7 true])],.int .i64 0⟩
theorem Ug:bz Try.prog E4:=ct named mixed C0 eX [54,95] KtL.kt 100000 40 (H':=[⟨true,[]⟩]) (by kernel_rfl) (by kernel_rfl)
noncomputable def NA:List gl:=E4::Nz
theorem C3:∀ e ∈ NA,bz Try.prog e:=cD Ug C0
end Go.Proofs.Ytoomemfhcbajoaa.Known
end
section
namespace Go.Proofs.Ytoomemfhcbajoaa.Known
open Go.Eng Go.Proofs
noncomputable def E5:gl:=⟨17,[.agg (.G [.slcT none (.I .i64 [2,2,6,5,5,6,-1]) 1 7 true,.slcT none (.I .i64 [5,5,5,5,5,5,5]) 1 7 true])],.tup [.slcT none (.I .i64 [3,3,2,3,3,2,1]) 1 7 false,.int .i64 0]⟩
theorem Uh:bz Try.prog E5:=ct named mixed C3 eX [54,95] KtL.kt 100000 40 (H':=[⟨true,[]⟩]) (by kernel_rfl) (by kernel_rfl)
noncomputable def NB:List gl:=E5::NA
theorem C4:∀ e ∈ NB,bz Try.prog e:=cD Uh C3
noncomputable def E6:gl:=⟨19,[.agg (.G [.slcT none (.I .i64 [2,2,6,5,5,6,-1]) 1 7 true,.slcT none (.I .i64 [5,5,5,5,5,5,5]) 1 7 true])],.tup [.slcT none (.I .i64 [3,3,4,3,3,4,5]) 1 7 false,.int .i64 0]⟩
theorem Ui:bz Try.prog E6:=ct named mixed C4 eX [54,95] KtL.kt 100000 40 (H':=[⟨true,[]⟩]) (by kernel_rfl) (by kernel_rfl)
noncomputable def NC:List gl:=E6::NB
theorem C5:∀ e ∈ NC,bz Try.prog e:=cD Ui C4
end Go.Proofs.Ytoomemfhcbajoaa.Known
end
section
namespace Go.Proofs.Ytoomemfhcbajoaa.Known
open Go.Eng Go.Proofs
noncomputable def E7:gl:=⟨21,[.agg (.G [.slcT none (.I .i64 [2,2,6,5,5,6,-1]) 1 7 true,.slcT none (.I .i64 [4,4,4,4,4,4,4]) 1 7 true])],.int .i64 0⟩
theorem Uj:bz Try.prog E7:=ct named mixed C5 eX [54,95] KtL.kt 100000 40 (H':=[⟨true,[]⟩]) (by kernel_rfl) (by kernel_rfl)
noncomputable def ND:List gl:=E7::NC
theorem C6:∀ e ∈ ND,bz Try.prog e:=cD Uj C5
noncomputable def E8:gl:=⟨21,[.agg (.G [.slcT none (.I .i64 [2,2,6,5,5,6,-1]) 1 7 true,.slcT none (.I .i64 [3,3,3,3,3,3,3]) 1 7 true])],.int .i64 0⟩
theorem Uk:bz Try.prog E8:=ct named mixed C6 eX [54,95] KtL.kt 100000 40 (H':=[⟨true,[]⟩]) (by kernel_rfl) (by kernel_rfl)
noncomputable def NF:List gl:=E8::ND
theorem C7:∀ e ∈ NF,bz Try.prog e:=cD Uk C6
end Go.Proofs.Ytoomemfhcbajoaa.Known
end
section
namespace Go.Proofs.Ytoomemfhcbajoaa.Known
open Go.Eng Go.Proofs
noncomputable def E9:gl:=⟨32,[.agg (.G [.slcT none (.I .i64 [2,2,6,5,5,6,-1]) 1 7 true,.slcT none (.I .i64 [3,3,3,3,3,3,3]) 1 7 true]),.int .i64 2],.tup [.int .i64 1,.int .i64 0]⟩
theorem Ul:bz Try.prog E9:=ct named mixed C7 eX [54,95] KtL.kt 100000 40 (H':=[⟨true,[]⟩]) (by kernel_rfl) (by kernel_rfl)
noncomputable def NG:List gl:=E9::NF
theorem C8:∀ e ∈ NG,bz Try.prog e:=cD Ul C7
noncomputable def QT:gl:=⟨32,[.agg (.G [.slcT none (.I .i64 [2,2,6,5,5,6,-1]) 1 7 true,.slcT none (.I .i64 [4,4,4,4,4,4,4]) 1 7 true]),.int .i64 2],.tup [.int .i64 0,.int .i64 5]⟩
theorem Pu:bz Try.prog QT:=ct named mixed C8 eX [54,95] KtL.kt 100000 40 (H':=[⟨true,[]⟩]) (by kernel_rfl) (by kernel_rfl)
noncomputable def Jo:List gl:=QT::NG
theorem Am:∀ e ∈ Jo,bz Try.prog e:=cD Pu C8
end Go.Proofs.Ytoomemfhcbajoaa.Known
end
section
namespace Go.Proofs.Ytoomemfhcbajoaa.Known
open Go.Eng Go.Proofs
noncomputable def QU:gl:=⟨34,[.agg (.G [.slcT none (.I .i64 [2,2,6,5,5,6,-1]) 1 7 true,.slcT none (.I .i64 [3,3,3,3,3,3,3]) 1 7 true])],.tup [.int .i64 4,.int .i64 0]⟩
theorem Pv:bz Try.prog QU:=ct named mixed Am eX [54,95] KtL.kt 100000 40 (H':=[⟨true,[]⟩]) (by kernel_rfl) (by kernel_rfl)
noncomputable def Jp:List gl:=QU::Jo
theorem An:∀ e ∈ Jp,bz Try.prog e:=cD Pv Am
noncomputable def QV:gl:=⟨36,[.agg (.G [.slcT none (.I .i64 [2,2,6,5,5,6,-1]) 1 7 true,.slcT none (.I .i64 [5,5,5,5,5,5,5]) 1 7 true]),.int .i64 4],.tup [.int .i64 3,.int .i64 0]⟩
theorem Px:bz Try.prog QV:=ct named mixed An eX [54,95] KtL.kt 100000 40 (H':=[⟨true,[]⟩]) (by kernel_rfl) (by kernel_rfl)
noncomputable def Jq:List gl:=QV::Jp
theorem Ao:∀ e ∈ Jq,bz Try.prog e:=cD Px An
end Go.Proofs.Ytoomemfhcbajoaa.Known
end
