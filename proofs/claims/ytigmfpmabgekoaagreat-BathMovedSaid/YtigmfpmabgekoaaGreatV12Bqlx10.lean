/- Bath: the most: its contract. -/
import Derived.Test.YtigmfpmabgekoaaGreatV12Bqdx7
import Derived.Test.YtigmfpmabgekoaaGreatV12Bc5x23
import Derived.Test.YtigmfpmabgekoaaGreatV12EngSox7
set_option linter.unusedVariables false
set_option linter.unusedSimpArgs false
set_option maxRecDepth 100000
section
namespace Go.Eng
open Go.Proofs
open Go.Proofs.YtigmfpmabgekoaaGreat.Known (mostS mostL most navB bd79)
theorem Mw:most.pre=[part Tryz.f79 [0],part Tryz.f79 [1,0],part Tryz.f79 [1,1,0],part Tryz.f79 [1,1,1,0],part Tryz.f79 [1,1,1,1,0],part Tryz.f79 [1,1,1,1,1,0]]:=by kernel_rfl
theorem Mx:most.suf=part Tryz.f79 [1,1,1,1,1,1,1]:=by kernel_rfl
theorem Iv {l:Nat} {z P:Nat→Int} (hP:∀ i,i<(cU l z).length→P i=(cU l z).getD i 0):qX P (cU l z).length=cU l z:=by
 refine List.ext_getElem (lT _ _) (fun i h1 h2=>?_)
 have:=hP i h2
 rw[List.getD_eq_getElem?_getD,List.getElem?_eq_getElem h2] at this
 simp only[Option.getD_some] at this
 rw[← this]
 simp[qX]
theorem Fy {t:me} (n:Nat) (h:t.Ok (cd n)):(il t n 0).Ok (cd n):=cD _ n h
section
variable {l K:Nat} {z:Nat→Int} (h:bh l z=0) (hK:K≤15)
include h hK
theorem RI:∃ x:Int×List Int,Mo l z K x.1 x.2∧∀ (n s:Nat) (k1 k2 k3:Bool) (b1 b2 b3:List (Nat×ak)),cd (n+9) (.fn 79) [iO s l (oY z l),.int .i64 (K:Int)] [⟨k1,b1⟩,⟨k2,b2⟩,⟨k3,b3⟩]=some (.tup [.int .i64 x.1,dA x.2],[⟨k1,b1⟩,⟨k2,b2⟩,⟨k3,b3⟩]):=by
 obtain ⟨P0,hP0,h81⟩:=Sh l z h
 have hm14:=Il h
 have h92:=fun n H=>Sk n 0 (cU l z).length P0 H (by omega)
 rw[Iv hP0] at h92
 have hQ:∀ i,i<(cU l z).length→aB (cU l z) i=(cU l z).getD i 0:=fun i _=>by rw[fI]
 obtain ⟨p,k,hr,hk,htr,hend,hmo⟩:=Mv (K:=K) h rfl hQ
 refine ⟨(_,_),hmo,fun n s k1 k2 k3 b1 b2 b3=>?_⟩
 have hE:=Kb (a:=eN l z (aB (cU l z))) (K:=K) (cU l z).length
 have h00:(gl (eN l z (aB (cU l z))) K (cU l z).length cO).h [-1,0]=true:=((Bw (a:=eN l z (aB (cU l z))) (K:=K) (cU l z).length).2.1).1
 have hrev:=IN (aB (cU l z)) (fun q i=>(gl (eN l z (aB (cU l z))) K (cU l z).length cO).g2 [q,(i:Int)]) k p
 have hl79:=PZ (n+5) s l (cU l z).length z (aB (cU l z)) [⟨k1,b1⟩,⟨k2,b2⟩,⟨k3,b3⟩] K h hK hm14
 generalize hQQ:cU l z=Q at *
 cases Q with
 | nil =>
   rw[show ([]:List Int).length=0 from rfl] at *
   have hk0:k=0:=by
    rcases Nat.eq_zero_or_pos k with e | e
    · exact e
    · have:=htr 0 e;omega
   subst hk0
   have hp1:p=-1:=hend
   subst hp1
   rw[if_pos rfl] at h81 h92
   obtain ⟨x,xa,rfl⟩:=aD (Q:=fun x=>x=(.normal,[(0,iO (s+1) l (oY z l)),(1,.int .i64 (K:Int))],aC::[⟨k1,b1⟩,⟨k2,b2⟩,⟨k3,b3⟩])) (MA (n+8) s l (oY z l) (K:Int) [⟨k1,b1⟩,⟨k2,b2⟩,⟨k3,b3⟩]) (aI _) (af _ _) (ag _ _) (Tr.av rfl)
   obtain ⟨x,xb,rfl⟩:=aD (Q:=fun x=>x=(.normal,[(0,iO (s+1) l (oY z l)),(1,.int .i64 (K:Int)),(6,.nils)],aC::[⟨k1,b1⟩,⟨k2,b2⟩,⟨k3,b3⟩])) (MB (n+8) s l 0 (oY z l) P0 (K:Int) [⟨k1,b1⟩,⟨k2,b2⟩,⟨k3,b3⟩]) (Fy _ (gb (gb (aO _) (fun H=>h81 n (s+1) H)) (fun H=>h92 (n+4) H))) (af _ _) (ag _ _) (Tr.aw rfl (Tr.aw rfl (Tr.av rfl)))
   obtain ⟨x,xc,rfl⟩:=aD (Q:=fun x=>x=(.normal,[(0,iO (s+1) l (oY z l)),(1,.int .i64 (K:Int)),(6,.nils),(7,.map 0 0)],_::[⟨k1,b1⟩,⟨k2,b2⟩,⟨k3,b3⟩])) (MC (n+8) s l 0 (oY z l) P0 (K:Int) [⟨k1,b1⟩,⟨k2,b2⟩,⟨k3,b3⟩]) (aI _) (af _ _) (ag _ _) (Tr.av rfl)
   obtain ⟨x,xd,rfl⟩:=aD (Q:=fun x=>x=(.normal,[(0,iO (s+1) l (oY z l)),(1,.int .i64 (K:Int)),(6,.nils),(7,.map 0 0),(8,.map 0 1)],_::[⟨k1,b1⟩,⟨k2,b2⟩,⟨k3,b3⟩])) (MD (n+8) s l 0 (oY z l) P0 (K:Int) _ _ _ [⟨k1,b1⟩,⟨k2,b2⟩,⟨k3,b3⟩]) (aI _) (af _ _) (ag _ _) (Tr.av rfl)
   rw[FU] at xd
   obtain ⟨x,xe,rfl⟩:=aD (Q:=fun x=>x=(.normal,[(0,iO (s+1) l (oY z l)),(1,.int .i64 (K:Int)),(6,.nils),(7,.map 0 0),(8,.map 0 1),(32,.int .i64 (Int.ofNat 0)),(33,.int .i64 (Int.ofNat 0)),(34,.bool false)],kx cO []::[⟨k1,b1⟩,⟨k2,b2⟩,⟨k3,b3⟩])) (ME (n+8) s l 0 (oY z l) P0 (K:Int) cO.h cO.g cO.c cO.h2 cO.g2 cO.c2 [⟨k1,b1⟩,⟨k2,b2⟩,⟨k3,b3⟩]) (aI _) (af _ _) (ag _ _) (Tr.av rfl)
   obtain ⟨x,xf,rfl⟩:=aD (Q:=fun x=>x=(.normal,kd 0 P0,kx cO [fe (-1) 0]::[⟨k1,b1⟩,⟨k2,b2⟩,⟨k3,b3⟩])) (MO (n+8) s l 0 (oY z l) P0 (K:Int) cO.h cO.g cO.c cO.h2 cO.g2 cO.c2 [⟨k1,b1⟩,⟨k2,b2⟩,⟨k3,b3⟩]) (aI _) (af _ _) (ag _ _) (Tr.av rfl)
   have xr:eC (bp (n+8) 79 156) mostS mostL (kd 0 P0) (kx cO [fe (-1) 0]::[⟨k1,b1⟩,⟨k2,b2⟩,⟨k3,b3⟩])=some (Fi 0 P0,kx cO [fe (-1) 0,(0,.dead)]::[⟨k1,b1⟩,⟨k2,b2⟩,⟨k3,b3⟩]):=by
    unfold eC
    rw[rM (KP (n+8) 0 P0 cO _ (-1,0)) rfl rfl]
    exact Ge (n+8) 0 P0 cO k1 k2 k3 b1 b2 b3 (-1,0) (-1,0) hE h00 hr
   obtain ⟨x,xs,rfl⟩:=aD (Q:=fun x=>x=(.ret,[(4,.int .i64 (cO.g [-1,0])),(5,.nils)],(dH cO.h cO.g cO.c cO.h2 cO.g2 cO.c2 [fe (-1) 0,(0,.dead),fe (-1) 0]:bm)::[⟨k1,b1⟩,⟨k2,b2⟩,⟨k3,b3⟩])) (QH (n+8) cO.h cO.g cO.c cO.h2 cO.g2 cO.c2 [⟨k1,b1⟩,⟨k2,b2⟩,⟨k3,b3⟩]) (Fy _ (gb (aO _) (fun H=>LD (n+6) H))) (af _ _) (ag _ _) (by
    rw[cn,cn]
    exact Tr.al (fun hc=>by
     have:bG (gJ true true)=true:=hc
     simp (disch:=omega) only[nV,nW] at this) (fun _=>Tr.aw rfl (Tr.av rfl)))
   refine RR (n:=n+8) (fr:=[(4,.int .i64 (cO.g [-1,0])),(5,.nils)]) (lv:=dH cO.h cO.g cO.c cO.h2 cO.g2 cO.c2 [fe (-1) 0,(0,.dead),fe (-1) 0]) ?_ ?_
   · rw[Mw,Mx]
     exact (fJ xa).trans ((fJ xb).trans ((fJ xc).trans ((fJ xd).trans ((fJ xe).trans ((fJ xf).trans ((F7 xr).trans xs))))))
   · kernel_rfl
 | cons a r =>
   have e0:¬(a::r).length=0:=by simp
   rw[if_neg e0] at h81 h92
   have hdA:dA (a::r)=bD (a::r).length (aB (a::r)) false:=rfl
   rw[hdA] at h92
   generalize (a::r).length=m at *
   generalize aB (a::r)=P at *
   generalize gl (eN l z P) K m cO=S at *
   obtain ⟨x,xa,rfl⟩:=aD (Q:=fun x=>x=(.normal,[(0,iO (s+1) l (oY z l)),(1,.int .i64 (K:Int))],aC::[⟨k1,b1⟩,⟨k2,b2⟩,⟨k3,b3⟩])) (MA (n+8) s l (oY z l) (K:Int) [⟨k1,b1⟩,⟨k2,b2⟩,⟨k3,b3⟩]) (aI _) (af _ _) (ag _ _) (Tr.av rfl)
   obtain ⟨x,xb,rfl⟩:=aD (Q:=fun x=>x=(.normal,[(0,iO (s+1) l (oY z l)),(1,.int .i64 (K:Int)),(6,bD m P false)],aC::[⟨k1,b1⟩,⟨k2,b2⟩,⟨k3,b3⟩])) (Qv (n+8) s l m (oY z l) P0 P (K:Int) [⟨k1,b1⟩,⟨k2,b2⟩,⟨k3,b3⟩]) (Fy _ (gb (gb (aO _) (fun H=>h81 n (s+1) H)) (fun H=>h92 (n+4) H))) (af _ _) (ag _ _) (Tr.aw rfl (Tr.aw rfl (Tr.av rfl)))
   obtain ⟨x,xc,rfl⟩:=aD (Q:=fun x=>x=(.normal,[(0,iO (s+1) l (oY z l)),(1,.int .i64 (K:Int)),(6,bD m P false),(7,.map 0 0)],_::[⟨k1,b1⟩,⟨k2,b2⟩,⟨k3,b3⟩])) (Qw (n+8) s l m (oY z l) P (K:Int) [⟨k1,b1⟩,⟨k2,b2⟩,⟨k3,b3⟩]) (aI _) (af _ _) (ag _ _) (Tr.av rfl)
   obtain ⟨x,xd,rfl⟩:=aD (Q:=fun x=>x=(.normal,I9 s l m (oY z l) P (K:Int),_::[⟨k1,b1⟩,⟨k2,b2⟩,⟨k3,b3⟩])) (Qx (n+8) s l m (oY z l) P (K:Int) _ _ _ [⟨k1,b1⟩,⟨k2,b2⟩,⟨k3,b3⟩]) (aI _) (af _ _) (ag _ _) (Tr.av rfl)
   rw[FU] at xd
   obtain ⟨x,xe,rfl⟩:=aD (Q:=fun x=>x=(.normal,tn s l m (oY z l) P K (Int.ofNat m)++[(34,.bool false)],kx S []::[⟨k1,b1⟩,⟨k2,b2⟩,⟨k3,b3⟩])) (Qo (n+8) s l m (oY z l) P (K:Int) cO.h cO.g cO.c cO.h2 cO.g2 cO.c2 S.h S.g S.c S.h2 S.g2 S.c2 [⟨k1,b1⟩,⟨k2,b2⟩,⟨k3,b3⟩]) (aI _) (bz (af _ _) Oo (fun x h=>by rw[← Tr.ab h];simp only[gi.st,aP];exact hl79)) (ag _ _) (Tr.aw ⟨rfl,rfl⟩ (Tr.av rfl))
   obtain ⟨x,xf,rfl⟩:=aD (Q:=fun x=>x=(.normal,nR m P,kx S [fe (-1) 0]::[⟨k1,b1⟩,⟨k2,b2⟩,⟨k3,b3⟩])) (Qp (n+8) s l m (oY z l) P (K:Int) S.h S.g S.c S.h2 S.g2 S.c2 [⟨k1,b1⟩,⟨k2,b2⟩,⟨k3,b3⟩]) (aI _) (af _ _) (ag _ _) (Tr.av rfl)
   have xr:eC (bp (n+8) 79 156) mostS mostL (nR m P) (kx S [fe (-1) 0]::[⟨k1,b1⟩,⟨k2,b2⟩,⟨k3,b3⟩])=some (yE m P,kx S [fe p (k:Nat),(0,.dead)]::[⟨k1,b1⟩,⟨k2,b2⟩,⟨k3,b3⟩]):=by
    unfold eC
    rw[rM (MF (n+8) m P S _ (-1,0)) rfl rfl]
    exact Ip (n+8) m P S k1 k2 k3 b1 b2 b3 (-1,0) (p,(k:Int)) hE h00 hr
   obtain ⟨fr,lv,xs,xv⟩:=QJ (n+6) m P S k p [⟨k1,b1⟩,⟨k2,b2⟩,⟨k3,b3⟩] (by omega) (by omega) htr hend
   rw[show (qX (C8 P (fun q i=>S.g2 [q,(i:Int)]) k p) k).reverse=AA P (fun q i=>S.g2 [q,(i:Int)]) k p from hrev] at xv
   refine RR (n:=n+8) (fr:=fr) (lv:=lv) ?_ xv
   rw[Mw,Mx]
   exact (fJ xa).trans ((fJ xb).trans ((fJ xc).trans ((fJ xd).trans ((fJ xe).trans ((fJ xf).trans ((F7 xr).trans xs))))))
end
end Go.Eng
end
section
namespace Go.Eng
open Go.Proofs
noncomputable def I1 (l:Nat) (y:Nat→Int):AV:=.ptrT (some 0) (.G [aG 7 l y]) 0
noncomputable def Oc (B W:AV) (q M:Int) (args:List AV) (H:aa):Tr (AV×aa) :=
 match H with
 | [⟨_,_⟩,⟨_,_⟩,⟨_,_⟩]=>.reqP (args=[B,.int .i64 q]) (.ok (.tup [.int .i64 M,W],H))
 | _=>.bad
theorem Ut (n l:Nat) (z y:Nat→Int) (q:Int) (H:aa):bu Tryz.prog (cd n) 100000 78 Tryz.f78 (KtB.kt 78) (il (tX aR 52 [aG 5 l z] (.tup [I1 l y,.int .i64 0])) n 0) aW aX [(aG 5 l z,none),(.int .i64 q,none)] H =
 Tr.reqP ([aG 5 l z]=[aG 5 l z]) (Tr.ite (bG (dD (Int.ofNat 0) (Int.ofNat 0))) (Tr.ok ((AV.tup [AV.nilp,AV.int .i64 (Int.ofNat 0)],none),H)) (Tr.ite (df q (Int.ofNat 0)) (Tr.ok ((AV.tup [AV.nilp,AV.int .i64 (Int.ofNat 2)],none),H)) (Tr.ite (df (Int.ofNat 14) q) (Tr.ok ((AV.tup [AV.nilp,AV.int .i64 (Int.ofNat 2)],none),H)) (Tr.ok ((AV.tup [AV.ptrT (some 0) (Row.G [aG 7 l y]) 0,AV.int .i64 (Int.ofNat 0)],none),H))))):=by kernel_rfl
theorem Rh (n l:Nat) (z:Nat→Int) (q e:Int) (H:aa):bu Tryz.prog (cd n) 100000 78 Tryz.f78 (KtB.kt 78) (il (tX aR 52 [aG 5 l z] (.tup [.nilp,.int .i64 e])) n 0) aW aX [(aG 5 l z,none),(.int .i64 q,none)] H =
 Tr.reqP ([aG 5 l z]=[aG 5 l z]) (Tr.ite (bG (dD e (Int.ofNat 0))) (Tr.ok ((AV.tup [AV.nilp,AV.int .i64 e],none),H)) (Tr.ite (df q (Int.ofNat 0)) (Tr.ok ((AV.tup [AV.nilp,AV.int .i64 (Int.ofNat 2)],none),H)) (Tr.ite (df (Int.ofNat 14) q) (Tr.ok ((AV.tup [AV.nilp,AV.int .i64 (Int.ofNat 2)],none),H)) (Tr.ok ((AV.tup [AV.nilp,AV.int .i64 (Int.ofNat 0)],none),H))))):=by kernel_rfl
theorem Q2 (n l k:Nat) (z y b:Nat→Int) (q M:Int) (k1 k2:Bool) (b1 b2:List (Nat×ak)):bu Tryz.prog (cd n) 100000 36 Tryz.f36 (KtB.kt 36) (il (fS (tX aR 78 [aG 5 l z,.int .i64 q] (.tup [I1 l y,.int .i64 0])) 79 (Oc (I1 l y) (bD k b false) q M)) n 0) aW aX [(aG 5 l z,none),(.int .i64 q,none)] [⟨k1,b1⟩,⟨k2,b2⟩] =
 Tr.reqP ([aG 5 l z,AV.int .i64 q]=[aG 5 l z,AV.int .i64 q]) (Tr.ite (bG (dD (Int.ofNat 0) (Int.ofNat 0))) (Tr.ok ((AV.tup [AV.int .i64 (Int.ofNat 0),AV.nils,AV.int .i64 (Int.ofNat 0)],none),[{ lock:=k1,bs:=b1 },{ lock:=k2,bs:=b2 }])) (Tr.reqP ([AV.ptrT (some 0) (Row.G [aG 7 l y]) 0,AV.int .i64 q]=[AV.ptrT (some 0) (Row.G [aG 7 l y]) 0,AV.int .i64 q]) (Tr.ok ((AV.tup [AV.int .i64 M,AV.slcT none (Row.M [aL.arr .i64 b k]) 1 k false,AV.int .i64 (Int.ofNat 0)],none),[{ lock:=k1,bs:=b1 },{ lock:=k2,bs:=b2 }])))):=by kernel_rfl
theorem Q4 (n l:Nat) (z y:Nat→Int) (q M:Int) (k1 k2:Bool) (b1 b2:List (Nat×ak)):bu Tryz.prog (cd n) 100000 36 Tryz.f36 (KtB.kt 36) (il (fS (tX aR 78 [aG 5 l z,.int .i64 q] (.tup [I1 l y,.int .i64 0])) 79 (Oc (I1 l y) .nils q M)) n 0) aW aX [(aG 5 l z,none),(.int .i64 q,none)] [⟨k1,b1⟩,⟨k2,b2⟩] =
 Tr.reqP ([aG 5 l z,AV.int .i64 q]=[aG 5 l z,AV.int .i64 q]) (Tr.ite (bG (dD (Int.ofNat 0) (Int.ofNat 0))) (Tr.ok ((AV.tup [AV.int .i64 (Int.ofNat 0),AV.nils,AV.int .i64 (Int.ofNat 0)],none),[{ lock:=k1,bs:=b1 },{ lock:=k2,bs:=b2 }])) (Tr.reqP ([AV.ptrT (some 0) (Row.G [aG 7 l y]) 0,AV.int .i64 q]=[AV.ptrT (some 0) (Row.G [aG 7 l y]) 0,AV.int .i64 q]) (Tr.ok ((AV.tup [AV.int .i64 M,AV.nils,AV.int .i64 (Int.ofNat 0)],none),[{ lock:=k1,bs:=b1 },{ lock:=k2,bs:=b2 }])))):=by kernel_rfl
theorem Q3 (n l:Nat) (z:Nat→Int) (q e:Int) (H:aa):bu Tryz.prog (cd n) 100000 36 Tryz.f36 (KtB.kt 36) (il (tX aR 78 [aG 5 l z,.int .i64 q] (.tup [.nilp,.int .i64 e])) n 0) aW aX [(aG 5 l z,none),(.int .i64 q,none)] H =
 Tr.reqP ([aG 5 l z,AV.int .i64 q]=[aG 5 l z,AV.int .i64 q]) (Tr.ite (bG (dD e (Int.ofNat 0))) (Tr.ok ((AV.tup [AV.int .i64 (Int.ofNat 0),AV.nils,AV.int .i64 e],none),H)) Tr.bad):=by kernel_rfl
end Go.Eng
end
section
namespace Go.Eng
open Go.Proofs
def eh (l:Nat) (z:Nat→Int) (q:Int):Int:=if bh l z≠0 then bh l z else if q<0∨14<q then 2 else 0
noncomputable def A7 (l:Nat) (z:Nat→Int) (q:Int):AV:=if eh l z q=0 then .tup [I1 l (oY z l),.int .i64 0] else .tup [.nilp,.int .i64 (eh l z q)]
theorem Ky {l:Nat} {z:Nat→Int} {q:Int} (h:eh l z q=0):bh l z=0∧0≤q∧q≤14:=by
 unfold eh at h
 split at h
 · rename_i h1;exact absurd h h1
 · rename_i h1
   split at h
   · cases h
   · exact ⟨Classical.byContradiction h1,by omega,by omega⟩
theorem tI {l:Nat} {z:Nat→Int} {q:Int} (h:bh l z=0) (h0:0≤q) (h1:q≤14):eh l z q=0:=by
 unfold eh
 rw[if_neg (fun x=>x h),if_neg (by omega)]
theorem Sg (n l:Nat) (z:Nat→Int) (q:Int) (H:aa):cd (n+11) (.fn 78) [aG 5 l z,.int .i64 q] H=some (A7 l z q,H):=by
 have hc:∀ H,cd (n+10) (.fn 52) [aG 5 l z] H=some (m9 l z,H):=fun H=>Oz _ l z H
 unfold A7
 by_cases h:bh l z=0
 · have ho:m9 l z=.tup [I1 l (oY z l),.int .i64 0]:=by unfold m9;rw[if_pos h];rfl
   rw[ho] at hc
   refine ba (n:=n+10) Tryz.func78 rfl rfl rfl (Ut (n+10) l z (oY z l) q H) (cD _ _ (gb (aO _) hc)) (af _ _) (ag _ _) ?_
   by_cases hq:q<0∨14<q
   · rw[show eh l z q=2 by unfold eh;rw[if_neg (fun x=>x h),if_pos hq],if_neg (by decide)]
     repeat' first | (refine Tr.al (fun hc=>?_) (fun hc=>?_)<;>(try simp (disch:=omega) only[nV,nW] at hc)<;>(try (exfalso;omega))) | (refine Tr.a8 ?_ ?_;· ((try simp (disch:=omega) only[nV,nW]);try omega)) | (refine Tr.aw ?_ ?_;· first | exact trivial | rfl | exact ⟨rfl,rfl⟩ | exact ⟨trivial,rfl⟩ | exact ⟨rfl,by assumption⟩ | exact ⟨trivial,by assumption⟩ | exact ⟨rfl,rfl,rfl⟩ | (simp (disch:=omega) only[nV,nW];done) | ((try simp (disch:=omega) only[nV,nW]);omega)) | fail
     all_goals first
      | exact Tr.av ⟨rfl,rfl⟩
      | omega
      | fail
   · rw[show eh l z q=0 by unfold eh;rw[if_neg (fun x=>x h),if_neg hq],if_pos rfl]
     repeat' first | (refine Tr.al (fun hc=>?_) (fun hc=>?_)<;>(try simp (disch:=omega) only[nV,nW] at hc)<;>(try (exfalso;omega))) | (refine Tr.a8 ?_ ?_;· ((try simp (disch:=omega) only[nV,nW]);try omega)) | (refine Tr.aw ?_ ?_;· first | exact trivial | rfl | exact ⟨rfl,rfl⟩ | exact ⟨trivial,rfl⟩ | exact ⟨rfl,by assumption⟩ | exact ⟨trivial,by assumption⟩ | exact ⟨rfl,rfl,rfl⟩ | (simp (disch:=omega) only[nV,nW];done) | ((try simp (disch:=omega) only[nV,nW]);omega)) | fail
     all_goals first
      | exact Tr.av ⟨rfl,rfl⟩
      | omega
      | fail
 · have ho:m9 l z=.tup [.nilp,.int .i64 (bh l z)]:=by unfold m9;rw[if_neg h]
   rw[ho] at hc
   rw[show eh l z q=bh l z by unfold eh;rw[if_pos h],if_neg h]
   refine ba (n:=n+10) Tryz.func78 rfl rfl rfl (Rh (n+10) l z q (bh l z) H) (cD _ _ (gb (aO _) hc)) (af _ _) (ag _ _) ?_
   exact wF
noncomputable def mX (l:Nat) (z:Nat→Int) (K:Nat):Int×List Int:=@dite _ (bh l z=0∧K≤15) (Classical.propDecidable _) (fun hh=>Classical.choose (RI (K:=K) hh.1 hh.2)) (fun _=>(0,[]))
theorem rG {l K:Nat} {z:Nat→Int} (h:bh l z=0) (hK:K≤15):Mo l z K (mX l z K).1 (mX l z K).2∧∀ (n s:Nat) (k1 k2 k3:Bool) (b1 b2 b3:List (Nat×ak)),cd (n+9) (.fn 79) [iO s l (oY z l),.int .i64 (K:Int)] [⟨k1,b1⟩,⟨k2,b2⟩,⟨k3,b3⟩]=some (.tup [.int .i64 (mX l z K).1,dA (mX l z K).2],[⟨k1,b1⟩,⟨k2,b2⟩,⟨k3,b3⟩]):=by
 unfold mX
 rw[dif_pos ⟨h,hK⟩]
 exact Classical.choose_spec (RI (K:=K) h hK)
noncomputable def Qa (l:Nat) (z:Nat→Int) (q:Int):AV:=if eh l z q=0 then .tup [.int .i64 (mX l z q.toNat).1,dA (mX l z q.toNat).2,.int .i64 0] else .tup [.int .i64 0,.nils,.int .i64 (eh l z q)]
theorem Fp {c:Nat} {t:me} {B W:AV} {q M:Int} (ht:t.Ok (cd c)) (h:∀ k1 k2 k3 b1 b2 b3,cd c (.fn 79) [B,.int .i64 q] [⟨k1,b1⟩,⟨k2,b2⟩,⟨k3,b3⟩]=some (.tup [.int .i64 M,W],[⟨k1,b1⟩,⟨k2,b2⟩,⟨k3,b3⟩])):(fS t 79 (Oc B W q M)).Ok (cd c):=by
 refine ji ht (fun args H x hx=>?_)
 unfold Oc at hx
 split at hx
 · obtain ⟨rfl,h2⟩:=Tr.cY hx
   rw[← Tr.ab h2]
   exact h _ _ _ _ _ _
 · exact (Tr.ae hx).elim
theorem Sa (n l:Nat) (z:Nat→Int) (q:Int) (k1 k2:Bool) (b1 b2:List (Nat×ak)):cd (n+12) (.fn 36) [aG 5 l z,.int .i64 q] [⟨k1,b1⟩,⟨k2,b2⟩]=some (Qa l z q,[⟨k1,b1⟩,⟨k2,b2⟩]):=by
 have hc:∀ H,cd (n+11) (.fn 78) [aG 5 l z,.int .i64 q] H=some (A7 l z q,H):=fun H=>Sg n l z q H
 unfold Qa
 by_cases h:eh l z q=0
 · obtain ⟨h1,h2,h3⟩:=Ky h
   obtain ⟨hm,h79⟩:=rG (K:=q.toNat) h1 (by omega)
   have ho:A7 l z q=.tup [I1 l (oY z l),.int .i64 0]:=by unfold A7;rw[if_pos h]
   rw[ho] at hc
   rw[if_pos h]
   rw[show ((q.toNat:Nat):Int)=q by omega] at h79
   generalize (mX l z q.toNat).1=M at *
   generalize (mX l z q.toNat).2=B at *
   cases B with
   | nil =>
     refine ba (n:=n+11) Tryz.func36 rfl rfl rfl (Q4 (n+11) l z (oY z l) q M k1 k2 b1 b2) (cD _ _ (Fp (gb (aO _) hc) (fun k1 k2 k3 b1 b2 b3=>h79 (n+2) 0 k1 k2 k3 b1 b2 b3))) (af _ _) (ag _ _) ?_
     exact wF
   | cons a r =>
     refine ba (n:=n+11) Tryz.func36 rfl rfl rfl (Q2 (n+11) l (r.length+1) z (oY z l) (aB (a::r)) q M k1 k2 b1 b2) (cD _ _ (Fp (gb (aO _) hc) (fun k1 k2 k3 b1 b2 b3=>h79 (n+2) 0 k1 k2 k3 b1 b2 b3))) (af _ _) (ag _ _) ?_
     exact wF
 · have ho:A7 l z q=.tup [.nilp,.int .i64 (eh l z q)]:=by unfold A7;rw[if_neg h]
   rw[ho] at hc
   rw[if_neg h]
   refine ba (n:=n+11) Tryz.func36 rfl rfl rfl (Q3 (n+11) l z q (eh l z q) [⟨k1,b1⟩,⟨k2,b2⟩]) (cD _ _ (gb (aO _) hc)) (af _ _) (ag _ _) ?_
   exact wF
end Go.Eng
end
section
namespace Go.Eng
open Go.Proofs
theorem La {l:Nat} {z:Nat→Int} (hc:bh l z=0) (h:¬ cg l z=0):cg l z=22:=by
 have:=CP l z hc
 rw[this] at h ⊢
 cases e:Lm z l with
 | true=>rw[e] at h;exact absurd rfl h
 | false=>rfl
theorem Lo {l:Nat} {z:Nat→Int} (h:cg l z=0):ec l z≤14:=by
 have hl:=(bM (jG l z h).1).1
 have:=AS l z;unfold ec rT;omega
end Go.Eng
end
section
namespace Go.Eng
open Go.Proofs
theorem Eh {l:Nat} (r i:Nat) (hi:i<l):∃ i',i'<l∧(i'+r) % l=i:=by
 have hl:0<l:=by omega
 have hr:=Nat.mod_lt r hl
 refine ⟨(i+(l-r % l)) % l,Nat.mod_lt _ hl,?_⟩
 rw[Nat.add_mod,Nat.mod_mod,← Nat.add_mod]
 have h1:i+(l-r % l)+r=i+l*(1+r / l):=by
  have:=Nat.div_add_mod r l
  have:l*(1+r / l)=l+l*(r / l):=by rw[Nat.mul_add,Nat.mul_one]
  omega
 rw[h1,Nat.add_mul_mod_self_left,Nat.mod_eq_of_lt hi]
theorem IQ {l:Nat} {z y:Nat→Int} {r:Nat} (hc:bh l z=0) (h:∀ i,i<l→∀ j,j<5→y (i*5+j)=z ((i+r) % l*5+j)) :
 bh l y=0∧(cg l z=0↔cg l y=0)∧(cg l z=0→ec l z=ec l y∧dM l z=dM l y)∧∀ K,K≤15→(mX l z K).1=(mX l y K).1:=by
 obtain ⟨hl,hz⟩:=bM hc
 have hlt:∀ i,(i+r) % l<l:=fun i=>Nat.mod_lt _ (by omega)
 have hcy:bh l y=0:=JY hl (fun j hj=>by
  have h0:=h j hj 0 (by omega)
  have h1:=h j hj 1 (by omega)
  have h2:=h j hj 2 (by omega)
  have h3:=h j hj 3 (by omega)
  have h4:=h j hj 4 (by omega)
  rw[Nat.add_zero,Nat.add_zero] at h0
  have:=hz _ (hlt j)
  rw[h0,h1,h2,h3,h4]
  exact this)
 have hb:∀ i,i<l→cq y i=cq z ((i+r) % l)∧bE y i=bE z ((i+r) % l)∧gm y i=gm z ((i+r) % l):=fun i hi=>by
  have h0:=h i hi 0 (by omega)
  have h1:=h i hi 1 (by omega)
  have h2:=h i hi 2 (by omega)
  have h3:=h i hi 3 (by omega)
  have h4:=h i hi 4 (by omega)
  rw[Nat.add_zero,Nat.add_zero] at h0
  unfold cq bE gm
  rw[h0,h1,h2,h3,h4]
  exact ⟨rfl,rfl,rfl⟩
 have hs1:AE l z l y:=fun i hi=>by
  obtain ⟨i',h1,h2⟩:=Eh r i hi
  have:=hb i' h1
  rw[h2] at this
  exact ⟨i',h1,by omega,by omega⟩
 have hs2:AE l y l z:=fun i hi=>⟨_,hlt i,by have:=hb i hi;omega,by have:=hb i hi;omega⟩
 obtain ⟨s1,s2⟩:=Ho hs1 hs2 hc hcy
 refine ⟨hcy,s1,s2,fun K hK=>?_⟩
 have m1:=(rG (K:=K) hc hK).1.most
 have m2:=(rG (K:=K) hcy hK).1.most
 have m3:=lH (lo':=cq y) (hi':=bE y) (w':=gm y) (fun i hi=>(hb i hi).1) (fun i hi=>(hb i hi).2.1) (fun i hi=>(hb i hi).2.2) (yY r m1)
 exact ou m3 m2
theorem GI {l:Nat} {z y:Nat→Int} {t:Int} (hc:bh l z=0) (hcy:bh l y=0) (ht:0≤t) (h:∀ i,i<l→∀ j,j<4→y (i*5+j)=z (i*5+j)) (h4:∀ i,i<l→y (i*5+4)=t*z (i*5+4)) (K:Nat) (hK:K≤15):(mX l y K).1=t*(mX l z K).1:=by
 have hb:∀ i,i<l→cq y i=cq z i∧bE y i=bE z i∧gm y i=t*gm z i:=fun i hi=>by
  have h0:=h i hi 0 (by omega)
  have h1:=h i hi 1 (by omega)
  have h2:=h i hi 2 (by omega)
  have h3:=h i hi 3 (by omega)
  rw[Nat.add_zero] at h0
  unfold cq bE gm
  rw[h0,h1,h2,h3,h4 i hi]
  exact ⟨rfl,rfl,rfl⟩
 have m1:=A1 t ht (rG (K:=K) hc hK).1.most
 have m2:=(rG (K:=K) hcy hK).1.most
 exact (ou (lH (lo':=cq y) (hi':=bE y) (w':=gm y) (fun i hi=>(hb i hi).1) (fun i hi=>(hb i hi).2.1) (fun i hi=>(hb i hi).2.2) m1) m2).symm
theorem FG {l:Nat} {z x:Nat→Int} {u:Int} (hc:bh l z=0) (hcx:bh l x=0) (h0:∀ i,i<l→x (i*5)=z (i*5)+u) (h1:∀ i,i<l→x (i*5+1)=z (i*5+1)+u) (h2:∀ i,i<l→∀ j,j<5→2≤j→x (i*5+j)=z (i*5+j)) :
 (∀ i,i<l→cq x i=cq z i+u∧bE x i=bE z i+u)∧(cg l z=0↔cg l x=0)∧(cg l z=0→ec l z=ec l x∧∀ j,j<ec l z→aB (dM l x) j=aB (dM l z) j+u)∧∀ K,K≤15→(mX l x K).1=(mX l z K).1:=by
 have hb:∀ i,i<l→cq x i=cq z i+u∧bE x i=bE z i+u∧gm x i=gm z i:=fun i hi=>by
  have a0:=h0 i hi
  have a1:=h1 i hi
  have a2:=h2 i hi 2 (by omega) (by omega)
  have a3:=h2 i hi 3 (by omega) (by omega)
  have a4:=h2 i hi 4 (by omega) (by omega)
  unfold cq bE gm
  rw[a0,a1,a2,a3,a4]
  exact ⟨by omega,by omega,rfl⟩
 obtain ⟨f1,f2⟩:=Fo u (fun i hi=>(hb i hi).1) (fun i hi=>(hb i hi).2.1) hc hcx
 refine ⟨fun i hi=>⟨(hb i hi).1,(hb i hi).2.1⟩,f1,f2,fun K hK=>?_⟩
 have m1:=xt u (rG (K:=K) hc hK).1.most
 have m2:=(rG (K:=K) hcx hK).1.most
 exact (ou (lH (lo':=cq x) (hi':=bE x) (w':=gm x) (fun i hi=>(hb i hi).1) (fun i hi=>(hb i hi).2.1) (fun i hi=>(hb i hi).2.2) m1) m2).symm
end Go.Eng
end
section
namespace Go.Eng
open Go.Proofs
def chain:List Code→Code
 | []=>.skip
 | [c]=>c
 | c::r=>.seq c (chain r)
noncomputable def LF (fn:Func) (H:aa) (fr:ay) (l:bm):Option (AV×aa) :=
 match eE Tryz.prog fr (l::H) fn.results.toList with
 | some vs=>some (cQ l.bs 5 (one vs),H)
 | none=>none
theorem wS {cx:Cx} {a b:Code} {r:List Code} {fr fr2:ay} {H H2:aa} (h:exec cx a fr H=some (.normal,fr2,H2)):exec cx (chain (a::b::r)) fr H=exec cx (chain (b::r)) fr2 H2:=by
 show exec cx (.seq a (chain (b::r))) fr H=_
 simp only[exec,h]
theorem JX {cx:Cx} {a b:Code} {r:List Code} {fr:ay} {H:aa} {x:ay×aa} (h:exec cx a fr H=some (.ret,x)):exec cx (chain (a::b::r)) fr H=some (.ret,x):=by
 show exec cx (.seq a (chain (b::r))) fr H=_
 simp only[exec,h]
theorem eT {cx:Cx} {c:Code} {r:List Code}:∀ (a:List Code) {fr fr2:ay} {H H2:aa},a≠[]→exec cx (chain a) fr H=some (.normal,fr2,H2)→exec cx (chain (a++c::r)) fr H=exec cx (chain (c::r)) fr2 H2
 | [],_,_,_,_,h,_=>absurd rfl h
 | [a],_,_,_,_,_,h=>wS h
 | a :: b::l,fr,fr2,H,H2,_,h=>by
   have h:exec cx (.seq a (chain (b::l))) fr H=some (.normal,fr2,H2):=h
   show exec cx (.seq a (chain (b::l++c::r))) fr H=_
   simp only[exec] at h ⊢
   cases e:exec cx a fr H with
   | none=>rw[e] at h;cases h
   | some x =>
     obtain ⟨x,f3,H3⟩:=x
     rw[e] at h
     cases x with
     | normal=>exact eT (b::l) (by simp) h
     | _=>cases h
theorem r9 {cx:Cx} {c:Code} {r:List Code}:∀ (a:List Code) {fr:ay} {H:aa} {y:ay×aa},a≠[]→exec cx (chain a) fr H=some (.ret,y)→exec cx (chain (a++c::r)) fr H=some (.ret,y)
 | [],_,_,_,h,_=>absurd rfl h
 | [a],_,_,_,_,h=>JX h
 | a :: b::l,fr,H,y,_,h=>by
   have h:exec cx (.seq a (chain (b::l))) fr H=some (.ret,y):=h
   show exec cx (.seq a (chain (b::l++c::r))) fr H=_
   simp only[exec] at h ⊢
   cases e:exec cx a fr H with
   | none=>rw[e] at h;cases h
   | some x =>
     obtain ⟨x,f3,H3⟩:=x
     rw[e] at h
     cases x with
     | normal=>exact r9 (b::l) (by simp) h
     | ret=>exact h
     | _=>cases h
theorem Ha {f:FuncId} {fn:Func} {c:Code} {n:Nat} (hf:Tryz.prog.funcs[f]?=some fn) (hb:fn.body=some c) (hn:KF f=false) {args:List AV} (hle:Nat.ble args.length fn.ntmps=true) {H:aa} {fr:ay} {l:bm} {v:AV} (h:exec (bp n f fn.ntmps) c (dv 0 args) (aC::H)=some (.ret,fr,l::H)) (hv:LF fn H fr l=some (v,H)):cd (n+1) (.fn f) args H=some (v,H):=by
 have ho:=A9 f hn (cd n) args H
 unfold cd at ho ⊢
 have h:exec ⟨Tryz.prog,cH Tryz.prog mg KtB.kt 100000 n,100000,f,fn.ntmps,KtB.kt f,none⟩ c (dv 0 args) (⟨false,[]⟩::H)=some (.ret,fr,l::H):=h
 simp only[cH,ho,hf,hb,hle,if_true,h]
 exact hv
end Go.Eng
end
section
namespace Go.Eng
open Go.Proofs
noncomputable def Lk (Q:Nat→(Nat→Int)→Prop) (R:Nat→(Nat→Int)→AV):List AV→Option (Prop×AV)
 | [.slcT none (.M [.arr .i64 z N]) 5 l false]=>some (N=aq l 5∧Q l z,R l z)
 | _=>none
noncomputable def OV (Q:Nat→(Nat→Int)→Int→Prop) (R:Nat→(Nat→Int)→Int→AV):List AV→Option (Prop×AV)
 | [.slcT none (.M [.arr .i64 z N]) 5 l false,.int .i64 q]=>some (N=aq l 5∧Q l z q,R l z q)
 | _=>none
noncomputable def Jb (Q:Nat→(Nat→Int)→Int→Prop) (M:Nat→(Nat→Int)→Int→Int) (W:Nat→(Nat→Int)→Int→AV) (args:List AV) (H:aa):Tr (AV×aa) :=
 match args with
 | [.slcT none (.M [.arr .i64 z N]) 5 l false,.int .i64 q]=>match H with
   | [⟨_,_⟩,⟨_,_⟩]=>.reqP (N=aq l 5∧Q l z q) (.ok (.tup [.int .i64 (M l z q),W l z q,.int .i64 0],H))
   | _=>.bad
 | _=>.bad
noncomputable def Ob:List AV→Option (Prop×AV)
 | [.int .i64 a,.int .i64 b]=>some (True,.agg (.I .i64 [a,b]))
 | _=>none
end Go.Eng
end
section
namespace Go.Eng
open Go.Proofs
theorem Uo (n l:Nat) (z:Nat→Int) (e:Int) (H:aa):bu Tryz.prog (cd (n+1)) 100000 41 Tryz.f41 (KtB.kt 41) (il (tX aR 21 [aG 5 l z] (.int .i64 e)) n 1) aW aX [(aG 5 l z,none)] H =
 Tr.ite (bG (df (Int.ofNat 20) (Int.ofNat l))) (Tr.reqP ([aG 5 l z]=[aG 5 l z]) (Tr.ok ((AV.bool (dD e (Int.ofNat 0)),none),H))) (Tr.ok ((AV.bool false,some 1),H)):=by kernel_rfl
def gr (l:Nat) (z:Nat→Int):Bool:=decide (bh l z=0)
theorem Lf (n l:Nat) (z:Nat→Int) (H:aa):cd (n+5) (.fn 41) [aG 5 l z] H=some (.bool (gr l z),H):=by
 refine ba (n:=n+4) Tryz.func41 rfl rfl rfl (Uo (n+3) l z (bh l z) H) (cP _ (n+3) 1 (fun k=>gb (aO _) (fun H=>by rw[show n+3+k=n+k+3 by omega];exact R8 _ l z H))) (af _ _) (ag _ _) ?_
 have hl:=fun h=>(bM (l:=l) (z:=z) h).1
 unfold gr
 rw[cn]
 by_cases h:bh l z=0
 · have:=hl h
   rw[show (bh l z == Int.ofNat 0)=true from beq_iff_eq.2 h,decide_eq_true h]
   exact wF
 · rw[show (bh l z == Int.ofNat 0)=false from beq_eq_false_iff_ne.2 h,decide_eq_false h]
   exact wF
end Go.Eng
end
section
namespace Go.Eng
open Go.Proofs
theorem Up (n:Nat) (a b:Int) (H:aa):bu Tryz.prog (cd n) 100000 48 Tryz.f48 (KtB.kt 48) (il aR n 0) aW aX [(.int .i64 a,none),(.int .i64 b,none)] H =
 Tr.ok ((AV.agg (Row.I .i64 [a,b]),none),H):=by kernel_rfl
theorem Oy (n:Nat) (args:List AV) (p:Prop) (v:AV) (hg:Ob args=some (p,v)) (H:aa):cd (n+1) (.fn 48) args H=some (v,H):=by
 unfold Ob at hg
 split at hg
 · rename_i a b
   simp only[nP] at hg
   obtain ⟨_,rfl⟩:=hg
   exact ba (n:=n) Tryz.func48 rfl rfl rfl (Up n a b H) (aI _) (af _ _) (ag _ _) (Tr.av ⟨rfl,rfl⟩)
 · cases hg
section
variable (n l:Nat) (z:Nat→Int) (a b c d e w b0 b1 b2 b3 q:Int) (H:aa)
end
end Go.Eng
end
section
namespace Go.Eng
open Go.Proofs
section
variable (n l:Nat) (z:Nat→Int) (a b c d e w b0 b1 b2 b3 q:Int) (H:aa)
end
theorem Ox {c l:Nat} {z:Nat→Int} {q:Int} {k1 k2:Bool} {b1 b2:List (Nat×ak)} (h1:eh l z q=0):cd (c+12) (.fn 36) [.slcT none (.M [.arr .i64 z (aq l 5)]) 5 l false,.int .i64 q] [⟨k1,b1⟩,⟨k2,b2⟩]=some (.tup [.int .i64 (mX l z q.toNat).1,dA (mX l z q.toNat).2,.int .i64 0],[⟨k1,b1⟩,⟨k2,b2⟩]):=by
 have:=Sa c l z q k1 k2 b1 b2
 unfold Qa at this
 rw[if_pos h1] at this
 unfold aG at this
 rw[cj,← eL] at this
 exact this
theorem mN {c:Nat} {t:me} (ht:t.Ok (cd (c+12))):(fS t 36 (Jb (fun l z q=>eh l z q=0) (fun l z q=>(mX l z q.toNat).1) (fun l z q=>dA (mX l z q.toNat).2))).Ok (cd (c+12)):=by
 refine ji ht (fun args H x hx=>?_)
 unfold Jb at hx
 split at hx
 · split at hx
   · obtain ⟨⟨rfl,h1⟩,h2⟩:=Tr.cY hx
     rw[← Tr.ab h2]
     exact Ox h1
   · exact (Tr.ae hx).elim
 · exact (Tr.ae hx).elim
theorem MY {q:Int} (h:0≤q∧q≤255):dq .i64 (iZ .i64 q) (Int.ofNat 15)=q % 15∧0≤q % 15∧q % 15≤14:=by
 rw[yb (by omega) (by omega),xO h.1]
 show q % 15=_∧_
 omega
end Go.Eng
end
