/- Bath: the most: its contract. -/
import Derived.Test.YtigmfpmabgekoaaGreatV11Bqdx7
import Derived.Test.YtigmfpmabgekoaaGreatV11Bc5x23
import Derived.Test.YtigmfpmabgekoaaGreatV11EngPostx9
set_option linter.unusedVariables false
set_option linter.unusedSimpArgs false
set_option maxRecDepth 100000
section
namespace Go.Eng
open Go.Proofs
open Go.Proofs.YtigmfpmabgekoaaGreat.Known (mostS mostL most navB bd79)
theorem LO:most.pre=[part Tryz.f79 [0],part Tryz.f79 [1,0],part Tryz.f79 [1,1,0],part Tryz.f79 [1,1,1,0],part Tryz.f79 [1,1,1,1,0],part Tryz.f79 [1,1,1,1,1,0]]:=by kernel_rfl
theorem LP:most.suf=part Tryz.f79 [1,1,1,1,1,1,1]:=by kernel_rfl
theorem HU {l:Nat} {z P:Nat→Int} (hP:∀ i,i<(cX l z).length→P i=(cX l z).getD i 0):qI P (cX l z).length=cX l z:=by
 refine List.ext_getElem (lK _ _) (fun i h1 h2=>?_)
 have:=hP i h2
 rw[List.getD_eq_getElem?_getD,List.getElem?_eq_getElem h2] at this
 simp only[Option.getD_some] at this
 rw[← this]
 simp[qI]
theorem EN {t:mb} (n:Nat) (h:t.Ok (cd n)):(il t n 0).Ok (cd n):=dC _ n h
section
variable {l K:Nat} {z:Nat→Int} (h:bp l z=0) (hK:K≤15)
include h hK
theorem QX:∃ x:Int×List Int,Mo l z K x.1 x.2∧∀ (n s:Nat) (k1 k2 k3:Bool) (b1 b2 b3:List (Nat×ak)),cd (n+9) (.fn 79) [iJ s l (oY z l),.int .i64 (K:Int)] [⟨k1,b1⟩,⟨k2,b2⟩,⟨k3,b3⟩]=some (.tup [.int .i64 x.1,dA x.2],[⟨k1,b1⟩,⟨k2,b2⟩,⟨k3,b3⟩]):=by
 obtain ⟨P0,hP0,h81⟩:=Rp l z h
 have hm14:=HL h
 have h92:=fun n H=>Rs n 0 (cX l z).length P0 H (by omega)
 rw[HU hP0] at h92
 have hQ:∀ i,i<(cX l z).length→an (cX l z) i=(cX l z).getD i 0:=fun i _=>by rw[gu]
 obtain ⟨p,k,hr,hk,htr,hend,hmo⟩:=LN (K:=K) h rfl hQ
 refine ⟨(_,_),hmo,fun n s k1 k2 k3 b1 b2 b3=>?_⟩
 have hE:=JC (a:=eM l z (an (cX l z))) (K:=K) (cX l z).length
 have h00:(gb (eM l z (an (cX l z))) K (cX l z).length cR).h [-1,0]=true:=((Bb (a:=eM l z (an (cX l z))) (K:=K) (cX l z).length).2.1).1
 have hrev:=Ik (an (cX l z)) (fun q i=>(gb (eM l z (an (cX l z))) K (cX l z).length cR).g2 [q,(i:Int)]) k p
 have hl79:=O9 (n+5) s l (cX l z).length z (an (cX l z)) [⟨k1,b1⟩,⟨k2,b2⟩,⟨k3,b3⟩] K h hK hm14
 generalize hQQ:cX l z=Q at *
 cases Q with
 | nil =>
   rw[show ([]:List Int).length=0 from rfl] at *
   have hk0:k=0:=by
    rcases Nat.eq_zero_or_pos k with e | e
    · exact e
    · have:=htr 0 e;omega
   subst hk0
   have hp1:p=-1:=hend
   subst hp1
   rw[if_pos rfl] at h81 h92
   obtain ⟨x,xa,rfl⟩:=aG (Q:=fun x=>x=(.normal,[(0,iJ (s+1) l (oY z l)),(1,.int .i64 (K:Int))],aB::[⟨k1,b1⟩,⟨k2,b2⟩,⟨k3,b3⟩])) (LS (n+8) s l (oY z l) (K:Int) [⟨k1,b1⟩,⟨k2,b2⟩,⟨k3,b3⟩]) (aO _) (ag _ _) (ah _ _) (Tr.aw rfl)
   obtain ⟨x,xb,rfl⟩:=aG (Q:=fun x=>x=(.normal,[(0,iJ (s+1) l (oY z l)),(1,.int .i64 (K:Int)),(6,.nils)],aB::[⟨k1,b1⟩,⟨k2,b2⟩,⟨k3,b3⟩])) (LU (n+8) s l 0 (oY z l) P0 (K:Int) [⟨k1,b1⟩,⟨k2,b2⟩,⟨k3,b3⟩]) (EN _ (dP (dP (aT _) (fun H=>h81 n (s+1) H)) (fun H=>h92 (n+4) H))) (ag _ _) (ah _ _) (Tr.ay rfl (Tr.ay rfl (Tr.aw rfl)))
   obtain ⟨x,xc,rfl⟩:=aG (Q:=fun x=>x=(.normal,[(0,iJ (s+1) l (oY z l)),(1,.int .i64 (K:Int)),(6,.nils),(7,.map 0 0)],_::[⟨k1,b1⟩,⟨k2,b2⟩,⟨k3,b3⟩])) (LV (n+8) s l 0 (oY z l) P0 (K:Int) [⟨k1,b1⟩,⟨k2,b2⟩,⟨k3,b3⟩]) (aO _) (ag _ _) (ah _ _) (Tr.aw rfl)
   obtain ⟨x,xd,rfl⟩:=aG (Q:=fun x=>x=(.normal,[(0,iJ (s+1) l (oY z l)),(1,.int .i64 (K:Int)),(6,.nils),(7,.map 0 0),(8,.map 0 1)],_::[⟨k1,b1⟩,⟨k2,b2⟩,⟨k3,b3⟩])) (LW (n+8) s l 0 (oY z l) P0 (K:Int) _ _ _ [⟨k1,b1⟩,⟨k2,b2⟩,⟨k3,b3⟩]) (aO _) (ag _ _) (ah _ _) (Tr.aw rfl)
   rw[Fi] at xd
   obtain ⟨x,xe,rfl⟩:=aG (Q:=fun x=>x=(.normal,[(0,iJ (s+1) l (oY z l)),(1,.int .i64 (K:Int)),(6,.nils),(7,.map 0 0),(8,.map 0 1),(32,.int .i64 (Int.ofNat 0)),(33,.int .i64 (Int.ofNat 0)),(34,.bool false)],kf cR []::[⟨k1,b1⟩,⟨k2,b2⟩,⟨k3,b3⟩])) (LX (n+8) s l 0 (oY z l) P0 (K:Int) cR.h cR.g cR.c cR.h2 cR.g2 cR.c2 [⟨k1,b1⟩,⟨k2,b2⟩,⟨k3,b3⟩]) (aO _) (ag _ _) (ah _ _) (Tr.aw rfl)
   obtain ⟨x,xf,rfl⟩:=aG (Q:=fun x=>x=(.normal,jX 0 P0,kf cR [eY (-1) 0]::[⟨k1,b1⟩,⟨k2,b2⟩,⟨k3,b3⟩])) (L4 (n+8) s l 0 (oY z l) P0 (K:Int) cR.h cR.g cR.c cR.h2 cR.g2 cR.c2 [⟨k1,b1⟩,⟨k2,b2⟩,⟨k3,b3⟩]) (aO _) (ag _ _) (ah _ _) (Tr.aw rfl)
   have xr:eC (bz (n+8) 79 156) mostS mostL (jX 0 P0) (kf cR [eY (-1) 0]::[⟨k1,b1⟩,⟨k2,b2⟩,⟨k3,b3⟩])=some (EB 0 P0,kf cR [eY (-1) 0,(0,.dead)]::[⟨k1,b1⟩,⟨k2,b2⟩,⟨k3,b3⟩]):=by
    unfold eC
    rw[ry (Ke (n+8) 0 P0 cR _ (-1,0)) rfl rfl]
    exact FE (n+8) 0 P0 cR k1 k2 k3 b1 b2 b3 (-1,0) (-1,0) hE h00 hr
   obtain ⟨x,xs,rfl⟩:=aG (Q:=fun x=>x=(.ret,[(4,.int .i64 (cR.g [-1,0])),(5,.nils)],(dM cR.h cR.g cR.c cR.h2 cR.g2 cR.c2 [eY (-1) 0,(0,.dead),eY (-1) 0]:bn)::[⟨k1,b1⟩,⟨k2,b2⟩,⟨k3,b3⟩])) (PT (n+8) cR.h cR.g cR.c cR.h2 cR.g2 cR.c2 [⟨k1,b1⟩,⟨k2,b2⟩,⟨k3,b3⟩]) (EN _ (dP (aT _) (fun H=>K1 (n+6) H))) (ag _ _) (ah _ _) (by
    rw[cg,cg]
    exact Tr.al (fun hc=>by
     have:b8 (fa true true)=true:=hc
     simp (disch:=omega) only[nV,nW] at this) (fun _=>Tr.ay rfl (Tr.aw rfl)))
   refine Q5 (n:=n+8) (fr:=[(4,.int .i64 (cR.g [-1,0])),(5,.nils)]) (lv:=dM cR.h cR.g cR.c cR.h2 cR.g2 cR.c2 [eY (-1) 0,(0,.dead),eY (-1) 0]) ?_ ?_
   · rw[LO,LP]
     exact (fG xa).trans ((fG xb).trans ((fG xc).trans ((fG xd).trans ((fG xe).trans ((fG xf).trans ((Fx xr).trans xs))))))
   · kernel_rfl
 | cons a r =>
   have e0:¬(a::r).length=0:=by simp
   rw[if_neg e0] at h81 h92
   have hdA:dA (a::r)=cI (a::r).length (an (a::r)) false:=rfl
   rw[hdA] at h92
   generalize (a::r).length=m at *
   generalize an (a::r)=P at *
   generalize gb (eM l z P) K m cR=S at *
   obtain ⟨x,xa,rfl⟩:=aG (Q:=fun x=>x=(.normal,[(0,iJ (s+1) l (oY z l)),(1,.int .i64 (K:Int))],aB::[⟨k1,b1⟩,⟨k2,b2⟩,⟨k3,b3⟩])) (LS (n+8) s l (oY z l) (K:Int) [⟨k1,b1⟩,⟨k2,b2⟩,⟨k3,b3⟩]) (aO _) (ag _ _) (ah _ _) (Tr.aw rfl)
   obtain ⟨x,xb,rfl⟩:=aG (Q:=fun x=>x=(.normal,[(0,iJ (s+1) l (oY z l)),(1,.int .i64 (K:Int)),(6,cI m P false)],aB::[⟨k1,b1⟩,⟨k2,b2⟩,⟨k3,b3⟩])) (PF (n+8) s l m (oY z l) P0 P (K:Int) [⟨k1,b1⟩,⟨k2,b2⟩,⟨k3,b3⟩]) (EN _ (dP (dP (aT _) (fun H=>h81 n (s+1) H)) (fun H=>h92 (n+4) H))) (ag _ _) (ah _ _) (Tr.ay rfl (Tr.ay rfl (Tr.aw rfl)))
   obtain ⟨x,xc,rfl⟩:=aG (Q:=fun x=>x=(.normal,[(0,iJ (s+1) l (oY z l)),(1,.int .i64 (K:Int)),(6,cI m P false),(7,.map 0 0)],_::[⟨k1,b1⟩,⟨k2,b2⟩,⟨k3,b3⟩])) (PG (n+8) s l m (oY z l) P (K:Int) [⟨k1,b1⟩,⟨k2,b2⟩,⟨k3,b3⟩]) (aO _) (ag _ _) (ah _ _) (Tr.aw rfl)
   obtain ⟨x,xd,rfl⟩:=aG (Q:=fun x=>x=(.normal,IC s l m (oY z l) P (K:Int),_::[⟨k1,b1⟩,⟨k2,b2⟩,⟨k3,b3⟩])) (PH (n+8) s l m (oY z l) P (K:Int) _ _ _ [⟨k1,b1⟩,⟨k2,b2⟩,⟨k3,b3⟩]) (aO _) (ag _ _) (ah _ _) (Tr.aw rfl)
   rw[Fi] at xd
   obtain ⟨x,xe,rfl⟩:=aG (Q:=fun x=>x=(.normal,sZ s l m (oY z l) P K (Int.ofNat m)++[(34,.bool false)],kf S []::[⟨k1,b1⟩,⟨k2,b2⟩,⟨k3,b3⟩])) (Py (n+8) s l m (oY z l) P (K:Int) cR.h cR.g cR.c cR.h2 cR.g2 cR.c2 S.h S.g S.c S.h2 S.g2 S.c2 [⟨k1,b1⟩,⟨k2,b2⟩,⟨k3,b3⟩]) (aO _) (bL (ag _ _) NH (fun x h=>by rw[← Tr.ab h];simp only[gY.st,aY];exact hl79)) (ah _ _) (Tr.ay ⟨rfl,rfl⟩ (Tr.aw rfl))
   obtain ⟨x,xf,rfl⟩:=aG (Q:=fun x=>x=(.normal,nI m P,kf S [eY (-1) 0]::[⟨k1,b1⟩,⟨k2,b2⟩,⟨k3,b3⟩])) (Pz (n+8) s l m (oY z l) P (K:Int) S.h S.g S.c S.h2 S.g2 S.c2 [⟨k1,b1⟩,⟨k2,b2⟩,⟨k3,b3⟩]) (aO _) (ag _ _) (ah _ _) (Tr.aw rfl)
   have xr:eC (bz (n+8) 79 156) mostS mostL (nI m P) (kf S [eY (-1) 0]::[⟨k1,b1⟩,⟨k2,b2⟩,⟨k3,b3⟩])=some (yl m P,kf S [eY p (k:Nat),(0,.dead)]::[⟨k1,b1⟩,⟨k2,b2⟩,⟨k3,b3⟩]):=by
    unfold eC
    rw[ry (LY (n+8) m P S _ (-1,0)) rfl rfl]
    exact HO (n+8) m P S k1 k2 k3 b1 b2 b3 (-1,0) (p,(k:Int)) hE h00 hr
   obtain ⟨fr,lv,xs,xv⟩:=PW (n+6) m P S k p [⟨k1,b1⟩,⟨k2,b2⟩,⟨k3,b3⟩] (by omega) (by omega) htr hend
   rw[show (qI (CJ P (fun q i=>S.g2 [q,(i:Int)]) k p) k).reverse=Ah P (fun q i=>S.g2 [q,(i:Int)]) k p from hrev] at xv
   refine Q5 (n:=n+8) (fr:=fr) (lv:=lv) ?_ xv
   rw[LO,LP]
   exact (fG xa).trans ((fG xb).trans ((fG xc).trans ((fG xd).trans ((fG xe).trans ((fG xf).trans ((Fx xr).trans xs))))))
end
end Go.Eng
end
section
namespace Go.Eng
open Go.Proofs
noncomputable def Iw (l:Nat) (y:Nat→Int):AV:=.ptrT (some 0) (.G [aJ 7 l y]) 0
noncomputable def Ns (B W:AV) (q M:Int) (args:List AV) (H:aa):Tr (AV×aa) :=
 match H with
 | [⟨_,_⟩,⟨_,_⟩,⟨_,_⟩]=>.reqP (args=[B,.int .i64 q]) (.ok (.tup [.int .i64 M,W],H))
 | _=>.bad
theorem TE (n l:Nat) (z y:Nat→Int) (q:Int) (H:aa):bw Tryz.prog (cd n) 100000 78 Tryz.f78 (KtB.kt 78) (il (tX aU 52 [aJ 5 l z] (.tup [Iw l y,.int .i64 0])) n 0) aZ a6 [(aJ 5 l z,none),(.int .i64 q,none)] H =
 Tr.reqP ([aJ 5 l z]=[aJ 5 l z]) (Tr.ite (b8 (dm (Int.ofNat 0) (Int.ofNat 0))) (Tr.ok ((AV.tup [AV.nilp,AV.int .i64 (Int.ofNat 0)],none),H)) (Tr.ite (dq q (Int.ofNat 0)) (Tr.ok ((AV.tup [AV.nilp,AV.int .i64 (Int.ofNat 2)],none),H)) (Tr.ite (dq (Int.ofNat 14) q) (Tr.ok ((AV.tup [AV.nilp,AV.int .i64 (Int.ofNat 2)],none),H)) (Tr.ok ((AV.tup [AV.ptrT (some 0) (Row.G [aJ 7 l y]) 0,AV.int .i64 (Int.ofNat 0)],none),H))))):=by kernel_rfl
theorem Qu (n l:Nat) (z:Nat→Int) (q e:Int) (H:aa):bw Tryz.prog (cd n) 100000 78 Tryz.f78 (KtB.kt 78) (il (tX aU 52 [aJ 5 l z] (.tup [.nilp,.int .i64 e])) n 0) aZ a6 [(aJ 5 l z,none),(.int .i64 q,none)] H =
 Tr.reqP ([aJ 5 l z]=[aJ 5 l z]) (Tr.ite (b8 (dm e (Int.ofNat 0))) (Tr.ok ((AV.tup [AV.nilp,AV.int .i64 e],none),H)) (Tr.ite (dq q (Int.ofNat 0)) (Tr.ok ((AV.tup [AV.nilp,AV.int .i64 (Int.ofNat 2)],none),H)) (Tr.ite (dq (Int.ofNat 14) q) (Tr.ok ((AV.tup [AV.nilp,AV.int .i64 (Int.ofNat 2)],none),H)) (Tr.ok ((AV.tup [AV.nilp,AV.int .i64 (Int.ofNat 0)],none),H))))):=by kernel_rfl
theorem Qf (n l k:Nat) (z y b:Nat→Int) (q M:Int) (k1 k2:Bool) (b1 b2:List (Nat×ak)):bw Tryz.prog (cd n) 100000 36 Tryz.f36 (KtB.kt 36) (il (jc (tX aU 78 [aJ 5 l z,.int .i64 q] (.tup [Iw l y,.int .i64 0])) 79 (Ns (Iw l y) (cI k b false) q M)) n 0) aZ a6 [(aJ 5 l z,none),(.int .i64 q,none)] [⟨k1,b1⟩,⟨k2,b2⟩] =
 Tr.reqP ([aJ 5 l z,AV.int .i64 q]=[aJ 5 l z,AV.int .i64 q]) (Tr.ite (b8 (dm (Int.ofNat 0) (Int.ofNat 0))) (Tr.ok ((AV.tup [AV.int .i64 (Int.ofNat 0),AV.nils,AV.int .i64 (Int.ofNat 0)],none),[{ lock:=k1,bs:=b1 },{ lock:=k2,bs:=b2 }])) (Tr.reqP ([AV.ptrT (some 0) (Row.G [aJ 7 l y]) 0,AV.int .i64 q]=[AV.ptrT (some 0) (Row.G [aJ 7 l y]) 0,AV.int .i64 q]) (Tr.ok ((AV.tup [AV.int .i64 M,AV.slcT none (Row.M [aW.arr .i64 b k]) 1 k false,AV.int .i64 (Int.ofNat 0)],none),[{ lock:=k1,bs:=b1 },{ lock:=k2,bs:=b2 }])))):=by kernel_rfl
theorem Qh (n l:Nat) (z y:Nat→Int) (q M:Int) (k1 k2:Bool) (b1 b2:List (Nat×ak)):bw Tryz.prog (cd n) 100000 36 Tryz.f36 (KtB.kt 36) (il (jc (tX aU 78 [aJ 5 l z,.int .i64 q] (.tup [Iw l y,.int .i64 0])) 79 (Ns (Iw l y) .nils q M)) n 0) aZ a6 [(aJ 5 l z,none),(.int .i64 q,none)] [⟨k1,b1⟩,⟨k2,b2⟩] =
 Tr.reqP ([aJ 5 l z,AV.int .i64 q]=[aJ 5 l z,AV.int .i64 q]) (Tr.ite (b8 (dm (Int.ofNat 0) (Int.ofNat 0))) (Tr.ok ((AV.tup [AV.int .i64 (Int.ofNat 0),AV.nils,AV.int .i64 (Int.ofNat 0)],none),[{ lock:=k1,bs:=b1 },{ lock:=k2,bs:=b2 }])) (Tr.reqP ([AV.ptrT (some 0) (Row.G [aJ 7 l y]) 0,AV.int .i64 q]=[AV.ptrT (some 0) (Row.G [aJ 7 l y]) 0,AV.int .i64 q]) (Tr.ok ((AV.tup [AV.int .i64 M,AV.nils,AV.int .i64 (Int.ofNat 0)],none),[{ lock:=k1,bs:=b1 },{ lock:=k2,bs:=b2 }])))):=by kernel_rfl
theorem Qg (n l:Nat) (z:Nat→Int) (q e:Int) (H:aa):bw Tryz.prog (cd n) 100000 36 Tryz.f36 (KtB.kt 36) (il (tX aU 78 [aJ 5 l z,.int .i64 q] (.tup [.nilp,.int .i64 e])) n 0) aZ a6 [(aJ 5 l z,none),(.int .i64 q,none)] H =
 Tr.reqP ([aJ 5 l z,AV.int .i64 q]=[aJ 5 l z,AV.int .i64 q]) (Tr.ite (b8 (dm e (Int.ofNat 0))) (Tr.ok ((AV.tup [AV.int .i64 (Int.ofNat 0),AV.nils,AV.int .i64 e],none),H)) Tr.bad):=by kernel_rfl
end Go.Eng
end
section
namespace Go.Eng
open Go.Proofs
def kI (l:Nat) (z:Nat→Int) (q:Int):Int:=if bp l z≠0 then bp l z else if q<0∨14<q then 2 else 0
noncomputable def AO (l:Nat) (z:Nat→Int) (q:Int):AV:=if kI l z q=0 then .tup [Iw l (oY z l),.int .i64 0] else .tup [.nilp,.int .i64 (kI l z q)]
theorem JZ {l:Nat} {z:Nat→Int} {q:Int} (h:kI l z q=0):bp l z=0∧0≤q∧q≤14:=by
 unfold kI at h
 split at h
 · rename_i h1;exact absurd h h1
 · rename_i h1
   split at h
   · cases h
   · exact ⟨Classical.byContradiction h1,by omega,by omega⟩
theorem Fa {l:Nat} {z:Nat→Int} {q:Int} (h:bp l z=0) (h0:0≤q) (h1:q≤14):kI l z q=0:=by
 unfold kI
 rw[if_neg (fun x=>x h),if_neg (by omega)]
theorem Ro (n l:Nat) (z:Nat→Int) (q:Int) (H:aa):cd (n+11) (.fn 78) [aJ 5 l z,.int .i64 q] H=some (AO l z q,H):=by
 have hc:∀ H,cd (n+10) (.fn 52) [aJ 5 l z] H=some (mY l z,H):=fun H=>NN _ l z H
 unfold AO
 by_cases h:bp l z=0
 · have ho:mY l z=.tup [Iw l (oY z l),.int .i64 0]:=by unfold mY;rw[if_pos h];rfl
   rw[ho] at hc
   refine ba (n:=n+10) Tryz.func78 rfl rfl rfl (TE (n+10) l z (oY z l) q H) (dC _ _ (dP (aT _) hc)) (ag _ _) (ah _ _) ?_
   by_cases hq:q<0∨14<q
   · rw[show kI l z q=2 by unfold kI;rw[if_neg (fun x=>x h),if_pos hq],if_neg (by decide)]
     repeat' first | (refine Tr.al (fun hc=>?_) (fun hc=>?_)<;>(try simp (disch:=omega) only[nV,nW] at hc)<;>(try (exfalso;omega))) | (refine Tr.bf ?_ ?_;· ((try simp (disch:=omega) only[nV,nW]);try omega)) | (refine Tr.ay ?_ ?_;· first | exact trivial | rfl | exact ⟨rfl,rfl⟩ | exact ⟨trivial,rfl⟩ | exact ⟨rfl,by assumption⟩ | exact ⟨trivial,by assumption⟩ | exact ⟨rfl,rfl,rfl⟩ | (simp (disch:=omega) only[nV,nW];done) | ((try simp (disch:=omega) only[nV,nW]);omega)) | fail
     all_goals first
      | exact Tr.aw ⟨rfl,rfl⟩
      | omega
      | fail
   · rw[show kI l z q=0 by unfold kI;rw[if_neg (fun x=>x h),if_neg hq],if_pos rfl]
     repeat' first | (refine Tr.al (fun hc=>?_) (fun hc=>?_)<;>(try simp (disch:=omega) only[nV,nW] at hc)<;>(try (exfalso;omega))) | (refine Tr.bf ?_ ?_;· ((try simp (disch:=omega) only[nV,nW]);try omega)) | (refine Tr.ay ?_ ?_;· first | exact trivial | rfl | exact ⟨rfl,rfl⟩ | exact ⟨trivial,rfl⟩ | exact ⟨rfl,by assumption⟩ | exact ⟨trivial,by assumption⟩ | exact ⟨rfl,rfl,rfl⟩ | (simp (disch:=omega) only[nV,nW];done) | ((try simp (disch:=omega) only[nV,nW]);omega)) | fail
     all_goals first
      | exact Tr.aw ⟨rfl,rfl⟩
      | omega
      | fail
 · have ho:mY l z=.tup [.nilp,.int .i64 (bp l z)]:=by unfold mY;rw[if_neg h]
   rw[ho] at hc
   rw[show kI l z q=bp l z by unfold kI;rw[if_pos h],if_neg h]
   refine ba (n:=n+10) Tryz.func78 rfl rfl rfl (Qu (n+10) l z q (bp l z) H) (dC _ _ (dP (aT _) hc)) (ag _ _) (ah _ _) ?_
   exact wF
noncomputable def mX (l:Nat) (z:Nat→Int) (K:Nat):Int×List Int:=@dite _ (bp l z=0∧K≤15) (Classical.propDecidable _) (fun hh=>Classical.choose (QX (K:=K) hh.1 hh.2)) (fun _=>(0,[]))
theorem E0 {l K:Nat} {z:Nat→Int} (h:bp l z=0) (hK:K≤15):Mo l z K (mX l z K).1 (mX l z K).2∧∀ (n s:Nat) (k1 k2 k3:Bool) (b1 b2 b3:List (Nat×ak)),cd (n+9) (.fn 79) [iJ s l (oY z l),.int .i64 (K:Int)] [⟨k1,b1⟩,⟨k2,b2⟩,⟨k3,b3⟩]=some (.tup [.int .i64 (mX l z K).1,dA (mX l z K).2],[⟨k1,b1⟩,⟨k2,b2⟩,⟨k3,b3⟩]):=by
 unfold mX
 rw[dif_pos ⟨h,hK⟩]
 exact Classical.choose_spec (QX (K:=K) h hK)
noncomputable def Pg (l:Nat) (z:Nat→Int) (q:Int):AV:=if kI l z q=0 then .tup [.int .i64 (mX l z q.toNat).1,dA (mX l z q.toNat).2,.int .i64 0] else .tup [.int .i64 0,.nils,.int .i64 (kI l z q)]
theorem EG {c:Nat} {t:mb} {B W:AV} {q M:Int} (ht:t.Ok (cd c)) (h:∀ k1 k2 k3 b1 b2 b3,cd c (.fn 79) [B,.int .i64 q] [⟨k1,b1⟩,⟨k2,b2⟩,⟨k3,b3⟩]=some (.tup [.int .i64 M,W],[⟨k1,b1⟩,⟨k2,b2⟩,⟨k3,b3⟩])):(jc t 79 (Ns B W q M)).Ok (cd c):=by
 refine jd ht (fun args H x hx=>?_)
 unfold Ns at hx
 split at hx
 · obtain ⟨rfl,h2⟩:=Tr.c7 hx
   rw[← Tr.ab h2]
   exact h _ _ _ _ _ _
 · exact (Tr.ae hx).elim
theorem Ri (n l:Nat) (z:Nat→Int) (q:Int) (k1 k2:Bool) (b1 b2:List (Nat×ak)):cd (n+12) (.fn 36) [aJ 5 l z,.int .i64 q] [⟨k1,b1⟩,⟨k2,b2⟩]=some (Pg l z q,[⟨k1,b1⟩,⟨k2,b2⟩]):=by
 have hc:∀ H,cd (n+11) (.fn 78) [aJ 5 l z,.int .i64 q] H=some (AO l z q,H):=fun H=>Ro n l z q H
 unfold Pg
 by_cases h:kI l z q=0
 · obtain ⟨h1,h2,h3⟩:=JZ h
   obtain ⟨hm,h79⟩:=E0 (K:=q.toNat) h1 (by omega)
   have ho:AO l z q=.tup [Iw l (oY z l),.int .i64 0]:=by unfold AO;rw[if_pos h]
   rw[ho] at hc
   rw[if_pos h]
   rw[show ((q.toNat:Nat):Int)=q by omega] at h79
   generalize (mX l z q.toNat).1=M at *
   generalize (mX l z q.toNat).2=B at *
   cases B with
   | nil =>
     refine ba (n:=n+11) Tryz.func36 rfl rfl rfl (Qh (n+11) l z (oY z l) q M k1 k2 b1 b2) (dC _ _ (EG (dP (aT _) hc) (fun k1 k2 k3 b1 b2 b3=>h79 (n+2) 0 k1 k2 k3 b1 b2 b3))) (ag _ _) (ah _ _) ?_
     exact wF
   | cons a r =>
     refine ba (n:=n+11) Tryz.func36 rfl rfl rfl (Qf (n+11) l (r.length+1) z (oY z l) (an (a::r)) q M k1 k2 b1 b2) (dC _ _ (EG (dP (aT _) hc) (fun k1 k2 k3 b1 b2 b3=>h79 (n+2) 0 k1 k2 k3 b1 b2 b3))) (ag _ _) (ah _ _) ?_
     exact wF
 · have ho:AO l z q=.tup [.nilp,.int .i64 (kI l z q)]:=by unfold AO;rw[if_neg h]
   rw[ho] at hc
   rw[if_neg h]
   refine ba (n:=n+11) Tryz.func36 rfl rfl rfl (Qg (n+11) l z q (kI l z q) [⟨k1,b1⟩,⟨k2,b2⟩]) (dC _ _ (dP (aT _) hc)) (ag _ _) (ah _ _) ?_
   exact wF
end Go.Eng
end
section
namespace Go.Eng
open Go.Proofs
noncomputable def ib (l:Nat) (z:Nat→Int):Int:=@ite _ (cY l z=0) (Classical.propDecidable _) (mc l z:Int) 100
theorem vg {l:Nat} {z:Nat→Int} (h:cY l z=0):ib l z=mc l z:=by unfold ib;rw[if_pos h]
theorem ye {l:Nat} {z:Nat→Int} (h:¬ cY l z=0):ib l z=100:=by unfold ib;rw[if_neg h]
theorem Ky {l:Nat} {z:Nat→Int} (hc:bp l z=0) (h:¬ cY l z=0):cY l z=22:=by
 have:=Cs l z hc
 rw[this] at h ⊢
 cases e:KI z l with
 | true=>rw[e] at h;exact absurd rfl h
 | false=>rfl
theorem Nz {l:Nat} {z:Nat→Int} (h:cY l z=0):mc l z≤14:=by
 have hl:=(bM (iF l z h).1).1
 have:=AB l z;unfold mc qO;omega
theorem Er {l:Nat} {z:Nat→Int}:0≤ib l z∧ib l z≤100:=by
 by_cases h:cY l z=0
 · rw[vg h];have:=Nz h;omega
 · rw[ye h];omega
theorem rO {z x:Nat→Int} {i:Nat} (h:∀ j,j<5→x (i*5+j)=z (i*5+j)):cQ x i=cQ z i∧bU x i=bU z i∧gI x i=gI z i:=by
 have h0:=h 0 (by omega)
 have h1:=h 1 (by omega)
 have h2:=h 2 (by omega)
 have h3:=h 3 (by omega)
 have h4:=h 4 (by omega)
 rw[Nat.add_zero] at h0
 unfold cQ bU gI
 rw[h0,h1,h2,h3,h4]
 exact ⟨rfl,rfl,rfl⟩
theorem Jp {l:Nat} {z x:Nat→Int} (hl:1≤l) (hx:∀ i,i<l*5→x i=z i) (hcx:bp (l+1) x=0):bp l x=0:=by
 obtain ⟨a,b⟩:=bM hcx
 exact Ea ⟨hl,by omega⟩ (fun j hj=>b j (by omega))
theorem Hc {l:Nat} {z x:Nat→Int} (hc:bp l z=0) (hx:∀ i,i<l*5→x i=z i) (hcx:bp (l+1) x=0) :
 (cQ x l≤bU x l→cY l z=0→ib (l+1) x=ib l z∨ib (l+1) x=ib l z+1)∧(bU x l<cQ x l→ib (l+1) x=100):=by
 have hl:=(bM hc).1
 have hcl:=Jp hl.1 hx hcx
 have hb:∀ i,i<l→cQ x i=cQ z i∧bU x i=bU z i∧gI x i=gI z i:=fun i hi=>rO (fun j hj=>hx _ (by omega))
 have hs1:xP l z l x:=fun i hi=>⟨i,hi,by have:=hb i hi;omega,by have:=hb i hi;omega⟩
 have hs2:xP l x l z:=fun i hi=>⟨i,hi,by have:=hb i hi;omega,by have:=hb i hi;omega⟩
 obtain ⟨s1,s2⟩:=GR hs1 hs2 hc hcl
 refine ⟨fun h1 h2=>?_,fun h1=>ye (fun h=>?_)⟩
 · have e:=(s2 h2).1
   have hw:cY (l+1) x=0:=Ga hcx (fun i hi=>by
    by_cases hi2:i<l
    · exact (iF l x (s1.1 h2)).2 i hi2
    · obtain rfl:i=l:=by omega
      exact h1)
   have:=I5 (s1.1 h2) hw
   rw[vg h2,vg hw]
   omega
 · have:=(iF _ _ h).2 l (by omega)
   omega
theorem Iq {l:Nat} {z y:Nat→Int} (hc:bp l z=0) (hcy:bp l y=0) (hlo:∀ i,i<l→cQ y i≤cQ z i) (hhi:∀ i,i<l→bU z i≤bU y i) (hw:∀ i,i<l→gI y i=gI z i) :
 ib l y≤ib l z∧∀ K,K≤15→(mX l z K).1≤(mX l y K).1:=by
 have hs:xP l y l z:=fun i hi=>⟨i,hi,hlo i hi,hhi i hi⟩
 refine ⟨?_,fun K hK=>?_⟩
 · by_cases h:cY l z=0
   · have h':=sh hs hcy h
     rw[vg h,vg h']
     have:=Bn hs hcy h
     omega
   · rw[ye h];exact Er.2
 · have m1:=(E0 (K:=K) hc hK).1.most
   have m2:=(E0 (K:=K) hcy hK).1.most
   have m3:=wR (lo':=cQ y) (hi':=bU y) (w':=gI z) (fun i _=>rfl) (fun i _=>rfl) (fun i hi=>(hw i hi).symm) m2
   exact yG m1 m3 (Gb hc) hlo hhi
end Go.Eng
end
section
namespace Go.Eng
open Go.Proofs
end Go.Eng
end
section
namespace Go.Eng
open Go.Proofs
def chain:List Code→Code
 | []=>.skip
 | [c]=>c
 | c::r=>.seq c (chain r)
noncomputable def K2 (fn:Func) (H:aa) (fr:av) (l:bn):Option (AV×aa) :=
 match eE Tryz.prog fr (l::H) fn.results.toList with
 | some vs=>some (cT l.bs 5 (one vs),H)
 | none=>none
theorem wq {cx:Cx} {a b:Code} {r:List Code} {fr fr2:av} {H H2:aa} (h:exec cx a fr H=some (.normal,fr2,H2)):exec cx (chain (a::b::r)) fr H=exec cx (chain (b::r)) fr2 H2:=by
 show exec cx (.seq a (chain (b::r))) fr H=_
 simp only[exec,h]
theorem Jo {cx:Cx} {a b:Code} {r:List Code} {fr:av} {H:aa} {x:av×aa} (h:exec cx a fr H=some (.ret,x)):exec cx (chain (a::b::r)) fr H=some (.ret,x):=by
 show exec cx (.seq a (chain (b::r))) fr H=_
 simp only[exec,h]
theorem nX {cx:Cx} {c:Code} {r:List Code}:∀ (a:List Code) {fr fr2:av} {H H2:aa},a≠[]→exec cx (chain a) fr H=some (.normal,fr2,H2)→exec cx (chain (a++c::r)) fr H=exec cx (chain (c::r)) fr2 H2
 | [],_,_,_,_,h,_=>absurd rfl h
 | [a],_,_,_,_,_,h=>wq h
 | a :: b::l,fr,fr2,H,H2,_,h=>by
   have h:exec cx (.seq a (chain (b::l))) fr H=some (.normal,fr2,H2):=h
   show exec cx (.seq a (chain (b::l++c::r))) fr H=_
   simp only[exec] at h ⊢
   cases e:exec cx a fr H with
   | none=>rw[e] at h;cases h
   | some x =>
     obtain ⟨x,f3,H3⟩:=x
     rw[e] at h
     cases x with
     | normal=>exact nX (b::l) (by simp) h
     | _=>cases h
theorem BB {cx:Cx} {c:Code} {r:List Code}:∀ (a:List Code) {fr:av} {H:aa} {y:av×aa},a≠[]→exec cx (chain a) fr H=some (.ret,y)→exec cx (chain (a++c::r)) fr H=some (.ret,y)
 | [],_,_,_,h,_=>absurd rfl h
 | [a],_,_,_,_,h=>Jo h
 | a :: b::l,fr,H,y,_,h=>by
   have h:exec cx (.seq a (chain (b::l))) fr H=some (.ret,y):=h
   show exec cx (.seq a (chain (b::l++c::r))) fr H=_
   simp only[exec] at h ⊢
   cases e:exec cx a fr H with
   | none=>rw[e] at h;cases h
   | some x =>
     obtain ⟨x,f3,H3⟩:=x
     rw[e] at h
     cases x with
     | normal=>exact BB (b::l) (by simp) h
     | ret=>exact h
     | _=>cases h
theorem GD {f:FuncId} {fn:Func} {c:Code} {n:Nat} (hf:Tryz.prog.funcs[f]?=some fn) (hb:fn.body=some c) (hn:J5 f=false) {args:List AV} (hle:Nat.ble args.length fn.ntmps=true) {H:aa} {fr:av} {l:bn} {v:AV} (h:exec (bz n f fn.ntmps) c (dy 0 args) (aB::H)=some (.ret,fr,l::H)) (hv:K2 fn H fr l=some (v,H)):cd (n+1) (.fn f) args H=some (v,H):=by
 have ho:=AQ f hn (cd n) args H
 unfold cd at ho ⊢
 have h:exec ⟨Tryz.prog,cJ Tryz.prog l7 KtB.kt 100000 n,100000,f,fn.ntmps,KtB.kt f,none⟩ c (dy 0 args) (⟨false,[]⟩::H)=some (.ret,fr,l::H):=h
 simp only[cJ,ho,hf,hb,hle,if_true,h]
 exact hv
end Go.Eng
end
