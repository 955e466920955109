/- Bath: CheckPrices as it is defined, of right prices; Prices. -/
import Derived.Test.YtigmfpmabgekoaaGreatV9Bv3x16
set_option linter.unusedVariables false
set_option linter.unusedSimpArgs false
set_option maxRecDepth 100000
section
namespace Go.Eng
open Go.Proofs
noncomputable def JY (B:AV) (M:Int→Int) (W:Int→AV) (Q:Int→Prop) (args:List AV) (H:aa):Tr (AV×aa) :=
 match args with
 | [B',.int .i64 q]=>match H with
   | [⟨_,_⟩,⟨_,_⟩,⟨_,_⟩]=>.reqP (B'=B∧Q q) (.ok (.tup [.int .i64 (M q),W q],H))
   | _=>.bad
 | _=>.bad
theorem QS (n l:Nat) (z:Nat→Int) (x q:Int) (lo hi:Int→Int) (H:aa):bt Tryz.prog (cd n) 100000 57 Tryz.f57 (KtB.kt 57) (il (iS aI 55 (LK lo hi z l)) n 0) aP aQ [(ay 5 l z,none),(.int .i64 x,none),(.int .i64 q,none)] H =
 Tr.reqP (z=z∧aH l 5=aH l 5∧l=l∧Int.NonNeg (q-0)∧Int.NonNeg (↑l-(q+1))) (Tr.ite (mI (lo q) x) (Tr.ok ((AV.bool (mI x (hi q)),none),H)) (Tr.ok ((AV.bool false,some 1),H))):=by kernel_rfl
theorem Uk (n l:Nat) (z y p:Nat→Int) (fl:Bool) (q lam:Int) (M:Int→Int) (W:Int→AV) (Q:Int→Prop) (k1 k2:Bool) (b1 b2:List (Nat×aj)):bt Tryz.prog (cd n) 100000 43 Tryz.f43 (KtB.kt 43) (il (dI (tX (tX aI 78 [ay 5 l z,.int .i64 q] (.tup [oO l y,.int .i64 0])) 80 [oO l y,.int .i64 lam] (bc l p fl)) 79 (JY (oO l y) M W Q)) n 0) aP aQ [(ay 5 l z,none),(.int .i64 q,none)] [⟨k1,b1⟩,⟨k2,b2⟩] =
 Tr.reqP ([ay 5 l z,AV.int .i64 q]=[ay 5 l z,AV.int .i64 q]) (Tr.ite (bL (c5 (Int.ofNat 0) (Int.ofNat 0))) (Tr.ok ((AV.tup [AV.int .i64 (Int.ofNat 0),AV.nils,AV.int .i64 (Int.ofNat 0)],none),[{ lock:=k1,bs:=b1 },{ lock:=k2,bs:=b2 }])) (Tr.reqP (AV.ptrT (some 0) (Row.G [ay 7 l y]) 0=AV.ptrT (some 0) (Row.G [ay 7 l y]) 0∧Q (aS .i64 q (Int.ofNat 1))) (Tr.reqP (AV.ptrT (some 0) (Row.G [ay 7 l y]) 0=AV.ptrT (some 0) (Row.G [ay 7 l y]) 0∧Q q) (Tr.reqP ([AV.ptrT (some 0) (Row.G [ay 7 l y]) 0,AV.int .i64 (bQ .i64 (M (aS .i64 q (Int.ofNat 1))) (M q))]=[AV.ptrT (some 0) (Row.G [ay 7 l y]) 0,AV.int .i64 lam]) (Tr.ok ((AV.tup [AV.int .i64 (bQ .i64 (M (aS .i64 q (Int.ofNat 1))) (M q)),AV.slcT none (Row.M [aM.arr .i64 p l]) 1 l fl,AV.int .i64 (Int.ofNat 0)],none),[{ lock:=k1,bs:=b1 },{ lock:=k2,bs:=b2 }])))))):=by kernel_rfl
theorem NU:∀ b,(0,b) ∈ aV (bM Tryz.f45)→b=.loop (part Tryz.f45 [1,1,1,1,0,1,0,0]):=fM (by kernel_rfl)
theorem NV:∀ b,(2,b) ∈ aV (bM Tryz.f45)→b=.loop (part Tryz.f45 [1,1,1,1,1,1,0,1,0,0]):=fM (by kernel_rfl)
theorem NW:∀ b,(4,b) ∈ aV (part Tryz.f45 [1,1,1,1,1,1,0,1,0,0])→b=.loop (part Tryz.f45 [1,1,1,1,1,1,0,1,0,0,1,0,0,1,1,0,1,0,0]):=fM (by kernel_rfl)
def I0 (z:Nat→Int) (x q:Int):Bool:=bH (bE z) (bG z) x q.toNat
theorem Oe (n l:Nat) (z:Nat→Int) (x q:Int) (H:aa) (h:bD l z=0) (h0:0≤q) (h1:q<l):cd (n+2) (.fn 57) [ay 5 l z,.int .i64 x,.int .i64 q] H=some (.bool (I0 z x q),H):=by
 have hp:z=z∧aH l 5=aH l 5∧l=l∧0≤q∧q<(l:Int):=⟨rfl,rfl,rfl,h0,h1⟩
 refine aX (n:=n+1) Tryz.func57 rfl rfl rfl (QS (n+1) l z x q (Ev z) (Gu z) H) (cg _ _ (Fi n l z h)) (af _ _) (ag _ _) ?_
 refine Tr.aB hp ?_
 have e:I0 z x q=(decide (Ev z q≤x) && decide (x≤Gu z q)):=rfl
 rw[e]
 generalize Ev z q=a
 generalize Gu z q=b
 by_cases c1:a≤x
 · by_cases c2:x≤b
   · rw[decide_eq_true c1,decide_eq_true c2]
     repeat' first | (refine Tr.al (fun hc=>?_) (fun hc=>?_)<;>(try simp (disch:=omega) only[nV,nW] at hc)<;>(try (exfalso;omega))) | (refine Tr.bj ?_ ?_;· ((try simp (disch:=omega) only[nV,nW]);try omega)) | (refine Tr.aB ?_ ?_;· first | exact trivial | rfl | exact ⟨rfl,rfl⟩ | exact ⟨trivial,rfl⟩ | exact ⟨rfl,by assumption⟩ | exact ⟨trivial,by assumption⟩ | exact ⟨rfl,rfl,rfl⟩ | (simp (disch:=omega) only[nV,nW];done) | ((try simp (disch:=omega) only[nV,nW]);omega)) | fail
     all_goals first
      | (refine Tr.ao ⟨?_,rfl⟩;show AV.bool (mI x b)=_;rw[jb,decide_eq_true c2];rfl)
      | fail
   · rw[decide_eq_true c1,decide_eq_false c2]
     repeat' first | (refine Tr.al (fun hc=>?_) (fun hc=>?_)<;>(try simp (disch:=omega) only[nV,nW] at hc)<;>(try (exfalso;omega))) | (refine Tr.bj ?_ ?_;· ((try simp (disch:=omega) only[nV,nW]);try omega)) | (refine Tr.aB ?_ ?_;· first | exact trivial | rfl | exact ⟨rfl,rfl⟩ | exact ⟨trivial,rfl⟩ | exact ⟨rfl,by assumption⟩ | exact ⟨trivial,by assumption⟩ | exact ⟨rfl,rfl,rfl⟩ | (simp (disch:=omega) only[nV,nW];done) | ((try simp (disch:=omega) only[nV,nW]);omega)) | fail
     all_goals first
      | (refine Tr.ao ⟨?_,rfl⟩;show AV.bool (mI x b)=_;rw[jb,decide_eq_false c2];rfl)
      | fail
 · rw[decide_eq_false c1]
   exact wF
theorem Od {n l:Nat} {z:Nat→Int} {x q:Int} {H:aa} (h:bD l z=0) (h0:0≤q) (h1:q<l):cd (n+2) (.fn 57) [.slcT none (.M [.arr .i64 z (aH l 5)]) 5 l false,.int .i64 x,.int .i64 q] H=some (.bool (I0 z x q),H):=by
 have:=Oe n l z x q H h h0 h1
 unfold ay at this
 rw[cu,← gw] at this
 exact this
theorem JW {c:Nat} {t:l9} {l:Nat} {z:Nat→Int} (ht:t.Ok (cd (c+2))) (h:bD l z=0):(iS t 57 (NG (I0 z) z l)).Ok (cd (c+2)):=by
 refine dY ht (fun args p v hg hp H=>?_)
 unfold NG at hg
 split at hg
 · simp only[nP] at hg
   obtain ⟨rfl,rfl⟩:=hg
   obtain ⟨rfl,rfl,rfl,h0,h1⟩:=hp
   exact Od h h0 h1
 · cases hg
section
variable (n l:Nat) (z p:Nat→Int) (fl:Bool) (q lam:Int) (H:aa)
theorem PC (hl:l≤14) (hp:∀ i,i<l→0≤p i∧p i≤cF z i):exec (bu n 45 100) (.block 0 (.loop (part Tryz.f45 [1,1,1,1,0,1,0,0]))) (yF l l z p fl q lam (Int.ofNat 0)) (an::H)=some (.normal,yF l l z p fl q lam (Int.ofNat l)++[(36,.bool false)],an::H):=by
 refine jz 0 (fun j=>yF l l z p fl q lam (j:Nat)) (fun _=>an::H) l (yF l l z p fl q lam (Int.ofNat l)++[(36,.bool false)],an::H) (by omega) (fun j hj=>?_) ?_
 · have ej:aS .i64 (j:Int) (Int.ofNat 1)=((j+1:Nat):Int):=iu (by omega)
   have e1:aw 0 (j:Int) 1=j:=by rw[bA];omega
   have e5:aw 0 (j:Int) 5=j*5:=by rw[bA];omega
   have hpj:0≤p j∧p j≤z (j*5+4):=hp j hj
   refine aE (MN n l l z p fl q lam (j:Nat) H) (aC n) (af _ _) (ag _ _) ?_
   rw[ej,e1,e5]
   simp only[a7]
   generalize hq:p j=pj at *
   generalize z (j*5+4)=wj at *
   exact wF
 · obtain ⟨x,h1,rfl⟩:=aE (Q:=fun x=>x=(.exit 0,yF l l z p fl q lam (Int.ofNat l)++[(36,.bool false)],an::H)) (MN n l l z p fl q lam (Int.ofNat l) H) (aC n) (af _ _) (ag _ _) (by
    refine Tr.al (fun hc=>?_) (fun hc=>Tr.ao rfl)
    simp (disch:=omega) only[nV,nW] at hc;omega)
   exact h1
theorem PE (a:Int) (j:Nat) (h:bD l z=0) (hj:j<l) (hp:∀ i,i<l→0≤p i∧p i≤cF z i):exec (bu (n+2) 45 100) (.block 4 (.loop (part Tryz.f45 [1,1,1,1,1,1,0,1,0,0,1,0,0,1,1,0,1,0,0]))) (rv l l z p fl lam a (j:Nat) (Int.ofNat 0) (Int.ofNat 0)) (an::H)=some (.normal,rv l l z p fl lam a (j:Nat) (fG l (bE z) (bG z) p (bE z j)) (Int.ofNat l)++[(80,.bool false)],an::H):=by
 obtain ⟨hl,hz⟩:=bI h
 have hC:(il (iS (iS aI 55 (LK (Ev z) (Gu z) z l)) 57 (NG (I0 z) z l)) (n+2) 0).Ok (cd (n+2)):=cg _ _ (JW (Fi (n+1) l z h) h)
 refine jz 4 (fun i=>rv l l z p fl lam a (j:Nat) (fG i (bE z) (bG z) p (bE z j)) (i:Nat)) (fun _=>an::H) l (rv l l z p fl lam a (j:Nat) (fG l (bE z) (bG z) p (bE z j)) (Int.ofNat l)++[(80,.bool false)],an::H) (by omega) (fun i hi=>?_) ?_
 · have ej:aS .i64 (i:Int) (Int.ofNat 1)=((i+1:Nat):Int):=iu (by omega)
   have e1:aw 0 (i:Int) 1=i:=by rw[bA];omega
   have hw:=hz i hi
   have hpi:=hp i hi
   have hsr:=Bo (g:=fun i=>if bH (bE z) (bG z) (bE z j) i=true then p i else 0) (B:=100000) i (fun k hk=>by
    have:=hz k (by omega)
    have:=hp k (by omega)
    have hwk:cF z k=z (k*5+4):=rfl
    split<;>omega)
   have hsr:0≤fG i (bE z) (bG z) p (bE z j)∧fG i (bE z) (bG z) p (bE z j)≤(i:Int)*100000:=hsr
   have hs:fG (i+1) (bE z) (bG z) p (bE z j)=fG i (bE z) (bG z) p (bE z j)+(if bH (bE z) (bG z) (bE z j) i=true then p i else 0):=rfl
   have hwi:cF z i=z (i*5+4):=rfl
   have hp1:z=z∧aH l 5=aH l 5∧l=l∧0≤(j:Int)∧(j:Int)<(l:Int):=⟨rfl,rfl,rfl,by omega,by omega⟩
   have hp2:z=z∧aH l 5=aH l 5∧l=l∧0≤(i:Int)∧(i:Int)<(l:Int):=⟨rfl,rfl,rfl,by omega,by omega⟩
   have hM:I0 z (Ev z (j:Int)) (i:Int)=bH (bE z) (bG z) (bE z j) i:=rfl
   have ea:aS .i64 (fG i (bE z) (bG z) p (bE z j)) (p i)=fG i (bE z) (bG z) p (bE z j)+p i:=by rw[cD,cq (by omega) (by omega)]
   refine aE (MP (n+2) l l z p fl lam a (j:Nat) (fG i (bE z) (bG z) p (bE z j)) (i:Nat) (Ev z) (Gu z) (I0 z) H) hC (af _ _) (ag _ _) ?_
   rw[ej,e1,hM,hs,ea]
   clear ea hs hsr hC
   refine Tr.al (fun hc=>Tr.aB hp1 (Tr.aB hp2 ?_)) (fun hc=>by
    simp (disch:=omega) only[nV,nW] at hc;omega)
   cases bH (bE z) (bG z) (bE z j) i with
   | true =>
     simp only[if_true]
     generalize fG i (bE z) (bG z) p (bE z j)=S at *
     exact wF
   | false =>
     simp only[Bool.false_eq_true,if_false,Int.add_zero]
     generalize fG i (bE z) (bG z) p (bE z j)=S at *
     exact wF
 · obtain ⟨x,h1,rfl⟩:=aE (Q:=fun x=>x=(.exit 4,rv l l z p fl lam a (j:Nat) (fG l (bE z) (bG z) p (bE z j)) (Int.ofNat l)++[(80,.bool false)],an::H)) (MP (n+2) l l z p fl lam a (j:Nat) (fG l (bE z) (bG z) p (bE z j)) (Int.ofNat l) (Ev z) (Gu z) (I0 z) H) hC (af _ _) (ag _ _) (by
    refine Tr.al (fun hc=>?_) (fun hc=>Tr.ao rfl)
    simp (disch:=omega) only[nV,nW] at hc;omega)
   exact h1
theorem PD (a:Int) (h:bD l z=0) (hp:∀ i,i<l→0≤p i∧p i≤cF z i) (hs:∀ x,fG l (bE z) (bG z) p x≤lam):exec (bu (n+2) 45 100) (.block 2 (.loop (part Tryz.f45 [1,1,1,1,1,1,0,1,0,0]))) (pw l l z p fl lam a (Int.ofNat 0)) (an::H)=some (.normal,pw l l z p fl lam (uM z p a l) (Int.ofNat l)++[(62,.bool false)],an::H):=by
 obtain ⟨hl,hz⟩:=bI h
 refine jz 2 (fun j=>pw l l z p fl lam (uM z p a j) (j:Nat)) (fun _=>an::H) l (pw l l z p fl lam (uM z p a l) (Int.ofNat l)++[(62,.bool false)],an::H) (by omega) (fun j hj=>?_) ?_
 · have ej:aS .i64 (j:Int) (Int.ofNat 1)=((j+1:Nat):Int):=iu (by omega)
   have e1:aw 0 (j:Int) 1=j:=by rw[bA];omega
   have e5:aw 0 (j:Int) 5=j*5:=by rw[bA];omega
   have hx:=PE n l z p fl lam H (uM z p a (j+1)) j h hj hp
   have hsj:=hs (bE z j)
   have hb:aS .i64 (uM z p a j) (bQ .i64 (z (ak (aw 0 (j:Int) 5) 4)) (p (aw 0 (j:Int) 1)))=uM z p a (j+1):=by rw[e1,e5,a7];rfl
   refine aE (Qv (n+2) l l z p fl lam (uM z p a j) (j:Nat) (fG l (bE z) (bG z) p (bE z j)) H) (aC _) (bg (af _ _) NW (fun x h2=>by rw[← Tr.ab h2];simp only[dG.st,aF];rw[hb];exact hx)) (ag _ _) ?_
   rw[hb,ej,e1,e5]
   simp only[a7]
   clear hb hx hs
   generalize uM z p a (j+1)=b2
   generalize fG l (bE z) (bG z) p (bE z j)=S at *
   exact wF
 · obtain ⟨x,h1,rfl⟩:=aE (Q:=fun x=>x=(.exit 2,pw l l z p fl lam (uM z p a l) (Int.ofNat l)++[(62,.bool false)],an::H)) (MO (n+2) l l z p fl lam (uM z p a l) (Int.ofNat l) H) (aC _) (eC (af _ _) 4) (ag _ _) (by
    refine Tr.al (fun hc=>?_) (fun hc=>Tr.ao rfl)
    simp (disch:=omega) only[nV,nW] at hc;omega)
   exact h1
theorem RS (h:bD l z=0) (hq:0≤q∧q≤14) (g:yj l z lam l p):cd (n+5) (.fn 45) [ay 5 l z,.int .i64 q,.int .i64 lam,bc l p fl] H=some (.tup [.int .i64 (q*lam+me l (cF z) p),.int .i64 0],H):=by
 obtain ⟨hl,hz⟩:=bI h
 obtain ⟨_,hlam,hp,hs⟩:=g
 have hmu:nD .i64 q lam=q*lam∧0≤q*lam∧q*lam≤28000000:=by
  have h1:0≤q*lam:=Int.mul_nonneg hq.1 hlam.1
  have h2:q*lam≤14*lam:=Int.mul_le_mul_of_nonneg_right hq.2 hlam.1
  refine ⟨?_,h1,by omega⟩
  rw[nj,cq (by omega) (by omega)]
 have hbo:=(AG h hmu.2 hp l (Nat.le_refl _)).1
 have ha:=PC (n+4) l z p fl q lam H hl.2 hp
 have hb:=PD (n+2) l z p fl lam H (q*lam) h hp hs
 rw[hbo] at hb
 have h37:=fun H=>RP n l z q H
 rw[oj h hq.1 hq.2] at h37
 refine aX (n:=n+4) Tryz.func45 rfl rfl rfl (Ul (n+4) l l z p fl q lam (q*lam+me l (cF z) p) H) (cg _ _ (bZ (aO _) h37)) (bg (bg (af _ _) NU (fun x h2=>by rw[← Tr.ab h2];simp only[dG.st,aF];exact ha)) NV (fun x h2=>by rw[← Tr.ab h2];simp only[dG.st,aF];rw[hmu.1];exact hb)) (ag _ _) ?_
 rw[hmu.1]
 clear ha hb hbo h37
 generalize q*lam+me l (cF z) p=V at *
 generalize q*lam=V2 at *
 exact wF
end
end Go.Eng
end
section
namespace Go.Eng
open Go.Proofs
noncomputable def l5 (l:Nat) (z:Nat→Int) (q:Int):Int:=(mX l z (q+1).toNat).1-(mX l z q.toNat).1
theorem Cj {l:Nat} {z:Nat→Int} {q:Int} (h:bD l z=0) (hq:0≤q∧q≤14):0≤l5 l z q∧l5 l z q≤1400000:=by
 have h1:=tK (K:=q.toNat) h (by omega)
 have h2:=tK (K:=(q+1).toNat) h (by omega)
 have h3:=kG (show q.toNat≤(q+1).toNat by omega) (mK (K:=q.toNat) h (by omega)).1.most (mK (K:=(q+1).toNat) h (by omega)).1.most
 unfold l5;omega
theorem Hu {c l:Nat} {z:Nat→Int} {q:Int} {k1 k2 k3:Bool} {b1 b2 b3:List (Nat×aj)} (h:bD l z=0) (h0:0≤q) (h1:q≤15):cd (c+9) (.fn 79) [oO l (oY z l),.int .i64 q] [⟨k1,b1⟩,⟨k2,b2⟩,⟨k3,b3⟩]=some (.tup [.int .i64 (mX l z q.toNat).1,dA (mX l z q.toNat).2],[⟨k1,b1⟩,⟨k2,b2⟩,⟨k3,b3⟩]):=by
 have:=(mK (K:=q.toNat) h (by omega)).2 c 0 k1 k2 k3 b1 b2 b3
 rw[show ((q.toNat:Nat):Int)=q by omega] at this
 exact this
theorem Ha {c l:Nat} {z:Nat→Int} {t:l9} (h:bD l z=0) (ht:t.Ok (cd (c+9))):(dI t 79 (JY (oO l (oY z l)) (fun q=>(mX l z q.toNat).1) (fun q=>dA (mX l z q.toNat).2) (fun q=>0≤q∧q≤15))).Ok (cd (c+9)):=by
 refine gh ht (fun args H x hx=>?_)
 unfold JY at hx
 split at hx
 · split at hx
   · obtain ⟨⟨rfl,h0,h1⟩,h2⟩:=Tr.cW hx
     rw[← Tr.ab h2]
     exact Hu h h0 h1
   · exact (Tr.ae hx).elim
 · exact (Tr.ae hx).elim
theorem RR {l:Nat} {z:Nat→Int} {q:Int} (h:bD l z=0) (hq:0≤q∧q≤14):∃ p:Nat→Int,NP l z (l5 l z q) p∧∀ n k1 k2 b1 b2,cd (n+12) (.fn 43) [ay 5 l z,.int .i64 q] [⟨k1,b1⟩,⟨k2,b2⟩]=some (.tup [.int .i64 (l5 l z q),bc l p (dS l l),.int .i64 0],[⟨k1,b1⟩,⟨k2,b2⟩]):=by
 obtain ⟨l1,l2⟩:=Cj h hq
 obtain ⟨p,hp,h80⟩:=RW (lam:=l5 l z q) h l1 (by omega)
 refine ⟨p,hp,fun n k1 k2 b1 b2=>?_⟩
 have hman:tL l z q=.tup [oO l (oY z l),.int .i64 0]:=by unfold tL;rw[if_pos (oj h hq.1 hq.2)]
 have h78:∀ H,cd (n+11) (.fn 78) [ay 5 l z,.int .i64 q] H=some (.tup [oO l (oY z l),.int .i64 0],H):=fun H=>by rw[Ol,hman]
 have h80':∀ H,cd (n+11) (.fn 80) [oO l (oY z l),.int .i64 (l5 l z q)] H=some (bc l p (dS l l),H):=fun H=>h80 (n+2) 0 H
 have e1:aS .i64 q (Int.ofNat 1)=q+1:=by rw[cD,show Int.ofNat 1=1 from rfl,cq (by omega) (by omega)]
 have h1:=tK (K:=q.toNat) h (by omega)
 have h2:=tK (K:=(q+1).toNat) h (by omega)
 have e2:bQ .i64 (mX l z (q+1).toNat).1 (mX l z q.toNat).1=l5 l z q:=by unfold l5;rw[cG,cq (by omega) (by omega)]
 refine aX (n:=n+11) Tryz.func43 rfl rfl rfl (Uk (n+11) l z (oY z l) p (dS l l) q (l5 l z q) (fun q=>(mX l z q.toNat).1) (fun q=>dA (mX l z q.toNat).2) (fun q=>0≤q∧q≤15) k1 k2 b1 b2) (cg _ _ (Ha (c:=n+2) h (bZ (bZ (aO _) h78) h80'))) (af _ _) (ag _ _) ?_
 rw[e1]
 have e2:bQ .i64 ((fun q:Int=>(mX l z q.toNat).1) (q+1)) ((fun q:Int=>(mX l z q.toNat).1) q)=l5 l z q:=e2
 rw[e2]
 refine Tr.aB rfl (Tr.al (fun hc=>?_) (fun _=>Tr.aB ⟨rfl,by omega,by omega⟩ (Tr.aB ⟨rfl,by omega,by omega⟩ (Tr.aB rfl (Tr.ao ⟨rfl,rfl⟩)))))
 exfalso
 rw[b8] at hc
 have hc:bL true=true:=hc
 simp (disch:=omega) only[nV,nW] at hc
end Go.Eng
end
section
namespace Go.Eng
open Go.Proofs
noncomputable def AP (A:List AV) (V:AV) (args:List AV) (H:aa):Tr (AV×aa) :=
 match H with
 | [⟨_,_⟩,⟨_,_⟩]=>.reqP (args=A) (.ok (V,H))
 | _=>.bad
theorem Rx (n l kb kp:Nat) (z b pp:Nat→Int) (w pr:Int) (fin:Bool) (H:aa):aK (bu n 9 240) (il (tX (iS aI 15 LJ) 41 [ay 5 l z] (.bool fin)) n 0) aP aQ (chain [part Tryz.f9 [0],part Tryz.f9 [1,0]]) (hints [(0,ay 5 l z),(1,.int .u8 w),(2,bc kb b false),(3,.int .i64 pr),(4,bc kp pp false)]) (an::H) =
 Tr.reqP ([ay 5 l z]=[ay 5 l z]) (Tr.ite (bL fin) (Tr.reqP True (Tr.ok (Ex.ret,[(10,AV.bool true,none)],an::H))) (Tr.ite (cn (Int.ofNat 14) (Int.ofNat kb)) (Tr.reqP True (Tr.ok (Ex.ret,[(10,AV.bool true,none)],an::H))) (Tr.ite (cn (Int.ofNat 20) (Int.ofNat kp)) (Tr.reqP True (Tr.ok (Ex.ret,[(10,AV.bool true,none)],an::H))) (Tr.ok (Ex.normal,[(0,ay 5 l z,none),(1,AV.int IntKind.u8 w,none),(2,AV.slcT none (Row.M [aM.arr .i64 b kb]) 1 kb false,none),(3,AV.int .i64 pr,none),(4,AV.slcT none (Row.M [aM.arr .i64 pp kp]) 1 kp false,none),(47,AV.bool false,some 1)],an::H))))):=by kernel_rfl
theorem P6 (n l kb kp:Nat) (z b pp:Nat→Int) (nb:Nat) (B:Nat→Int) (p:Nat→Int) (fl:Bool) (w pr K M lam:Int):aK (bu n 9 240) (il (dI (dI aI 36 (AP [ay 5 l z,.int .i64 K] (.tup [.int .i64 M,bc nb B false,.int .i64 0]))) 43 (AP [ay 5 l z,.int .i64 K] (.tup [.int .i64 lam,bc l p fl,.int .i64 0]))) n 0) aP aQ (chain [part Tryz.f9 [1,1,0],part Tryz.f9 [1,1,1,0],part Tryz.f9 [1,1,1,1,0],part Tryz.f9 [1,1,1,1,1,0]]) (hints [(0,ay 5 l z),(1,.int .u8 w),(2,bc kb b false),(3,.int .i64 pr),(4,bc kp pp false),(47,.bool false)]) [an,⟨true,[]⟩] =
 Tr.req (bL (c5 (Int.ofNat 13) (Int.ofNat 0))) (Tr.reqP ([ay 5 l z,AV.int .i64 (oE IntKind.i64 (Bz IntKind.i64 w) (Int.ofNat 13))]=[ay 5 l z,AV.int .i64 K]) (Tr.reqP ([ay 5 l z,AV.int .i64 (oE IntKind.i64 (Bz IntKind.i64 w) (Int.ofNat 13))]=[ay 5 l z,AV.int .i64 K]) (Tr.ite (bL (c5 (Int.ofNat 0) (Int.ofNat 0))) (Tr.ok (Ex.ret,[(10,AV.bool false,some 1)],[an,{ lock:=true,bs:=[] }])) (Tr.ite (bL (c5 (Int.ofNat 0) (Int.ofNat 0))) (Tr.ok (Ex.ret,[(10,AV.bool false,some 1)],[an,{ lock:=true,bs:=[] }])) (Tr.ite (cn (oE IntKind.i64 (Bz IntKind.i64 w) (Int.ofNat 13)) (Int.ofNat nb)) (Tr.ok (Ex.ret,[(10,AV.bool false,some 1)],[an,{ lock:=true,bs:=[] }])) (Tr.ok (Ex.normal,[(0,ay 5 l z,none),(2,AV.slcT none (Row.M [aM.arr .i64 b kb]) 1 kb false,none),(3,AV.int .i64 pr,none),(4,AV.slcT none (Row.M [aM.arr .i64 pp kp]) 1 kp false,none),(11,AV.int .i64 (oE IntKind.i64 (Bz IntKind.i64 w) (Int.ofNat 13)),none),(12,AV.int .i64 M,none),(13,AV.slcT none (Row.M [aM.arr .i64 B nb]) 1 nb false,none),(15,AV.int .i64 lam,none),(16,AV.slcT none (Row.M [aM.arr .i64 p l]) 1 l fl,none),(77,AV.bool false,some 1)],[an,{ lock:=true,bs:=[] }]))))))):=by kernel_rfl
theorem P8 (n l kb kp:Nat) (z b pp:Nat→Int) (nb:Nat) (B:Nat→Int) (p:Nat→Int) (fl:Bool) (pr K M lam w1 x1:Int) (H:aa):aK (bu n 9 240) (il (tX (tX (tX (tX aI 27 [ay 5 l z,bc nb B false] (.tup [.int .i64 w1,.int .i64 0])) 44 [ay 5 l z,.int .i64 K,.int .i64 lam,bc l p fl] (.tup [.int .i64 x1,.int .i64 0])) 45 [ay 5 l z,.int .i64 K,.int .i64 lam,bc l p fl] (.tup [.int .i64 x1,.int .i64 0])) 39 [ay 5 l z,bc nb B false] (.int .i64 M)) n 0) aP aQ (chain [part Tryz.f9 [1,1,1,1,1,1,0],part Tryz.f9 [1,1,1,1,1,1,1,0],part Tryz.f9 [1,1,1,1,1,1,1,1,0],part Tryz.f9 [1,1,1,1,1,1,1,1,1,0]]) (hints [(0,ay 5 l z),(2,bc kb b false),(3,.int .i64 pr),(4,bc kp pp false),(11,.int .i64 K),(12,.int .i64 M),(13,bc nb B false),(15,.int .i64 lam),(16,bc l p fl),(77,.bool false)]) (an::H) =
 Tr.reqP ([ay 5 l z,AV.slcT none (Row.M [aM.arr .i64 B nb]) 1 nb false]=[ay 5 l z,AV.slcT none (Row.M [aM.arr .i64 B nb]) 1 nb false]) (Tr.reqP ([ay 5 l z,AV.int .i64 K,AV.int .i64 lam,AV.slcT none (Row.M [aM.arr .i64 p l]) 1 l fl]=[ay 5 l z,AV.int .i64 K,AV.int .i64 lam,AV.slcT none (Row.M [aM.arr .i64 p l]) 1 l fl]) (Tr.reqP ([ay 5 l z,AV.int .i64 K,AV.int .i64 lam,AV.slcT none (Row.M [aM.arr .i64 p l]) 1 l fl]=[ay 5 l z,AV.int .i64 K,AV.int .i64 lam,AV.slcT none (Row.M [aM.arr .i64 p l]) 1 l fl]) (Tr.ite (bL (c5 (Int.ofNat 0) (Int.ofNat 0))) (Tr.ok (Ex.ret,[(10,AV.bool false,some 1)],an::H)) (Tr.ite (bL (c5 (Int.ofNat 0) (Int.ofNat 0))) (Tr.ok (Ex.ret,[(10,AV.bool false,some 1)],an::H)) (Tr.ite (bL (c5 (Int.ofNat 0) (Int.ofNat 0))) (Tr.ok (Ex.ret,[(10,AV.bool false,some 1)],an::H)) (Tr.ite (bL (c5 w1 M)) (Tr.ok (Ex.ret,[(10,AV.bool false,some 1)],an::H)) (Tr.reqP ([ay 5 l z,AV.slcT none (Row.M [aM.arr .i64 B nb]) 1 nb false]=[ay 5 l z,AV.slcT none (Row.M [aM.arr .i64 B nb]) 1 nb false]) (Tr.ite (bL (c5 M M)) (Tr.ok (Ex.ret,[(10,AV.bool false,some 1)],an::H)) (Tr.ite (bL (c5 x1 M)) (Tr.ok (Ex.ret,[(10,AV.bool false,some 1)],an::H)) (Tr.ite (bL (c5 x1 M)) (Tr.ok (Ex.ret,[(10,AV.bool false,some 1)],an::H)) (Tr.ok (Ex.normal,[(0,ay 5 l z,none),(2,AV.slcT none (Row.M [aM.arr .i64 b kb]) 1 kb false,none),(3,AV.int .i64 pr,none),(4,AV.slcT none (Row.M [aM.arr .i64 pp kp]) 1 kp false,none),(11,AV.int .i64 K,none),(12,AV.int .i64 M,none),(131,AV.bool false,some 1)],an::H)))))))))))):=by kernel_rfl
theorem P7 (n l kb kp:Nat) (z b pp:Nat→Int) (p:Nat→Int) (fl:Bool) (w pr K M lam:Int):aK (bu n 9 240) (il (dI (dI aI 36 (AP [ay 5 l z,.int .i64 K] (.tup [.int .i64 M,.nils,.int .i64 0]))) 43 (AP [ay 5 l z,.int .i64 K] (.tup [.int .i64 lam,bc l p fl,.int .i64 0]))) n 0) aP aQ (chain [part Tryz.f9 [1,1,0],part Tryz.f9 [1,1,1,0],part Tryz.f9 [1,1,1,1,0],part Tryz.f9 [1,1,1,1,1,0]]) (hints [(0,ay 5 l z),(1,.int .u8 w),(2,bc kb b false),(3,.int .i64 pr),(4,bc kp pp false),(47,.bool false)]) [an,⟨true,[]⟩] =
 Tr.req (bL (c5 (Int.ofNat 13) (Int.ofNat 0))) (Tr.reqP ([ay 5 l z,AV.int .i64 (oE IntKind.i64 (Bz IntKind.i64 w) (Int.ofNat 13))]=[ay 5 l z,AV.int .i64 K]) (Tr.reqP ([ay 5 l z,AV.int .i64 (oE IntKind.i64 (Bz IntKind.i64 w) (Int.ofNat 13))]=[ay 5 l z,AV.int .i64 K]) (Tr.ite (bL (c5 (Int.ofNat 0) (Int.ofNat 0))) (Tr.ok (Ex.ret,[(10,AV.bool false,some 1)],[an,{ lock:=true,bs:=[] }])) (Tr.ite (bL (c5 (Int.ofNat 0) (Int.ofNat 0))) (Tr.ok (Ex.ret,[(10,AV.bool false,some 1)],[an,{ lock:=true,bs:=[] }])) (Tr.ite (cn (oE IntKind.i64 (Bz IntKind.i64 w) (Int.ofNat 13)) (Int.ofNat 0)) (Tr.ok (Ex.ret,[(10,AV.bool false,some 1)],[an,{ lock:=true,bs:=[] }])) (Tr.ok (Ex.normal,[(0,ay 5 l z,none),(2,AV.slcT none (Row.M [aM.arr .i64 b kb]) 1 kb false,none),(3,AV.int .i64 pr,none),(4,AV.slcT none (Row.M [aM.arr .i64 pp kp]) 1 kp false,none),(11,AV.int .i64 (oE IntKind.i64 (Bz IntKind.i64 w) (Int.ofNat 13)),none),(12,AV.int .i64 M,none),(13,AV.nils,none),(15,AV.int .i64 lam,none),(16,AV.slcT none (Row.M [aM.arr .i64 p l]) 1 l fl,none),(77,AV.bool false,some 1)],[an,{ lock:=true,bs:=[] }]))))))):=by kernel_rfl
theorem P9 (n l kb kp:Nat) (z b pp:Nat→Int) (p:Nat→Int) (fl:Bool) (pr K M lam w1 x1:Int) (H:aa):aK (bu n 9 240) (il (tX (tX (tX (tX aI 27 [ay 5 l z,.nils] (.tup [.int .i64 w1,.int .i64 0])) 44 [ay 5 l z,.int .i64 K,.int .i64 lam,bc l p fl] (.tup [.int .i64 x1,.int .i64 0])) 45 [ay 5 l z,.int .i64 K,.int .i64 lam,bc l p fl] (.tup [.int .i64 x1,.int .i64 0])) 39 [ay 5 l z,.nils] (.int .i64 M)) n 0) aP aQ (chain [part Tryz.f9 [1,1,1,1,1,1,0],part Tryz.f9 [1,1,1,1,1,1,1,0],part Tryz.f9 [1,1,1,1,1,1,1,1,0],part Tryz.f9 [1,1,1,1,1,1,1,1,1,0]]) (hints [(0,ay 5 l z),(2,bc kb b false),(3,.int .i64 pr),(4,bc kp pp false),(11,.int .i64 K),(12,.int .i64 M),(13,.nils),(15,.int .i64 lam),(16,bc l p fl),(77,.bool false)]) (an::H) =
 Tr.reqP ([ay 5 l z,AV.nils]=[ay 5 l z,AV.nils]) (Tr.reqP ([ay 5 l z,AV.int .i64 K,AV.int .i64 lam,AV.slcT none (Row.M [aM.arr .i64 p l]) 1 l fl]=[ay 5 l z,AV.int .i64 K,AV.int .i64 lam,AV.slcT none (Row.M [aM.arr .i64 p l]) 1 l fl]) (Tr.reqP ([ay 5 l z,AV.int .i64 K,AV.int .i64 lam,AV.slcT none (Row.M [aM.arr .i64 p l]) 1 l fl]=[ay 5 l z,AV.int .i64 K,AV.int .i64 lam,AV.slcT none (Row.M [aM.arr .i64 p l]) 1 l fl]) (Tr.ite (bL (c5 (Int.ofNat 0) (Int.ofNat 0))) (Tr.ok (Ex.ret,[(10,AV.bool false,some 1)],an::H)) (Tr.ite (bL (c5 (Int.ofNat 0) (Int.ofNat 0))) (Tr.ok (Ex.ret,[(10,AV.bool false,some 1)],an::H)) (Tr.ite (bL (c5 (Int.ofNat 0) (Int.ofNat 0))) (Tr.ok (Ex.ret,[(10,AV.bool false,some 1)],an::H)) (Tr.ite (bL (c5 w1 M)) (Tr.ok (Ex.ret,[(10,AV.bool false,some 1)],an::H)) (Tr.reqP ([ay 5 l z,AV.nils]=[ay 5 l z,AV.nils]) (Tr.ite (bL (c5 M M)) (Tr.ok (Ex.ret,[(10,AV.bool false,some 1)],an::H)) (Tr.ite (bL (c5 x1 M)) (Tr.ok (Ex.ret,[(10,AV.bool false,some 1)],an::H)) (Tr.ite (bL (c5 x1 M)) (Tr.ok (Ex.ret,[(10,AV.bool false,some 1)],an::H)) (Tr.ok (Ex.normal,[(0,ay 5 l z,none),(2,AV.slcT none (Row.M [aM.arr .i64 b kb]) 1 kb false,none),(3,AV.int .i64 pr,none),(4,AV.slcT none (Row.M [aM.arr .i64 pp kp]) 1 kp false,none),(11,AV.int .i64 K,none),(12,AV.int .i64 M,none),(131,AV.bool false,some 1)],an::H)))))))))))):=by kernel_rfl
theorem T7 (n l kb kp:Nat) (z b pp:Nat→Int) (pr K M own e6 mo bo e8:Int) (W:AV):aK (bu n 9 240) (il (dI (tX (tX aI 27 [ay 5 l z,bc kb b false] (.tup [.int .i64 own,.int .i64 e6])) 44 [ay 5 l z,.int .i64 (Int.ofNat kb),.int .i64 pr,bc kp pp false] (.tup [.int .i64 bo,.int .i64 e8])) 36 (AP [ay 5 l z,.int .i64 (Int.ofNat kb)] (.tup [.int .i64 mo,W,.int .i64 0]))) n 0) aP aQ (chain [part Tryz.f9 [1,1,1,1,1,1,1,1,1,1,0],part Tryz.f9 [1,1,1,1,1,1,1,1,1,1,1,0],part Tryz.f9 [1,1,1,1,1,1,1,1,1,1,1,1,0],part Tryz.f9 [1,1,1,1,1,1,1,1,1,1,1,1,1,0]]) (hints [(0,ay 5 l z),(2,bc kb b false),(3,.int .i64 pr),(4,bc kp pp false),(11,.int .i64 K),(12,.int .i64 M),(131,.bool false)]) [an,⟨true,[]⟩] =
 (fun (Z0:aT)=>Tr.reqP ([ay 5 l z,AV.slcT none (Row.M [aM.arr .i64 b kb]) 1 kb false]=[ay 5 l z,AV.slcT none (Row.M [aM.arr .i64 b kb]) 1 kb false]) (Tr.reqP ([ay 5 l z,AV.int .i64 (Int.ofNat kb)]=[ay 5 l z,AV.int .i64 (Int.ofNat kb)]) (Tr.reqP ([ay 5 l z,AV.int .i64 (Int.ofNat kb),AV.int .i64 pr,AV.slcT none (Row.M [aM.arr .i64 pp kp]) 1 kp false]=[ay 5 l z,AV.int .i64 (Int.ofNat kb),AV.int .i64 pr,AV.slcT none (Row.M [aM.arr .i64 pp kp]) 1 kp false]) (Tr.ite (c5 e6 (Int.ofNat 0)) (Tr.ite (bL (c5 (Int.ofNat 0) (Int.ofNat 0))) (Tr.ok (Ex.ret,[(10,AV.bool false,some 1)],[an,{ lock:=true,bs:=[] }])) (Tr.ite (cn mo own) (Tr.ok (Ex.ret,[(10,AV.bool false,some 1)],[an,{ lock:=true,bs:=[] }])) (Tr.ite (c5 e8 (Int.ofNat 0)) (Tr.ite (cn bo own) (Tr.ok (Ex.ret,[(10,AV.bool false,some 1)],[an,{ lock:=true,bs:=[] }])) (Tr.ite (c5 (Int.ofNat 0) (Int.ofNat 0)) (Tr.ite (c5 e8 (Int.ofNat 0)) (Tr.ite (cn bo mo) (Tr.ok (Ex.ret,[(10,AV.bool false,some 1)],[an,{ lock:=true,bs:=[] }])) (Tr.ok (Ex.normal,Z0,[an,{ lock:=true,bs:=[] }]))) (Tr.ok (Ex.normal,Z0,[an,{ lock:=true,bs:=[] }]))) (Tr.ok (Ex.normal,Z0,[an,{ lock:=true,bs:=[] }])))) (Tr.ite (c5 (Int.ofNat 0) (Int.ofNat 0)) (Tr.ite (c5 e8 (Int.ofNat 0)) (Tr.ite (cn bo mo) (Tr.ok (Ex.ret,[(10,AV.bool false,some 1)],[an,{ lock:=true,bs:=[] }])) (Tr.ok (Ex.normal,Z0,[an,{ lock:=true,bs:=[] }]))) (Tr.ok (Ex.normal,Z0,[an,{ lock:=true,bs:=[] }]))) (Tr.ok (Ex.normal,Z0,[an,{ lock:=true,bs:=[] }])))))) (Tr.ite (c5 (Int.ofNat 0) (Int.ofNat 0)) (Tr.ite (c5 e8 (Int.ofNat 0)) (Tr.ite (cn bo mo) (Tr.ok (Ex.ret,[(10,AV.bool false,some 1)],[an,{ lock:=true,bs:=[] }])) (Tr.ok (Ex.normal,Z0,[an,{ lock:=true,bs:=[] }]))) (Tr.ok (Ex.normal,Z0,[an,{ lock:=true,bs:=[] }]))) (Tr.ok (Ex.normal,Z0,[an,{ lock:=true,bs:=[] }]))))))) [(0,ay 5 l z,none),(11,AV.int .i64 K,none),(12,AV.int .i64 M,none),(187,AV.bool false,some 1)]:=by kernel_rfl
theorem T8 (n l:Nat) (z:Nat→Int) (K M:Int) (Q:Nat→(Nat→Int)→Int→Prop) (F:Nat→(Nat→Int)→Int→Int) (W:Nat→(Nat→Int)→Int→AV):aK (bu n 9 240) (il (dI (iS aI 15 LJ) 36 (OB Q F W)) n 0) aP aQ (chain [part Tryz.f9 [1,1,1,1,1,1,1,1,1,1,1,1,1,1,0],part Tryz.f9 [1,1,1,1,1,1,1,1,1,1,1,1,1,1,1,0],part Tryz.f9 [1,1,1,1,1,1,1,1,1,1,1,1,1,1,1,1]]) (hints [(0,ay 5 l z),(11,.int .i64 K),(12,.int .i64 M),(187,.bool false)]) [an,⟨true,[]⟩] =
 Tr.reqP (aH l 5=aH l 5∧Q l z (aS .i64 K (Int.ofNat 1))) (Tr.reqP (aH l 5=aH l 5∧Q l z (aS .i64 K (Int.ofNat 2))) (Tr.ite (c5 (Int.ofNat 0) (Int.ofNat 0)) (Tr.ite (c5 (Int.ofNat 0) (Int.ofNat 0)) (Tr.ite (mI M (F l z (aS .i64 K (Int.ofNat 1)))) (Tr.ite (mI (F l z (aS .i64 K (Int.ofNat 1))) (F l z (aS .i64 K (Int.ofNat 2)))) (Tr.ite (mI (bQ .i64 (F l z (aS .i64 K (Int.ofNat 2))) (F l z (aS .i64 K (Int.ofNat 1)))) (bQ .i64 (F l z (aS .i64 K (Int.ofNat 1))) M)) (Tr.ite (cn (Int.ofNat 0) K) (Tr.reqP True (Tr.ok (Ex.ret,[(10,AV.bool true,none)],[an,{ lock:=true,bs:=[] }]))) (Tr.ite (c5 M (Int.ofNat 0)) (Tr.reqP True (Tr.ok (Ex.ret,[(10,AV.bool true,none)],[an,{ lock:=true,bs:=[] }]))) (Tr.ok (Ex.ret,[(10,AV.bool false,some 1)],[an,{ lock:=true,bs:=[] }])))) (Tr.ok (Ex.ret,[(10,AV.bool false,some 1)],[an,{ lock:=true,bs:=[] }]))) (Tr.ok (Ex.ret,[(10,AV.bool false,some 1)],[an,{ lock:=true,bs:=[] }]))) (Tr.ok (Ex.ret,[(10,AV.bool false,some 1)],[an,{ lock:=true,bs:=[] }]))) (Tr.ok (Ex.ret,[(10,AV.bool false,some 1)],[an,{ lock:=true,bs:=[] }]))) (Tr.ok (Ex.ret,[(10,AV.bool false,some 1)],[an,{ lock:=true,bs:=[] }])))):=by kernel_rfl
end Go.Eng
end
section
namespace Go.Eng
open Go.Proofs
noncomputable def G8:List AV→Option (Prop×AV)
 | [.nils,.fn (.func 72) [.agg (.I .i64 [_,_,_,_,_,_,_])] []]=>some (True,.bool false)
 | _=>none
noncomputable def rr (l:Nat) (z y:Nat→Int) (s j:Int):av:=[(1,.nils),(6,.ptrT (some 0) (.G [ay 7 l y]) 0),(9,.int .i64 s),(25,ay 5 l z),(26,.int .i64 (Int.ofNat l)),(27,.int .i64 j)]
theorem QH (n l:Nat) (z y:Nat→Int) (H:aa):bt Tryz.prog (cd n) 100000 27 Tryz.f27 (KtB.kt 27) (il (tX (tX aI 52 [ay 5 l z] (.tup [oO l y,.int .i64 0])) 70 [.nils] (.int .i64 0)) n 0) (dJ aP 0 (rr l z y (Int.ofNat 0) (Int.ofNat 0)) (an::H) (.ok (.normal,hints (rr l z y (Int.ofNat 0) (Int.ofNat l)++[(28,.bool false)]),an::H))) aQ [(ay 5 l z,none),(.nils,none)] H =
 (fun (Z0:av)=>((fun (Z1:AV×Option Nat)=>Tr.reqP ([ay 5 l z]=[ay 5 l z]) (Tr.ite (bL (c5 (Int.ofNat 0) (Int.ofNat 0))) (Tr.ok (Z1,H)) (Tr.reqP ([AV.nils]=[AV.nils]) (Tr.ite (bL (c5 (Int.ofNat 0) (Int.ofNat 0))) (Tr.ok (Z1,H)) (Tr.reqP (Z0=Z0∧an::H=an::H) (Tr.ok (Z1,H))))))) (AV.tup [AV.int .i64 (Int.ofNat 0),AV.int .i64 (Int.ofNat 0)],none))) [(1,AV.nils),(6,AV.ptrT (some 0) (Row.G [ay 7 l y]) 0),(9,AV.int .i64 (Int.ofNat 0)),(25,ay 5 l z),(26,AV.int .i64 (Int.ofNat l)),(27,AV.int .i64 (Int.ofNat 0))]:=by kernel_rfl
theorem NS:∀ b,(0,b) ∈ aV (bM Tryz.f27)→b=.loop (part Tryz.f27 [1,1,1,1,1,0,1,0,0]):=fM (by kernel_rfl)
theorem MH (n l:Nat) (z y:Nat→Int) (s j:Int) (H:aa):aK (bu n 27 48) (il (iS aI 71 G8) n 0) aP aQ (part Tryz.f27 [1,1,1,1,1,0,1,0,0]) (hints (rr l z y s j)) (an::H) =
 (fun (Z0:bx)=>Tr.ite (cn j (Int.ofNat l)) (Tr.req (cU j l) (Tr.req (bB (aw 0 j 5) (aH l 5)) (Tr.req (bB (ak (aw 0 j 5) 1) (aH l 5)) (Tr.req (bB (ak (aw 0 j 5) 2) (aH l 5)) (Tr.req (bB (ak (aw 0 j 5) 3) (aH l 5)) (Tr.req (bB (ak (aw 0 j 5) 4) (aH l 5)) (Tr.req (cU j l) (Tr.req (bB (aw 0 j 7) (aH l 7)) (Tr.req (bB (ak (aw 0 j 7) 1) (aH l 7)) (Tr.req (bB (ak (aw 0 j 7) 2) (aH l 7)) (Tr.req (bB (ak (aw 0 j 7) 3) (aH l 7)) (Tr.req (bB (ak (aw 0 j 7) 4) (aH l 7)) (Tr.req (bB (ak (aw 0 j 7) 5) (aH l 7)) (Tr.req (bB (ak (aw 0 j 7) 6) (aH l 7)) (Tr.reqP True (Tr.ite false (Tr.ok (Ex.normal,[(1,AV.nils,none),(6,AV.ptrT (some 0) (Row.G [ay 7 l y]) 0,none),(9,AV.int .i64 (aS .i64 s (z (ak (aw 0 j 5) 4))),none),(25,ay 5 l z,none),(26,AV.int .i64 (Int.ofNat l),none),(27,AV.int .i64 (aS .i64 j (Int.ofNat 1)),none)],Z0::H)) (Tr.ok (Ex.normal,[(1,AV.nils,none),(6,AV.ptrT (some 0) (Row.G [ay 7 l y]) 0,none),(9,AV.int .i64 s,none),(25,ay 5 l z,none),(26,AV.int .i64 (Int.ofNat l),none),(27,AV.int .i64 (aS .i64 j (Int.ofNat 1)),none)],Z0::H)))))))))))))))))) (Tr.ok (Ex.exit 0,[(1,AV.nils,none),(6,AV.ptrT (some 0) (Row.G [ay 7 l y]) 0,none),(9,AV.int .i64 s,none),(25,ay 5 l z,none),(26,AV.int .i64 (Int.ofNat l),none),(27,AV.int .i64 j,none),(28,AV.bool false,some 1)],an::H))) { lock:=false,bs:=[(0,aj.row (Row.I .i64 [z (aw 0 j 5),z (ak (aw 0 j 5) 1),z (ak (aw 0 j 5) 2),z (ak (aw 0 j 5) 3),z (ak (aw 0 j 5) 4)]))] }:=by kernel_rfl
theorem Og (n:Nat) (a b c d e f g:Int) (H:aa):cd (n+6) (.fn 71) [.nils,.fn (.func 72) [.agg (.I .i64 [a,b,c,d,e,f,g])] []] H=some (.bool false,H):=by kernel_rfl
theorem Of (n:Nat) (H:aa):cd (n+6) (.fn 70) [.nils] H=some (.int .i64 0,H):=by kernel_rfl
theorem G9 (n:Nat):(iS aI 71 G8).Ok (cd (n+6)):=by
 refine dY (aO _) (fun args p v hg hp H=>?_)
 unfold G8 at hg
 split at hg
 · simp only[nP] at hg
   obtain ⟨_,rfl⟩:=hg
   exact Og n _ _ _ _ _ _ _ H
 · cases hg
theorem N7 (n l:Nat) (z:Nat→Int) (H:aa) (h:bD l z=0):cd (n+11) (.fn 27) [ay 5 l z,.nils] H=some (.tup [.int .i64 0,.int .i64 0],H):=by
 obtain ⟨hl,hz⟩:=bI h
 have h52:∀ H,cd (n+10) (.fn 52) [ay 5 l z] H=some (.tup [oO l (oY z l),.int .i64 0],H):=fun H=>by
  rw[Ob];unfold qV;rw[if_pos h];rfl
 have hC:(il (iS aI 71 G8) (n+10) 0).Ok (cd (n+10)):=cg _ _ (G9 (n+4))
 have hx:exec (bu (n+10) 27 48) (.block 0 (.loop (part Tryz.f27 [1,1,1,1,1,0,1,0,0]))) (rr l z (oY z l) (Int.ofNat 0) (Int.ofNat 0)) (an::H)=some (.normal,rr l z (oY z l) (Int.ofNat 0) (Int.ofNat l)++[(28,.bool false)],an::H):=by
  refine jz 0 (fun j=>rr l z (oY z l) (Int.ofNat 0) (j:Nat)) (fun _=>an::H) l (rr l z (oY z l) (Int.ofNat 0) (Int.ofNat l)++[(28,.bool false)],an::H) (by omega) (fun j hj=>?_) ?_
  · have ej:aS .i64 (j:Int) (Int.ofNat 1)=((j+1:Nat):Int):=iu (by omega)
    have e5:aw 0 (j:Int) 5=j*5:=by rw[bA];omega
    have e7:aw 0 (j:Int) 7=j*7:=by rw[bA];omega
    refine aE (MH (n+10) l z (oY z l) (Int.ofNat 0) (j:Nat) H) hC (af _ _) (ag _ _) ?_
    rw[ej,e5,e7]
    simp only[a7]
    exact wF
  · obtain ⟨x,h1,rfl⟩:=aE (Q:=fun x=>x=(.exit 0,rr l z (oY z l) (Int.ofNat 0) (Int.ofNat l)++[(28,.bool false)],an::H)) (MH (n+10) l z (oY z l) (Int.ofNat 0) (Int.ofNat l) H) hC (af _ _) (ag _ _) (by
     refine Tr.al (fun hc=>?_) (fun hc=>Tr.ao rfl)
     simp (disch:=omega) only[nV,nW] at hc;omega)
    exact h1
 refine aX (n:=n+10) Tryz.func27 rfl rfl rfl (QH (n+10) l z (oY z l) H) (cg _ _ (bZ (bZ (aO _) h52) (fun H=>Of (n+4) H))) (bg (af _ _) NS (fun x h=>by rw[← Tr.ab h];simp only[dG.st,aF];exact hx)) (ag _ _) ?_
 exact wF
end Go.Eng
end
