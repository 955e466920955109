/- Gall: CheckOrder by the reference. -/
import Derived.Test.YtgphpjdchnfjlaaDoorV4Gp6x5
set_option linter.unusedVariables false
set_option linter.unusedSimpArgs false
set_option maxRecDepth 100000
section
namespace Go.Eng
open Go.Proofs Go.Eng.Gall
theorem QN:∀ b,(0,b) ∈ aI (aY Tryd.f77)→b=.loop (part Tryd.f77 [1,1,0,1,0,0]):=eX (by kernel_rfl)
theorem MP:∀ b,(2,b) ∈ aI (part Tryd.f77 [1,1,0,1,0,0])→b=.loop (part Tryd.f77 [1,1,0,1,0,0,1,0,0,1,1,0,0]):=eX (by kernel_rfl)
theorem QJ:∀ b,(0,b) ∈ aI (aY Tryd.f40)→b=.loop (part Tryd.f40 [1,1,1,0,1,0,0]):=eX (by kernel_rfl)
theorem MM:∀ b,(2,b) ∈ aI (aY Tryd.f40)→b=.loop (part Tryd.f40 [1,1,1,1,0,1,0,0]):=eX (by kernel_rfl)
theorem ML:∀ b,(4,b) ∈ aI (part Tryd.f40 [1,1,1,1,0,1,0,0])→b=.loop (part Tryd.f40 [1,1,1,1,0,1,0,0,1,0,0,1,0,0]):=eX (by kernel_rfl)
section
variable (n:Nat) (dr:Int) (lc:Nat) (zc:Nat→Int) (lb:Nat) (zb:Nat→Int) (H:aa) (m:Nat) (z:Nat→Int)
theorem N0 (hm:m≤1000) (i:Nat) (hi:i<m):exec (b5 (n+1) 77 40) (.block 2 (.loop (part Tryd.f77 [1,1,0,1,0,0,1,0,0,1,1,0,0]))) (wz m z (i:Int) (Int.ofNat 0)) (cO dr lc zc lb zb::H)=some (cond (c5 (fun j=>decide (z j=z i)) i) (.ret,[(4,.bool false)],cO dr lc zc lb zb::H) (.normal,wz m z (i:Int) (i:Int)++[(28,.bool false)],cO dr lc zc lb zb::H)):=by
 refine fF (n:=n+1) (f:=77) (nt:=40) (c:=part Tryd.f77 [1,1,0,1,0,0,1,0,0,1,1,0,0]) 2 (fun j=>wz m z (i:Int) (j:Int)) (fun _=>cO dr lc zc lb zb::H) i (fun j=>decide (z j=z i)) (fun _=>([(4,.bool false)],cO dr lc zc lb zb::H)) (wz m z (i:Int) (i:Int)++[(28,.bool false)],cO dr lc zc lb zb::H) (by omega) (fun j hj=>?_) ?_
 · have T:=L1 n dr lc zc lb zb H m z (i:Int) (j:Int)
   rw[pb,pb,ft (by omega)] at T
   refine aR T (fi n 1) (ak _ _) (al _ _) ?_
   refine Tr.ae (fun h0=>?_) (fun h0=>by simp (disch:=omega) only[nV,nW] at h0;omega)
   refine Tr.ag (by simp (disch:=omega) only[nV,nW];omega) (Tr.ag (by simp (disch:=omega) only[nV,nW];omega) (Tr.ag (by simp (disch:=omega) only[nV,nW];omega) (Tr.ag (by simp (disch:=omega) only[nV,nW];omega) (Tr.ae (fun q=>Tr.ah ?_) (fun q=>Tr.ah ?_)))))
   all_goals rw[aZ] at q
   · rw[if_pos (by simpa using q)];rfl
   · rw[if_neg (by simpa using q)];exact ⟨rfl,rfl⟩
 · obtain ⟨x,h1,rfl⟩:=aR (Q:=fun x=>x=(.exit 2,wz m z (i:Int) (i:Int)++[(28,.bool false)],cO dr lc zc lb zb::H)) (L1 n dr lc zc lb zb H m z (i:Int) (i:Int)) (fi n 1) (ak _ _) (al _ _) (by
    refine Tr.ae (fun h0=>by simp (disch:=omega) only[nV,nW] at h0;omega) (fun h0=>Tr.ah rfl))
   exact h1
theorem Q7 (hm:m≤1000) (hl:lc≤1000):cd (n+2) (.fn 77) [cM dr lc zc lb zb,bF m z false] H=some (.bool (ur z lc m),H):=by
 have lp:=fF (n:=n+1) (f:=77) (nt:=40) (c:=part Tryd.f77 [1,1,0,1,0,0]) 0 (fun j=>mw m z (j:Int)) (fun _=>cO dr lc zc lb zb::H) m (fun i=>!(decide (0≤z i) && decide (z i<lc)) || c5 (fun j=>decide (z j=z i)) i) (fun _=>([(4,.bool false)],cO dr lc zc lb zb::H)) (mw m z (Int.ofNat m)++[(16,.bool false)],cO dr lc zc lb zb::H) (by omega) (fun j hj=>?_) ?_
 · refine bK (n:=n+1) Tryd.func77 rfl rfl rfl (TD (n+1) dr lc zc lb zb H m z (c5 (fun i=>!(decide (0≤z i) && decide (z i<lc)) || c5 (fun j=>decide (z j=z i)) i) m)) (aJ _) (br (ak _ _) QN (fun x hx=>cC hx lp)) (al _ _) ?_
   unfold ur
   refine Tr.ae (fun q=>Tr.ah ⟨?_,rfl⟩) (fun q=>Tr.aj ⟨rfl,rfl⟩ (Tr.ae (fun q2=>Tr.ah ⟨?_,rfl⟩) (fun q2=>Tr.ah ⟨?_,rfl⟩)))
   all_goals rw[aG,aZ] at q
   · have:¬ (m:Int)=lc:=by simpa using q
     rw[decide_eq_false (by omega)];rfl
   · rw[q2];simp
   · have:(m:Int)=lc:=by simpa using q
     rw[q2,decide_eq_true (by omega)];rfl
 · have T:=Pd n dr lc zc lb zb H m z (j:Int) (c5 (fun k=>decide (z k=z j)) j)
   rw[pb,ft (by omega)] at T
   refine aR T (fi n 1) (br (ak _ _) MP (fun x hx=>cC hx (N0 n dr lc zc lb zb H m z hm j hj))) (al _ _) ?_
   refine Tr.ae (fun h0=>?_) (fun h0=>by simp (disch:=omega) only[nV,nW] at h0;omega)
   refine Tr.ag (by simp (disch:=omega) only[nV,nW];omega) (Tr.ag (by simp (disch:=omega) only[nV,nW];omega) (Tr.ae (fun q=>Tr.ae (fun q2=>Tr.ah ?_) (fun q2=>Tr.aj ⟨rfl,rfl⟩ (Tr.ae (fun q3=>Tr.ah ?_) (fun q3=>Tr.ah ?_)))) (fun q=>Tr.ah ?_)))
   all_goals rw[bC] at q
   · rw[aG,b9] at q2
     have:¬ z j<lc:=by simpa using q2
     rw[if_pos (by rw[decide_eq_false this];simp)];rfl
   · rw[if_pos (by rw[q3];simp)];rfl
   · rw[aG,b9] at q2
     have:z j<lc:=by simpa using q2
     have q:decide (0≤z j)=true:=q
     rw[if_neg (by rw[q3,q,decide_eq_true this];decide)];exact ⟨rfl,rfl⟩
   · have q:decide (0≤z j)=false:=q
     rw[if_pos (by rw[q];simp)];rfl
 · obtain ⟨x,h1,rfl⟩:=aR (Q:=fun x=>x=(.exit 0,mw m z (Int.ofNat m)++[(16,.bool false)],cO dr lc zc lb zb::H)) (L2 n dr lc zc lb zb H m z (Int.ofNat m)) (fi n 1) (cW (ak _ _) 2) (al _ _) (by
    refine Tr.ae (fun h0=>by simp (disch:=omega) only[nV,nW] at h0;omega) (fun h0=>Tr.ah rfl))
   exact h1
theorem LF (hd:1≤dr) {c:Nat} (hc:c<lc) {p:Int} (hp:0≤p∧p<lc):vZ (dg dr lc zc) (c:Int) p=(decide (zc (c*4+2)≤zc (c*4)-p*dr) && decide (zc (c*4+1)-p*dr≤zc (c*4+3))):=by
 unfold vZ dg
 rw[Int.toNat_natCast,if_pos (by omega),if_pos (by omega),if_pos (by omega),if_neg (by omega),show 2*c / 2=c by omega,show (2*c+1) / 2=c by omega,Bool.and_comm]
 have e1:p≤(zc (c*4)-zc (c*4+2)) / dr↔p*dr≤zc (c*4)-zc (c*4+2):=Int.le_ediv_iff_mul_le (by omega)
 have e2:-p≤(zc (c*4+3)-zc (c*4+1)) / dr↔-p*dr≤zc (c*4+3)-zc (c*4+1):=Int.le_ediv_iff_mul_le (by omega)
 rw[Int.neg_mul] at e2
 generalize (zc (c*4)-zc (c*4+2)) / dr=A at *
 generalize (zc (c*4+3)-zc (c*4+1)) / dr=D at *
 generalize p*dr=Q at *
 congr 1
 · rw[decide_eq_decide];omega
 · rw[decide_eq_decide];omega
theorem Q8 (hd:1≤dr∧dr≤100) (hl:lc≤10) (hv:v7 lc zc) (c p:Nat) (hc:c<lc) (hp:p<lc):cd (n+2) (.fn 78) [cM dr lc zc lb zb,.int .i64 (c:Int),.int .i64 (p:Int)] H=some (.bool (vZ (dg dr lc zc) (c:Int) (p:Int)),H):=by
 obtain ⟨v1,v2,v3,v4,v5,v6⟩:=Mn hv hc
 have hm0:0≤(p:Int)*dr:=Int.mul_nonneg (by omega) (by omega)
 have hm1:(p:Int)*dr≤10*100:=Int.mul_le_mul (by omega) (by omega) (by omega) (by omega)
 have em:zE .i64 (p:Int) dr=(p:Int)*dr:=by rw[oo];exact gY (by omega) (by omega)
 have ei:aM 0 (c:Int) 4=c*4:=by rw[cG];omega
 have T:=TE n dr lc zc lb zb H (c:Int) (p:Int)
 rw[ei,a6,a6,a6,em,LC (by omega) (by omega),LC (by omega) (by omega)] at T
 refine bK (n:=n+1) Tryd.func78 rfl rfl rfl T (fi n 1) (ak _ _) (al _ _) ?_
 rw[LF dr lc zc hd.1 hc ⟨by omega,by omega⟩]
 refine Tr.ag (by simp (disch:=omega) only[nV,nW];omega) (Tr.ag (by simp (disch:=omega) only[nV,nW];omega) (Tr.ag (by simp (disch:=omega) only[nV,nW];omega) (Tr.ag (by simp (disch:=omega) only[nV,nW];omega) (Tr.ag (by simp (disch:=omega) only[nV,nW];omega) (Tr.ag (by simp (disch:=omega) only[nV,nW];omega) (Tr.ag (by simp (disch:=omega) only[nV,nW];omega) (Tr.ag (by simp (disch:=omega) only[nV,nW];omega) (Tr.ag (by simp (disch:=omega) only[nV,nW];omega) (Tr.ag (by simp (disch:=omega) only[nV,nW];omega) (Tr.ae (fun q=>Tr.ah ⟨?_,rfl⟩) (fun q=>Tr.ah ⟨?_,rfl⟩)))))))))))
 all_goals rw[bC] at q
 · rw[q,bC,Bool.true_and]
 · rw[q,Bool.false_and]
theorem NX (hm:m≤1000) (s:Int→Nat→Bool) (h78:∀ j,j<m→∀ H,cd n (.fn 78) [cM dr lc zc lb zb,.int .i64 (z j),.int .i64 (j:Int)] H=some (.bool (s (z j) j),H)):exec (b5 n 40 52) (.block 0 (.loop (part Tryd.f40 [1,1,1,0,1,0,0]))) (mw m z (Int.ofNat 0)) (cO dr lc zc lb zb::H)=some (cond (c5 (fun j=>!s (z j) j) m) (.ret,[(4,.int .i64 (Int.ofNat 21))],cO dr lc zc lb zb::H) (.normal,mw m z (Int.ofNat m)++[(20,.bool false)],cO dr lc zc lb zb::H)):=by
 refine fF (n:=n) (f:=40) (nt:=52) (c:=part Tryd.f40 [1,1,1,0,1,0,0]) 0 (fun j=>mw m z (j:Int)) (fun _=>cO dr lc zc lb zb::H) m (fun j=>!s (z j) j) (fun _=>([(4,.int .i64 (Int.ofNat 21))],cO dr lc zc lb zb::H)) (mw m z (Int.ofNat m)++[(20,.bool false)],cO dr lc zc lb zb::H) (by omega) (fun j hj=>?_) ?_
 · have T:=O8 n dr lc zc lb zb H m z (j:Int) (z j) (s (z j) j)
   rw[pb,ft (by omega)] at T
   refine aR T (bS _ _ (eg (bx _) (h78 j hj))) (ak _ _) (al _ _) ?_
   refine Tr.ae (fun h0=>?_) (fun h0=>by simp (disch:=omega) only[nV,nW] at h0;omega)
   refine Tr.ag (by simp (disch:=omega) only[nV,nW];omega) (Tr.ag (by simp (disch:=omega) only[nV,nW];omega) (Tr.aj rfl (Tr.ae (fun q=>Tr.ah ?_) (fun q=>Tr.ah ?_))))
   all_goals rw[aG] at q
   · rw[if_pos q];rfl
   · rw[if_neg (by rw[q];decide)];exact ⟨rfl,rfl⟩
 · obtain ⟨x,h1,rfl⟩:=aR (Q:=fun x=>x=(.exit 0,mw m z (Int.ofNat m)++[(20,.bool false)],cO dr lc zc lb zb::H)) (LP n dr lc zc lb zb H m z (Int.ofNat m)) (aJ n) (ak _ _) (al _ _) (by
    refine Tr.ae (fun h0=>by simp (disch:=omega) only[nV,nW] at h0;omega) (fun h0=>Tr.ah rfl))
   exact h1
theorem NY (hm:m≤1000) (hb:lb≤1000) (i:Nat) (hi:i<m):exec (b5 (n+1) 40 52) (.block 4 (.loop (part Tryd.f40 [1,1,1,1,0,1,0,0,1,0,0,1,0,0]))) (uX m z (i:Int) (Int.ofNat 0)) (cO dr lc zc lb zb::H)=some (cond (c5 (fun j=>nw lb zb (z i) (z j)) i) (.ret,[(4,.int .i64 (Int.ofNat 16))],cO dr lc zc lb zb::H) (.normal,uX m z (i:Int) (i:Int)++[(39,.bool false)],cO dr lc zc lb zb::H)):=by
 refine fF (n:=n+1) (f:=40) (nt:=52) (c:=part Tryd.f40 [1,1,1,1,0,1,0,0,1,0,0,1,0,0]) 4 (fun j=>uX m z (i:Int) (j:Int)) (fun _=>cO dr lc zc lb zb::H) i (fun j=>nw lb zb (z i) (z j)) (fun _=>([(4,.int .i64 (Int.ofNat 16))],cO dr lc zc lb zb::H)) (uX m z (i:Int) (i:Int)++[(39,.bool false)],cO dr lc zc lb zb::H) (by omega) (fun j hj=>?_) ?_
 · have T:=O9 (n+1) dr lc zc lb zb H m z (i:Int) (j:Int) (z i) (z j) (nw lb zb (z i) (z j))
   rw[pb,pb,ft (by omega)] at T
   refine aR T (bS _ _ (eg (bx _) (fun H=>Qt n dr lc zc lb zb H (z i) (z j) hb))) (ak _ _) (al _ _) ?_
   refine Tr.ae (fun h0=>?_) (fun h0=>by simp (disch:=omega) only[nV,nW] at h0;omega)
   refine Tr.ag (by simp (disch:=omega) only[nV,nW];omega) (Tr.ag (by simp (disch:=omega) only[nV,nW];omega) (Tr.ag (by simp (disch:=omega) only[nV,nW];omega) (Tr.ag (by simp (disch:=omega) only[nV,nW];omega) (Tr.aj rfl (Tr.ae (fun q=>Tr.ah ?_) (fun q=>Tr.ah ?_))))))
   · rw[if_pos q];rfl
   · rw[if_neg (by rw[q];decide)];exact ⟨rfl,rfl⟩
 · obtain ⟨x,h1,rfl⟩:=aR (Q:=fun x=>x=(.exit 4,uX m z (i:Int) (i:Int)++[(39,.bool false)],cO dr lc zc lb zb::H)) (LQ (n+1) dr lc zc lb zb H m z (i:Int) (i:Int)) (aJ _) (ak _ _) (al _ _) (by
    refine Tr.ae (fun h0=>by simp (disch:=omega) only[nV,nW] at h0;omega) (fun h0=>Tr.ah rfl))
   exact h1
theorem NZ (hm:m≤1000) (hb:lb≤1000):exec (b5 (n+1) 40 52) (.block 2 (.loop (part Tryd.f40 [1,1,1,1,0,1,0,0]))) (uW m z (Int.ofNat 0)) (cO dr lc zc lb zb::H)=some (cond (c5 (He lb zb z) m) (.ret,[(4,.int .i64 (Int.ofNat 16))],cO dr lc zc lb zb::H) (.normal,uW m z (Int.ofNat m)++[(34,.bool false)],cO dr lc zc lb zb::H)):=by
 refine fF (n:=n+1) (f:=40) (nt:=52) (c:=part Tryd.f40 [1,1,1,1,0,1,0,0]) 2 (fun j=>uW m z (j:Int)) (fun _=>cO dr lc zc lb zb::H) m (He lb zb z) (fun _=>([(4,.int .i64 (Int.ofNat 16))],cO dr lc zc lb zb::H)) (uW m z (Int.ofNat m)++[(34,.bool false)],cO dr lc zc lb zb::H) (by omega) (fun j hj=>?_) ?_
 · have T:=Pa (n+1) dr lc zc lb zb H m z (j:Int) (He lb zb z j)
   rw[ft (by omega)] at T
   refine aR T (aJ _) (br (ak _ _) ML (fun x hx=>cC hx (NY n dr lc zc lb zb H m z hm hb j hj))) (al _ _) ?_
   refine Tr.ae (fun h0=>?_) (fun h0=>by simp (disch:=omega) only[nV,nW] at h0;omega)
   refine Tr.aj ⟨rfl,rfl⟩ (Tr.ae (fun q=>Tr.ah ?_) (fun q=>Tr.ah ?_))
   · rw[if_pos q];rfl
   · rw[if_neg (by rw[q];decide)];exact ⟨rfl,rfl⟩
 · obtain ⟨x,h1,rfl⟩:=aR (Q:=fun x=>x=(.exit 2,uW m z (Int.ofNat m)++[(34,.bool false)],cO dr lc zc lb zb::H)) (LR (n+1) dr lc zc lb zb H m z (Int.ofNat m)) (aJ _) (cW (ak _ _) 4) (al _ _) (by
    refine Tr.ae (fun h0=>by simp (disch:=omega) only[nV,nW] at h0;omega) (fun h0=>Tr.ah rfl))
   exact h1
theorem QX (hb:lb≤1000) (h0:iU dr lc zc lb zb=0) (hm:m≤1000):cd (n+4) (.fn 40) [cM dr lc zc lb zb,bF m z false] H=some (.int .i64 (iR lc (dg dr lc zc) lb zb m z),H):=by
 obtain ⟨h1,h2,h3,h4,h5,_⟩:=De h0
 have h23:=fun H=>MR n dr lc zc lb zb H (by omega) hb
 rw[h0] at h23
 have h77:=fun H=>Q7 (n+1) dr lc zc lb zb H m z hm (by omega)
 unfold iR
 by_cases hp:ur z lc m=true
 · rw[if_pos hp]
   rw[hp] at h77
   obtain ⟨p1,p2⟩:=eK.1 hp
   refine bK (n:=n+3) Tryd.func40 rfl rfl rfl (Ts (n+3) dr lc zc lb zb H m z true (c5 (fun j=>!vZ (dg dr lc zc) (z j) j) m) (c5 (He lb zb z) m)) (bS _ _ (eg (eg (bx _) h23) h77)) (br (br (ak _ _) QJ (fun x hx=>cC hx (NX (n+3) dr lc zc lb zb H m z hm (fun c j=>vZ (dg dr lc zc) c j) (fun j hj H=>by
    have:=(p2 j hj).1
    have h:=Q8 (n+1) dr lc zc lb zb H h3 h1.2 h4 (z j).toNat j (by omega) (by omega)
    rw[show ((z j).toNat:Int)=z j by omega] at h
    exact h)))) MM (fun x hx=>cC hx (NZ (n+2) dr lc zc lb zb H m z hm hb))) (al _ _) ?_
   refine Tr.aj rfl (Tr.ae (fun q=>by simp[aG,aZ] at q) (fun q=>Tr.aj rfl (Tr.ae (fun q=>by simp[aG] at q) (fun q=>Tr.aj ⟨rfl,rfl⟩ (Tr.ae (fun q=>Tr.ah ⟨?_,rfl⟩) (fun q=>Tr.aj ⟨rfl,rfl⟩ (Tr.ae (fun q2=>Tr.ah ⟨?_,rfl⟩) (fun q2=>Tr.ah ⟨?_,rfl⟩))))))))
   · rw[if_pos q];rfl
   · rw[if_neg (by rw[q];decide),if_pos q2];rfl
   · rw[if_neg (by rw[q];decide),if_neg (by rw[q2];decide)];rfl
 · rw[if_neg hp]
   have hpf:ur z lc m=false:=by simpa using hp
   rw[hpf] at h77
   refine bK (n:=n+3) Tryd.func40 rfl rfl rfl (Pm (n+3) dr lc zc lb zb H m z false) (bS _ _ (eg (eg (bx _) h23) h77)) (cW (cW (ak _ _) 0) 2) (al _ _) ?_
   refine Tr.aj rfl (Tr.ae (fun q=>by simp[aG,aZ] at q) (fun q=>Tr.aj rfl (Tr.ae (fun q=>Tr.ah ⟨rfl,rfl⟩) (fun q=>by simp[aG] at q))))
end
end Go.Eng
end
section
namespace Go.Eng
open Go.Proofs Go.Eng.Gall
noncomputable def mq (m:Nat) (z:Nat→Int) (R:Row) (M:Int) (o:AV) (j:Int):au:=[(1,bF m z false),(7,.ptrT none R 0),(8,o),(22,.int .i64 M),(23,.int .i64 j)]
noncomputable def Jr (r:Row) (v k:Nat) (y:Nat→Int):bH:=⟨false,[(0,.row r),(v,.row (.M [.arr .i64 y k]))]⟩
noncomputable def Mx (V:AV) (s:Int→Int→Bool) (C:Int→Prop):List AV→Option (Prop×AV)
 | [a,.int .i64 c,.int .i64 p]=>some (a=V∧C c,.bool (s c p))
 | _=>none
theorem Pq (n:Nat) (dr:Int) (lc:Nat) (zc:Nat→Int) (lb:Nat) (zb:Nat→Int) (W B:Nat→Int) (H:aa) (m:Nat) (z:Nat→Int) (e:Int) (C:List AV→Prop):bu Tryd.prog (cd n) 100000 45 Tryd.f45 (KtG.kt 45) (il (l6 (tX aV 39 [cM dr lc zc lb zb,bF m z false] (.int .i64 e)) 62 (fun x=>some (C x,shV dr lc zc lb zb W B))) n 0) (gH bc 0) ba [(cM dr lc zc lb zb,none),(bF m z false,none)] H =
 (fun (Z0:Row)=>Tr.reqP ([AV.agg Z0,AV.slcT none (Row.M [aq.arr .i64 z m]) 1 m false]=[AV.agg Z0,AV.slcT none (Row.M [aq.arr .i64 z m]) 1 m false]) (Tr.ite (bz (cK e (Int.ofNat 0))) (Tr.ok ((AV.tup [AV.nils,AV.int .i64 e],none),H)) (Tr.reqP (C [AV.agg Z0]) Tr.bad))) (Row.G [AV.int .i64 dr,AV.slcT none (Row.M [aq.arr .i64 zc (aw lc 4)]) 4 lc false,AV.slcT none (Row.M [aq.arr .i64 zb (aw lb 2)]) 2 lb false]):=by kernel_rfl
theorem Po (n:Nat) (dr:Int) (lc:Nat) (zc:Nat→Int) (lb:Nat) (zb:Nat→Int) (W B:Nat→Int) (H:aa) (m:Nat) (z:Nat→Int) (e M:Int) (C:List AV→Prop):bu Tryd.prog (cd n) 100000 45 Tryd.f45 (KtG.kt 45) (il (l6 (tX aV 39 [cM dr lc zc lb zb,bF m z false] (.int .i64 e)) 62 (fun x=>some (C x,shV dr lc zc lb zb W B))) n 0) (dy bc 0 (mq m z (shR dr lc zc lb zb W B) (bw .i64 (Int.ofNat m) (Int.ofNat 1)) .nils (Int.ofNat 0)) (cO dr lc zc lb zb::H) (.ok (.normal,hints (mq m z (shR dr lc zc lb zb W B) (bw .i64 (Int.ofNat m) (Int.ofNat 1)) .nils M++[(24,.bool false)]),cO dr lc zc lb zb::H))) ba [(cM dr lc zc lb zb,none),(bF m z false,none)] H =
 (fun (Z0:Row)=>((fun (Z1:au)=>Tr.reqP ([AV.agg Z0,AV.slcT none (Row.M [aq.arr .i64 z m]) 1 m false]=[AV.agg Z0,AV.slcT none (Row.M [aq.arr .i64 z m]) 1 m false]) (Tr.ite (bz (cK e (Int.ofNat 0))) (Tr.ok ((AV.tup [AV.nils,AV.int .i64 e],none),H)) (Tr.reqP (C [AV.agg Z0]) (Tr.reqP (Z1=Z1∧{ lock:=false,bs:=[(0,az.row Z0)] } :: H={ lock:=false,bs:=[(0,az.row Z0)] } :: H) (Tr.ok ((AV.tup [AV.nils,AV.int .i64 (Int.ofNat 0)],none),H)))))) [(1,AV.slcT none (Row.M [aq.arr .i64 z m]) 1 m false),(7,AV.ptrT none (Row.M [aq.one (AV.int .i64 dr),aq.one (AV.slcT none (Row.M [aq.arr .i64 zc (aw lc 4)]) 4 lc false),aq.one (AV.slcT none (Row.M [aq.arr .i64 zb (aw lb 2)]) 2 lb false),aq.arr .i64 W 20,aq.arr IntKind.u64 B 10]) 0),(8,AV.nils),(22,AV.int .i64 (bw .i64 (Int.ofNat m) (Int.ofNat 1))),(23,AV.int .i64 (Int.ofNat 0))])) (Row.G [AV.int .i64 dr,AV.slcT none (Row.M [aq.arr .i64 zc (aw lc 4)]) 4 lc false,AV.slcT none (Row.M [aq.arr .i64 zb (aw lb 2)]) 2 lb false]):=by kernel_rfl
theorem Pp (n:Nat) (dr:Int) (lc:Nat) (zc:Nat→Int) (lb:Nat) (zb:Nat→Int) (W B:Nat→Int) (H:aa) (m:Nat) (z:Nat→Int) (e M:Int) (C:List AV→Prop) (k:Nat) (y:Nat→Int):bu Tryd.prog (cd n) 100000 45 Tryd.f45 (KtG.kt 45) (il (l6 (tX aV 39 [cM dr lc zc lb zb,bF m z false] (.int .i64 e)) 62 (fun x=>some (C x,shV dr lc zc lb zb W B))) n 0) (dy bc 0 (mq m z (shR dr lc zc lb zb W B) (bw .i64 (Int.ofNat m) (Int.ofNat 1)) .nils (Int.ofNat 0)) (cO dr lc zc lb zb::H) (.ok (.normal,hints (mq m z (shR dr lc zc lb zb W B) (bw .i64 (Int.ofNat m) (Int.ofNat 1)) (.slc 0 1 0 0 1 k none) M++[(24,.bool false)]),Jr (.G [.int .i64 dr,slA 4 lc zc,slA 2 lb zb]) 0 k y::H))) ba [(cM dr lc zc lb zb,none),(bF m z false,none)] H =
 (fun (Z0:Row)=>((fun (Z1:au)=>Tr.reqP ([AV.agg Z0,AV.slcT none (Row.M [aq.arr .i64 z m]) 1 m false]=[AV.agg Z0,AV.slcT none (Row.M [aq.arr .i64 z m]) 1 m false]) (Tr.ite (bz (cK e (Int.ofNat 0))) (Tr.ok ((AV.tup [AV.nils,AV.int .i64 e],none),H)) (Tr.reqP (C [AV.agg Z0]) (Tr.reqP (Z1=Z1∧{ lock:=false,bs:=[(0,az.row Z0)] } :: H={ lock:=false,bs:=[(0,az.row Z0)] } :: H) (Tr.req (eO 0 0) (Tr.req (mS 0 k 0 k) (Tr.ok ((AV.tup [AV.slcT none (Row.M [aq.arr .i64 (xU y 0) k]) 1 k false,AV.int .i64 (Int.ofNat 0)],none),H)))))))) [(1,AV.slcT none (Row.M [aq.arr .i64 z m]) 1 m false),(7,AV.ptrT none (Row.M [aq.one (AV.int .i64 dr),aq.one (AV.slcT none (Row.M [aq.arr .i64 zc (aw lc 4)]) 4 lc false),aq.one (AV.slcT none (Row.M [aq.arr .i64 zb (aw lb 2)]) 2 lb false),aq.arr .i64 W 20,aq.arr IntKind.u64 B 10]) 0),(8,AV.nils),(22,AV.int .i64 (bw .i64 (Int.ofNat m) (Int.ofNat 1))),(23,AV.int .i64 (Int.ofNat 0))])) (Row.G [AV.int .i64 dr,AV.slcT none (Row.M [aq.arr .i64 zc (aw lc 4)]) 4 lc false,AV.slcT none (Row.M [aq.arr .i64 zb (aw lb 2)]) 2 lb false]):=by kernel_rfl
theorem LS (n:Nat) (H:aa) (r:Row) (m:Nat) (z:Nat→Int) (R:Row) (M j:Int):aT (b5 n 45 69) (il aV n 0) bc ba (part Tryd.f45 [1,1,1,1,0,1,0,0]) (hints (mq m z R M .nils j)) (⟨false,[(0,.row r)]⟩::H) =
 Tr.ite (cY j M) (Tr.req (c7 j m) (Tr.req (cI (aM 0 j 1) m) (Tr.req (c7 (bf .i64 j (Int.ofNat 1)) m) (Tr.req (cI (aM 0 (bf .i64 j (Int.ofNat 1)) 1) m) Tr.bad)))) (Tr.ok (Ex.exit 0,[(1,AV.slcT none (Row.M [aq.arr .i64 z m]) 1 m false,none),(7,AV.ptrT none R 0,none),(8,AV.nils,none),(22,AV.int .i64 M,none),(23,AV.int .i64 j,none),(24,AV.bool false,some 1)],{ lock:=false,bs:=[(0,az.row r)] } :: H)):=by kernel_rfl
theorem LU (n:Nat) (H:aa) (r:Row) (m:Nat) (z:Nat→Int) (R:Row) (v k:Nat) (y:Nat→Int) (M j:Int):aT (b5 n 45 69) (il aV n 0) bc ba (part Tryd.f45 [1,1,1,1,0,1,0,0]) (hints (mq m z R M (.slc 0 1 v 0 1 k none) j)) (Jr r v k y::H) =
 Tr.ite (cY j M) (Tr.req (c7 j m) (Tr.req (cI (aM 0 j 1) m) (Tr.req (c7 (bf .i64 j (Int.ofNat 1)) m) (Tr.req (cI (aM 0 (bf .i64 j (Int.ofNat 1)) 1) m) Tr.bad)))) (Tr.ok (Ex.exit 0,[(1,AV.slcT none (Row.M [aq.arr .i64 z m]) 1 m false,none),(7,AV.ptrT none R 0,none),(8,AV.slc 0 1 v 0 1 k none,none),(22,AV.int .i64 M,none),(23,AV.int .i64 j,none),(24,AV.bool false,some 1)],{ lock:=false,bs:=[(0,az.row r),(v,az.row (Row.M [aq.arr .i64 y k]))] } :: H)):=by kernel_rfl
theorem Pb (n:Nat) (H:aa) (r:Row) (m:Nat) (z:Nat→Int) (dr:Int) (lc:Nat) (zc:Nat→Int) (lb:Nat) (zb:Nat→Int) (W B:Nat→Int) (s:Int→Int→Bool) (C:Int→Prop) (M j:Int):aT (b5 n 45 69) (il (l6 aV 71 (Mx (shV dr lc zc lb zb W B) s C)) n 0) bc ba (part Tryd.f45 [1,1,1,1,0,1,0,0]) (hints (mq m z (shR dr lc zc lb zb W B) M .nils j)) (⟨false,[(0,.row r)]⟩::H) =
 (fun (Z0:Row)=>((fun (Z1:aN)=>((fun (Z2:bH)=>Tr.ite (cY j M) (Tr.req (c7 j m) (Tr.req (cI (aM 0 j 1) m) (Tr.req (c7 (bf .i64 j (Int.ofNat 1)) m) (Tr.req (cI (aM 0 (bf .i64 j (Int.ofNat 1)) 1) m) (Tr.reqP (AV.ptrT none Z0 0=AV.ptrT none Z0 0∧C (z (aM 0 j 1))) (Tr.ite (s (z (aM 0 j 1)) (bf .i64 j (Int.ofNat 1))) (Tr.reqP (AV.ptrT none Z0 0=AV.ptrT none Z0 0∧C (z (aM 0 (bf .i64 j (Int.ofNat 1)) 1))) (Tr.ite (s (z (aM 0 (bf .i64 j (Int.ofNat 1)) 1)) j) (Tr.req (c7 (z (aM 0 (bf .i64 j (Int.ofNat 1)) 1)) 10) (Tr.req (mS (aM 23 (z (aM 0 (bf .i64 j (Int.ofNat 1)) 1)) 1) 1 23 10) (Tr.req (eh (Int.ofNat 0) (z (aM 0 j 1))) (Tr.ite (cK (ny IntKind.u64 (B (ff (aM 23 (z (aM 0 (bf .i64 j (Int.ofNat 1)) 1)) 1) 23)) (eG IntKind.u64 (Int.ofNat 1) (z (aM 0 j 1)))) (Int.ofNat 0)) (Tr.req (mK (Int.ofNat 0) 0) (Tr.req (mK (Int.ofNat 0) (b8 (Int.ofNat 0))) (Tr.req (jW 0 1 8) (Tr.req (eO 0 0) (Tr.req (iV 1 1) (Tr.ok (Ex.normal,[(1,AV.slcT none (Row.M [aq.arr .i64 z m]) 1 m false,none),(7,AV.ptrT none Z0 0,none),(8,AV.slc 0 2 0 0 1 1 none,none),(22,AV.int .i64 M,none),(23,AV.int .i64 (bf .i64 j (Int.ofNat 1)),none)],{ lock:=false,bs:=[(0,az.row r),(0,az.row (Row.I .i64 [j])),(0,az.row (Row.M [aq.arr .i64 (aX [j]) 1]))] } :: H))))))) (Tr.ok (Ex.normal,Z1,Z2::H)))))) (Tr.ok (Ex.normal,Z1,Z2::H)))) (Tr.ok (Ex.normal,Z1,Z2::H)))))))) (Tr.ok (Ex.exit 0,[(1,AV.slcT none (Row.M [aq.arr .i64 z m]) 1 m false,none),(7,AV.ptrT none Z0 0,none),(8,AV.nils,none),(22,AV.int .i64 M,none),(23,AV.int .i64 j,none),(24,AV.bool false,some 1)],Z2::H))) { lock:=false,bs:=[(0,az.row r)] })) [(1,AV.slcT none (Row.M [aq.arr .i64 z m]) 1 m false,none),(7,AV.ptrT none Z0 0,none),(8,AV.nils,none),(22,AV.int .i64 M,none),(23,AV.int .i64 (bf .i64 j (Int.ofNat 1)),none)])) (Row.M [aq.one (AV.int .i64 dr),aq.one (AV.slcT none (Row.M [aq.arr .i64 zc (aw lc 4)]) 4 lc false),aq.one (AV.slcT none (Row.M [aq.arr .i64 zb (aw lb 2)]) 2 lb false),aq.arr .i64 W 20,aq.arr IntKind.u64 B 10]):=by kernel_rfl
theorem Pc (n:Nat) (H:aa) (r:Row) (m:Nat) (z:Nat→Int) (dr:Int) (lc:Nat) (zc:Nat→Int) (lb:Nat) (zb:Nat→Int) (W B:Nat→Int) (s:Int→Int→Bool) (C:Int→Prop) (v k:Nat) (y:Nat→Int) (M j:Int):aT (b5 n 45 69) (il (l6 aV 71 (Mx (shV dr lc zc lb zb W B) s C)) n 0) bc ba (part Tryd.f45 [1,1,1,1,0,1,0,0]) (hints (mq m z (shR dr lc zc lb zb W B) M (.slc 0 1 v 0 1 k none) j)) (Jr r v k y::H) =
 (fun (Z0:Row)=>((fun (Z1:aN)=>((fun (Z2:bH)=>((fun (Z3:Nat×AV×Option Nat)=>Tr.ite (cY j M) (Tr.req (c7 j m) (Tr.req (cI (aM 0 j 1) m) (Tr.req (c7 (bf .i64 j (Int.ofNat 1)) m) (Tr.req (cI (aM 0 (bf .i64 j (Int.ofNat 1)) 1) m) (Tr.reqP (AV.ptrT none Z0 0=AV.ptrT none Z0 0∧C (z (aM 0 j 1))) (Tr.ite (s (z (aM 0 j 1)) (bf .i64 j (Int.ofNat 1))) (Tr.reqP (AV.ptrT none Z0 0=AV.ptrT none Z0 0∧C (z (aM 0 (bf .i64 j (Int.ofNat 1)) 1))) (Tr.ite (s (z (aM 0 (bf .i64 j (Int.ofNat 1)) 1)) j) (Tr.req (c7 (z (aM 0 (bf .i64 j (Int.ofNat 1)) 1)) 10) (Tr.req (mS (aM 23 (z (aM 0 (bf .i64 j (Int.ofNat 1)) 1)) 1) 1 23 10) (Tr.req (eh (Int.ofNat 0) (z (aM 0 j 1))) (Tr.ite (cK (ny IntKind.u64 (B (ff (aM 23 (z (aM 0 (bf .i64 j (Int.ofNat 1)) 1)) 1) 23)) (eG IntKind.u64 (Int.ofNat 1) (z (aM 0 j 1)))) (Int.ofNat 0)) (Tr.req (mK (Int.ofNat k) k) (Tr.req (mK (Int.ofNat k) (b8 (Int.ofNat k))) (Tr.req (jW (b8 (Int.ofNat k)) 1 8) (Tr.req (eO 0 0) (Tr.req (iV 1 1) (Tr.ite (cI (b8 (Int.ofNat k)) (aF (b8 (Int.ofNat k)) 1)) (Tr.req (eO v v) (Tr.req (iV (b8 (Int.ofNat k)) (b8 (Int.ofNat k))) (Tr.req (mS 0 (b8 (Int.ofNat k)) 0 k) (Tr.ok (Ex.normal,[Z3,(7,AV.ptrT none Z0 0,none),(8,AV.slc 0 3 0 0 1 (aF (b8 (Int.ofNat k)) 1) none,none),(22,AV.int .i64 M,none),(23,AV.int .i64 (bf .i64 j (Int.ofNat 1)),none)],{ lock:=false,bs:=[(0,az.row r),(v,az.row (Row.M [aq.arr .i64 y k])),(0,az.row (Row.I .i64 [j])),(0,az.row (Row.M [aq.arr .i64 (qe (xU y 0) (b8 (Int.ofNat k)) (aX [j])) (aF (b8 (Int.ofNat k)) 1)]))] } :: H))))) (Tr.req (eO v v) (Tr.req (cI (aF 0 (b8 (Int.ofNat k))) k) (Tr.ok (Ex.normal,[Z3,(7,AV.ptrT none Z0 0,none),(8,AV.slc 0 1 v 0 1 (aF (b8 (Int.ofNat k)) 1) (some (b8 (Int.ofNat k))),none),(22,AV.int .i64 M,none),(23,AV.int .i64 (bf .i64 j (Int.ofNat 1)),none)],{ lock:=false,bs:=[(0,az.row r),(v,az.row (Row.M [aq.arr .i64 (ju y (aF 0 (b8 (Int.ofNat k))) j) k])),(0,az.row (Row.I .i64 [j]))] } :: H)))))))))) (Tr.ok (Ex.normal,Z1,Z2::H)))))) (Tr.ok (Ex.normal,Z1,Z2::H)))) (Tr.ok (Ex.normal,Z1,Z2::H)))))))) (Tr.ok (Ex.exit 0,[Z3,(7,AV.ptrT none Z0 0,none),(8,AV.slc 0 1 v 0 1 k none,none),(22,AV.int .i64 M,none),(23,AV.int .i64 j,none),(24,AV.bool false,some 1)],Z2::H))) (1,AV.slcT none (Row.M [aq.arr .i64 z m]) 1 m false,none))) { lock:=false,bs:=[(0,az.row r),(v,az.row (Row.M [aq.arr .i64 y k]))] })) [(1,AV.slcT none (Row.M [aq.arr .i64 z m]) 1 m false,none),(7,AV.ptrT none Z0 0,none),(8,AV.slc 0 1 v 0 1 k none,none),(22,AV.int .i64 M,none),(23,AV.int .i64 (bf .i64 j (Int.ofNat 1)),none)])) (Row.M [aq.one (AV.int .i64 dr),aq.one (AV.slcT none (Row.M [aq.arr .i64 zc (aw lc 4)]) 4 lc false),aq.one (AV.slcT none (Row.M [aq.arr .i64 zb (aw lb 2)]) 2 lb false),aq.arr .i64 W 20,aq.arr IntKind.u64 B 10]):=by kernel_rfl
end Go.Eng
end
section
namespace Go.Eng
open Go.Proofs Go.Eng.Gall
theorem Qo:∀ b,(0,b) ∈ aI (aY Tryd.f45)→b=.loop (part Tryd.f45 [1,1,1,1,0,1,0,0]):=eX (by kernel_rfl)
noncomputable def tp (W B:Nat→Int) (z:Nat→Int) (k:Nat):Bool:=vZ W (z k) ((k:Int)+1) && (vZ W (z (k+1)) (k:Int) && cK (ny .u64 (B (z (k+1)).toNat) (eG .u64 (Int.ofNat 1) (z k))) (Int.ofNat 0))
noncomputable def qH (W B:Nat→Int) (z:Nat→Int):Nat→List Int
 | 0=>[]
 | j+1=>if tp W B z j=true then qH W B z j++[(j:Int)] else qH W B z j
theorem qI (W B z:Nat→Int):∀ j,(qH W B z j).length≤j
 | 0=>Nat.le_refl 0
 | j+1=>by
   have:=qI W B z j
   unfold qH
   split
   · rw[List.length_append,List.length_singleton];omega
   · omega
theorem Bp (W B z:Nat→Int) (x:Int):∀ j,x ∈ qH W B z j↔∃ k,k<j∧tp W B z k=true∧x=(k:Int)
 | 0=>by simp[qH]
 | j + 1=>by
   have ih:=Bp W B z x j
   unfold qH
   split
   · rename_i h
     rw[List.mem_append,List.mem_singleton,ih]
     constructor
     · rintro (⟨k,h1,h2,h3⟩ | h1)
       · exact ⟨k,by omega,h2,h3⟩
       · exact ⟨j,by omega,h,h1⟩
     · rintro ⟨k,h1,h2,h3⟩
       by_cases e:k=j
       · subst e;exact .inr h3
       · exact .inl ⟨k,by omega,h2,h3⟩
   · rename_i h
     rw[ih]
     constructor
     · rintro ⟨k,h1,h2,h3⟩;exact ⟨k,by omega,h2,h3⟩
     · rintro ⟨k,h1,h2,h3⟩
       by_cases e:k=j
       · subst e;exact absurd h2 h
       · exact ⟨k,by omega,h2,h3⟩
section
variable (n:Nat) (dr:Int) (lc:Nat) (zc:Nat→Int) (lb:Nat) (zb:Nat→Int) (H:aa)
noncomputable def JN:Row:=.G [.int .i64 dr,slA 4 lc zc,slA 2 lb zb]
noncomputable def Kj:List Int→AV
 | []=>.nils
 | a::r=>.slc 0 1 0 0 1 (r.length+1) none
noncomputable def Ki:List Int→bH
 | []=>cO dr lc zc lb zb
 | a::r=>Jr (JN dr lc zc lb zb) 0 (r.length+1) (aX (a::r))
variable (m:Nat) (z:Nat→Int) (W B:Nat→Int)
theorem DF {c:Nat} (hc:0<c):(l6 aV 71 (Mx (shV dr lc zc lb zb W B) (vZ W) (fun c=>0≤c∧c<10))).Ok (cd c):=by
 obtain ⟨k,rfl⟩:∃ k,c=k+1:=⟨c-1,by omega⟩
 refine lg (bx _) (fun args p v hg hp H=>?_)
 unfold Mx at hg
 split at hg
 · simp only[nP] at hg
   obtain ⟨rfl,rfl⟩:=hg
   rw[hp.1]
   exact Qr k dr lc zc lb zb H W B _ _ hp.2
 · cases hg
theorem OZ (hm:m≤1000) (hz:∀ j,j<m→0≤z j∧z j<10) (M j:Nat) (hM:M+1=m) (hj:j<M) (L:List Int) (hL:L.length≤1000) :
 ∃ x,exec (b5 (n+1) 45 69) (part Tryd.f45 [1,1,1,1,0,1,0,0]) (mq m z (shR dr lc zc lb zb W B) (M:Int) (Kj L) (j:Int)) (Ki dr lc zc lb zb L::H)=some x∧x.1=.normal∧tidy 1 x.2.1 x.2.2=(mq m z (shR dr lc zc lb zb W B) (M:Int) (Kj (if tp W B z j=true then L++[(j:Int)] else L)) ((j+1:Nat):Int),Ki dr lc zc lb zb (if tp W B z j=true then L++[(j:Int)] else L)::H):=by
 have e1:bf .i64 (j:Int) (Int.ofNat 1)=((j+1:Nat):Int):=ft (by omega)
 have z0:=hz j (by omega)
 have z1:=hz (j+1) (by omega)
 have eb:ff (aM 23 (z (j+1)) 1) 23=(z (j+1)).toNat:=by rw[cG,dT];omega
 cases L with
 | nil =>
   have T:=Pb (n+1) H (JN dr lc zc lb zb) m z dr lc zc lb zb W B (vZ W) (fun c=>0≤c∧c<10) (M:Int) (j:Int)
   rw[e1,pb,pb,eb] at T
   refine aR T (bS _ _ (DF dr lc zc lb zb W B (by omega))) (ak _ _) (al _ _) ?_
   refine Tr.ae (fun h0=>?_) (fun h0=>by simp (disch:=omega) only[nV,nW] at h0;omega)
   refine Tr.ag (by simp (disch:=omega) only[nV,nW];omega) (Tr.ag (by simp (disch:=omega) only[nV,nW];omega) (Tr.ag (by simp (disch:=omega) only[nV,nW];omega) (Tr.ag (by simp (disch:=omega) only[nV,nW];omega) (Tr.aj ⟨rfl,z0⟩ (Tr.ae (fun q1=>Tr.aj ⟨rfl,z1⟩ (Tr.ae (fun q2=>?_) (fun q2=>Tr.ah ?_))) (fun q1=>Tr.ah ?_))))))
   · refine Tr.ag (by simp (disch:=omega) only[nV,nW];omega) (Tr.ag (by simp (disch:=omega) only[nV,nW];omega) (Tr.ag (by simp (disch:=omega) only[nV,nW];omega) (Tr.ae (fun q3=>?_) (fun q3=>Tr.ah ?_))))
     · rw[if_pos (by unfold tp;rw[show (j:Int)+1=((j+1:Nat):Int) by omega,q1,q2,q3];rfl)]
       refine Tr.ag (by simp (disch:=omega) only[nV,nW];try omega) (Tr.ag (by simp (disch:=omega) only[nV,nW];try omega) (Tr.ag (by simp (disch:=omega) only[nV,nW];try omega) (Tr.ag (by simp (disch:=omega) only[nV,nW];try omega) (Tr.ag (by simp (disch:=omega) only[nV,nW];try omega) (Tr.ah ⟨rfl,rfl⟩)))))
     · rw[if_neg (by unfold tp;rw[show (j:Int)+1=((j+1:Nat):Int) by omega,q1,q2,q3];decide)]
       exact ⟨rfl,rfl⟩
   · rw[if_neg (by unfold tp;rw[show (j:Int)+1=((j+1:Nat):Int) by omega,q1,q2];simp)]
     exact ⟨rfl,rfl⟩
   · rw[if_neg (by unfold tp;rw[show (j:Int)+1=((j+1:Nat):Int) by omega,q1];simp)]
     exact ⟨rfl,rfl⟩
 | cons a r =>
   simp only[List.length_cons] at hL
   have e2:=qv (a::r) (j:Int)
   simp only[List.length_cons] at e2
   have e3:aF (r.length+1) 1=r.length+1+1:=by rw[a6]
   have e4:b8 (Int.ofNat (r.length+1))=r.length+1:=by rw[lW];rfl
   have T:=Pc (n+1) H (JN dr lc zc lb zb) m z dr lc zc lb zb W B (vZ W) (fun c=>0≤c∧c<10) 0 (r.length+1) (aX (a::r)) (M:Int) (j:Int)
   rw[e1,pb,pb,eb,e4,e3,e2] at T
   refine aR T (bS _ _ (DF dr lc zc lb zb W B (by omega))) (ak _ _) (al _ _) ?_
   refine Tr.ae (fun h0=>?_) (fun h0=>by simp (disch:=omega) only[nV,nW] at h0;omega)
   refine Tr.ag (by simp (disch:=omega) only[nV,nW];omega) (Tr.ag (by simp (disch:=omega) only[nV,nW];omega) (Tr.ag (by simp (disch:=omega) only[nV,nW];omega) (Tr.ag (by simp (disch:=omega) only[nV,nW];omega) (Tr.aj ⟨rfl,z0⟩ (Tr.ae (fun q1=>Tr.aj ⟨rfl,z1⟩ (Tr.ae (fun q2=>?_) (fun q2=>Tr.ah ?_))) (fun q1=>Tr.ah ?_))))))
   · refine Tr.ag (by simp (disch:=omega) only[nV,nW];omega) (Tr.ag (by simp (disch:=omega) only[nV,nW];omega) (Tr.ag (by simp (disch:=omega) only[nV,nW];omega) (Tr.ae (fun q3=>?_) (fun q3=>Tr.ah ?_))))
     · rw[if_pos (by unfold tp;rw[show (j:Int)+1=((j+1:Nat):Int) by omega,q1,q2,q3];rfl)]
       have er:(r++[(j:Int)]).length=r.length+1:=by rw[List.length_append,List.length_singleton]
       have ev:Kj (a::r++[(j:Int)])=.slc 0 1 0 0 1 (r.length+1+1) none:=by show AV.slc 0 1 0 0 1 ((r++[(j:Int)]).length+1) none=_;rw[er]
       have el:Ki dr lc zc lb zb (a::r++[(j:Int)])=Jr (JN dr lc zc lb zb) 0 (r.length+1+1) (aX (a::r++[(j:Int)])):=by show Jr _ 0 ((r++[(j:Int)]).length+1) (aX (a::(r++[(j:Int)])))=_;rw[er];rfl
       rw[ev,el]
       generalize aX (a::r++[(j:Int)])=Y at *
       refine Tr.ag (by simp (disch:=omega) only[nV,nW];try omega) (Tr.ag (by simp (disch:=omega) only[nV,nW];try omega) (Tr.ag (by simp (disch:=omega) only[nV,nW];try omega) (Tr.ag (by simp (disch:=omega) only[nV,nW];try omega) (Tr.ag (by simp (disch:=omega) only[nV,nW];try omega) (Tr.ae (fun q4=>?_) (fun q4=>by exfalso;simp (disch:=omega) only[nV,nW] at q4;omega))))))
       exact Tr.ag (by simp (disch:=omega) only[nV,nW];try omega) (Tr.ag (by simp (disch:=omega) only[nV,nW];try omega) (Tr.ag (by simp (disch:=omega) only[nV,nW];try omega) (Tr.ah ⟨rfl,rfl⟩)))
     · rw[if_neg (by unfold tp;rw[show (j:Int)+1=((j+1:Nat):Int) by omega,q1,q2,q3];decide)]
       exact ⟨rfl,rfl⟩
   · rw[if_neg (by unfold tp;rw[show (j:Int)+1=((j+1:Nat):Int) by omega,q1,q2];simp)]
     exact ⟨rfl,rfl⟩
   · rw[if_neg (by unfold tp;rw[show (j:Int)+1=((j+1:Nat):Int) by omega,q1];simp)]
     exact ⟨rfl,rfl⟩
theorem SR (hm:m≤1000) (hz:∀ j,j<m→0≤z j∧z j<10) (M:Nat) (hM:M+1=m):exec (b5 (n+1) 45 69) (.block 0 (.loop (part Tryd.f45 [1,1,1,1,0,1,0,0]))) (mq m z (shR dr lc zc lb zb W B) (M:Int) .nils (Int.ofNat 0)) (cO dr lc zc lb zb::H)=some (.normal,mq m z (shR dr lc zc lb zb W B) (M:Int) (Kj (qH W B z M)) (M:Int)++[(24,.bool false)],Ki dr lc zc lb zb (qH W B z M)::H):=by
 refine qj (n:=n+1) (f:=45) (nt:=69) (c:=part Tryd.f45 [1,1,1,1,0,1,0,0]) 0 (fun j=>mq m z (shR dr lc zc lb zb W B) (M:Int) (Kj (qH W B z j)) (j:Int)) (fun j=>Ki dr lc zc lb zb (qH W B z j)::H) M (mq m z (shR dr lc zc lb zb W B) (M:Int) (Kj (qH W B z M)) (M:Int)++[(24,.bool false)],Ki dr lc zc lb zb (qH W B z M)::H) (by omega) (fun j hj=>?_) ?_
 · exact OZ n dr lc zc lb zb H m z W B hm hz M j hM hj (qH W B z j) (by have:=qI W B z j;omega)
 · generalize qH W B z M=L
   cases L with
   | nil =>
     obtain ⟨x,h1,rfl⟩:=aR (Q:=fun x=>x=(.exit 0,mq m z (shR dr lc zc lb zb W B) (M:Int) .nils (M:Int)++[(24,.bool false)],cO dr lc zc lb zb::H)) (LS (n+1) H (JN dr lc zc lb zb) m z (shR dr lc zc lb zb W B) (M:Int) (M:Int)) (aJ _) (ak _ _) (al _ _) (by
      refine Tr.ae (fun h0=>by simp (disch:=omega) only[nV,nW] at h0;omega) (fun h0=>Tr.ah rfl))
     exact h1
   | cons a r =>
     obtain ⟨x,h1,rfl⟩:=aR (Q:=fun x=>x=(.exit 0,mq m z (shR dr lc zc lb zb W B) (M:Int) (.slc 0 1 0 0 1 (r.length+1) none) (M:Int)++[(24,.bool false)],Jr (JN dr lc zc lb zb) 0 (r.length+1) (aX (a::r))::H)) (LU (n+1) H (JN dr lc zc lb zb) m z (shR dr lc zc lb zb W B) 0 (r.length+1) (aX (a::r)) (M:Int) (M:Int)) (aJ _) (ak _ _) (al _ _) (by
      refine Tr.ae (fun h0=>by simp (disch:=omega) only[nV,nW] at h0;omega) (fun h0=>Tr.ah rfl))
     exact h1
noncomputable def MD:AV:=if iR lc (dg dr lc zc) lb zb m z=0 then .tup [dA (qH (dg dr lc zc) (gJ lb zb) z (m-1)),.int .i64 0] else .tup [.nils,.int .i64 (iR lc (dg dr lc zc) lb zb m z)]
theorem Dd {lc:Nat} {W:Nat→Int} {lb:Nat} {zb:Nat→Int} {m:Nat} {z:Nat→Int} (h:iR lc W lb zb m z=0):ur z lc m=true:=by
 unfold iR at h
 split at h
 · assumption
 · cases h
theorem QZ (hb:lb≤1000) (h0:iU dr lc zc lb zb=0) (hm:m≤1000):cd (n+16) (.fn 45) [cM dr lc zc lb zb,bF m z false] H=some (MD dr lc zc lb zb m z,H):=by
 obtain ⟨h1,h2,h3,h4,h5,_⟩:=De h0
 have h39:=fun H=>Qq n dr lc zc lb zb m z H hb h0 hm
 have ht:(l6 (tX aV 39 [cM dr lc zc lb zb,bF m z false] (.int .i64 (iR lc (dg dr lc zc) lb zb m z))) 62 (fun x=>some (x=[cM dr lc zc lb zb],shV dr lc zc lb zb (dg dr lc zc) (gJ lb zb)))).Ok (cd (n+15)) :=
  DH (eg (bx _) h39) (fun A H hA=>by
   subst hA
   exact MU (n+8) dr lc zc lb zb H h1.2 hb h3 h4 h5)
 unfold MD
 by_cases hc:iR lc (dg dr lc zc) lb zb m z=0
 · rw[if_pos hc]
   obtain ⟨p1,p2⟩:=eK.1 (Dd hc)
   obtain ⟨M,rfl⟩:∃ M,m=M+1:=⟨m-1,by omega⟩
   have es:bw .i64 (Int.ofNat (M+1)) (Int.ofNat 1)=(M:Int):=by
    rw[dG,show Int.ofNat (M+1)-Int.ofNat 1=(M:Int) by show ((M+1:Nat):Int)-1=_;omega]
    exact gY (by omega) (by omega)
   have hlp:=SR (n+14) dr lc zc lb zb H (M+1) z (dg dr lc zc) (gJ lb zb) hm (fun j hj=>by have:=(p2 j hj).1;omega) M rfl
   rw[show M+1-1=M by omega]
   cases hS:qH (dg dr lc zc) (gJ lb zb) z M with
   | nil =>
     rw[hS] at hlp
     have T:=Po (n+15) dr lc zc lb zb (dg dr lc zc) (gJ lb zb) H (M+1) z (iR lc (dg dr lc zc) lb zb (M+1) z) (M:Int) (fun x=>x=[cM dr lc zc lb zb])
     rw[es] at T
     refine bK (n:=n+15) Tryd.func45 rfl rfl rfl T (bS _ _ ht) (br (ak _ _) Qo (fun x hx=>C6 hx (by simp only[gK.st,bp];exact hlp))) (al _ _) ?_
     refine Tr.aj rfl (Tr.ae (fun q=>by rw[hc] at q;simp[aG,aZ] at q) (fun q=>Tr.aj rfl (Tr.aj ⟨rfl,rfl⟩ (Tr.ah ⟨rfl,rfl⟩))))
   | cons a r =>
     rw[hS] at hlp
     have T:=Pp (n+15) dr lc zc lb zb (dg dr lc zc) (gJ lb zb) H (M+1) z (iR lc (dg dr lc zc) lb zb (M+1) z) (M:Int) (fun x=>x=[cM dr lc zc lb zb]) (r.length+1) (aX (a::r))
     rw[es,lV] at T
     refine bK (n:=n+15) Tryd.func45 rfl rfl rfl T (bS _ _ ht) (br (ak _ _) Qo (fun x hx=>C6 hx (by simp only[gK.st,bp];exact hlp))) (al _ _) ?_
     refine Tr.aj rfl (Tr.ae (fun q=>by rw[hc] at q;simp[aG,aZ] at q) (fun q=>Tr.aj rfl (Tr.aj ⟨rfl,rfl⟩ (Tr.ag (by simp (disch:=omega) only[nV,nW]) (Tr.ag (by simp (disch:=omega) only[nV,nW];try omega) (Tr.ah ⟨rfl,rfl⟩))))))
 · rw[if_neg hc]
   refine bK (n:=n+15) Tryd.func45 rfl rfl rfl (Pq (n+15) dr lc zc lb zb (dg dr lc zc) (gJ lb zb) H m z (iR lc (dg dr lc zc) lb zb m z) (fun x=>x=[cM dr lc zc lb zb])) (bS _ _ ht) (cW (ak _ _) 0) (al _ _) ?_
   refine Tr.aj rfl (Tr.ae (fun q=>Tr.ah ⟨rfl,rfl⟩) (fun q=>?_))
   rw[aG,aZ] at q
   exact absurd (by simpa using q) hc
end
end Go.Eng
end
section
namespace Go.Eng
open Go.Proofs Go.Eng.Gall
def Cz (k j:Nat):Nat:=if j=k then k+1 else if j=k+1 then k else j
def uI (z:Nat→Int) (k j:Nat):Int:=z (Cz k j)
theorem Bk {k j m:Nat} (hk:k+1<m) (hj:j<m):Cz k j<m:=by
 unfold Cz
 repeat' split
 all_goals omega
theorem JS {k i j:Nat} (h:Cz k i=Cz k j):i=j:=by
 unfold Cz at h
 split at h<;>split at h<;>(try split at h)<;>(try split at h)<;>omega
theorem CK (z:Nat→Int) (k:Nat):uI z k k=z (k+1):=by unfold uI Cz;rw[if_pos rfl]
theorem uJ (z:Nat→Int) (k:Nat):uI z k (k+1)=z k:=by unfold uI Cz;rw[if_neg (by omega),if_pos rfl]
theorem G6 (z:Nat→Int) {k j:Nat} (h1:j≠k) (h2:j≠k+1):uI z k j=z j:=by unfold uI Cz;rw[if_neg h1,if_neg h2]
theorem JE {z:Nat→Int} {lc m:Nat} (h:ur z lc m=true) {i j:Nat} (hi:i<m) (hj:j<m) (he:z i=z j):i=j:=by
 obtain ⟨_,h2⟩:=eK.1 h
 rcases Nat.lt_trichotomy i j with q | q | q
 · exact absurd he ((h2 j hj).2 i q)
 · exact q
 · exact absurd he.symm ((h2 i hi).2 j q)
theorem Mq {z:Nat→Int} {lc m k:Nat} (h:ur z lc m=true) (hk:k+1<m):ur (uI z k) lc m=true:=by
 obtain ⟨h1,h2⟩:=eK.1 h
 refine eK.2 ⟨h1,fun i hi=>⟨(h2 _ (Bk hk hi)).1,fun j hj he=>?_⟩⟩
 have:=JS (JE h (Bk hk (show j<m by omega)) (Bk hk hi) he)
 omega
theorem Dc {lc:Nat} {W:Nat→Int} {lb:Nat} {zb:Nat→Int} {m:Nat} {z:Nat→Int}:iR lc W lb zb m z=0↔ur z lc m=true∧(∀ j,j<m→vZ W (z j) j=true)∧∀ i,i<m→∀ j,j<i→nw lb zb (z i) (z j)=false:=by
 unfold iR
 constructor
 · intro h
   split at h
   · rename_i hp
     split at h
     · cases h
     · rename_i hs
       split at h
       · cases h
       · rename_i hb
         rw[Bool.not_eq_true,jn] at hs hb
         refine ⟨hp,fun j hj=>by simpa using hs j hj,fun i hi=>?_⟩
         have:=hb i hi
         unfold He at this
         exact jn.1 this
   · cases h
 · rintro ⟨hp,hs,hb⟩
   rw[if_pos hp,if_neg,if_neg]
   · rw[Bool.not_eq_true,jn]
     intro i hi
     unfold He
     exact jn.2 (hb i hi)
   · rw[Bool.not_eq_true,jn]
     intro j hj
     rw[hs j hj];rfl
theorem IG {lb lc:Nat} {zb:Nat→Int} (hp:fz lc lb zb) (hl:lc≤10) {a c:Int} (ha:0≤a∧a<10) (hc:0≤c):cK (ny .u64 (gJ lb zb c.toNat) (eG .u64 (Int.ofNat 1) a)) (Int.ofNat 0)=!nw lb zb a c:=by
 have hb:jb zb c.toNat lb<2 ^ lc:=uN zb _ lc lb fun i hi=>(hp i hi).1
 have hb2:jb zb c.toNat lb<2 ^ 62:=Nat.lt_of_lt_of_le hb (Nat.pow_le_pow_right (by omega) (by omega))
 have:=Q.yS hb2 (show a.toNat<62 by omega)
 rw[show Int.ofNat a.toNat=a by show ((a.toNat:Nat):Int)=a;omega] at this
 rw[show gJ lb zb c.toNat=(jb zb c.toNat lb:Int) from rfl,this]
 congr 1
 have e:=vD hp a.toNat c.toNat
 rw[show ((a.toNat:Nat):Int)=a by omega,show ((c.toNat:Nat):Int)=c by omega] at e
 exact e.symm
theorem Bo {lb lc:Nat} {zb:Nat→Int} {W:Nat→Int} {z:Nat→Int} {k:Nat} (hp:fz lc lb zb) (hl:lc≤10) (h0:0≤z k∧z k<10) (h1:0≤z (k+1)):tp W (gJ lb zb) z k=true↔vZ W (z k) ((k+1:Nat):Int)=true∧vZ W (z (k+1)) (k:Int)=true∧nw lb zb (z k) (z (k+1))=false:=by
 unfold tp
 rw[IG hp hl h0 h1,Bool.and_eq_true,Bool.and_eq_true,Bool.not_eq_true',show (k:Int)+1=((k+1:Nat):Int) by omega]
theorem x4 {lb lc m:Nat} {zb:Nat→Int} {W:Nat→Int} {z:Nat→Int} {k:Nat} (hp:fz lc lb zb) (hl:lc≤10) (hz:iR lc W lb zb m z=0) (hk:k+1<m):tp W (gJ lb zb) z k=true↔iR lc W lb zb m (uI z k)=0:=by
 obtain ⟨z1,z2,z3⟩:=Dc.1 hz
 obtain ⟨p1,p2⟩:=eK.1 z1
 have a0:=(p2 k (by omega)).1
 have a1:=(p2 (k+1) hk).1
 rw[Bo hp hl ⟨a0.1,by omega⟩ a1.1,Dc]
 constructor
 · rintro ⟨s1,s2,s3⟩
   refine ⟨Mq z1 hk,fun j hj=>?_,fun i hi j hj=>?_⟩
   · by_cases e1:j=k
     · subst e1;rw[CK];exact s2
     · by_cases e2:j=k+1
       · subst e2;rw[uJ];exact s1
       · rw[G6 z e1 e2];exact z2 j hj
   · by_cases e:Cz k j<Cz k i
     · exact z3 _ (Bk hk hi) _ e
     · have:i=k+1∧j=k:=by
        unfold Cz at e
        split at e<;>split at e<;>(try split at e)<;>(try split at e)<;>omega
       obtain ⟨rfl,rfl⟩:=this
       rw[CK,uJ];exact s3
 · rintro ⟨s1,s2,s3⟩
   refine ⟨?_,?_,?_⟩
   · have:=s2 (k+1) hk
     rw[uJ] at this;exact this
   · have:=s2 k (by omega)
     rw[CK] at this;exact this
   · have:=s3 (k+1) hk k (by omega)
     rw[CK,uJ] at this;exact this
theorem GY {lb lc m:Nat} {zb:Nat→Int} {W:Nat→Int} {z:Nat→Int} {k:Nat} (hp:fz lc lb zb) (hl:lc≤10) (hz:iR lc W lb zb m z=0) (hk:k+1<m):tp W (gJ lb zb) (uI z k) k=true:=by
 obtain ⟨z1,z2,z3⟩:=Dc.1 hz
 obtain ⟨p1,p2⟩:=eK.1 z1
 have a0:=(p2 k (by omega)).1
 have a1:=(p2 (k+1) hk).1
 rw[Bo hp hl (by rw[CK];exact ⟨a1.1,by omega⟩) (by rw[uJ];exact a0.1),CK,uJ]
 exact ⟨z2 (k+1) hk,z2 k (by omega),z3 (k+1) hk k (by omega)⟩
end Go.Eng
end
