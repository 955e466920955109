/- Gall: Block, and CheckBlock by both: the contracts. -/
import Derived.Test.YtgphpjdchnfjlaaDoorV3Gbsx4
import Derived.Test.YtgphpjdchnfjlaaDoorV3Gp10x11
import Derived.Test.YtgphpjdchnfjlaaDoorV3Gatx9
set_option linter.unusedVariables false
set_option linter.unusedSimpArgs false
set_option maxRecDepth 100000
section
namespace Go.Eng
open Go.Proofs Go.Eng.Gall
theorem UR:∀ b,(1,b) ∈ aE (aV Tryd.f27)→b=.loop (part Tryd.f27 [1,1,1,1,0,1,0,0]):=dz (by kernel_rfl)
theorem US:∀ b,(0,b) ∈ aE (aV Tryd.f28)→b=.loop (part Tryd.f28 [1,1,1,0,1,0,0]):=dz (by kernel_rfl)
theorem QF:∀ b,(2,b) ∈ aE (aV Tryd.f28)→b=.loop (part Tryd.f28 [1,1,1,1,1,0,1,0,0]):=dz (by kernel_rfl)
noncomputable def QP (q:Nat→Int) (lc:Nat):Option (Int×Int)→AV
 | none=>.tup [.agg (.G [.int .i64 (Int.ofNat 0),.int .i64 (Int.ofNat 0),.nils]),.int .i64 5]
 | some (f,t)=>.tup [pW f t (dB q f t lc).length (az (dB q f t lc)),.int .i64 0]
def BH (z:Nat→Int) (j:Nat):Int:=if j=0 then -1 else z (j-1)
def uO (lc:Nat) (z:Nat→Int) (j:Nat):Bool:=decide (z j≤BH z j) || decide ((lc:Int)≤z j)
def Ff (lc:Nat) (z:Nat→Int) (j:Nat):Bool:=!(decide (0≤z j) && decide (z j<lc)) || (decide (0<j) && decide (z j≤z (j-1)))
def uN (r:Nat→Int) (f t:Int) (z:Nat→Int) (j:Nat):Bool:=decide (r ((z j).toNat*2)<f) || decide (t<r ((z j).toNat*2+1))
theorem wE {lc:Nat} {z:Nat→Int} {m:Nat} (h:∀ j,j<m→uO lc z j=false):∀ j,j<m→0≤z j∧z j<lc∧∀ i,i<j→z i<z j:=by
 intro j;induction j with
 | zero =>
   intro hj;have:=h 0 hj;unfold uO BH at this;rw[if_pos rfl,Bool.or_eq_false_iff,decide_eq_false_iff_not,decide_eq_false_iff_not] at this;exact ⟨by omega,by omega,fun i hi=>by omega⟩
 | succ j ih =>
   intro hj;have:=h (j+1) hj;unfold uO BH at this;rw[if_neg (by omega),Bool.or_eq_false_iff,decide_eq_false_iff_not,decide_eq_false_iff_not,Nat.add_sub_cancel] at this;obtain ⟨i1,i2,i3⟩:=ih (by omega);refine ⟨by omega,by omega,fun i hi=>?_⟩;by_cases e:i=j
   · subst e;omega
   · have:=i3 i (by omega);omega
theorem J5 (lc:Nat) (z:Nat→Int) (m:Nat):cC (Ff lc z) m=cC (uO lc z) m:=by
 have key:cC (uO lc z) m=false↔cC (Ff lc z) m=false:=by
  rw[ir,ir];constructor
  · intro h j hj;obtain ⟨i1,i2,i3⟩:=wE h j hj;unfold Ff;rw[decide_eq_true i1,decide_eq_true i2];by_cases e:0<j
    · have:=i3 (j-1) (by omega);rw[decide_eq_true e,decide_eq_false (by omega)];rfl
    · rw[decide_eq_false e];rfl
  · intro h j hj;have:=h j hj;unfold Ff at this;rw[Bool.or_eq_false_iff,Bool.not_eq_false',Bool.and_eq_true,decide_eq_true_iff,decide_eq_true_iff,Bool.and_eq_false_iff,decide_eq_false_iff_not,decide_eq_false_iff_not] at this;unfold uO BH;rw[decide_eq_false (show ¬ (lc:Int)≤z j by omega),Bool.or_false,decide_eq_false_iff_not];split<;>omega
 cases h:cC (uO lc z) m with
 | false=>exact key.1 h
 | true =>
   cases h2:cC (Ff lc z) m with
   | true=>rfl
   | false=>rw[key.2 h2] at h;cases h
def x5 (lc:Nat) (r:Nat→Int) (f t:Int) (m:Nat) (z:Nat→Int):Int :=
 if (f < -2000∨2000<f∨t < -2000∨2000<t)∨m=0 then 3 else if cC (uO lc z) m=true then 3 else if cC (uN r f t z) m=true∨(m:Int)≤t-f+1 then 14 else 0
section
variable (n:Nat) (dr:Int) (lc:Nat) (zc:Nat→Int) (lb:Nat) (zb:Nat→Int) (H:ab)
theorem Vz (hb:lb≤1000) (h0:dg dr lc zc lb zb=0):cd (n+15) (.fn 25) [bn dr lc zc lb zb] H=some (QP (qB (dx lc (fun c=>cH zb c lb) (bK dr lc zc))) lc (xv dr lc zc lb zb),H):=by
 obtain ⟨h1,h2,h3,h4,h5,h6⟩:=kg h0;have hS:=B9 dr lc zc lb zb h1.2 h3 h4 h5 h6;have h49:=fun H=>D8 n dr lc zc lb zb H hb h0;have h65:∀ H,cd (n+14) (.fn 65) [shV dr lc zc lb zb (bK dr lc zc) (fR lb zb)] H=_:=fun H=>UY (n+11) dr lc zc lb zb (bK dr lc zc) H (fun c=>cH zb c lb) hS;unfold xv;generalize qB (dx lc (fun c=>cH zb c lb) (bK dr lc zc))=q at *;generalize kD q lc lc=c at *;cases c with
 | none =>
   refine br (n:=n+14) Tryd.func25 rfl rfl rfl (TG (n+14) dr lc zc lb zb (bK dr lc zc) (fR lb zb) H) (bo _ _ (bR (bR (aW _) h49) h65)) (ai _ _) (aj _ _) ?_;exact Tr.ak rfl (Tr.ae (fun q=>by simp[aB,aQ] at q) (fun _=>Tr.ak rfl (Tr.ae (fun _=>Tr.ag ⟨rfl,rfl⟩) (fun q=>by simp[aB] at q))))
 | some v =>
   obtain ⟨f,t⟩:=v;refine br (n:=n+14) Tryd.func25 rfl rfl rfl (Yd (n+14) dr lc zc lb zb (bK dr lc zc) (fR lb zb) H f t (dB q f t lc).length (az (dB q f t lc))) (bo _ _ (bR (bR (aW _) h49) h65)) (ai _ _) (aj _ _) ?_;exact Tr.ak rfl (Tr.ae (fun q=>by simp[aB,aQ] at q) (fun _=>Tr.ak rfl (Tr.ae (fun q=>by simp[aB] at q) (fun _=>Tr.ag ⟨rfl,rfl⟩))))
variable (f t:Int) (m:Nat) (z:Nat→Int)
theorem QW (hm:m≤1000) (p:Nat→Bool) (h68:∀ j,j<m→cd n (.fn 68) [.int .i64 (z j),.ptr 2 3 0 0,.ptr 2 1 0 0] (au::au::H)=some (.bool (p j),au::au::H)):cd (n+2) (.fn 67) [aK m z false,yo 0] H=some (.bool (cC p m),H):=by
 have lp:=eA (n:=n) (f:=89) (nt:=19) (c:=part Tryd.f89 [1,0,1,0,0]) 0 (fun j=>sL m z (j:Int)) (fun _=>au::au::H) m p (fun j=>([(4,.int .i64 (j:Int))],au::au::H)) (sL m z (Int.ofNat m)++[(9,.bool false)],au::au::H) (by omega) (fun j hj=>?_) ?_
 · have h89:cd (n+1) (.fn 89) [aK m z false,yo 1] (au::H)=some (.int .i64 (yS p m),au::H):=by
    refine br (n:=n) Tryd.func89 rfl rfl rfl (TW n m z (au::H) (cC p m) (fN p m 0:Nat)) (av n) (aP (ai _ _) Vs (fun x hx=>b7 hx lp)) (aj _ _) ?_;unfold yS;refine Tr.ak ⟨rfl,rfl⟩ (Tr.ae (fun q=>Tr.ag ⟨?_,rfl⟩) (fun q=>Tr.ag ⟨?_,rfl⟩))
    · rw[if_pos q]
    · rw[if_neg (by rw[q];decide)];rfl
   refine br (n:=n+1) Tryd.func67 rfl rfl rfl (TT (n+1) m z H (yS p m)) (bo _ _ (ew (aW _) (fun x hy=>by rw[← Tr.af hy];exact h89))) (ai _ _) (aj _ _) ?_;refine Tr.ak ⟨rfl,rfl⟩ (Tr.ag ⟨?_,rfl⟩);rw[xf]
 · have T:=Ty n m z (au::H) (j:Int) (p j);rw[qt,dJ (by omega)] at T;refine ay T (bo _ _ (ew (aW _) (fun x hy=>by rw[← Tr.af hy];exact h68 j hj))) (ai _ _) (aj _ _) ?_;refine Tr.ae (fun _=>Tr.aa wG (Tr.aa wG (Tr.ak ⟨rfl,rfl⟩ (Tr.ae (fun q=>Tr.ag ?_) (fun q=>Tr.ag ?_))))) wJ
   · rw[if_pos q];rfl
   · rw[if_neg (by rw[q];decide)];exact ⟨rfl,rfl⟩
 · obtain ⟨x,h1,rfl⟩:=ay (Q:=fun x=>x=(.exit 0,sL m z (Int.ofNat m)++[(9,.bool false)],au::au::H)) (P1 n m z (au::H) (Int.ofNat m)) (av n) (ai _ _) (aj _ _) (by
    refine Tr.ae wJ (fun h0=>Tr.ag rfl))
   exact h1
theorem U8 (R:Row) (hm:m≤1000):exec (bL n 27 73) (.block 1 (.loop (part Tryd.f27 [1,1,1,1,0,1,0,0]))) (uV R m z (Int.negSucc 0) (Int.ofNat 0)) (pB dr lc zc lb zb f t m z::H)=some (cond (cC (uO lc z) m) (.ret,[(4,.int .i64 (Int.ofNat 3))],pB dr lc zc lb zb f t m z::H) (.normal,uV R m z (BH z m) (Int.ofNat m)++[(39,.bool false)],pB dr lc zc lb zb f t m z::H)):=by
 refine eA (n:=n) (f:=27) (nt:=73) (c:=part Tryd.f27 [1,1,1,1,0,1,0,0]) 1 (fun j=>uV R m z (BH z j) (j:Int)) (fun _=>pB dr lc zc lb zb f t m z::H) m (uO lc z) (fun _=>([(4,.int .i64 (Int.ofNat 3))],pB dr lc zc lb zb f t m z::H)) (uV R m z (BH z m) (Int.ofNat m)++[(39,.bool false)],pB dr lc zc lb zb f t m z::H) (by omega) (fun j hj=>?_) ?_
 · have T:=t27 n dr lc zc lb zb R H f t m z (BH z j) (j:Int);rw[qt,dJ (by omega)] at T;refine ay T (av n) (ai _ _) (aj _ _) ?_;refine Tr.ae (fun _=>Tr.aa wG (Tr.aa wG (Tr.ae (fun q=>Tr.ag ?_) (fun q=>Tr.ae (fun q2=>Tr.ag ?_) (fun q2=>Tr.ag ?_))))) wJ;all_goals rw[bf] at q
   · rw[if_pos (by unfold uO;rw[q];rfl)];rfl
   all_goals rw[bf] at q2
   · have q2:decide ((lc:Int)≤z j)=true:=q2;rw[if_pos (by unfold uO;rw[q2,Bool.or_true])];rfl
   · have q2:decide ((lc:Int)≤z j)=false:=q2;rw[if_neg (by unfold uO;rw[q,q2];decide)];have:BH z (j+1)=z j:=by unfold BH;rw[if_neg (by omega),Nat.add_sub_cancel]
     rw[this];exact ⟨rfl,rfl⟩
 · obtain ⟨x,h1,rfl⟩:=ay (Q:=fun x=>x=(.exit 1,uV R m z (BH z m) (Int.ofNat m)++[(39,.bool false)],pB dr lc zc lb zb f t m z::H)) (t27 n dr lc zc lb zb R H f t m z (BH z m) (Int.ofNat m)) (av n) (ai _ _) (aj _ _) (by
    refine Tr.ae wJ (fun h0=>Tr.ag rfl))
   exact h1
end
end Go.Eng
end
section
namespace Go.Eng
open Go.Proofs Go.Eng.Gall
section
variable (n:Nat) (dr:Int) (lc:Nat) (zc:Nat→Int) (lb:Nat) (zb:Nat→Int) (H:ab) (f t:Int) (m:Nat) (z:Nat→Int)
theorem VM (r:Nat→Int) (j:Nat) (hl:lc≤10) (hz:0≤z j∧z j<lc):cd (n+1) (.fn 68) [.int .i64 (z j),.ptr 2 3 0 0,.ptr 2 1 0 0] (au::au::BL dr lc zc lb zb f t m z (qB r)::H)=some (.bool (uN r f t z j),au::au::BL dr lc zc lb zb f t m z (qB r)::H):=by
 have T:=Yr n dr lc zc lb zb H f t m z (qB r) (z j);have e1:aq 0 (z j) 2=(z j).toNat*2:=by rw[bG,Nat.zero_add]
 rw[e1,aI,rp r (show (z j).toNat*2<20 by omega),rp r (show (z j).toNat*2+1<20 by omega)] at T;refine br (n:=n) Tryd.func68 rfl rfl rfl T (av n) (ai _ _) (aj _ _) ?_;unfold uN;refine Tr.aa wG (Tr.aa wG (Tr.aa wG (Tr.ae (fun q=>Tr.ag ⟨?_,rfl⟩) (fun q=>Tr.aa wG (Tr.aa wG (Tr.aa wG (Tr.ag ⟨?_,rfl⟩)))))));all_goals rw[bw] at q
 · rw[q];rfl
 · rw[q,bw];rfl
theorem OE:bO (bO (c8 (Int.negSucc 1999) f) (c8 f (Int.ofNat 2000))) (bO (bO (c8 (Int.negSucc 1999) t) (c8 t (Int.ofNat 2000))) true)=!decide (f < -2000∨2000<f∨t < -2000∨2000<t):=by
 rw[bT,bT,bT,bT,bf,bf,bf,bf,Bool.and_true,Bool.eq_iff_iff];simp only[Bool.and_eq_true,decide_eq_true_iff,Bool.not_eq_true',decide_eq_false_iff_not];show ((-2000≤f∧f≤2000)∧-2000≤t∧t≤2000)↔_;omega
theorem QR (hb:lb≤1000) (h0:dg dr lc zc lb zb=0) (hm:m≤1000) (hbad:cC (uO lc z) m=true):cd (n+15) (.fn 27) [bn dr lc zc lb zb,pW f t m z] H=some (.int .i64 3,H):=by
 have h49:=fun H=>D8 n dr lc zc lb zb H hb h0;have lp:=U8 (n+14) dr lc zc lb zb H f t m z (shR dr lc zc lb zb (bK dr lc zc) (fR lb zb)) hm;have hgw:=fun (tt:mW) (ht:tt.Ok (cd (n+14)))=>sN (n:=n+8) ht;rw[hbad] at lp;have T:=TH (n+14) dr lc zc lb zb (bK dr lc zc) (fR lb zb) H f t m z (BH z m);rw[OE] at T;refine br (n:=n+14) Tryd.func27 rfl rfl rfl T (bo _ _ (pR (hgw _ (pR (bR (aW _) h49))))) (aP (ai _ _) UR (fun x hx=>b7 hx lp)) (aj _ _) ?_;clear T lp h49 hgw;refine Tr.ak rfl (Tr.ae (fun q=>by simp[aB,aQ] at q) (fun _=>Tr.ae (fun q=>Tr.ag ⟨rfl,rfl⟩) (fun q=>Tr.ae (fun q2=>Tr.ag ⟨rfl,rfl⟩) (fun q2=>Tr.ak ⟨rfl,rfl⟩ (Tr.ae (fun _=>Tr.ag ⟨rfl,rfl⟩) (fun q=>by cases q))))))
theorem QS (hb:lb≤1000) (h0:dg dr lc zc lb zb=0) (hm:m≤1000) (hbad:cC (uO lc z) m=false):cd (n+15) (.fn 27) [bn dr lc zc lb zb,pW f t m z] H=some (.int .i64 (x5 lc (dx lc (fun c=>cH zb c lb) (bK dr lc zc)) f t m z),H):=by
 obtain ⟨h1,h2,h3,h4,h5,h6⟩:=kg h0;have hS:=B9 dr lc zc lb zb h1.2 h3 h4 h5 h6;have h49:=fun H=>D8 n dr lc zc lb zb H hb h0;have h56:∀ H,cd (n+14) (.fn 56) [shV dr lc zc lb zb (bK dr lc zc) (fR lb zb)] H=some (.agg (.M [.arr .i64 (dx lc (fun c=>cH zb c lb) (bK dr lc zc)) 20]),H):=fun H=>UW (n+12) dr lc zc lb zb (bK dr lc zc) (fun c=>cH zb c lb) H hS;have lp:=U8 (n+14) dr lc zc lb zb H f t m z (shR dr lc zc lb zb (bK dr lc zc) (fR lb zb)) hm;have hgw:=fun (tt:mW) (ht:tt.Ok (cd (n+14)))=>sN (n:=n+8) ht;unfold x5;rw[hbad] at lp ⊢;have hinc:=wE (iE hbad);generalize dx lc (fun c=>cH zb c lb) (bK dr lc zc)=r at *;have h67:cd (n+14) (.fn 67) [aK m z false,yo 0] (BL dr lc zc lb zb f t m z (qB r)::H)=_:=QW (n+12) (BL dr lc zc lb zb f t m z (qB r)::H) m z hm (uN r f t z) (fun j hj=>VM (n+11) dr lc zc lb zb H f t m z _ j h1.2 ⟨(hinc j hj).1,(hinc j hj).2.1⟩);have T:=Ye (n+14) dr lc zc lb zb (bK dr lc zc) (fR lb zb) H f t m z r false (cC (uN r f t z) m) (BH z m);rw[OE] at T;refine br (n:=n+14) Tryd.func27 rfl rfl rfl T (bo _ _ (ew (hgw _ (bR (bR (aW _) h49) h56)) (fun x hy=>by rw[← Tr.af hy];exact h67))) (aP (ai _ _) UR (fun x hx=>b7 hx lp)) (aj _ _) ?_;clear T lp h67 h49 h56 hgw hinc hS;generalize cC (uN r f t z) m=e14;refine Tr.ak rfl (Tr.ae (fun q=>by simp[aB,aQ] at q) (fun _=>Tr.ae (fun q=>Tr.ag ⟨?_,rfl⟩) (fun q=>Tr.ae (fun q2=>Tr.ag ⟨?_,rfl⟩) (fun q2=>Tr.ak ⟨rfl,rfl⟩ (Tr.ae (fun q=>by cases q) (fun _=>?_))))));all_goals rw[aB,Bool.not_not] at q
 · rw[if_pos (.inl (of_decide_eq_true q))];rfl
 · rw[aQ] at q2;have:(m:Int)=0:=by simpa using q2
   rw[if_pos (.inr (by omega))];rfl
 · rw [aQ] at q2;have hm0:¬ (m:Int)=0:=by simpa using q2
   have q:=of_decide_eq_false q;rw[if_neg (by omega),if_neg (by decide)];refine Tr.ak rfl (Tr.aa wG (Tr.ak ⟨rfl,rfl⟩ ?_));refine Tr.ae (fun q3=>Tr.ag ⟨?_,rfl⟩) (fun q3=>?_)
   · rw[if_pos (.inl q3)];rfl
   · have e:bh .i64 (bN .i64 t f) (Int.ofNat 1)=t-f+1:=by
      rw[rJ (by omega) (by omega),Fm]<;>simp only[Int.ofNat_eq_natCast]<;>omega
     rw[e];refine Tr.ae (fun q4=>Tr.ag ⟨?_,rfl⟩) (fun q4=>Tr.ag ⟨?_,rfl⟩);all_goals rw[bf] at q4
     · have q4:=of_decide_eq_true q4;rw[if_pos (.inr q4)];rfl
     · have q4:=of_decide_eq_false q4;rw[if_neg (fun h=>h.elim (fun h=>by rw[h] at q3;cases q3) q4)];rfl
theorem VA (hb:lb≤1000) (h0:dg dr lc zc lb zb=0) (hm:m≤1000):cd (n+15) (.fn 27) [bn dr lc zc lb zb,pW f t m z] H=some (.int .i64 (x5 lc (dx lc (fun c=>cH zb c lb) (bK dr lc zc)) f t m z),H):=by
 cases hbad:cC (uO lc z) m with
 | false=>exact QS n dr lc zc lb zb H f t m z hb h0 hm hbad
 | true =>
   rw[QR n dr lc zc lb zb H f t m z hb h0 hm hbad];unfold x5;rw[hbad];split<;>rfl
end
end Go.Eng
end
section
namespace Go.Eng
open Go.Proofs Go.Eng.Gall
section
variable (n:Nat) (dr:Int) (lc:Nat) (zc:Nat→Int) (lb:Nat) (zb:Nat→Int) (H:ab) (f t:Int) (m:Nat) (z:Nat→Int)
theorem OQ (hm:m≤1000):exec (bL (n+1) 28 110) (.block 0 (.loop (part Tryd.f28 [1,1,1,0,1,0,0]))) (uW (Int.ofNat 0)) (jv dr lc zc lb zb f t m z::H)=some (cond (cC (Ff lc z) m) (.ret,[(4,.int .i64 (Int.ofNat 3))],jv dr lc zc lb zb f t m z::H) (.normal,uW (Int.ofNat m)++[(42,.bool false)],jv dr lc zc lb zb f t m z::H)):=by
 refine eA (n:=n+1) (f:=28) (nt:=110) (c:=part Tryd.f28 [1,1,1,0,1,0,0]) 0 (fun j=>uW (j:Int)) (fun _=>jv dr lc zc lb zb f t m z::H) m (Ff lc z) (fun _=>([(4,.int .i64 (Int.ofNat 3))],jv dr lc zc lb zb f t m z::H)) (uW (Int.ofNat m)++[(42,.bool false)],jv dr lc zc lb zb f t m z::H) (by omega) (fun j hj=>?_) ?_
 · have T:=t28 n dr lc zc lb zb H f t m z (j:Int);rw[qt,dJ (by omega)] at T;refine ay T (fa n 1) (ai _ _) (aj _ _) ?_;clear T;refine Tr.ae (fun _=>Tr.aa wG (Tr.aa wG (Tr.ae (fun q=>?_) (fun q=>Tr.ag ?_)))) wJ;all_goals rw[bf] at q
   · have q:=of_decide_eq_true q;have q:0≤z j:=q;refine Tr.ae (fun q2=>Tr.ag ?_) (fun q2=>Tr.ae (fun q3=>?_) (fun q3=>Tr.ag ?_));all_goals rw[aB,bw] at q2
     · have q2:(!decide (z j<lc))=true:=q2;rw[if_pos (by unfold Ff;rw[decide_eq_true q,Bool.true_and,q2];rfl)];rfl
     all_goals have q2:(!decide (z j<lc))=false:=q2
     · simp (disch:=omega) only[nV,nW] at q3;have e:bN .i64 (j:Int) (Int.ofNat 1)=((j-1:Nat):Int):=by rw[rJ]<;>simp only[Int.ofNat_eq_natCast]<;>omega
       rw[e,qt];refine Tr.aa wG (Tr.aa wG (Tr.aa wG (Tr.aa wG (Tr.ae (fun q4=>Tr.ag ?_) (fun q4=>Tr.ag ?_)))));all_goals rw[bf] at q4
       · rw[if_pos (by unfold Ff;rw[decide_eq_true q,Bool.true_and,q2,q4,decide_eq_true (show 0<j by omega)];rfl)];rfl
       · rw[if_neg (by unfold Ff;rw[decide_eq_true q,Bool.true_and,q2,q4,Bool.and_false];simp)];exact ⟨rfl,rfl⟩
     · simp (disch:=omega) only[nV,nW] at q3;rw[if_neg (by unfold Ff;rw[decide_eq_true q,Bool.true_and,q2,decide_eq_false (show ¬ 0<j by omega)];simp)];exact ⟨rfl,rfl⟩
   · have q:=of_decide_eq_false q;have q:¬ 0≤z j:=q;rw[if_pos (by unfold Ff;rw[decide_eq_false q];rfl)];rfl
 · obtain ⟨x,h1,rfl⟩:=ay (Q:=fun x=>x=(.exit 0,uW (Int.ofNat m)++[(42,.bool false)],jv dr lc zc lb zb f t m z::H)) (t28 n dr lc zc lb zb H f t m z (Int.ofNat m)) (fa n 1) (ai _ _) (aj _ _) (by
    refine Tr.ae wJ (fun h0=>Tr.ag rfl))
   exact h1
theorem RU (r:Nat→Int) (hm:m≤1000) (hl:lc≤10) (hz:∀ j,j<m→0≤z j∧z j<lc):exec (bL n 28 110) (.block 2 (.loop (part Tryd.f28 [1,1,1,1,1,0,1,0,0]))) (qY lc r (Int.ofNat 0)) (jv dr lc zc lb zb f t m z::H)=some (cond (cC (uN r f t z) m) (.ret,[(4,.int .i64 (Int.ofNat 14))],GH dr lc zc lb zb f t m z (r ((z (fN (uN r f t z) m 0)).toNat*2)) (r ((z (fN (uN r f t z) m 0)).toNat*2+1))::H) (.normal,qY lc r (Int.ofNat m)++[(77,.bool false)],jv dr lc zc lb zb f t m z::H)):=by
 refine eA (n:=n) (f:=28) (nt:=110) (c:=part Tryd.f28 [1,1,1,1,1,0,1,0,0]) 2 (fun j=>qY lc r (j:Int)) (fun _=>jv dr lc zc lb zb f t m z::H) m (uN r f t z) (fun j=>([(4,.int .i64 (Int.ofNat 14))],GH dr lc zc lb zb f t m z (r ((z j).toNat*2)) (r ((z j).toNat*2+1))::H)) (qY lc r (Int.ofNat m)++[(77,.bool false)],jv dr lc zc lb zb f t m z::H) (by omega) (fun j hj=>?_) ?_
 · have T:=PE n dr lc zc lb zb H f t m z r (j:Int);have e1:aq 0 (z j) 2=(z j).toNat*2:=by rw[bG,Nat.zero_add]
   have:=hz j hj;rw[qt,e1,aI,dJ (by omega)] at T;refine ay T (av n) (ai _ _) (aj _ _) ?_;clear T;refine Tr.ae (fun _=>Tr.aa wG (Tr.aa wG (Tr.aa wG (Tr.aa wG (Tr.aa wG (Tr.ae (fun q=>Tr.ag ?_) (fun q=>Tr.ae (fun q2=>Tr.ag ?_) (fun q2=>Tr.ag ?_)))))))) wJ;all_goals rw[bw] at q
   · rw[if_pos (by unfold uN;rw[q];rfl)];rfl
   all_goals rw[bw] at q2
   · rw[if_pos (by unfold uN;rw[q2,Bool.or_true])];rfl
   · rw[if_neg (by unfold uN;rw[q,q2];decide)];exact ⟨rfl,rfl⟩
 · obtain ⟨x,h1,rfl⟩:=ay (Q:=fun x=>x=(.exit 2,qY lc r (Int.ofNat m)++[(77,.bool false)],jv dr lc zc lb zb f t m z::H)) (PE n dr lc zc lb zb H f t m z r (Int.ofNat m)) (av n) (ai _ _) (aj _ _) (by
    refine Tr.ae wJ (fun h0=>Tr.ag rfl))
   exact h1
theorem U5 (hb:lb≤1000) (h0:dg dr lc zc lb zb=0) (H:ab):cd (n+4) (.fn 23) [bn dr lc zc lb zb] H=some (.int .i64 (Int.ofNat 0),H):=by
 obtain ⟨h1,h2,h3,h4,h5,h6⟩:=kg h0;have:=Qp (n+1) dr lc zc lb zb H (by omega) hb;rw[h0] at this;exact this
theorem QT (hb:lb≤1000) (h0:dg dr lc zc lb zb=0) (hm:m≤1000) (hbad:cC (uO lc z) m=true):cd (n+5) (.fn 28) [bn dr lc zc lb zb,pW f t m z] H=some (.int .i64 3,H):=by
 have h23:=U5 n dr lc zc lb zb hb h0;have la:=OQ (n+3) dr lc zc lb zb H f t m z hm;rw[J5,hbad] at la;refine br (n:=n+4) Tryd.func28 rfl rfl rfl (TI (n+4) dr lc zc lb zb H f t m z) (bo _ _ (pR (bR (aW _) h23))) (b8 (aP (ai _ _) US (fun x hx=>b7 hx la)) 2) (aj _ _) ?_;clear la h23;exact Tr.ak rfl (Tr.ae (fun q=>by simp[aB,aQ] at q) (fun _=>Tr.ae (fun q=>Tr.ag ⟨rfl,rfl⟩) (fun q=>Tr.ae (fun q=>Tr.ag ⟨rfl,rfl⟩) (fun q=>Tr.ae (fun q=>Tr.ag ⟨rfl,rfl⟩) (fun q=>Tr.ae (fun q=>Tr.ag ⟨rfl,rfl⟩) (fun q=>Tr.ae (fun q=>Tr.ag ⟨rfl,rfl⟩) (fun q=>Tr.ak ⟨rfl,rfl⟩ (Tr.ae (fun q=>Tr.ag ⟨rfl,rfl⟩) (fun q=>by cases q)))))))))
theorem QU (hb:lb≤1000) (h0:dg dr lc zc lb zb=0) (hm:m≤1000) (hbad:cC (uO lc z) m=false):cd (n+5) (.fn 28) [bn dr lc zc lb zb,pW f t m z] H=some (.int .i64 (x5 lc (dx lc (fun c=>cH zb c lb) (bK dr lc zc)) f t m z),H):=by
 obtain ⟨h1,h2,h3,h4,h5,h6⟩:=kg h0;have h23:=U5 n dr lc zc lb zb hb h0;have h57:∀ H,cd (n+4) (.fn 57) [bn dr lc zc lb zb] H=some (Qo lc (dx lc (fun c=>cH zb c lb) (bK dr lc zc)),H):=fun H=>VG dr lc zc lb zb (n+1) H h1.1 h1.2 hb h3 h4 h5 h6;have la:=OQ (n+3) dr lc zc lb zb H f t m z hm;rw[J5] at la;unfold x5;generalize dx lc (fun c=>cH zb c lb) (bK dr lc zc)=r at *;rw[hbad] at la ⊢;have hinc:=wE (iE hbad);have lb2:=RU (n+4) dr lc zc lb zb H f t m z r hm h1.2 (fun j hj=>⟨(hinc j hj).1,(hinc j hj).2.1⟩);refine br (n:=n+4) Tryd.func28 rfl rfl rfl (Yf (n+4) dr lc zc lb zb H f t m z r false (cC (uN r f t z) m) (r ((z (fN (uN r f t z) m 0)).toNat*2)) (r ((z (fN (uN r f t z) m 0)).toNat*2+1))) (bo _ _ (bR (bR (aW _) h23) h57)) (aP (aP (ai _ _) QF (fun x hx=>b7 hx lb2)) US (fun x hx=>b7 hx la)) (aj _ _) ?_;clear la lb2 h23 h57 hinc;generalize cC (uN r f t z) m=e14;refine Tr.ak rfl (Tr.ae (fun q=>by simp[aB,aQ] at q) (fun _=>Tr.ae (fun q1=>Tr.ag ⟨?_,rfl⟩) (fun q1=>Tr.ae (fun q2=>Tr.ag ⟨?_,rfl⟩) (fun q2=>Tr.ae (fun q3=>Tr.ag ⟨?_,rfl⟩) (fun q3=>Tr.ae (fun q4=>Tr.ag ⟨?_,rfl⟩) (fun q4=>Tr.ae (fun q5=>Tr.ag ⟨?_,rfl⟩) (fun q5=>Tr.ak ⟨rfl,rfl⟩ (Tr.ae (fun q=>by cases q) (fun _=>Tr.ak rfl (Tr.ak ⟨rfl,rfl⟩ ?_))))))))));all_goals rw[bw] at q1
 · have q1:f < -2000:=of_decide_eq_true q1;rw[if_pos (.inl (.inl q1))];rfl
 all_goals have q1:¬ f < -2000:=of_decide_eq_false q1
 all_goals rw[bw] at q2
 · have q2:2000<f:=of_decide_eq_true q2;rw[if_pos (.inl (.inr (.inl q2)))];rfl
 all_goals have q2:¬ 2000<f:=of_decide_eq_false q2
 all_goals rw[bw] at q3
 · have q3:t < -2000:=of_decide_eq_true q3;rw[if_pos (.inl (.inr (.inr (.inl q3))))];rfl
 all_goals have q3:¬ t < -2000:=of_decide_eq_false q3
 all_goals rw[bw] at q4
 · have q4:2000<t:=of_decide_eq_true q4;rw[if_pos (.inl (.inr (.inr (.inr q4))))];rfl
 all_goals have q4:¬ 2000<t:=of_decide_eq_false q4
 all_goals rw[aQ] at q5
 · have q5:(m:Int)=0:=by simpa using q5
   rw[if_pos (.inr (by omega))];rfl
 have q5:¬ (m:Int)=0:=by simpa using q5
 rw[if_neg (by omega),if_neg (by decide)];refine Tr.ae (fun q6=>Tr.ag ⟨?_,rfl⟩) (fun q6=>?_)
 · rw[if_pos (.inl q6)];rfl
 · have e:bh .i64 (bN .i64 t f) (Int.ofNat 1)=t-f+1:=by
    rw[rJ (by omega) (by omega),Fm]<;>simp only[Int.ofNat_eq_natCast]<;>omega
   rw[e];refine Tr.ae (fun q7=>Tr.ag ⟨?_,rfl⟩) (fun q7=>Tr.ag ⟨?_,rfl⟩);all_goals rw[bf] at q7
   · have q7:=of_decide_eq_true q7;rw[if_pos (.inr q7)];rfl
   · have q7:=of_decide_eq_false q7;rw[if_neg (fun h=>h.elim (fun h=>by rw[h] at q6;cases q6) q7)];rfl
theorem Qq (hb:lb≤1000) (h0:dg dr lc zc lb zb=0) (hm:m≤1000):cd (n+5) (.fn 28) [bn dr lc zc lb zb,pW f t m z] H=some (.int .i64 (x5 lc (dx lc (fun c=>cH zb c lb) (bK dr lc zc)) f t m z),H):=by
 cases hbad:cC (uO lc z) m with
 | false=>exact QU n dr lc zc lb zb H f t m z hb h0 hm hbad
 | true =>
   rw[QT n dr lc zc lb zb H f t m z hb h0 hm hbad];unfold x5;rw[hbad];split<;>rfl
end
end Go.Eng
end
section
namespace Go.Eng
open Go.Proofs Go.Eng.Gall Go.Eng.Q
theorem tc (L:List Nat) (j:Nat):az (lj L) j=((L.getD j 0:Nat):Int):=by
 rw[qE];unfold lj;rw[List.getD_eq_getElem?_getD,List.getElem?_map,List.getD_eq_getElem?_getD];cases L[j]?<;>rfl
theorem lD {z:Nat→Int} {m i:Nat} (h:i<(lW z m).length):(lW z m)[i]=(z i).toNat:=by
 simp[lW]
theorem eZ (z:Nat→Int) (m:Nat):(lW z m).length=m:=by unfold lW;simp
theorem zQ (z:Nat→Int) {m i:Nat} (h:i≤m):(lW z m).take i=lW z i:=by
 refine List.ext_getElem (by rw[List.length_take,eZ,eZ];omega) (fun j a b=>?_);rw[List.getElem_take,lD,lD]
theorem M7 (L:List Nat):lW (az (lj L)) L.length=L:=by
 refine List.ext_getElem (eZ _ _) (fun j a b=>?_);rw[lD,tc,Int.toNat_natCast,List.getD_eq_getElem?_getD,List.getElem?_eq_getElem b];rfl
section
variable {dr:Int} {lc:Nat} {zc:Nat→Int} {lb:Nat} {zb:Nat→Int}
theorem FL (h0:dg dr lc zc lb zb=0) {m:Nat} {z:Nat→Int}:yg lc (bK dr lc zc) lb zb m z=0↔x8 z lc m=true∧lW z m ∈ ro lc (okW (bK dr lc zc) (fR lb zb)) lc:=by
 obtain ⟨h1,h2,h3,h4,h5,h6⟩:=kg h0;have hb:∀ c,c<lc→cH zb c lb<2 ^ lc:=fun c _=>qd zb c lc lb fun i hi=>(h5 i hi).1;rw[show fR lb zb=bI (fun c=>cH zb c lb) from rfl,kI h1.2 hb,Og];constructor
 · rintro ⟨hp,hs,hb2⟩;obtain ⟨p1,p2⟩:=gd.1 hp;have hn:=qN hp m (Nat.le_refl m);refine ⟨hp,by rw[eZ,p1],hn,fun x hx=>?_,fun i hi=>?_⟩
   · obtain ⟨i,hi,rfl⟩:=jN.1 hx;have:=(p2 i hi).1;omega
   · have hi':i<m:=by rwa [eZ] at hi
     have hr:=(p2 i hi').1;rw[lD,zQ _ (by omega)];refine ⟨fun a ha=>?_,?_⟩
     · have han:a<lc:=by
        refine Nat.lt_of_not_le fun hge=>?_;rw[Nat.testBit_lt_two_pow (Nat.lt_of_lt_of_le (hb _ (by omega)) (Nat.pow_le_pow_right (by omega) hge))] at ha;cases ha
       obtain ⟨j,hj,hz⟩:=G9 hp han;rcases Nat.lt_trichotomy j i with q | q | q
       · exact jN.2 ⟨j,q,by rw[hz];rfl⟩
       · subst q;have:=DD h0 (a:Int);rw[pJ h5] at this;rw[hz] at ha;have ha:(cH zb a lb).testBit a=true:=ha;rw[ha] at this;cases this
       · have:=hb2 j hj i q;rw[hz,show z i=((z i).toNat:Int) by omega,pJ h5,ha] at this;cases this
     · have:=hs i hi';unfold vo at this;rw[Bool.and_eq_true,decide_eq_true_iff,decide_eq_true_iff] at this;exact this
 · rintro ⟨hp,h⟩;obtain ⟨p1,p2⟩:=gd.1 hp;obtain ⟨r1,r2,r3,r4⟩:=h;refine ⟨hp,fun j hj=>?_,fun i hi j hj=>?_⟩
   · have:=(r4 j (by rw[eZ];exact hj)).2;rw[lD] at this;unfold vo;rw[Bool.and_eq_true,decide_eq_true_iff,decide_eq_true_iff];exact this
   · have hi1:=(p2 i hi).1;have hj1:=(p2 j (by omega)).1;cases e:pI lb zb (z i) (z j) with
     | false=>rfl
     | true =>
       exfalso;rw[show z i=((z i).toNat:Int) by omega,show z j=((z j).toNat:Int) by omega,pJ h5] at e;have:=(r4 j (by rw[eZ];omega)).1;rw[lD,zQ _ (by omega)] at this;obtain ⟨k,hk,hz⟩:=jN.1 (this _ e);have h3:=(p2 k (by omega)).1;exact (p2 i hi).2 k (by omega) (by omega)
theorem Pt (h0:dg dr lc zc lb zb=0) {L:List Nat} (hL:L ∈ ro lc (okW (bK dr lc zc) (fR lb zb)) lc):yg lc (bK dr lc zc) lb zb lc (az (lj L))=0:=by
 obtain ⟨h1,h2,h3⟩:=j0 hL;refine (FL h0).2 ⟨gd.2 ⟨rfl,fun i hi=>?_⟩,by rw[← h1,M7,h1];exact hL⟩;have hi':i<L.length:=by omega
 have hg:∀ j,(hj:j<L.length)→L.getD j 0=L[j]:=fun j hj=>by rw[List.getD_eq_getElem?_getD,List.getElem?_eq_getElem hj];rfl
 rw[tc,hg i hi'];have:=h3 _ (List.getElem_mem hi');refine ⟨by omega,fun j hj=>?_⟩;rw[tc,hg j (by omega)];have:=(List.pairwise_iff_getElem.1 h2) j i (by omega) hi' hj;have:L[j]≠L[i]:=this;omega
theorem Ka (c:Nat) (hc:c<lc) (b:Nat→Nat) (W:Nat→Int):dx lc b W (c*2)=fy lc b W lc c∧dx lc b W (c*2+1)=-fw lc b W lc c:=by
 unfold dx;rw[if_pos (by omega),if_pos (by omega),if_pos (by omega),if_neg (by omega),show c*2 / 2=c by omega,show (c*2+1) / 2=c by omega];exact ⟨rfl,rfl⟩
theorem Pa (h0:dg dr lc zc lb zb=0) {L:List Nat} (hL:L ∈ ro lc (okW (bK dr lc zc) (fR lb zb)) lc) (f t:Int) (m:Nat) (z:Nat→Int):x5 lc (dx lc (fun c=>cH zb c lb) (bK dr lc zc)) f t m z≠0:=by
 obtain ⟨h1,h2,h3,h4,h5,h6⟩:=kg h0;have hb:∀ c,c<lc→cH zb c lb<2 ^ lc:=fun c _=>qd zb c lc lb fun i hi=>(h5 i hi).1;have hR:=(kI h1.2 hb).1 hL;unfold x5;split
 · decide
 rename_i k1;split
 · decide
 rename_i k2;split
 · decide
 rename_i k3;exfalso;have k2:cC (uO lc z) m=false:=by simpa using k2
 have hinc:=wE (iE k2);have hk3:¬ cC (uN (dx lc (fun c=>cH zb c lb) (bK dr lc zc)) f t z) m=true∧¬ (m:Int)≤t-f+1:=⟨fun h=>k3 (.inl h),fun h=>k3 (.inr h)⟩
 have h14:=iE (show cC (uN (dx lc (fun c=>cH zb c lb) (bK dr lc zc)) f t z) m=false by simpa using hk3.1);have hin:∀ j,j<m→f≤(L.idxOf (z j).toNat:Int)∧(L.idxOf (z j).toNat:Int)≤t:=fun j hj=>by
  have hz:=hinc j hj;have hc:(z j).toNat<lc:=by omega
  have hm:=gK hR.2.1 hR.1 hR.2.2.1 hc;have:=h14 j hj;unfold uN at this;rw[Bool.or_eq_false_iff,decide_eq_false_iff_not,decide_eq_false_iff_not,(Ka _ hc _ _).1,(Ka _ hc _ _).2] at this;have a1:=Dg (b:=fun c=>cH zb c lb) (W:=bK dr lc zc) hR lc _ hm;have a2:=CZ (b:=fun c=>cH zb c lb) (W:=bK dr lc zc) hR lc _ hm;omega
 have hnd:((List.range m).map fun j=>(L.idxOf (z j).toNat:Int)).Nodup:=by
  rw[List.Nodup,List.pairwise_map];refine (List.Pairwise.and_mem.1 List.nodup_range).imp ?_;rintro i j ⟨hi,hj,hne⟩ he;rw[List.mem_range] at hi hj;have zi:=hinc i hi;have zj:=hinc j hj;obtain ⟨i1,e1⟩:=gp (gK hR.2.1 hR.1 hR.2.2.1 (show (z i).toNat<lc by omega));obtain ⟨i2,e2⟩:=gp (gK hR.2.1 hR.1 hR.2.2.1 (show (z j).toNat<lc by omega));have he:L.idxOf (z i).toNat=L.idxOf (z j).toNat:=by omega
  have hz:(z i).toNat=(z j).toNat:=by rw[← e1,← e2];congr 1
  rcases Nat.lt_or_gt_of_ne hne with q | q
  · have:=zj.2.2 i q;omega
  · have:=zi.2.2 j q;omega
 have:=C8 hnd (F:=f) (T:=t) (fun y hy=>by
  obtain ⟨j,hj,rfl⟩:=List.mem_map.1 hy;exact hin j (List.mem_range.1 hj)) (fun h=>by
   have:=congrArg List.length h;simp at this;omega)
 rw[List.length_map,List.length_range] at this;omega
theorem C7 (q:Nat→Int) (F T:Int):∀ j,(dB q F T j).Pairwise (· < ·)
 | 0=>List.Pairwise.nil
 | j + 1=>by
   have ih:=C7 q F T j;unfold dB;split
   · rw[List.pairwise_append];refine ⟨ih,List.pairwise_singleton _ _,fun a ha b hb=>?_⟩;rw[List.mem_singleton] at hb;obtain ⟨k,h1,_,h3⟩:=(nb q F T a j).1 ha;omega
   · exact ih
theorem G6 (h0:dg dr lc zc lb zb=0) {f t:Int} (h:xv dr lc zc lb zb=some (f,t)):x5 lc (dx lc (fun c=>cH zb c lb) (bK dr lc zc)) f t (dB (qB (dx lc (fun c=>cH zb c lb) (bK dr lc zc))) f t lc).length (az (dB (qB (dx lc (fun c=>cH zb c lb) (bK dr lc zc))) f t lc))=0:=by
 obtain ⟨h1,h2,h3,h4,h5,h6⟩:=kg h0;unfold xv at h;have hb:∀ j,j<2*lc→-1500≤qB (dx lc (fun c=>cH zb c lb) (bK dr lc zc)) j∧qB (dx lc (fun c=>cH zb c lb) (bK dr lc zc)) j≤1500:=fun j hj=>by
  rw[rp _ (by omega)];have:=qc (K:=1200) (by omega) (fun i=>by
   unfold bK;by_cases h:i<2*lc
   · rw[if_pos h];obtain ⟨v1,v2,v3,v4,v5,v6⟩:=HR h4 (show i / 2<lc by omega);have q1:=m5 (a:=zc (i / 2*4+3)-zc (i / 2*4+1)) h3.1 (K:=1000) (by omega) (by omega) (by decide);have q2:=m5 (a:=zc (i / 2*4)-zc (i / 2*4+2)) h3.1 (K:=1000) (by omega) (by omega) (by decide);split<;>omega
   · rw[if_neg h];omega) (Cy lc (fun c=>cH zb c lb) (bK dr lc zc)) (j / 2) (by omega)
  rcases Nat.mod_two_eq_zero_or_one j with e | e
  · rw[show 2*(j / 2)=j by omega] at this;omega
  · rw[show 2*(j / 2)+1=j by omega] at this;omega
 have hf:iX (fun x y=>∃ j k,j<lc∧k<lc∧x=qB (dx lc (fun c=>cH zb c lb) (bK dr lc zc)) (2*j)∧y=qB (dx lc (fun c=>cH zb c lb) (bK dr lc zc)) (2*k+1)∧rH (qB (dx lc (fun c=>cH zb c lb) (bK dr lc zc))) lc x y=true) (kD (qB (dx lc (fun c=>cH zb c lb) (bK dr lc zc))) lc lc):=by
  rcases pG (qB (dx lc (fun c=>cH zb c lb) (bK dr lc zc))) lc lc with h1 | ⟨f,t,h1,h2⟩
  · exact h1
  · rw[h1];exact h2
 rw[h] at hf;obtain ⟨⟨j,k,hj,hk,e1,e2,hov⟩,_⟩:=hf;have b1:=hb (2*j) (by omega);have b2:=hb (2*k+1) (by omega);rw[← e1] at b1;rw[← e2] at b2;have hm:=fun x=>nb (qB (dx lc (fun c=>cH zb c lb) (bK dr lc zc))) f t x lc;have hi:=C7 (qB (dx lc (fun c=>cH zb c lb) (bK dr lc zc))) f t lc;have hq:∀ c,c<lc→qB (dx lc (fun c=>cH zb c lb) (bK dr lc zc)) (2*c)=dx lc (fun c=>cH zb c lb) (bK dr lc zc) (c*2)∧qB (dx lc (fun c=>cH zb c lb) (bK dr lc zc)) (2*c+1)=dx lc (fun c=>cH zb c lb) (bK dr lc zc) (c*2+1):=fun c hc=>by
  rw[rp _ (by omega),rp _ (by omega),Nat.mul_comm];exact ⟨rfl,rfl⟩
 unfold rH at hov;rw[Bool.and_eq_true,decide_eq_true_iff,decide_eq_true_iff] at hov;generalize dB (qB (dx lc (fun c=>cH zb c lb) (bK dr lc zc))) f t lc=M at *;have hel:∀ j,(hj:j<M.length)→∃ c,c<lc∧az M j=(c:Int)∧vQ (qB (dx lc (fun c=>cH zb c lb) (bK dr lc zc))) f t c=true:=fun j hj=>by
  obtain ⟨c,c1,c2,c3⟩:=(hm _).1 (List.getElem_mem hj);exact ⟨c,c1,by rw[mD M j hj];exact c3,c2⟩
 unfold x5;rw[if_neg (by omega),if_neg,if_neg]
 · rintro (h | h)
   · obtain ⟨j,hj,hx⟩:=(cQ _ _).1 h;obtain ⟨c,c1,c2,c3⟩:=hel j hj;unfold uN at hx;unfold vQ at c3;rw[Bool.and_eq_true,decide_eq_true_iff,decide_eq_true_iff,(hq c c1).1,(hq c c1).2] at c3;rw[c2,Int.toNat_natCast,Bool.or_eq_true,decide_eq_true_iff,decide_eq_true_iff] at hx;omega
   · omega
 · intro h;obtain ⟨j,hj,hx⟩:=(cQ _ _).1 h;obtain ⟨c,c1,c2,c3⟩:=hel j hj;unfold uO BH at hx;rw[c2,Bool.or_eq_true,decide_eq_true_iff,decide_eq_true_iff] at hx;rcases hx with hx | hx
   · split at hx
     · omega
     · have:=(List.pairwise_iff_getElem.1 hi) (j-1) j (by omega) hj (by omega);rw[← mD M j hj,← mD M (j-1) (by omega),c2] at this;omega
   · omega
end
end Go.Eng
end
section
namespace Go.Eng
open Go.Proofs Go.Eng.Gall
noncomputable def Bt (mo:Nat) (zo:Nat→Int) (lc:Nat) (y:Nat→Int) (r:Bool) (i:Int):aF:=[(1,aK mo zo false),(7,aK lc y false),(15,.bool r),(16,.int .i64 i)]
noncomputable def xi (dr:Int) (lc:Nat) (zc:Nat→Int) (lb:Nat) (zb:Nat→Int) (f t:Int) (m:Nat) (z:Nat→Int):bF:=⟨false,[(0,.row (.G [.int .i64 dr,slA 4 lc zc,slA 2 lb zb])),(0,.row (.G [.int .i64 f,.int .i64 t,aK m z false])),(0,.row (.G [.int .i64 (Int.ofNat 0),.int .i64 (Int.ofNat 0),.nils]))]⟩
theorem Ys (n:Nat) (dr:Int) (lc:Nat) (zc:Nat→Int) (lb:Nat) (zb:Nat→Int) (H:ab) (mo:Nat) (zo:Nat→Int) (f t:Int) (m:Nat) (z y:Nat→Int) (k c:Int) (E:List AV→Int) (C39 C40:List AV→Prop) (p q r:Bool) (w:Int):bj Tryd.prog (cd (n+2)) 100000 6 Tryd.f6 (KtG.kt 6) (il (tN (tX (tV (tV (tX (tX (tX (tX (lX aD 15 IM) 23 [bn dr lc zc lb zb] (.int .i64 (Int.ofNat 0))) 38 [bn dr lc zc lb zb] (.tup [aK lc y false,.int .i64 (Int.ofNat 0)])) 25 [bn dr lc zc lb zb] (.tup [.agg (.G [.int .i64 (Int.ofNat 0),.int .i64 (Int.ofNat 0),.nils]),.int .i64 (Int.ofNat 5)])) 34 [bn dr lc zc lb zb] (.tup [.int .i64 k,.int .i64 (Int.ofNat 0)])) 39 C39 (fun x=>.int .i64 (E x))) 40 C40 (fun x=>.int .i64 (E x))) 27 [bn dr lc zc lb zb,pW f t m z] (.int .i64 c)) 28) n 2) (cr aL 0 (Bt mo zo lc y r (Int.ofNat 0)) (xi dr lc zc lb zb f t m z::H) (.ite p (.ok (.ret,[(6,.bool q,none)],xi dr lc zc lb zb f t m z::H)) (.ok (.normal,hints (Bt mo zo lc y r w++[(103,.bool false)]),xi dr lc zc lb zb f t m z::H)))) aJ [(bn dr lc zc lb zb,none),(aK mo zo false,none),(pW f t m z,none)] H =
 (fun (Z0:Row)=>((fun (Z1:List AV)=>((fun (Z2:List AV)=>((fun (Z3:bF)=>Tr.ite (bD (Int.ofNat 15) (Int.ofNat lc)) (Tr.reqP True (Tr.ok ((AV.bool true,none),H))) (Tr.ite (bx (bD (Int.ofNat 60) (Int.ofNat lb))) (Tr.reqP ([bn dr lc zc lb zb]=[bn dr lc zc lb zb]) (Tr.ite (bx (cw (Int.ofNat 0) (Int.ofNat 0))) (Tr.reqP True (Tr.ok ((AV.bool true,none),H))) (Tr.ite (bD (Int.ofNat 20) (Int.ofNat mo)) (Tr.reqP True (Tr.ok ((AV.bool true,none),H))) (Tr.ite (bD (Int.ofNat 20) (Int.ofNat m)) (Tr.reqP True (Tr.ok ((AV.bool true,none),H))) (Tr.reqP ([bn dr lc zc lb zb]=[bn dr lc zc lb zb]) (Tr.reqP ([bn dr lc zc lb zb]=[bn dr lc zc lb zb]) (Tr.reqP ([bn dr lc zc lb zb]=[bn dr lc zc lb zb]) (Tr.reqP (C39 Z1) (Tr.reqP ([bn dr lc zc lb zb,AV.agg Z0]=[bn dr lc zc lb zb,AV.agg Z0]) (Tr.ite (bx (cw (Int.ofNat 0) (Int.ofNat 0))) (Tr.ok ((AV.bool false,some 1),H)) (Tr.ite (bD k (Int.ofNat 0)) (Tr.ok ((AV.bool false,some 1),H)) (Tr.ite (cw (Int.ofNat 0) (Int.ofNat 0)) (Tr.ite (bx (cw (Int.ofNat 5) (Int.ofNat 5))) (Tr.ok ((AV.bool false,some 1),H)) (Tr.ite (bD k (Int.ofNat 1)) (Tr.ok ((AV.bool false,some 1),H)) (Tr.reqP (C39 Z2) (Tr.ite (bx (cw (E Z2) (Int.ofNat 0))) (Tr.ok ((AV.bool false,some 1),H)) (Tr.reqP (C40 Z2) (Tr.ite (bx (cw (E Z2) (Int.ofNat 0))) (Tr.ok ((AV.bool false,some 1),H)) (Tr.ite (cw c (Int.ofNat 0)) (Tr.ok ((AV.bool false,some 1),H)) (Tr.reqP (C40 Z1) (Tr.ite (bx (Qs (cw (E Z1) (Int.ofNat 0)) (cw (E Z1) (Int.ofNat 0)))) (Tr.ok ((AV.bool false,some 1),H)) (Tr.reqP ([(1,aK mo zo false),(7,aK lc y false),(15,AV.bool (cw (E Z1) (Int.ofNat 0))),(16,iI 0)]=[(1,aK mo zo false),(7,aK lc y false),(15,AV.bool r),(16,iI 0)]∧Z3::H=Z3::H) (Tr.ite p (Tr.ok ((AV.bool q,none),H)) (Tr.reqP True (Tr.ok ((AV.bool true,none),H)))))))))))))) (Tr.ite (cw (Int.ofNat 0) (Int.ofNat 13)) (Tr.ite (cw (Int.ofNat lc) (Int.ofNat 0)) (Tr.ite (cw (Int.ofNat 5) (Int.ofNat 0)) (Tr.ite (cw k (Int.ofNat 0)) (Tr.reqP ([bn dr lc zc lb zb,AV.agg (Row.G [iI 0,iI 0,AV.nils])]=[bn dr lc zc lb zb,AV.agg Z0]) (Tr.ite (cw c (Int.ofNat 0)) Tr.bad (Tr.ok ((AV.bool false,some 1),H)))) (Tr.ok ((AV.bool false,some 1),H))) (Tr.ok ((AV.bool false,some 1),H))) (Tr.ok ((AV.bool false,some 1),H))) (Tr.ok ((AV.bool false,some 1),H))))))))))))))) (Tr.reqP True (Tr.ok ((AV.bool true,none),H))))) (bA [(0,dh dr lc zc lb zb),(0,an.row Z0),(0,an.row (Row.G [iI 0,iI 0,AV.nils]))]))) [bn dr lc zc lb zb,aK lc y false])) [bn dr lc zc lb zb,aK mo zo false])) (Row.G [AV.int .i64 f,AV.int .i64 t,aK m z false]):=by kernel_rfl
theorem Yt (n:Nat) (dr:Int) (lc:Nat) (zc:Nat→Int) (lb:Nat) (zb:Nat→Int) (H:ab) (mo:Nat) (zo:Nat→Int) (f t:Int) (m:Nat) (z:Nat→Int) (f2 t2:Int) (m2:Nat) (z2:Nat→Int) (k e Qq:Int) (E:List AV→Int) (C27:List AV→Prop):bj Tryd.prog (cd (n+2)) 100000 6 Tryd.f6 (KtG.kt 6) (il (tX (tN (tX (tV (tX (tX (tX (tX (lX aD 15 IM) 23 [bn dr lc zc lb zb] (.int .i64 (Int.ofNat 0))) 38 [bn dr lc zc lb zb] (.tup [.nils,.int .i64 (Int.ofNat 13)])) 25 [bn dr lc zc lb zb] (.tup [pW f2 t2 m2 z2,.int .i64 (Int.ofNat 0)])) 34 [bn dr lc zc lb zb] (.tup [.int .i64 k,.int .i64 (Int.ofNat 0)])) 27 C27 (fun x=>.int .i64 (E x))) 39 [bn dr lc zc lb zb,aK mo zo false] (.int .i64 e)) 40) 28 [bn dr lc zc lb zb,pW f2 t2 m2 z2] (.int .i64 Qq)) n 2) aL aJ [(bn dr lc zc lb zb,none),(aK mo zo false,none),(pW f t m z,none)] H =
 (fun (Z0:List AV)=>Tr.ite (bD (Int.ofNat 15) (Int.ofNat lc)) (Tr.reqP True (Tr.ok ((AV.bool true,none),H))) (Tr.ite (bx (bD (Int.ofNat 60) (Int.ofNat lb))) (Tr.reqP ([bn dr lc zc lb zb]=[bn dr lc zc lb zb]) (Tr.ite (bx (cw (Int.ofNat 0) (Int.ofNat 0))) (Tr.reqP True (Tr.ok ((AV.bool true,none),H))) (Tr.ite (bD (Int.ofNat 20) (Int.ofNat mo)) (Tr.reqP True (Tr.ok ((AV.bool true,none),H))) (Tr.ite (bD (Int.ofNat 20) (Int.ofNat m)) (Tr.reqP True (Tr.ok ((AV.bool true,none),H))) (Tr.reqP ([bn dr lc zc lb zb]=[bn dr lc zc lb zb]) (Tr.reqP ([bn dr lc zc lb zb]=[bn dr lc zc lb zb]) (Tr.reqP ([bn dr lc zc lb zb]=[bn dr lc zc lb zb]) (Tr.reqP ([bn dr lc zc lb zb,aK mo zo false]=[bn dr lc zc lb zb,aK mo zo false]) (Tr.reqP (C27 [bn dr lc zc lb zb,AV.agg (Row.G [AV.int .i64 f,AV.int .i64 t,aK m z false])]) (Tr.ite (bx (cw (Int.ofNat 0) (Int.ofNat 0))) (Tr.ok ((AV.bool false,some 1),H)) (Tr.ite (bD k (Int.ofNat 0)) (Tr.ok ((AV.bool false,some 1),H)) (Tr.ite (cw (Int.ofNat 13) (Int.ofNat 0)) (Tr.ite (bx (cw (Int.ofNat 0) (Int.ofNat 5))) (Tr.ok ((AV.bool false,some 1),H)) (Tr.ite (bx (cw (Int.ofNat m2) (Int.ofNat 0))) (Tr.ok ((AV.bool false,some 1),H)) (Tr.ite (bD k (Int.ofNat 1)) (Tr.ok ((AV.bool false,some 1),H)) (Tr.reqP ([bn dr lc zc lb zb,AV.nils]=[bn dr lc zc lb zb,aK mo zo false]) (Tr.ite (bx (cw e (Int.ofNat 0))) (Tr.ok ((AV.bool false,some 1),H)) Tr.bad))))) (Tr.ite (cw (Int.ofNat 13) (Int.ofNat 13)) (Tr.ite (cw (Int.ofNat 0) (Int.ofNat 0)) (Tr.ite (cw k (Int.ofNat 0)) (Tr.reqP (C27 Z0) (Tr.ite (cw (E Z0) (Int.ofNat 0)) (Tr.reqP (Z0=Z0) (Tr.ite (cw Qq (Int.ofNat 0)) (Tr.ite (bx (cw e (Int.ofNat 0))) (Tr.reqP True (Tr.ok ((AV.bool true,none),H))) (Tr.ok ((AV.bool false,some 1),H))) (Tr.ok ((AV.bool false,some 1),H)))) (Tr.ok ((AV.bool false,some 1),H)))) (Tr.ok ((AV.bool false,some 1),H))) (Tr.ok ((AV.bool false,some 1),H))) (Tr.ok ((AV.bool false,some 1),H))))))))))))))) (Tr.reqP True (Tr.ok ((AV.bool true,none),H))))) [bn dr lc zc lb zb,AV.agg (Row.G [AV.int .i64 f2,AV.int .i64 t2,aK m2 z2 false])]:=by kernel_rfl
theorem Yu (n:Nat) (dr:Int) (lc:Nat) (zc:Nat→Int) (lb:Nat) (zb:Nat→Int) (H:ab) (mo:Nat) (zo:Nat→Int) (f t:Int) (m:Nat) (z:Nat→Int) (e:Int) (C:List AV→Prop):bj Tryd.prog (cd (n+2)) 100000 6 Tryd.f6 (KtG.kt 6) (il (tN (lX (lX aD 15 IM) 23 (fun x=>some (C x,.int .i64 e))) 38) n 2) aL aJ [(bn dr lc zc lb zb,none),(aK mo zo false,none),(pW f t m z,none)] H =
 Tr.ite (bD (Int.ofNat 15) (Int.ofNat lc)) (Tr.reqP True (Tr.ok ((AV.bool true,none),H))) (Tr.ite (bx (bD (Int.ofNat 60) (Int.ofNat lb))) (Tr.reqP (C [bn dr lc zc lb zb]) (Tr.ite (bx (cw e (Int.ofNat 0))) (Tr.reqP True (Tr.ok ((AV.bool true,none),H))) (Tr.ite (bD (Int.ofNat 20) (Int.ofNat mo)) (Tr.reqP True (Tr.ok ((AV.bool true,none),H))) (Tr.ite (bD (Int.ofNat 20) (Int.ofNat m)) (Tr.reqP True (Tr.ok ((AV.bool true,none),H))) Tr.bad)))) (Tr.reqP True (Tr.ok ((AV.bool true,none),H)))):=by kernel_rfl
theorem t6 (n:Nat) (dr:Int) (lc:Nat) (zc:Nat→Int) (lb:Nat) (zb:Nat→Int) (H:ab) (mo:Nat) (zo:Nat→Int) (f t:Int) (m:Nat) (z y:Nat→Int) (r:Bool) (i:Int):aH (bL n 6 160) (il (lX aD 15 IM) n 0) aL aJ (part Tryd.f6 [1,1,1,1,1,1,1,0,1,0,1,1,1,0,1,0,0]) (hints (Bt mo zo lc y r i)) (xi dr lc zc lb zb f t m z::H) =
 (fun (Z0:bF)=>((fun (Z1:aS)=>Tr.ite (bD i (Int.ofNat lc)) (Tr.ite r (Tr.req (cj i mo) (Tr.req (bW (aq 0 i 1) mo) (Tr.req (cj i lc) (Tr.req (bW (aq 0 i 1) lc) (Tr.ite (bD (zo (aq 0 i 1)) (y (aq 0 i 1))) (Tr.ok (Ex.ret,[(6,AV.bool false,some 1)],Z0::H)) (Tr.req (cj i mo) (Tr.req (bW (aq 0 i 1) mo) (Tr.req (cj i lc) (Tr.req (bW (aq 0 i 1) lc) (Tr.ite (bD (y (aq 0 i 1)) (zo (aq 0 i 1))) (Tr.reqP True (Tr.ok (Ex.ret,[(6,AV.bool true,none)],Z0::H))) (Tr.ok (Ex.normal,[(1,aK mo zo false,none),(7,aK lc y false,none),(15,AV.bool r,none),(16,AV.int .i64 (bh .i64 i (Int.ofNat 1)),none)],Z0::H)))))))))))) (Tr.ok (Ex.exit 0,Z1,Z0::H))) (Tr.ok (Ex.exit 0,Z1,Z0::H))) [(1,aK mo zo false,none),(7,aK lc y false,none),(15,AV.bool r,none),(16,AV.int .i64 i,none),(103,AV.bool false,some 1)])) (bA [(0,dh dr lc zc lb zb),(0,an.row (Row.G [AV.int .i64 f,AV.int .i64 t,aK m z false])),(0,an.row (Row.G [iI 0,iI 0,AV.nils]))]):=by kernel_rfl
end Go.Eng
end
