/- Gall: open, without colours; CheckOrder. -/
import Derived.Test.YtgphpjdchnfjlaaDoorV3Garx5
set_option linter.unusedVariables false
set_option linter.unusedSimpArgs false
set_option maxRecDepth 100000
section
namespace Go.Eng
open Go.Proofs Go.Eng.Gall
theorem NT:∀ b,(0,b) ∈ aE (aV Tryd.f39)→b=.loop (part Tryd.f39 [1,1,1,1,0,1,0,0]):=dz (by kernel_rfl)
theorem QG:∀ b,(2,b) ∈ aE (aV Tryd.f39)→b=.loop (part Tryd.f39 [1,1,1,1,1,1,0,1,0,0]):=dz (by kernel_rfl)
theorem QH:∀ b,(4,b) ∈ aE (aV Tryd.f39)→b=.loop (part Tryd.f39 [1,1,1,1,1,1,1,1,0,1,0,0]):=dz (by kernel_rfl)
section
variable (n:Nat) (dr:Int) (lc:Nat) (zc:Nat→Int) (lb:Nat) (zb:Nat→Int) (H:ab)
theorem D8 (hb:lb≤1000) (h0:dg dr lc zc lb zb=0):cd (n+14) (.fn 49) [bn dr lc zc lb zb,.nils] H=some (.tup [NI dr lc zc lb zb,.int .i64 (Int.ofNat 0)],H):=by
 obtain ⟨h1,h2,h3,h4,h5,_⟩:=kg h0;refine br (n:=n+13) Tryd.func49 rfl rfl rfl (TO (n+11) dr lc zc lb zb (bK dr lc zc) (fR lb zb) H (fun x=>x=[bn dr lc zc lb zb])) (mA _ (n+11) 2 (fun q=>Gm (bR (aW _) (fun H=>by
  rw[show n+11+q=n+q+11 by omega];have:=UU (n+q) dr lc zc lb zb H (by omega) hb;rw[h0] at this;exact this)) (fun A H hA=>by
   subst hA;rw[show n+11+q=n+q+4+7 by omega];exact UX (n+q+4) dr lc zc lb zb H h1.2 hb h3 h4 h5))) (ai _ _) (aj _ _) ?_
 refine Tr.ak rfl (Tr.ae (fun q=>by simp[aB,aQ] at q) (fun q=>Tr.ak rfl (Tr.ag ⟨rfl,rfl⟩)))
variable (W B:Nat→Int)
theorem UZ (c p:Int) (hc:0≤c∧c<10):cd (n+1) (.fn 71) [shV dr lc zc lb zb W B,.int .i64 c,.int .i64 p] H=some (.bool (vo W c p),H):=by
 have T:=Yv n dr lc zc lb zb W B H c p;have es:dC (aq 3 c 2) 3=2*c.toNat:=by rw[bG,dv];omega
 have es1:dC (ar (aq 3 c 2) 1) 3=2*c.toNat+1:=by rw[bG,aI,dv];omega
 rw[es,es1] at T;refine br (n:=n) Tryd.func71 rfl rfl rfl T (av n) (ai _ _) (aj _ _) ?_;refine Tr.aa wG (Tr.aa wG (Tr.aa wG (Tr.ae (fun q=>Tr.ag ⟨?_,rfl⟩) (fun q=>Tr.ag ⟨?_,rfl⟩))));all_goals rw[bf] at q
 all_goals unfold vo
 · rw[q,bf,Bool.true_and]
 · rw[q,Bool.false_and]
end
section
variable (n:Nat) (r:Row) (G:ab) (m:Nat) (z S:Nat→Int) (R:Row)
theorem RV (hm:m≤1000):exec (bL n 39 76) (.block 0 (.loop (part Tryd.f39 [1,1,1,1,0,1,0,0]))) (uR m z S R (Int.ofNat 0)) (⟨false,[(0,.row r)]⟩::G)=some (cond (cC (fun j=>!decide (S j=(j:Int))) m) (.ret,[(4,.int .i64 (Int.ofNat 15))],⟨false,[(0,.row r)]⟩::G) (.normal,uR m z S R (Int.ofNat m)++[(29,.bool false)],⟨false,[(0,.row r)]⟩::G)):=by
 refine eA (n:=n) (f:=39) (nt:=76) (c:=part Tryd.f39 [1,1,1,1,0,1,0,0]) 0 (fun j=>uR m z S R (j:Int)) (fun _=>⟨false,[(0,.row r)]⟩::G) m (fun j=>!decide (S j=(j:Int))) (fun _=>([(4,.int .i64 (Int.ofNat 15))],⟨false,[(0,.row r)]⟩::G)) (uR m z S R (Int.ofNat m)++[(29,.bool false)],⟨false,[(0,.row r)]⟩::G) (by omega) (fun j hj=>?_) ?_
 · have T:=PF n r G m z S R (j:Int);rw[qt,dJ (by omega)] at T;refine ay T (av n) (ai _ _) (aj _ _) ?_;refine Tr.ae (fun h0=>?_) wJ;refine Tr.aa wG (Tr.aa wG (Tr.ae (fun q=>Tr.ag ?_) (fun q=>Tr.ag ?_)));all_goals rw[aB,aQ] at q
   · rw[if_pos (by simpa using q)];rfl
   · rw[if_neg (by simpa using q)];exact ⟨rfl,rfl⟩
 · obtain ⟨x,h1,rfl⟩:=ay (Q:=fun x=>x=(.exit 0,uR m z S R (Int.ofNat m)++[(29,.bool false)],⟨false,[(0,.row r)]⟩::G)) (PF n r G m z S R (Int.ofNat m)) (av n) (ai _ _) (aj _ _) (by
    refine Tr.ae wJ (fun h0=>Tr.ag rfl))
   exact h1
theorem RW (hm:m≤1000) (s:Int→Nat→Bool) (h71:∀ j,j<m→∀ H,cd n (.fn 71) [.ptrT none R 0,.int .i64 (z j),.int .i64 (j:Int)] H=some (.bool (s (z j) j),H)):exec (bL n 39 76) (.block 2 (.loop (part Tryd.f39 [1,1,1,1,1,1,0,1,0,0]))) (wP m z R (Int.ofNat 0)) (⟨false,[(0,.row r)]⟩::G)=some (cond (cC (fun j=>!s (z j) j) m) (.ret,[(4,.int .i64 (Int.ofNat 21))],⟨false,[(0,.row r)]⟩::G) (.normal,wP m z R (Int.ofNat m)++[(46,.bool false)],⟨false,[(0,.row r)]⟩::G)):=by
 refine eA (n:=n) (f:=39) (nt:=76) (c:=part Tryd.f39 [1,1,1,1,1,1,0,1,0,0]) 2 (fun j=>wP m z R (j:Int)) (fun _=>⟨false,[(0,.row r)]⟩::G) m (fun j=>!s (z j) j) (fun _=>([(4,.int .i64 (Int.ofNat 21))],⟨false,[(0,.row r)]⟩::G)) (wP m z R (Int.ofNat m)++[(46,.bool false)],⟨false,[(0,.row r)]⟩::G) (by omega) (fun j hj=>?_) ?_
 · have T:=Tm n r G m z R (j:Int) (z j) (s (z j) j);rw[qt,dJ (by omega)] at T;refine ay T (bo _ _ (bR (aW _) (h71 j hj))) (ai _ _) (aj _ _) ?_;refine Tr.ae (fun h0=>?_) wJ;refine Tr.aa wG (Tr.aa wG (Tr.ak rfl (Tr.ae (fun q=>Tr.ag ?_) (fun q=>Tr.ag ?_))));all_goals rw[aB] at q
   · rw[if_pos q];rfl
   · rw[if_neg (by rw[q];decide)];exact ⟨rfl,rfl⟩
 · obtain ⟨x,h1,rfl⟩:=ay (Q:=fun x=>x=(.exit 2,wP m z R (Int.ofNat m)++[(46,.bool false)],⟨false,[(0,.row r)]⟩::G)) (PG n r G m z R (Int.ofNat m)) (av n) (ai _ _) (aj _ _) (by
    refine Tr.ae wJ (fun h0=>Tr.ag rfl))
   exact h1
end
section
variable (n:Nat) (dr:Int) (lc:Nat) (zc:Nat→Int) (lb:Nat) (zb:Nat→Int) (W B:Nat→Int) (r:Row) (G:ab) (m:Nat) (z:Nat→Int)
theorem Jp {m:Nat} {z:Nat→Int} (hl:lc≤10) (hm:x8 z lc m=true) {j:Nat} (hj:j<m):sa .u64 (mask (lW z j):Int) (eh .u64 (Int.ofNat 1) (z j))=(mask (lW z (j+1)):Int):=by
 obtain ⟨h1,h2⟩:=gd.1 hm;have hc:=(h2 j hj).1;have hn:=qN hm j (by omega);have hlt:mask (lW z j)<2 ^ lc:=nj hn fun x hx=>by
  obtain ⟨i,hi,rfl⟩:=jN.1 hx;have:=(h2 i (by omega)).1;omega
 have hlt:mask (lW z j)<2 ^ 10:=Nat.lt_of_lt_of_le hlt (Nat.pow_le_pow_right (by omega) hl);have hno:(mask (lW z j)).testBit (z j).toNat=false:=by
  rw[cN hn];refine decide_eq_false fun hx=>?_;obtain ⟨i,hi,he⟩:=jN.1 hx;have:=(h2 i (by omega)).1;exact (h2 j hj).2 i hi (by omega)
 have h2p:2 ^ (z j).toNat≤2 ^ 9:=Nat.pow_le_pow_right (by omega) (by omega);rw[show z j=((z j).toNat:Int) by omega,B8 (by omega),Qx (by omega) (by omega),JE,mI,G5 hno]
theorem RX (hl:lc≤10) (hm:x8 z lc m=true):exec (bL n 39 76) (.block 4 (.loop (part Tryd.f39 [1,1,1,1,1,1,1,1,0,1,0,0]))) (yr m z (shR dr lc zc lb zb W B) (Int.ofNat 0) (Int.ofNat 0)) (⟨false,[(0,.row r)]⟩::G)=some (cond (cC (Kv B z) m) (.ret,[(4,.int .i64 (Int.ofNat 16))],⟨false,[(0,.row r)]⟩::G) (.normal,yr m z (shR dr lc zc lb zb W B) (mask (lW z m):Int) (Int.ofNat m)++[(59,.bool false)],⟨false,[(0,.row r)]⟩::G)):=by
 obtain ⟨h1,h2⟩:=gd.1 hm;refine eA (n:=n) (f:=39) (nt:=76) (c:=part Tryd.f39 [1,1,1,1,1,1,1,1,0,1,0,0]) 4 (fun j=>yr m z (shR dr lc zc lb zb W B) (mask (lW z j):Int) (j:Int)) (fun _=>⟨false,[(0,.row r)]⟩::G) m (Kv B z) (fun _=>([(4,.int .i64 (Int.ofNat 16))],⟨false,[(0,.row r)]⟩::G)) (yr m z (shR dr lc zc lb zb W B) (mask (lW z m):Int) (Int.ofNat m)++[(59,.bool false)],⟨false,[(0,.row r)]⟩::G) (by omega) (fun j hj=>?_) ?_
 · have hc:=(h2 j hj).1;have T:=PH n dr lc zc lb zb W B r G m z (mask (lW z j):Int) (j:Int);rw[qt,dJ (by omega),Jp lc hl hm hj,show dC (aq 23 (z j) 1) 23=(z j).toNat by rw[bG,dv];omega] at T;refine ay T (av n) (ai _ _) (aj _ _) ?_;refine Tr.ae (fun h0=>?_) wJ;refine Tr.aa wG (Tr.aa wG (Tr.aa wG (Tr.aa wG (Tr.ae (fun q=>Tr.ag ?_) (fun q=>Tr.aa wG (Tr.ag ?_))))));all_goals rw[aB] at q
   · rw[if_pos (show Kv B z j=true from q)];rfl
   · rw[if_neg (by rw[show Kv B z j=false from q];decide)];exact ⟨rfl,rfl⟩
 · obtain ⟨x,h1,rfl⟩:=ay (Q:=fun x=>x=(.exit 4,yr m z (shR dr lc zc lb zb W B) (mask (lW z m):Int) (Int.ofNat m)++[(59,.bool false)],⟨false,[(0,.row r)]⟩::G)) (PH n dr lc zc lb zb W B r G m z (mask (lW z m):Int) (Int.ofNat m)) (av n) (ai _ _) (aj _ _) (by
    refine Tr.ae wJ (fun h0=>Tr.ag rfl))
   exact h1
theorem VD (H:ab) (hb:lb≤1000) (h0:dg dr lc zc lb zb=0) (hm:m≤1000):cd (n+15) (.fn 39) [bn dr lc zc lb zb,aK m z false] H=some (.int .i64 (yg lc (bK dr lc zc) lb zb m z),H):=by
 obtain ⟨h1,h2,h3,h4,h5,_⟩:=kg h0;have h49:=fun H=>D8 n dr lc zc lb zb H hb h0;have h76:=fun H=>VR (n+13) m z H;have h75:=fun H=>VQ (n+3) 0 m z H hm;have hsp:=HD (z:=z) (lc:=lc) (m:=m);unfold yg;rcases Nat.eq_zero_or_pos m with hz | hz
 · subst hz;have e0:Nf z 0=.nils:=by
    have h:gm (j8 z 0)=[]:=List.eq_nil_of_length_eq_zero (by rw[lF,iO]);unfold Nf;rw[h];rfl
   rw[e0] at h75;have hp:¬ x8 z lc 0=true:=fun h=>by have:=(gd.1 h).1;omega
   rw[if_neg hp];refine br (n:=n+14) Tryd.func39 rfl rfl rfl (Ti (n+14) dr lc zc lb zb H 0 z z (shR dr lc zc lb zb (bK dr lc zc) (fR lb zb))) (bo _ _ (bR (bR (bR (aW _) h49) h76) h75)) (b8 (b8 (ai _ _) 2) 4) (aj _ _) ?_;refine Tr.ak rfl (Tr.ae (fun q=>by simp[aB,aQ] at q) (fun q=>Tr.ak rfl (Tr.ak rfl (Tr.ae (fun q=>Tr.ag ⟨rfl,rfl⟩) (fun q=>?_)))));rw[aB,aQ] at q;have:(0:Int)=lc:=by simpa using q
   omega
 · obtain ⟨k,rfl⟩:∃ k,m=k+1:=⟨m-1,by omega⟩
   have e:Nf z (k+1)=aK (k+1) (az (gm (j8 z (k+1)))) false:=Kg _ k (by rw[lF,iO]);rw[e] at h75;generalize hM:k+1=M at *;have hM1000:M≤1000:=hm;have hla:=RV (n+14) (.G [.int .i64 dr,slA 4 lc zc,slA 2 lb zb]) H M z (az (gm (j8 z M))) (shR dr lc zc lb zb (bK dr lc zc) (fR lb zb)) hm;by_cases hp:x8 z lc M=true
   · rw[if_pos hp];obtain ⟨p1,p2⟩:=gd.1 hp;obtain ⟨q1,q2⟩:=hsp.2 hp;have hlb:=RW (n+14) (.G [.int .i64 dr,slA 4 lc zc,slA 2 lb zb]) H M z (shR dr lc zc lb zb (bK dr lc zc) (fR lb zb)) hm (fun c j=>vo (bK dr lc zc) c j) (fun j hj H=>UZ (n+13) dr lc zc lb zb H (bK dr lc zc) (fR lb zb) (z j) j (by have:=(p2 j hj).1;omega));have hlc:=RX (n+14) dr lc zc lb zb (bK dr lc zc) (fR lb zb) (.G [.int .i64 dr,slA 4 lc zc,slA 2 lb zb]) H M z h1.2 hp;refine br (n:=n+14) Tryd.func39 rfl rfl rfl (Yi (n+14) dr lc zc lb zb H M z (az (gm (j8 z M))) (shR dr lc zc lb zb (bK dr lc zc) (fR lb zb)) (cC (fun j=>!decide (az (gm (j8 z M)) j=(j:Int))) M) (cC (fun j=>!vo (bK dr lc zc) (z j) j) M) (cC (Kv (fR lb zb) z) M) (mask (lW z M):Int)) (bo _ _ (bR (bR (bR (aW _) h49) h76) h75)) (aP (aP (aP (ai _ _) NT (fun x hx=>b7 hx hla)) QG (fun x hx=>b7 hx hlb)) QH (fun x hx=>b7 hx hlc)) (aj _ _) ?_;rw[q1,OS h5 (DD h0) h1.2 hp];refine Tr.ak rfl (Tr.ae (fun q=>by simp[aB,aQ] at q) (fun q=>Tr.ak rfl (Tr.ak rfl (Tr.ak ⟨rfl,rfl⟩ (Tr.ae (fun q=>by cases q) (fun _=>Tr.ae (fun q=>?_) (fun _=>Tr.ak ⟨rfl,rfl⟩ (Tr.ae (fun q=>Tr.ag ⟨?_,rfl⟩) (fun q=>Tr.ak ⟨rfl,rfl⟩ (Tr.ae (fun q2=>Tr.ag ⟨?_,rfl⟩) (fun q2=>Tr.ag ⟨?_,rfl⟩)))))))))))
     · rw[aB,aQ] at q;have:¬ (M:Int)=lc:=by simpa using q
       omega
     · rw[if_pos q];rfl
     · rw[if_neg (by rw[q];decide),if_pos q2];rfl
     · rw[if_neg (by rw[q];decide),if_neg (by rw[q2];decide)];rfl
   · rw[if_neg hp];refine br (n:=n+14) Tryd.func39 rfl rfl rfl (TL (n+14) dr lc zc lb zb H M z (az (gm (j8 z M))) (shR dr lc zc lb zb (bK dr lc zc) (fR lb zb)) (cC (fun j=>!decide (az (gm (j8 z M)) j=(j:Int))) M)) (bo _ _ (bR (bR (bR (aW _) h49) h76) h75)) (b8 (b8 (aP (ai _ _) NT (fun x hx=>b7 hx hla)) 2) 4) (aj _ _) ?_;refine Tr.ak rfl (Tr.ae (fun q=>by simp[aB,aQ] at q) (fun q=>Tr.ak rfl (Tr.ak rfl (Tr.ak ⟨rfl,rfl⟩ (Tr.ae (fun q=>Tr.ag ⟨rfl,rfl⟩) (fun q3=>Tr.ae (fun q=>Tr.ag ⟨rfl,rfl⟩) (fun q=>?_)))))));rw[aB,aQ] at q;have:(M:Int)=lc:=by simpa using q
     exact absurd (hsp.1 ⟨q3,by omega⟩) hp
end
end Go.Eng
end
section
namespace Go.Eng
open Go.Proofs Go.Eng.Gall
noncomputable def nD (m:Nat) (z:Nat→Int) (i:Int):aF:=[(1,aK m z false),(2,.ptr 0 0 0 0),(5,.int .i64 i)]
noncomputable def yv (m:Nat) (z:Nat→Int) (i j:Int):aF:=[(1,aK m z false),(2,.ptr 0 0 0 0),(5,.int .i64 i),(6,.int .i64 j)]
noncomputable def wQ (m:Nat) (z:Nat→Int) (i:Int):aF:=[(1,aK m z false),(2,.ptr 0 0 0 0),(6,.int .i64 i)]
noncomputable def wR (m:Nat) (z:Nat→Int) (i j:Int):aF:=[(1,aK m z false),(2,.ptr 0 0 0 0),(6,.int .i64 i),(7,.int .i64 j)]
theorem YA (n:Nat) (dr:Int) (lc:Nat) (zc:Nat→Int) (lb:Nat) (zb:Nat→Int) (H:ab) (m:Nat) (z:Nat→Int) (e:Bool):bj Tryd.prog (cd n) 100000 77 Tryd.f77 (KtG.kt 77) (il aD n 0) (cr aL 0 (nD m z (Int.ofNat 0)) (dq dr lc zc lb zb::H) (.ite e (.ok (.ret,[(4,.bool false,none)],dq dr lc zc lb zb::H)) (.ok (.normal,hints (nD m z (Int.ofNat m)++[(16,.bool false)]),dq dr lc zc lb zb::H)))) aJ [(bn dr lc zc lb zb,none),(aK m z false,none)] H =
 Tr.ite (bx (cw (Int.ofNat m) (Int.ofNat lc))) (Tr.ok ((AV.bool false,some 1),H)) (Tr.reqP ([(1,aK m z false),(2,AV.ptr 0 0 0 0),(5,iI 0)]=[(1,aK m z false),(2,AV.ptr 0 0 0 0),(5,iI 0)]∧(bA [(0,dh dr lc zc lb zb)])::H=(bA [(0,dh dr lc zc lb zb)])::H) (Tr.ite e (Tr.ok ((AV.bool false,none),H)) (Tr.ok ((AV.bool true,some 1),H)))):=by kernel_rfl
theorem Tx (n:Nat) (dr:Int) (lc:Nat) (zc:Nat→Int) (lb:Nat) (zb:Nat→Int) (H:ab) (m:Nat) (z:Nat→Int) (i:Int) (q:Bool):aH (bL (n+1) 77 40) (il aD n 1) (cr aL 2 (yv m z i (Int.ofNat 0)) (dq dr lc zc lb zb::H) (.ite q (.ok (.ret,[(4,.bool false,none)],dq dr lc zc lb zb::H)) (.ok (.normal,hints (yv m z i i++[(28,.bool false)]),dq dr lc zc lb zb::H)))) aJ (part Tryd.f77 [1,1,0,1,0,0]) (hints (nD m z i)) (dq dr lc zc lb zb::H) =
 (fun (Z0:bF)=>Tr.ite (bD i (Int.ofNat m)) (Tr.req (cj i m) (Tr.req (bW (aq 0 i 1) m) (Tr.ite (c8 (Int.ofNat 0) (z (aq 0 i 1))) (Tr.ite (bx (bD (z (aq 0 i 1)) (Int.ofNat lc))) (Tr.ok (Ex.ret,[(4,AV.bool false,some 1)],Z0::H)) (Tr.reqP ([(1,aK m z false),(2,AV.ptr 0 0 0 0),(5,AV.int .i64 i),(6,iI 0)]=[(1,aK m z false),(2,AV.ptr 0 0 0 0),(5,AV.int .i64 i),(6,iI 0)]∧Z0::H=Z0::H) (Tr.ite q (Tr.ok (Ex.ret,[(4,AV.bool false,none)],Z0::H)) (Tr.ok (Ex.normal,[(1,aK m z false,none),(2,AV.ptr 0 0 0 0,none),(5,AV.int .i64 (bh .i64 i (Int.ofNat 1)),none)],Z0::H))))) (Tr.ok (Ex.ret,[(4,AV.bool false,some 1)],Z0::H))))) (Tr.ok (Ex.exit 0,[(1,aK m z false,none),(2,AV.ptr 0 0 0 0,none),(5,AV.int .i64 i,none),(16,AV.bool false,some 1)],Z0::H))) (bA [(0,dh dr lc zc lb zb)]):=by kernel_rfl
theorem P0 (n:Nat) (dr:Int) (lc:Nat) (zc:Nat→Int) (lb:Nat) (zb:Nat→Int) (H:ab) (m:Nat) (z:Nat→Int) (i:Int):aH (bL (n+1) 77 40) (il aD n 1) (eF aL 2) aJ (part Tryd.f77 [1,1,0,1,0,0]) (hints (nD m z i)) (dq dr lc zc lb zb::H) =
 Tr.ite (bD i (Int.ofNat m)) (Tr.req (cj i m) (Tr.req (bW (aq 0 i 1) m) (Tr.ite (c8 (Int.ofNat 0) (z (aq 0 i 1))) (Tr.ite (bx (bD (z (aq 0 i 1)) (Int.ofNat lc))) (Tr.ok (Ex.ret,[(4,AV.bool false,some 1)],(bA [(0,dh dr lc zc lb zb)])::H)) Tr.bad) (Tr.ok (Ex.ret,[(4,AV.bool false,some 1)],(bA [(0,dh dr lc zc lb zb)])::H))))) (Tr.ok (Ex.exit 0,[(1,aK m z false,none),(2,AV.ptr 0 0 0 0,none),(5,AV.int .i64 i,none),(16,AV.bool false,some 1)],(bA [(0,dh dr lc zc lb zb)])::H)):=by kernel_rfl
theorem PZ (n:Nat) (dr:Int) (lc:Nat) (zc:Nat→Int) (lb:Nat) (zb:Nat→Int) (H:ab) (m:Nat) (z:Nat→Int) (i j:Int):aH (bL (n+1) 77 40) (il aD n 1) aL aJ (part Tryd.f77 [1,1,0,1,0,0,1,0,0,1,1,0,0]) (hints (yv m z i j)) (dq dr lc zc lb zb::H) =
 Tr.ite (bD j i) (Tr.req (cj j m) (Tr.req (bW (aq 0 j 1) m) (Tr.req (cj i m) (Tr.req (bW (aq 0 i 1) m) (Tr.ite (cw (z (aq 0 j 1)) (z (aq 0 i 1))) (Tr.ok (Ex.ret,[(4,AV.bool false,some 1)],(bA [(0,dh dr lc zc lb zb)])::H)) (Tr.ok (Ex.normal,[(1,aK m z false,none),(2,AV.ptr 0 0 0 0,none),(5,AV.int .i64 i,none),(6,AV.int .i64 (bh .i64 j (Int.ofNat 1)),none)],(bA [(0,dh dr lc zc lb zb)])::H))))))) (Tr.ok (Ex.exit 2,[(1,aK m z false,none),(2,AV.ptr 0 0 0 0,none),(5,AV.int .i64 i,none),(6,AV.int .i64 j,none),(28,AV.bool false,some 1)],(bA [(0,dh dr lc zc lb zb)])::H)):=by kernel_rfl
theorem YB (n:Nat) (dr:Int) (lc:Nat) (zc:Nat→Int) (lb:Nat) (zb:Nat→Int) (H:ab) (c p:Int):bj Tryd.prog (cd (n+1)) 100000 78 Tryd.f78 (KtG.kt 78) (il aD n 1) aL aJ [(bn dr lc zc lb zb,none),(.int .i64 c,none),(.int .i64 p,none)] H =
 Tr.req (cj c lc) (Tr.req (bW (aq 0 c 4) (bU lc 4)) (Tr.req (bW (ar (aq 0 c 4) 1) (bU lc 4)) (Tr.req (cj c lc) (Tr.req (bW (aq 0 c 4) (bU lc 4)) (Tr.req (bW (ar (aq 0 c 4) 1) (bU lc 4)) (Tr.req (bW (ar (aq 0 c 4) 2) (bU lc 4)) (Tr.req (bW (ar (aq 0 c 4) 3) (bU lc 4)) (Tr.req (bO (eR 0 0) (eR 0 1)) (Tr.req (bO (eR 0 0) (eR 0 1)) (Tr.ite (c8 (zc (ar (aq 0 c 4) 2)) (bN .i64 (zc (aq 0 c 4)) (xm .i64 p dr))) (Tr.ok ((AV.bool (c8 (bN .i64 (zc (ar (aq 0 c 4) 1)) (xm .i64 p dr)) (zc (ar (aq 0 c 4) 3))),none),H)) (Tr.ok ((AV.bool false,some 1),H)))))))))))):=by kernel_rfl
theorem Yj (n:Nat) (dr:Int) (lc:Nat) (zc:Nat→Int) (lb:Nat) (zb:Nat→Int) (H:ab) (m:Nat) (z:Nat→Int) (e q r:Bool):bj Tryd.prog (cd n) 100000 40 Tryd.f40 (KtG.kt 40) (il (tX (tX aD 23 [bn dr lc zc lb zb] (.int .i64 (Int.ofNat 0))) 77 [bn dr lc zc lb zb,aK m z false] (.bool e)) n 0) (cr (cr aL 0 (nD m z (Int.ofNat 0)) (dq dr lc zc lb zb::H) (.ite q (.ok (.ret,[(4,.int .i64 (Int.ofNat 21),none)],dq dr lc zc lb zb::H)) (.ok (.normal,hints (nD m z (Int.ofNat m)++[(20,.bool false)]),dq dr lc zc lb zb::H)))) 2 (wQ m z (Int.ofNat 0)) (dq dr lc zc lb zb::H) (.ite r (.ok (.ret,[(4,.int .i64 (Int.ofNat 16),none)],dq dr lc zc lb zb::H)) (.ok (.normal,hints (wQ m z (Int.ofNat m)++[(34,.bool false)]),dq dr lc zc lb zb::H)))) aJ [(bn dr lc zc lb zb,none),(aK m z false,none)] H =
 (fun (Z0:bF)=>Tr.reqP ([bn dr lc zc lb zb]=[bn dr lc zc lb zb]) (Tr.ite (bx (cw (Int.ofNat 0) (Int.ofNat 0))) (Tr.reqP ([bn dr lc zc lb zb]=[bn dr lc zc lb zb]) (Tr.ok ((iI 0,none),H))) (Tr.reqP ([bn dr lc zc lb zb,aK m z false]=[bn dr lc zc lb zb,aK m z false]) (Tr.ite (bx e) (Tr.ok ((iI 15,some 1),H)) (Tr.reqP ([(1,aK m z false),(2,AV.ptr 0 0 0 0),(5,iI 0)]=[(1,aK m z false),(2,AV.ptr 0 0 0 0),(5,iI 0)]∧Z0::H=Z0::H) (Tr.ite q (Tr.ok ((iI 21,none),H)) (Tr.reqP ([(1,aK m z false),(2,AV.ptr 0 0 0 0),(6,iI 0)]=[(1,aK m z false),(2,AV.ptr 0 0 0 0),(6,iI 0)]∧Z0::H=Z0::H) (Tr.ite r (Tr.ok ((iI 16,none),H)) (Tr.ok ((iI 0,some 1),H)))))))))) (bA [(0,dh dr lc zc lb zb)]):=by kernel_rfl
theorem TM (n:Nat) (dr:Int) (lc:Nat) (zc:Nat→Int) (lb:Nat) (zb:Nat→Int) (H:ab) (m:Nat) (z:Nat→Int) (e:Bool):bj Tryd.prog (cd n) 100000 40 Tryd.f40 (KtG.kt 40) (il (tX (tX aD 23 [bn dr lc zc lb zb] (.int .i64 (Int.ofNat 0))) 77 [bn dr lc zc lb zb,aK m z false] (.bool e)) n 0) (eF (eF aL 0) 2) aJ [(bn dr lc zc lb zb,none),(aK m z false,none)] H =
 Tr.reqP ([bn dr lc zc lb zb]=[bn dr lc zc lb zb]) (Tr.ite (bx (cw (Int.ofNat 0) (Int.ofNat 0))) (Tr.reqP ([bn dr lc zc lb zb]=[bn dr lc zc lb zb]) (Tr.ok ((iI 0,none),H))) (Tr.reqP ([bn dr lc zc lb zb,aK m z false]=[bn dr lc zc lb zb,aK m z false]) (Tr.ite (bx e) (Tr.ok ((iI 15,some 1),H)) Tr.bad))):=by kernel_rfl
theorem Tn (n:Nat) (dr:Int) (lc:Nat) (zc:Nat→Int) (lb:Nat) (zb:Nat→Int) (H:ab) (m:Nat) (z:Nat→Int) (i c:Int) (q:Bool):aH (bL n 40 52) (il (tX aD 78 [bn dr lc zc lb zb,.int .i64 c,.int .i64 i] (.bool q)) n 0) aL aJ (part Tryd.f40 [1,1,1,0,1,0,0]) (hints (nD m z i)) (dq dr lc zc lb zb::H) =
 Tr.ite (bD i (Int.ofNat m)) (Tr.req (cj i m) (Tr.req (bW (aq 0 i 1) m) (Tr.reqP ([bn dr lc zc lb zb,AV.int .i64 (z (aq 0 i 1)),AV.int .i64 i]=[bn dr lc zc lb zb,AV.int .i64 c,AV.int .i64 i]) (Tr.ite (bx q) (Tr.ok (Ex.ret,[(4,iI 21,some 1)],(bA [(0,dh dr lc zc lb zb)])::H)) (Tr.ok (Ex.normal,[(1,aK m z false,none),(2,AV.ptr 0 0 0 0,none),(5,AV.int .i64 (bh .i64 i (Int.ofNat 1)),none)],(bA [(0,dh dr lc zc lb zb)])::H)))))) (Tr.ok (Ex.exit 0,[(1,aK m z false,none),(2,AV.ptr 0 0 0 0,none),(5,AV.int .i64 i,none),(20,AV.bool false,some 1)],(bA [(0,dh dr lc zc lb zb)])::H)):=by kernel_rfl
theorem PI (n:Nat) (dr:Int) (lc:Nat) (zc:Nat→Int) (lb:Nat) (zb:Nat→Int) (H:ab) (m:Nat) (z:Nat→Int) (i:Int):aH (bL n 40 52) (il aD n 0) aL aJ (part Tryd.f40 [1,1,1,0,1,0,0]) (hints (nD m z i)) (dq dr lc zc lb zb::H) =
 Tr.ite (bD i (Int.ofNat m)) (Tr.req (cj i m) (Tr.req (bW (aq 0 i 1) m) Tr.bad)) (Tr.ok (Ex.exit 0,[(1,aK m z false,none),(2,AV.ptr 0 0 0 0,none),(5,AV.int .i64 i,none),(20,AV.bool false,some 1)],(bA [(0,dh dr lc zc lb zb)])::H)):=by kernel_rfl
theorem Tp (n:Nat) (dr:Int) (lc:Nat) (zc:Nat→Int) (lb:Nat) (zb:Nat→Int) (H:ab) (m:Nat) (z:Nat→Int) (i:Int) (q:Bool):aH (bL n 40 52) (il aD n 0) (cr aL 4 (wR m z i (Int.ofNat 0)) (dq dr lc zc lb zb::H) (.ite q (.ok (.ret,[(4,.int .i64 (Int.ofNat 16),none)],dq dr lc zc lb zb::H)) (.ok (.normal,hints (wR m z i i++[(39,.bool false)]),dq dr lc zc lb zb::H)))) aJ (part Tryd.f40 [1,1,1,1,0,1,0,0]) (hints (wQ m z i)) (dq dr lc zc lb zb::H) =
 (fun (Z0:bF)=>Tr.ite (bD i (Int.ofNat m)) (Tr.reqP ([(1,aK m z false),(2,AV.ptr 0 0 0 0),(6,AV.int .i64 i),(7,iI 0)]=[(1,aK m z false),(2,AV.ptr 0 0 0 0),(6,AV.int .i64 i),(7,iI 0)]∧Z0::H=Z0::H) (Tr.ite q (Tr.ok (Ex.ret,[(4,iI 16,none)],Z0::H)) (Tr.ok (Ex.normal,[(1,aK m z false,none),(2,AV.ptr 0 0 0 0,none),(6,AV.int .i64 (bh .i64 i (Int.ofNat 1)),none)],Z0::H)))) (Tr.ok (Ex.exit 2,[(1,aK m z false,none),(2,AV.ptr 0 0 0 0,none),(6,AV.int .i64 i,none),(34,AV.bool false,some 1)],Z0::H))) (bA [(0,dh dr lc zc lb zb)]):=by kernel_rfl
theorem PK (n:Nat) (dr:Int) (lc:Nat) (zc:Nat→Int) (lb:Nat) (zb:Nat→Int) (H:ab) (m:Nat) (z:Nat→Int) (i:Int):aH (bL n 40 52) (il aD n 0) (eF aL 4) aJ (part Tryd.f40 [1,1,1,1,0,1,0,0]) (hints (wQ m z i)) (dq dr lc zc lb zb::H) =
 Tr.ite (bD i (Int.ofNat m)) Tr.bad (Tr.ok (Ex.exit 2,[(1,aK m z false,none),(2,AV.ptr 0 0 0 0,none),(6,AV.int .i64 i,none),(34,AV.bool false,some 1)],(bA [(0,dh dr lc zc lb zb)])::H)):=by kernel_rfl
theorem To (n:Nat) (dr:Int) (lc:Nat) (zc:Nat→Int) (lb:Nat) (zb:Nat→Int) (H:ab) (m:Nat) (z:Nat→Int) (i j a b:Int) (q:Bool):aH (bL n 40 52) (il (tX aD 79 [bn dr lc zc lb zb,.int .i64 a,.int .i64 b] (.bool q)) n 0) aL aJ (part Tryd.f40 [1,1,1,1,0,1,0,0,1,0,0,1,0,0]) (hints (wR m z i j)) (dq dr lc zc lb zb::H) =
 Tr.ite (bD j i) (Tr.req (cj i m) (Tr.req (bW (aq 0 i 1) m) (Tr.req (cj j m) (Tr.req (bW (aq 0 j 1) m) (Tr.reqP ([bn dr lc zc lb zb,AV.int .i64 (z (aq 0 i 1)),AV.int .i64 (z (aq 0 j 1))]=[bn dr lc zc lb zb,AV.int .i64 a,AV.int .i64 b]) (Tr.ite q (Tr.ok (Ex.ret,[(4,iI 16,some 1)],(bA [(0,dh dr lc zc lb zb)])::H)) (Tr.ok (Ex.normal,[(1,aK m z false,none),(2,AV.ptr 0 0 0 0,none),(6,AV.int .i64 i,none),(7,AV.int .i64 (bh .i64 j (Int.ofNat 1)),none)],(bA [(0,dh dr lc zc lb zb)])::H)))))))) (Tr.ok (Ex.exit 4,[(1,aK m z false,none),(2,AV.ptr 0 0 0 0,none),(6,AV.int .i64 i,none),(7,AV.int .i64 j,none),(39,AV.bool false,some 1)],(bA [(0,dh dr lc zc lb zb)])::H)):=by kernel_rfl
theorem PJ (n:Nat) (dr:Int) (lc:Nat) (zc:Nat→Int) (lb:Nat) (zb:Nat→Int) (H:ab) (m:Nat) (z:Nat→Int) (i j:Int):aH (bL n 40 52) (il aD n 0) aL aJ (part Tryd.f40 [1,1,1,1,0,1,0,0,1,0,0,1,0,0]) (hints (wR m z i j)) (dq dr lc zc lb zb::H) =
 Tr.ite (bD j i) (Tr.req (cj i m) (Tr.req (bW (aq 0 i 1) m) (Tr.req (cj j m) (Tr.req (bW (aq 0 j 1) m) Tr.bad)))) (Tr.ok (Ex.exit 4,[(1,aK m z false,none),(2,AV.ptr 0 0 0 0,none),(6,AV.int .i64 i,none),(7,AV.int .i64 j,none),(39,AV.bool false,some 1)],(bA [(0,dh dr lc zc lb zb)])::H)):=by kernel_rfl
end Go.Eng
end
section
namespace Go.Eng
open Go.Proofs Go.Eng.Gall
theorem Vo:∀ b,(0,b) ∈ aE (aV Tryd.f77)→b=.loop (part Tryd.f77 [1,1,0,1,0,0]):=dz (by kernel_rfl)
theorem QM:∀ b,(2,b) ∈ aE (part Tryd.f77 [1,1,0,1,0,0])→b=.loop (part Tryd.f77 [1,1,0,1,0,0,1,0,0,1,1,0,0]):=dz (by kernel_rfl)
theorem Vl:∀ b,(0,b) ∈ aE (aV Tryd.f40)→b=.loop (part Tryd.f40 [1,1,1,0,1,0,0]):=dz (by kernel_rfl)
theorem QJ:∀ b,(2,b) ∈ aE (aV Tryd.f40)→b=.loop (part Tryd.f40 [1,1,1,1,0,1,0,0]):=dz (by kernel_rfl)
theorem QI:∀ b,(4,b) ∈ aE (part Tryd.f40 [1,1,1,1,0,1,0,0])→b=.loop (part Tryd.f40 [1,1,1,1,0,1,0,0,1,0,0,1,0,0]):=dz (by kernel_rfl)
section
variable (n:Nat) (dr:Int) (lc:Nat) (zc:Nat→Int) (lb:Nat) (zb:Nat→Int) (H:ab) (m:Nat) (z:Nat→Int)
theorem R3 (hm:m≤1000) (i:Nat) (hi:i<m):exec (bL (n+1) 77 40) (.block 2 (.loop (part Tryd.f77 [1,1,0,1,0,0,1,0,0,1,1,0,0]))) (yv m z (i:Int) (Int.ofNat 0)) (dq dr lc zc lb zb::H)=some (cond (cC (fun j=>decide (z j=z i)) i) (.ret,[(4,.bool false)],dq dr lc zc lb zb::H) (.normal,yv m z (i:Int) (i:Int)++[(28,.bool false)],dq dr lc zc lb zb::H)):=by
 refine eA (n:=n+1) (f:=77) (nt:=40) (c:=part Tryd.f77 [1,1,0,1,0,0,1,0,0,1,1,0,0]) 2 (fun j=>yv m z (i:Int) (j:Int)) (fun _=>dq dr lc zc lb zb::H) i (fun j=>decide (z j=z i)) (fun _=>([(4,.bool false)],dq dr lc zc lb zb::H)) (yv m z (i:Int) (i:Int)++[(28,.bool false)],dq dr lc zc lb zb::H) (by omega) (fun j hj=>?_) ?_
 · have T:=PZ n dr lc zc lb zb H m z (i:Int) (j:Int);rw[qt,qt,dJ (by omega)] at T;refine ay T (fa n 1) (ai _ _) (aj _ _) ?_;refine Tr.ae (fun h0=>?_) wJ;refine Tr.aa wG (Tr.aa wG (Tr.aa wG (Tr.aa wG (Tr.ae (fun q=>Tr.ag ?_) (fun q=>Tr.ag ?_)))));all_goals rw[aQ] at q
   · rw[if_pos (by simpa using q)];rfl
   · rw[if_neg (by simpa using q)];exact ⟨rfl,rfl⟩
 · obtain ⟨x,h1,rfl⟩:=ay (Q:=fun x=>x=(.exit 2,yv m z (i:Int) (i:Int)++[(28,.bool false)],dq dr lc zc lb zb::H)) (PZ n dr lc zc lb zb H m z (i:Int) (i:Int)) (fa n 1) (ai _ _) (aj _ _) (by
    refine Tr.ae wJ (fun h0=>Tr.ag rfl))
   exact h1
theorem VS (hm:m≤1000) (hl:lc≤1000):cd (n+2) (.fn 77) [bn dr lc zc lb zb,aK m z false] H=some (.bool (x8 z lc m),H):=by
 have lp:=eA (n:=n+1) (f:=77) (nt:=40) (c:=part Tryd.f77 [1,1,0,1,0,0]) 0 (fun j=>nD m z (j:Int)) (fun _=>dq dr lc zc lb zb::H) m (fun i=>!(decide (0≤z i) && decide (z i<lc)) || cC (fun j=>decide (z j=z i)) i) (fun _=>([(4,.bool false)],dq dr lc zc lb zb::H)) (nD m z (Int.ofNat m)++[(16,.bool false)],dq dr lc zc lb zb::H) (by omega) (fun j hj=>?_) ?_
 · refine br (n:=n+1) Tryd.func77 rfl rfl rfl (YA (n+1) dr lc zc lb zb H m z (cC (fun i=>!(decide (0≤z i) && decide (z i<lc)) || cC (fun j=>decide (z j=z i)) i) m)) (av _) (aP (ai _ _) Vo (fun x hx=>b7 hx lp)) (aj _ _) ?_;unfold x8;refine Tr.ae (fun q=>Tr.ag ⟨?_,rfl⟩) (fun q=>Tr.ak ⟨rfl,rfl⟩ (Tr.ae (fun q2=>Tr.ag ⟨?_,rfl⟩) (fun q2=>Tr.ag ⟨?_,rfl⟩)));all_goals rw[aB,aQ] at q
   · have:¬ (m:Int)=lc:=by simpa using q
     rw[decide_eq_false (by omega)];rfl
   · rw[q2];simp
   · have:(m:Int)=lc:=by simpa using q
     rw[q2,decide_eq_true (by omega)];rfl
 · have T:=Tx n dr lc zc lb zb H m z (j:Int) (cC (fun k=>decide (z k=z j)) j);rw[qt,dJ (by omega)] at T;refine ay T (fa n 1) (aP (ai _ _) QM (fun x hx=>b7 hx (R3 n dr lc zc lb zb H m z hm j hj))) (aj _ _) ?_;refine Tr.ae (fun h0=>?_) wJ;refine Tr.aa wG (Tr.aa wG (Tr.ae (fun q=>Tr.ae (fun q2=>Tr.ag ?_) (fun q2=>Tr.ak ⟨rfl,rfl⟩ (Tr.ae (fun q3=>Tr.ag ?_) (fun q3=>Tr.ag ?_)))) (fun q=>Tr.ag ?_)));all_goals rw[bf] at q
   · rw[aB,bw] at q2;have:¬ z j<lc:=by simpa using q2
     rw[if_pos (by rw[decide_eq_false this];simp)];rfl
   · rw[if_pos (by rw[q3];simp)];rfl
   · rw[aB,bw] at q2;have:z j<lc:=by simpa using q2
     have q:decide (0≤z j)=true:=q;rw[if_neg (by rw[q3,q,decide_eq_true this];decide)];exact ⟨rfl,rfl⟩
   · have q:decide (0≤z j)=false:=q;rw[if_pos (by rw[q];simp)];rfl
 · obtain ⟨x,h1,rfl⟩:=ay (Q:=fun x=>x=(.exit 0,nD m z (Int.ofNat m)++[(16,.bool false)],dq dr lc zc lb zb::H)) (P0 n dr lc zc lb zb H m z (Int.ofNat m)) (fa n 1) (b8 (ai _ _) 2) (aj _ _) (by
    refine Tr.ae wJ (fun h0=>Tr.ag rfl))
   exact h1
theorem Py (hd:1≤dr) {c:Nat} (hc:c<lc) {p:Int} (hp:0≤p∧p<lc):vo (bK dr lc zc) (c:Int) p=(decide (zc (c*4+2)≤zc (c*4)-p*dr) && decide (zc (c*4+1)-p*dr≤zc (c*4+3))):=by
 unfold vo bK;rw[Int.toNat_natCast,if_pos (by omega),if_pos (by omega),if_pos (by omega),if_neg (by omega),show 2*c / 2=c by omega,show (2*c+1) / 2=c by omega,Bool.and_comm];have e1:p≤(zc (c*4)-zc (c*4+2)) / dr↔p*dr≤zc (c*4)-zc (c*4+2):=Int.le_ediv_iff_mul_le (by omega);have e2:-p≤(zc (c*4+3)-zc (c*4+1)) / dr↔-p*dr≤zc (c*4+3)-zc (c*4+1):=Int.le_ediv_iff_mul_le (by omega);rw[Int.neg_mul] at e2;generalize (zc (c*4)-zc (c*4+2)) / dr=A at *;generalize (zc (c*4+3)-zc (c*4+1)) / dr=D at *;generalize p*dr=Q at *;congr 1
 · rw[decide_eq_decide];omega
 · rw[decide_eq_decide];omega
theorem VT (hd:1≤dr∧dr≤100) (hl:lc≤10) (hv:p8 lc zc) (c p:Nat) (hc:c<lc) (hp:p<lc):cd (n+2) (.fn 78) [bn dr lc zc lb zb,.int .i64 (c:Int),.int .i64 (p:Int)] H=some (.bool (vo (bK dr lc zc) (c:Int) (p:Int)),H):=by
 obtain ⟨v1,v2,v3,v4,v5,v6⟩:=HR hv hc;have hm0:0≤(p:Int)*dr:=Int.mul_nonneg (by omega) (by omega);have hm1:(p:Int)*dr≤10*100:=Int.mul_le_mul (by omega) (by omega) (by omega) (by omega);have em:xm .i64 (p:Int) dr=(p:Int)*dr:=by rw[np];exact im (by omega) (by omega)
 have ei:aq 0 (c:Int) 4=c*4:=by rw[bG];omega
 have T:=YB n dr lc zc lb zb H (c:Int) (p:Int);rw[ei,aI,aI,aI,em,rJ (by omega) (by omega),rJ (by omega) (by omega)] at T;refine br (n:=n+1) Tryd.func78 rfl rfl rfl T (fa n 1) (ai _ _) (aj _ _) ?_;rw[Py dr lc zc hd.1 hc ⟨by omega,by omega⟩];refine Tr.aa wG (Tr.aa wG (Tr.aa wG (Tr.aa wG (Tr.aa wG (Tr.aa wG (Tr.aa wG (Tr.aa wG (Tr.aa wG (Tr.aa wG (Tr.ae (fun q=>Tr.ag ⟨?_,rfl⟩) (fun q=>Tr.ag ⟨?_,rfl⟩)))))))))));all_goals rw[bf] at q
 · rw[q,bf,Bool.true_and]
 · rw[q,Bool.false_and]
theorem RY (hm:m≤1000) (s:Int→Nat→Bool) (h78:∀ j,j<m→∀ H,cd n (.fn 78) [bn dr lc zc lb zb,.int .i64 (z j),.int .i64 (j:Int)] H=some (.bool (s (z j) j),H)):exec (bL n 40 52) (.block 0 (.loop (part Tryd.f40 [1,1,1,0,1,0,0]))) (nD m z (Int.ofNat 0)) (dq dr lc zc lb zb::H)=some (cond (cC (fun j=>!s (z j) j) m) (.ret,[(4,.int .i64 (Int.ofNat 21))],dq dr lc zc lb zb::H) (.normal,nD m z (Int.ofNat m)++[(20,.bool false)],dq dr lc zc lb zb::H)):=by
 refine eA (n:=n) (f:=40) (nt:=52) (c:=part Tryd.f40 [1,1,1,0,1,0,0]) 0 (fun j=>nD m z (j:Int)) (fun _=>dq dr lc zc lb zb::H) m (fun j=>!s (z j) j) (fun _=>([(4,.int .i64 (Int.ofNat 21))],dq dr lc zc lb zb::H)) (nD m z (Int.ofNat m)++[(20,.bool false)],dq dr lc zc lb zb::H) (by omega) (fun j hj=>?_) ?_
 · have T:=Tn n dr lc zc lb zb H m z (j:Int) (z j) (s (z j) j);rw[qt,dJ (by omega)] at T;refine ay T (bo _ _ (bR (aW _) (h78 j hj))) (ai _ _) (aj _ _) ?_;refine Tr.ae (fun h0=>?_) wJ;refine Tr.aa wG (Tr.aa wG (Tr.ak rfl (Tr.ae (fun q=>Tr.ag ?_) (fun q=>Tr.ag ?_))));all_goals rw[aB] at q
   · rw[if_pos q];rfl
   · rw[if_neg (by rw[q];decide)];exact ⟨rfl,rfl⟩
 · obtain ⟨x,h1,rfl⟩:=ay (Q:=fun x=>x=(.exit 0,nD m z (Int.ofNat m)++[(20,.bool false)],dq dr lc zc lb zb::H)) (PI n dr lc zc lb zb H m z (Int.ofNat m)) (av n) (ai _ _) (aj _ _) (by
    refine Tr.ae wJ (fun h0=>Tr.ag rfl))
   exact h1
theorem RZ (hm:m≤1000) (hb:lb≤1000) (i:Nat) (hi:i<m):exec (bL (n+1) 40 52) (.block 4 (.loop (part Tryd.f40 [1,1,1,1,0,1,0,0,1,0,0,1,0,0]))) (wR m z (i:Int) (Int.ofNat 0)) (dq dr lc zc lb zb::H)=some (cond (cC (fun j=>pI lb zb (z i) (z j)) i) (.ret,[(4,.int .i64 (Int.ofNat 16))],dq dr lc zc lb zb::H) (.normal,wR m z (i:Int) (i:Int)++[(39,.bool false)],dq dr lc zc lb zb::H)):=by
 refine eA (n:=n+1) (f:=40) (nt:=52) (c:=part Tryd.f40 [1,1,1,1,0,1,0,0,1,0,0,1,0,0]) 4 (fun j=>wR m z (i:Int) (j:Int)) (fun _=>dq dr lc zc lb zb::H) i (fun j=>pI lb zb (z i) (z j)) (fun _=>([(4,.int .i64 (Int.ofNat 16))],dq dr lc zc lb zb::H)) (wR m z (i:Int) (i:Int)++[(39,.bool false)],dq dr lc zc lb zb::H) (by omega) (fun j hj=>?_) ?_
 · have T:=To (n+1) dr lc zc lb zb H m z (i:Int) (j:Int) (z i) (z j) (pI lb zb (z i) (z j));rw[qt,qt,dJ (by omega)] at T;refine ay T (bo _ _ (bR (aW _) (fun H=>U0 n dr lc zc lb zb H (z i) (z j) hb))) (ai _ _) (aj _ _) ?_;refine Tr.ae (fun h0=>?_) wJ;refine Tr.aa wG (Tr.aa wG (Tr.aa wG (Tr.aa wG (Tr.ak rfl (Tr.ae (fun q=>Tr.ag ?_) (fun q=>Tr.ag ?_))))))
   · rw[if_pos q];rfl
   · rw[if_neg (by rw[q];decide)];exact ⟨rfl,rfl⟩
 · obtain ⟨x,h1,rfl⟩:=ay (Q:=fun x=>x=(.exit 4,wR m z (i:Int) (i:Int)++[(39,.bool false)],dq dr lc zc lb zb::H)) (PJ (n+1) dr lc zc lb zb H m z (i:Int) (i:Int)) (av _) (ai _ _) (aj _ _) (by
    refine Tr.ae wJ (fun h0=>Tr.ag rfl))
   exact h1
theorem R0 (hm:m≤1000) (hb:lb≤1000):exec (bL (n+1) 40 52) (.block 2 (.loop (part Tryd.f40 [1,1,1,1,0,1,0,0]))) (wQ m z (Int.ofNat 0)) (dq dr lc zc lb zb::H)=some (cond (cC (Kb lb zb z) m) (.ret,[(4,.int .i64 (Int.ofNat 16))],dq dr lc zc lb zb::H) (.normal,wQ m z (Int.ofNat m)++[(34,.bool false)],dq dr lc zc lb zb::H)):=by
 refine eA (n:=n+1) (f:=40) (nt:=52) (c:=part Tryd.f40 [1,1,1,1,0,1,0,0]) 2 (fun j=>wQ m z (j:Int)) (fun _=>dq dr lc zc lb zb::H) m (Kb lb zb z) (fun _=>([(4,.int .i64 (Int.ofNat 16))],dq dr lc zc lb zb::H)) (wQ m z (Int.ofNat m)++[(34,.bool false)],dq dr lc zc lb zb::H) (by omega) (fun j hj=>?_) ?_
 · have T:=Tp (n+1) dr lc zc lb zb H m z (j:Int) (Kb lb zb z j);rw[dJ (by omega)] at T;refine ay T (av _) (aP (ai _ _) QI (fun x hx=>b7 hx (RZ n dr lc zc lb zb H m z hm hb j hj))) (aj _ _) ?_;refine Tr.ae (fun h0=>?_) wJ;refine Tr.ak ⟨rfl,rfl⟩ (Tr.ae (fun q=>Tr.ag ?_) (fun q=>Tr.ag ?_))
   · rw[if_pos q];rfl
   · rw[if_neg (by rw[q];decide)];exact ⟨rfl,rfl⟩
 · obtain ⟨x,h1,rfl⟩:=ay (Q:=fun x=>x=(.exit 2,wQ m z (Int.ofNat m)++[(34,.bool false)],dq dr lc zc lb zb::H)) (PK (n+1) dr lc zc lb zb H m z (Int.ofNat m)) (av _) (b8 (ai _ _) 4) (aj _ _) (by
    refine Tr.ae wJ (fun h0=>Tr.ag rfl))
   exact h1
theorem VE (hb:lb≤1000) (h0:dg dr lc zc lb zb=0) (hm:m≤1000):cd (n+4) (.fn 40) [bn dr lc zc lb zb,aK m z false] H=some (.int .i64 (yg lc (bK dr lc zc) lb zb m z),H):=by
 obtain ⟨h1,h2,h3,h4,h5,_⟩:=kg h0;have h23:=fun H=>Qp n dr lc zc lb zb H (by omega) hb;rw[h0] at h23;have h77:=fun H=>VS (n+1) dr lc zc lb zb H m z hm (by omega);unfold yg;by_cases hp:x8 z lc m=true
 · rw[if_pos hp];rw[hp] at h77;obtain ⟨p1,p2⟩:=gd.1 hp;refine br (n:=n+3) Tryd.func40 rfl rfl rfl (Yj (n+3) dr lc zc lb zb H m z true (cC (fun j=>!vo (bK dr lc zc) (z j) j) m) (cC (Kb lb zb z) m)) (bo _ _ (bR (bR (aW _) h23) h77)) (aP (aP (ai _ _) Vl (fun x hx=>b7 hx (RY (n+3) dr lc zc lb zb H m z hm (fun c j=>vo (bK dr lc zc) c j) (fun j hj H=>by
    have:=(p2 j hj).1;have h:=VT (n+1) dr lc zc lb zb H h3 h1.2 h4 (z j).toNat j (by omega) (by omega);rw[show ((z j).toNat:Int)=z j by omega] at h;exact h)))) QJ (fun x hx=>b7 hx (R0 (n+2) dr lc zc lb zb H m z hm hb))) (aj _ _) ?_
   refine Tr.ak rfl (Tr.ae (fun q=>by simp[aB,aQ] at q) (fun q=>Tr.ak rfl (Tr.ae (fun q=>by simp[aB] at q) (fun q=>Tr.ak ⟨rfl,rfl⟩ (Tr.ae (fun q=>Tr.ag ⟨?_,rfl⟩) (fun q=>Tr.ak ⟨rfl,rfl⟩ (Tr.ae (fun q2=>Tr.ag ⟨?_,rfl⟩) (fun q2=>Tr.ag ⟨?_,rfl⟩))))))))
   · rw[if_pos q];rfl
   · rw[if_neg (by rw[q];decide),if_pos q2];rfl
   · rw[if_neg (by rw[q];decide),if_neg (by rw[q2];decide)];rfl
 · rw[if_neg hp];have hpf:x8 z lc m=false:=by simpa using hp
   rw[hpf] at h77;refine br (n:=n+3) Tryd.func40 rfl rfl rfl (TM (n+3) dr lc zc lb zb H m z false) (bo _ _ (bR (bR (aW _) h23) h77)) (b8 (b8 (ai _ _) 0) 2) (aj _ _) ?_;refine Tr.ak rfl (Tr.ae (fun q=>by simp[aB,aQ] at q) (fun q=>Tr.ak rfl (Tr.ae (fun q=>Tr.ag ⟨rfl,rfl⟩) (fun q=>by simp[aB] at q))))
end
end Go.Eng
end
section
namespace Go.Eng
open Go.Proofs Go.Eng.Gall
end Go.Eng
end
section
namespace Go.Eng
open Go.Proofs Go.Eng.Gall
noncomputable def X7 (W B:Nat→Int) (z:Nat→Int) (k:Nat):Bool:=vo W (z k) ((k:Int)+1) && (vo W (z (k+1)) (k:Int) && cw (l9 .u64 (B (z (k+1)).toNat) (eh .u64 (Int.ofNat 1) (z k))) (Int.ofNat 0))
noncomputable def Tk (W B:Nat→Int) (z:Nat→Int):Nat→List Int
 | 0=>[]
 | j+1=>if X7 W B z j=true then Tk W B z j++[(j:Int)] else Tk W B z j
section
variable (n:Nat) (dr:Int) (lc:Nat) (zc:Nat→Int) (lb:Nat) (zb:Nat→Int) (H:ab)
variable (m:Nat) (z:Nat→Int) (W B:Nat→Int)
theorem LS {lc:Nat} {W:Nat→Int} {lb:Nat} {zb:Nat→Int} {m:Nat} {z:Nat→Int} (h:yg lc W lb zb m z=0):x8 z lc m=true:=by
 unfold yg at h;split at h
 · assumption
 · cases h
end
end Go.Eng
end
section
namespace Go.Eng
open Go.Proofs Go.Eng.Gall
theorem Og {lc:Nat} {W:Nat→Int} {lb:Nat} {zb:Nat→Int} {m:Nat} {z:Nat→Int}:yg lc W lb zb m z=0↔x8 z lc m=true∧(∀ j,j<m→vo W (z j) j=true)∧∀ i,i<m→∀ j,j<i→pI lb zb (z i) (z j)=false:=by
 unfold yg;constructor
 · intro h;split at h
   · rename_i hp;split at h
     · cases h
     · rename_i hs;split at h
       · cases h
       · rename_i hb;rw[Bool.not_eq_true,ir] at hs hb;refine ⟨hp,fun j hj=>by simpa using hs j hj,fun i hi=>?_⟩;have:=hb i hi;unfold Kb at this;exact ir.1 this
   · cases h
 · rintro ⟨hp,hs,hb⟩;rw[if_pos hp,if_neg,if_neg]
   · rw[Bool.not_eq_true,ir];intro i hi;unfold Kb;exact ir.2 (hb i hi)
   · rw[Bool.not_eq_true,ir];intro j hj;rw[hs j hj];rfl
end Go.Eng
end
section
namespace Go.Eng
open Go.Proofs Go.Eng.Gall
end Go.Eng
end
section
namespace Go.Eng
open Go.Proofs Go.Eng.Gall
section
variable (dr:Int) (lc:Nat) (zc:Nat→Int) (lb:Nat) (zb:Nat→Int)
noncomputable def YR (x:List AV):List Int:=match x with
 | [_,.slcT _ (.M [.arr _ y _]) _ m _]=>if yg lc (bK dr lc zc) lb zb m y=0 then Tk (bK dr lc zc) (fR lb zb) y (m-1) else []
 | _=>[]
noncomputable def H5 (x:List AV):Int:=match x with
 | [_,.slcT _ (.M [.arr _ y _]) _ m _]=>yg lc (bK dr lc zc) lb zb m y
 | _=>0
end
end Go.Eng
end
section
namespace Go.Eng
open Go.Proofs Go.Eng.Gall
section
variable (dr:Int) (lc:Nat) (zc:Nat→Int) (lb:Nat) (zb:Nat→Int)
variable (n:Nat) (H:ab) (m:Nat) (z:Nat→Int) (w:Int)
end
end Go.Eng
end
