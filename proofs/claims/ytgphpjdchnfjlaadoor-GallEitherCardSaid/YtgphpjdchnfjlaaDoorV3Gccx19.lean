/- Gall: the law of either. -/
import Derived.Test.YtgphpjdchnfjlaaDoorV3Gbvx5
import Derived.Test.YtgphpjdchnfjlaaDoorV3Gp2x6
import Derived.Test.YtgphpjdchnfjlaaDoorRows
import Derived.Test.YtgphpjdchnfjlaaDoorChecked
import Derived.Test.YtgphpjdchnfjlaaDoorTie
import Derived.Test.YtgphpjdchnfjlaaDoorCards
import Derived.ProofKit
import Derived.Lib.LaidIn
import Derived.Lib.LaidTab
import Derived.FnData
import Derived.Handed
import Derived.SevenTiedAt
import Derived.Test.YtgphpjdchnfjlaaDoorV3GaKx6
set_option linter.unusedVariables false
set_option linter.unusedSimpArgs false
set_option maxRecDepth 100000
section
namespace Go.Eng
open Go.Proofs Go.Eng.Gall
theorem b6:∀ b,(0,b) ∈ aE (aV Tryd.f6)→b=.loop (part Tryd.f6 [1,1,1,1,1,1,1,0,1,0,1,1,1,0,1,0,0]):=dz (by kernel_rfl)
section
variable (dr:Int) (lc:Nat) (zc:Nat→Int) (lb:Nat) (zb:Nat→Int)
def ND (x:List AV):Prop:=∃ m y,x=[bn dr lc zc lb zb,aK m y false]∧m≤1000
def Sj (x:List AV):Prop:=∃ f t m z,x=[bn dr lc zc lb zb,pW f t m z]∧m≤1000
def eB (x:List AV):Int:=match x with
 | [_,.agg (.G [.int _ f,.int _ t,.slcT _ (.M [.arr _ z _]) _ m _])]=>x5 lc (dx lc (fun c=>cH zb c lb) (bK dr lc zc)) f t m z
 | _=>0
variable (n:Nat) (H:ab) (mo:Nat) (zo:Nat→Int) (f t:Int) (m:Nat) (z y:Nat→Int)
theorem l6 (hm:mo=lc) (hl:lc≤1000):exec (bL (n+1) 6 160) (.block 0 (.loop (part Tryd.f6 [1,1,1,1,1,1,1,0,1,0,1,1,1,0,1,0,0]))) (Bt mo zo lc y true (Int.ofNat 0)) (xi dr lc zc lb zb f t m z::H)=some (cond (cC (fun j=>!decide (zo j=y j)) lc) (.ret,[(6,.bool (decide (y (fN (fun j=>!decide (zo j=y j)) lc 0)<zo (fN (fun j=>!decide (zo j=y j)) lc 0))))],xi dr lc zc lb zb f t m z::H) (.normal,Bt mo zo lc y true (Int.ofNat lc)++[(103,.bool false)],xi dr lc zc lb zb f t m z::H)):=by
 refine eA (n:=n+1) (f:=6) (nt:=160) (c:=part Tryd.f6 [1,1,1,1,1,1,1,0,1,0,1,1,1,0,1,0,0]) 0 (fun j=>Bt mo zo lc y true (j:Int)) (fun _=>xi dr lc zc lb zb f t m z::H) lc (fun j=>!decide (zo j=y j)) (fun j=>([(6,.bool (decide (y j<zo j)))],xi dr lc zc lb zb f t m z::H)) (Bt mo zo lc y true (Int.ofNat lc)++[(103,.bool false)],xi dr lc zc lb zb f t m z::H) (by omega) (fun j hj=>?_) ?_
 · have T:=t6 (n+1) dr lc zc lb zb H mo zo f t m z y true (j:Int);rw[qt,dJ (by omega)] at T;refine ay T (bo _ _ (Oi (by omega) (aW _))) (ai _ _) (aj _ _) ?_;clear T;refine Tr.ae (fun _=>Tr.ae (fun _=>Tr.aa wG (Tr.aa wG (Tr.aa wG (Tr.aa wG (Tr.ae (fun q=>Tr.ag ?_) (fun q=>?_)))))) (fun q=>by cases q)) wJ;all_goals rw[bw] at q
   · have q:=of_decide_eq_true q;rw[if_pos (by rw[decide_eq_false (show ¬ zo j=y j by omega)];rfl),decide_eq_false (show ¬ y j<zo j by omega)];rfl
   · have q:=of_decide_eq_false q;refine Tr.aa wG (Tr.aa wG (Tr.aa wG (Tr.aa wG (Tr.ae (fun q2=>Tr.ak trivial (Tr.ag ?_)) (fun q2=>Tr.ag ?_)))));all_goals rw[bw] at q2
     · have q2:=of_decide_eq_true q2;rw[if_pos (by rw[decide_eq_false (show ¬ zo j=y j by omega)];rfl),decide_eq_true (show y j<zo j by omega)];rfl
     · have q2:=of_decide_eq_false q2;rw[if_neg (by rw[decide_eq_true (show zo j=y j by omega)];decide)];exact ⟨rfl,rfl⟩
 · obtain ⟨x,h1,rfl⟩:=ay (Q:=fun x=>x=(.exit 0,Bt mo zo lc y true (Int.ofNat lc)++[(103,.bool false)],xi dr lc zc lb zb f t m z::H)) (t6 (n+1) dr lc zc lb zb H mo zo f t m z y true (Int.ofNat lc)) (bo _ _ (Oi (by omega) (aW _))) (ai _ _) (aj _ _) (by
    refine Tr.ae wJ (fun h0=>Tr.ag rfl))
   exact h1
theorem XF:exec (bL (n+1) 6 160) (.block 0 (.loop (part Tryd.f6 [1,1,1,1,1,1,1,0,1,0,1,1,1,0,1,0,0]))) (Bt mo zo lc y false (Int.ofNat 0)) (xi dr lc zc lb zb f t m z::H)=some (.normal,Bt mo zo lc y false (Int.ofNat 0)++[(103,.bool false)],xi dr lc zc lb zb f t m z::H):=by
 refine iG (n:=n+1) (f:=6) (nt:=160) (c:=part Tryd.f6 [1,1,1,1,1,1,1,0,1,0,1,1,1,0,1,0,0]) 0 (fun j=>Bt mo zo lc y false (j:Int)) (fun _=>xi dr lc zc lb zb f t m z::H) 0 (Bt mo zo lc y false (Int.ofNat 0)++[(103,.bool false)],xi dr lc zc lb zb f t m z::H) (by omega) (fun j hj=>by omega) ?_;obtain ⟨x,h1,rfl⟩:=ay (Q:=fun x=>x=(.exit 0,Bt mo zo lc y false (Int.ofNat 0)++[(103,.bool false)],xi dr lc zc lb zb f t m z::H)) (t6 (n+1) dr lc zc lb zb H mo zo f t m z y false (Int.ofNat 0)) (bo _ _ (Oi (by omega) (aW _))) (ai _ _) (aj _ _) (by
  refine Tr.ae (fun h0=>Tr.ae (fun q=>by cases q) (fun _=>Tr.ag rfl)) (fun h0=>Tr.ag rfl))
 exact h1
theorem Ma (h0:dg dr lc zc lb zb=0) (ho:xv dr lc zc lb zb=none) (hz:yg lc (bK dr lc zc) lb zb mo zo=0) (hx:cC (fun j=>!decide (zo j=az (lj (uF dr lc zc lb zb)) j)) lc=true):az (lj (uF dr lc zc lb zb)) (fN (fun j=>!decide (zo j=az (lj (uF dr lc zc lb zb)) j)) lc 0)<zo (fN (fun j=>!decide (zo j=az (lj (uF dr lc zc lb zb)) j)) lc 0):=by
 obtain ⟨h1,h2,h3,h4,h5,h6⟩:=kg h0;have hS:=B9 dr lc zc lb zb h1.2 h3 h4 h5 h6;obtain ⟨hp,hR⟩:=(FL h0).1 hz;obtain ⟨p1,p2⟩:=gd.1 hp;have hn:zq lc (fun c=>cH zb c lb) (bK dr lc zc)=true:=by show (xv dr lc zc lb zb).isNone=true;rw[ho];rfl
 have hlen:=(mj hS wA hn lc (Nat.le_refl _)).len;have hk:=mh hx;have hsp:=m6 (fun j=>!decide (zo j=az (lj (uF dr lc zc lb zb)) j)) lc 0;have hb:=hsp.2.2.1;have hne:=hsp.2.2.2 (by omega);generalize fN (fun j=>!decide (zo j=az (lj (uF dr lc zc lb zb)) j)) lc 0=k at *;have eq:∀ j,j<mo→zo j=(((lW zo mo).getD j 0:Nat):Int):=fun j hj=>by
  rw[List.getD_eq_getElem?_getD,List.getElem?_eq_getElem (by rw[eZ];exact hj)];show _=(((lW zo mo)[j]'(by rw[eZ];exact hj):Nat):Int);rw[lD];have:=(p2 j hj).1;omega
 have hlt:uF dr lc zc lb zb=eO lc (fun c=>cH zb c lb) (bK dr lc zc) lc:=rfl;have hle:=Ga hS wA hn (R:=lW zo mo) hR hk (by
  refine List.ext_getElem (by rw[List.length_take,List.length_take,eZ,hlen,p1]) (fun j a b=>?_);rw[List.length_take,eZ] at a;rw[List.getElem_take,List.getElem_take];have:=hb j (Nat.zero_le _) (by omega);rw[Bool.not_eq_false',decide_eq_true_iff,tc,eq j (by omega)] at this;rw[List.getD_eq_getElem?_getD,List.getD_eq_getElem?_getD,List.getElem?_eq_getElem (by rw[eZ];omega),List.getElem?_eq_getElem (by rw[hlt,hlen];omega)] at this;have this:(((lW zo mo)[j]'(by rw[eZ];omega):Nat):Int)=(((uF dr lc zc lb zb)[j]'(by rw[hlt,hlen];omega):Nat):Int):=this;exact Int.ofNat.inj this)
 rw[Bool.not_eq_true',decide_eq_false_iff_not] at hne;rw[tc] at hne ⊢;rw[eq k (by omega)] at hne ⊢;rw[hlt] at hne ⊢;omega
end
end Go.Eng
end
section
namespace Go.Eng
open Go.Proofs Go.Eng.Gall
section
variable (dr:Int) (lc:Nat) (zc:Nat→Int) (lb:Nat) (zb:Nat→Int) (n:Nat) (H:ab) (mo:Nat) (zo:Nat→Int) (f t:Int) (m:Nat) (z:Nat→Int)
theorem Qe (h0:dg dr lc zc lb zb=0) (q:Nat) {a38 a25:AV} (ha:Pl dr lc zc lb zb=a38) (hb:QP (qB (dx lc (fun c=>cH zb c lb) (bK dr lc zc))) lc (xv dr lc zc lb zb)=a25):(tX (tX (tX (tX (lX aD 15 IM) 23 [bn dr lc zc lb zb] (.int .i64 (Int.ofNat 0))) 38 [bn dr lc zc lb zb] a38) 25 [bn dr lc zc lb zb] a25) 34 [bn dr lc zc lb zb] (.tup [.int .i64 (Q.cntF lc (bK dr lc zc) (fR lb zb)),.int .i64 (Int.ofNat 0)])).Ok (cd (n+16+q)):=by
 obtain ⟨h1,h2,h3,h4,h5,h6⟩:=kg h0;subst ha hb;refine bR (bR (bR (bR (Oi (by omega) (aW _)) (fun H=>?_)) (fun H=>?_)) (fun H=>?_)) (fun H=>?_)
 · rw[show n+16+q=n+13+q+3 by omega];have:=Qp (n+13+q) dr lc zc lb zb H (by omega) (by omega);rw[h0] at this;exact this
 · rw[show n+16+q=n+1+q+15 by omega];exact VC (n+1+q) dr lc zc lb zb H (by omega) h0
 · rw[show n+16+q=n+1+q+15 by omega];exact Vz (n+1+q) dr lc zc lb zb H (by omega) h0
 · rw[show n+16+q=n+1+q+15 by omega];have:=VB (n+1+q) dr lc zc lb zb H (by omega) (by omega);unfold Q2 at this;rw[if_pos h0] at this;exact this
theorem GG (h0:dg dr lc zc lb zb=0) (q:Nat) (A:List AV) (H:ab) (hA:ND dr lc zc lb zb A):cd (n+16+q) (.fn 39) A H=some (.int .i64 (H5 dr lc zc lb zb A),H):=by
 obtain ⟨h1,h2,_⟩:=kg h0;obtain ⟨m,y,rfl,hm⟩:=hA;rw[show n+16+q=n+1+q+15 by omega];exact VD (n+1+q) dr lc zc lb zb m y H (by omega) h0 hm
theorem Mz (h0:dg dr lc zc lb zb=0) (q:Nat) (A:List AV) (H:ab) (hA:ND dr lc zc lb zb A):cd (n+16+q) (.fn 40) A H=some (.int .i64 (H5 dr lc zc lb zb A),H):=by
 obtain ⟨h1,h2,_⟩:=kg h0;obtain ⟨m,y,rfl,hm⟩:=hA;rw[show n+16+q=n+12+q+4 by omega];exact VE (n+12+q) dr lc zc lb zb H m y (by omega) h0 hm
theorem GF (h0:dg dr lc zc lb zb=0) (q:Nat) (A:List AV) (H:ab) (hA:Sj dr lc zc lb zb A):cd (n+16+q) (.fn 27) A H=some (.int .i64 (eB dr lc zc lb zb A),H):=by
 obtain ⟨h1,h2,_⟩:=kg h0;obtain ⟨f,t,m,z,rfl,hm⟩:=hA;rw[show n+16+q=n+1+q+15 by omega];exact VA (n+1+q) dr lc zc lb zb H f t m z (by omega) h0 hm
theorem VN (h0:dg dr lc zc lb zb=0) (hmo:mo≤20) (hm:m≤20) (ho:xv dr lc zc lb zb=none):cd (n+19) (.fn 6) [bn dr lc zc lb zb,aK mo zo false,pW f t m z] H=some (.bool true,H):=by
 obtain ⟨k1,k2,k3,k4,k5,k6⟩:=kg h0;have hS:=B9 dr lc zc lb zb k1.2 k3 k4 k5 k6;have hn:zq lc (fun c=>cH zb c lb) (bK dr lc zc)=true:=by show (xv dr lc zc lb zb).isNone=true;rw[ho];rfl
 have hfo:uF dr lc zc lb zb ∈ Gall.ro lc (Q.okW (bK dr lc zc) (fR lb zb)) lc:=Gb hS wA hn;have hf0:H5 dr lc zc lb zb [bn dr lc zc lb zb,aK lc (az (lj (uF dr lc zc lb zb))) false]=0:=Pt h0 hfo;have hc:x5 lc (dx lc (fun c=>cH zb c lb) (bK dr lc zc)) f t m z≠0:=Pa h0 hfo f t m z;have hkc:=(GY h0).1 ho;have hkb:=LU k1.2 (bK dr lc zc) (fR lb zb);have ht:∀ q,(tN (tX (tV (tV (tX (tX (tX (tX (lX aD 15 IM) 23 [bn dr lc zc lb zb] (.int .i64 (Int.ofNat 0))) 38 [bn dr lc zc lb zb] (.tup [aK lc (az (lj (uF dr lc zc lb zb))) false,.int .i64 (Int.ofNat 0)])) 25 [bn dr lc zc lb zb] (.tup [.agg (.G [.int .i64 (Int.ofNat 0),.int .i64 (Int.ofNat 0),.nils]),.int .i64 (Int.ofNat 5)])) 34 [bn dr lc zc lb zb] (.tup [.int .i64 (Q.cntF lc (bK dr lc zc) (fR lb zb)),.int .i64 (Int.ofNat 0)])) 39 (ND dr lc zc lb zb) (fun x=>.int .i64 (H5 dr lc zc lb zb x))) 40 (ND dr lc zc lb zb) (fun x=>.int .i64 (H5 dr lc zc lb zb x))) 27 [bn dr lc zc lb zb,pW f t m z] (.int .i64 (x5 lc (dx lc (fun c=>cH zb c lb) (bK dr lc zc)) f t m z))) 28).Ok (cd (n+16+q)):=fun q =>
  pR (bR (HL (HL (Qe dr lc zc lb zb n h0 q (by unfold Pl;rw[if_pos ho];rfl) (by rw[ho];rfl)) (GG dr lc zc lb zb n h0 q)) (Mz dr lc zc lb zb n h0 q)) (fun H=>GF dr lc zc lb zb n h0 q _ H ⟨f,t,m,z,rfl,by omega⟩))
 have key:∀ (p q r:Bool) (w:Int) (hr:H5 dr lc zc lb zb [bn dr lc zc lb zb,aK mo zo false]=0↔r=true) (hq:p=true→q=true) (hlp:exec (bL (n+18) 6 160) (.block 0 (.loop (part Tryd.f6 [1,1,1,1,1,1,1,0,1,0,1,1,1,0,1,0,0]))) (Bt mo zo lc (az (lj (uF dr lc zc lb zb))) r (Int.ofNat 0)) (xi dr lc zc lb zb f t m z::H)=some (cond p (.ret,[(6,.bool q)],xi dr lc zc lb zb f t m z::H) (.normal,Bt mo zo lc (az (lj (uF dr lc zc lb zb))) r w++[(103,.bool false)],xi dr lc zc lb zb f t m z::H))),cd (n+19) (.fn 6) [bn dr lc zc lb zb,aK mo zo false,pW f t m z] H=some (.bool true,H):=fun p q r w hr hq hlp=>by
  have T:=Ys (n+16) dr lc zc lb zb H mo zo f t m z (az (lj (uF dr lc zc lb zb))) (Q.cntF lc (bK dr lc zc) (fR lb zb)) (x5 lc (dx lc (fun c=>cH zb c lb) (bK dr lc zc)) f t m z) (H5 dr lc zc lb zb) (ND dr lc zc lb zb) (ND dr lc zc lb zb) p q r w;refine br (n:=n+18) Tryd.func6 rfl rfl rfl T (mA _ (n+16) 2 ht) (aP (ai _ _) b6 (fun x hx=>b7 hx hlp)) (aj _ _) ?_;clear T ht hlp;have f0:∀ {p:Prop},bx (cw (Int.ofNat 0) (Int.ofNat 0))=true→p:=fun q=>by simp[aB,aQ] at q
  have hE:∀ {p:Prop},bx (cw (H5 dr lc zc lb zb [bn dr lc zc lb zb,aK lc (az (lj (uF dr lc zc lb zb))) false]) (Int.ofNat 0))=true→p:=fun q=>by rw[hf0] at q;simp[aB,aQ] at q
  have hR:cw (H5 dr lc zc lb zb [bn dr lc zc lb zb,aK mo zo false]) (Int.ofNat 0)=r:=by
   rw[aQ,Bool.eq_iff_iff,← hr,beq_iff_eq];exact Iff.rfl
  refine Tr.ae wJ (fun _=>Tr.ae (fun _=>Tr.ak rfl (Tr.ae (fun q=>f0 q) (fun _=>Tr.ae wJ (fun _=>Tr.ae wJ (fun _=>?_))))) wJ);refine Tr.ak rfl (Tr.ak rfl (Tr.ak rfl (Tr.ak ⟨_,_,rfl,by omega⟩ (Tr.ak rfl (Tr.ae (fun q=>f0 q) (fun _=>Tr.ae wJ (fun _=>Tr.ae (fun _=>?_) (fun q=>by simp[aQ] at q))))))));refine Tr.ae (fun q=>by simp[aB,aQ] at q) (fun _=>?_);refine Tr.ae wJ (fun _=>Tr.ak ⟨_,_,rfl,by omega⟩ ?_);refine Tr.ae (fun q=>hE q) (fun _=>Tr.ak ⟨_,_,rfl,by omega⟩ ?_);refine Tr.ae (fun q=>hE q) (fun _=>?_);refine Tr.ae (fun q=>?_) (fun _=>Tr.ak ⟨_,_,rfl,by omega⟩ ?_);rotate_left;refine Tr.ae (fun q=>?_) (fun _=>Tr.ak ⟨?_,rfl⟩ (Tr.ae (fun q=>Tr.ag ⟨?_,rfl⟩) (fun _=>Tr.ak trivial (Tr.ag ⟨rfl,rfl⟩))));rotate_right
  · rw[aQ] at q;exact absurd (by simpa using q) hc
  · rw[aB,F1] at q;simp at q
  · show [(1,aK mo zo false),(7,aK lc (az (lj (uF dr lc zc lb zb))) false),(15,AV.bool (cw (H5 dr lc zc lb zb [bn dr lc zc lb zb,aK mo zo false]) (Int.ofNat 0))),(16,AV.int .i64 (Int.ofNat 0))]=_;rw[hR];rfl
  · rw[hq q]
 by_cases hz:yg lc (bK dr lc zc) lb zb mo zo=0
 · have hmo':mo=lc:=(gd.1 (LS hz)).1;exact key _ _ true _ ⟨fun _=>rfl,fun _=>hz⟩ (fun h=>decide_eq_true (Ma dr lc zc lb zb mo zo h0 ho hz h)) (l6 dr lc zc lb zb (n+17) H mo zo f t m z _ hmo' (by omega))
 · exact key false false false _ ⟨fun h=>absurd h hz,fun h=>by cases h⟩ (fun h=>by cases h) (XF dr lc zc lb zb (n+17) H mo zo f t m z _)
end
end Go.Eng
end
section
namespace Go.Eng
open Go.Proofs Go.Eng.Gall
section
variable (dr:Int) (lc:Nat) (zc:Nat→Int) (lb:Nat) (zb:Nat→Int) (n:Nat) (H:ab) (mo:Nat) (zo:Nat→Int) (f t:Int) (m:Nat) (z:Nat→Int)
theorem VO (h0:dg dr lc zc lb zb=0) (hmo:mo≤20) (hm:m≤20) (f2 t2:Int) (ho:xv dr lc zc lb zb=some (f2,t2)):cd (n+19) (.fn 6) [bn dr lc zc lb zb,aK mo zo false,pW f t m z] H=some (.bool true,H):=by
 obtain ⟨k1,k2,k3,k4,k5,k6⟩:=kg h0;have hrt:=G6 h0 ho;have hlen:=na (qB (dx lc (fun c=>cH zb c lb) (bK dr lc zc))) f2 t2 lc;have hkc:Q.cntF lc (bK dr lc zc) (fR lb zb)=0:=by
  apply Classical.byContradiction;intro h;rw[(GY h0).2 h] at ho;cases ho
 have he:yg lc (bK dr lc zc) lb zb mo zo≠0:=fun h=>by
  have:=((FL h0).1 h).2;unfold Q.cntF at hkc;rw[List.eq_nil_of_length_eq_zero (show (Gall.ro lc (Q.okW (bK dr lc zc) (fR lb zb)) lc).length=0 by omega)] at this;cases this
 have hno:¬ xv dr lc zc lb zb=none:=by rw[ho];exact fun h=>by cases h
 have hB:QP (qB (dx lc (fun c=>cH zb c lb) (bK dr lc zc))) lc (xv dr lc zc lb zb)=.tup [pW f2 t2 (dB (qB (dx lc (fun c=>cH zb c lb) (bK dr lc zc))) f2 t2 lc).length (az (dB (qB (dx lc (fun c=>cH zb c lb) (bK dr lc zc))) f2 t2 lc)),.int .i64 (Int.ofNat 0)]:=by rw[ho];rfl
 generalize hM:dB (qB (dx lc (fun c=>cH zb c lb) (bK dr lc zc))) f2 t2 lc=M at *;have ht:∀ q,(tX (tN (tX (tV (tX (tX (tX (tX (lX aD 15 IM) 23 [bn dr lc zc lb zb] (.int .i64 (Int.ofNat 0))) 38 [bn dr lc zc lb zb] (.tup [.nils,.int .i64 (Int.ofNat 13)])) 25 [bn dr lc zc lb zb] (.tup [pW f2 t2 M.length (az M),.int .i64 (Int.ofNat 0)])) 34 [bn dr lc zc lb zb] (.tup [.int .i64 (Q.cntF lc (bK dr lc zc) (fR lb zb)),.int .i64 (Int.ofNat 0)])) 27 (Sj dr lc zc lb zb) (fun x=>.int .i64 (eB dr lc zc lb zb x))) 39 [bn dr lc zc lb zb,aK mo zo false] (.int .i64 (yg lc (bK dr lc zc) lb zb mo zo))) 40) 28 [bn dr lc zc lb zb,pW f2 t2 M.length (az M)] (.int .i64 (x5 lc (dx lc (fun c=>cH zb c lb) (bK dr lc zc)) f2 t2 M.length (az M)))).Ok (cd (n+16+q)):=fun q =>
  bR (pR (bR (HL (Qe dr lc zc lb zb n h0 q (by unfold Pl;rw[if_neg hno];rfl) hB) (GF dr lc zc lb zb n h0 q)) (fun H=>GG dr lc zc lb zb n h0 q _ H ⟨mo,zo,rfl,by omega⟩))) (fun H=>by
   rw[show n+16+q=n+11+q+5 by omega];exact Qq (n+11+q) dr lc zc lb zb H f2 t2 M.length (az M) (by omega) h0 (by omega))
 have T:=Yt (n+16) dr lc zc lb zb H mo zo f t m z f2 t2 M.length (az M) (Q.cntF lc (bK dr lc zc) (fR lb zb)) (yg lc (bK dr lc zc) lb zb mo zo) (x5 lc (dx lc (fun c=>cH zb c lb) (bK dr lc zc)) f2 t2 M.length (az M)) (eB dr lc zc lb zb) (Sj dr lc zc lb zb);refine br (n:=n+18) Tryd.func6 rfl rfl rfl T (mA _ (n+16) 2 ht) (ai _ _) (aj _ _) ?_;clear T ht hB;have hE:eB dr lc zc lb zb [bn dr lc zc lb zb,pW f2 t2 M.length (az M)]=0:=hrt;have f0:∀ {p:Prop},bx (cw (Int.ofNat 0) (Int.ofNat 0))=true→p:=fun q=>by simp[aB,aQ] at q
 rw[hkc,hrt];refine Tr.ae wJ (fun _=>Tr.ae (fun _=>Tr.ak rfl (Tr.ae (fun q=>f0 q) (fun _=>Tr.ae wJ (fun _=>Tr.ae wJ (fun _=>?_))))) wJ);refine Tr.ak rfl (Tr.ak rfl (Tr.ak rfl (Tr.ak rfl (Tr.ak ⟨_,_,_,_,rfl,by omega⟩ ?_))));refine Tr.ae (fun q=>f0 q) (fun _=>Tr.ae (fun q=>by simp[bw] at q) (fun _=>Tr.ae (fun q=>by simp[aQ] at q) (fun _=>?_)));refine Tr.ae (fun _=>Tr.ae (fun _=>Tr.ae (fun _=>?_) (fun q=>by simp[aQ] at q)) (fun q=>by simp[aQ] at q)) (fun q=>by simp[aQ] at q);refine Tr.ak ⟨_,_,_,_,rfl,by omega⟩ (Tr.ae (fun _=>?_) (fun q=>?_))
 · refine Tr.ak rfl (Tr.ae (fun _=>Tr.ae (fun _=>Tr.ak trivial (Tr.ag ⟨rfl,rfl⟩)) (fun q=>?_)) (fun q=>by simp[aQ] at q));rw[aB,aQ,Bool.not_eq_false'] at q;exact absurd (by simpa using q) he
 · exfalso;have q:cw (eB dr lc zc lb zb [bn dr lc zc lb zb,pW f2 t2 M.length (az M)]) (Int.ofNat 0)=false:=q;rw[hE] at q;simp[aQ] at q
theorem c6:cd (n+19) (.fn 6) [bn dr lc zc lb zb,aK mo zo false,pW f t m z] H=some (.bool true,H):=by
 by_cases hg:(dg dr lc zc lb zb=0∧mo≤20)∧m≤20
 · obtain ⟨⟨h0,hmo⟩,hm⟩:=hg;cases ho:xv dr lc zc lb zb with
   | none=>exact VN dr lc zc lb zb n H mo zo f t m z h0 hmo hm ho
   | some v=>exact VO dr lc zc lb zb n H mo zo f t m z h0 hmo hm v.1 v.2 ho
 · refine br (n:=n+18) Tryd.func6 rfl rfl rfl (Yu (n+16) dr lc zc lb zb H mo zo f t m z (dg dr lc zc lb zb) (fun x=>x=[bn dr lc zc lb zb]∧lc≤1000∧lb≤1000)) (mA _ (n+16) 2 (fun q=>pR (Gm (Oi (by omega) (aW _)) (fun A H hA=>by
    obtain ⟨rfl,q1,q2⟩:=hA;rw[show n+16+q=n+13+q+3 by omega];exact Qp (n+13+q) dr lc zc lb zb H q1 q2)))) (ai _ _) (aj _ _) ?_
   refine Tr.ae (fun _=>Tr.ak trivial (Tr.ag ⟨rfl,rfl⟩)) (fun r1=>Tr.ae (fun r2=>Tr.ak ⟨rfl,?_⟩ (Tr.ae (fun _=>Tr.ak trivial (Tr.ag ⟨rfl,rfl⟩)) (fun q=>Tr.ae (fun _=>Tr.ak trivial (Tr.ag ⟨rfl,rfl⟩)) (fun q2=>Tr.ae (fun _=>Tr.ak trivial (Tr.ag ⟨rfl,rfl⟩)) (fun q3=>?_))))) (fun _=>Tr.ak trivial (Tr.ag ⟨rfl,rfl⟩)))
   · simp (disch:=omega) only[nV,nW] at r1;simp (disch:=omega) only[nV,nW] at r2;omega
   · exfalso;rw[aB,aQ] at q;have q:dg dr lc zc lb zb=0:=by simpa using q
     simp (disch:=omega) only[nV,nW] at q2;simp (disch:=omega) only[nV,nW] at q3;omega
end
end Go.Eng
end
section
namespace Go.Proofs.YtgphpjdchnfjlaaDoor
open Go.ChangeShapes Go.WideShapes Go.ChangeAt Go.RowKit
theorem Tryd.own:ownKnob Tryd.prog.godebug=none:=by kernel_rfl
def Cg:List (String×DataW Unit):=[("math/bits.deBruijn32tab",Rows.laid_math_bits_deBruijn32tab),("math/bits.deBruijn64tab",Rows.laid_math_bits_deBruijn64tab)]
def t32:List Int:=Go.Lib.deBruijn32tab.map fun n:Nat=>(n:Int)
def t64:List Int:=Go.Lib.deBruijn64tab.map fun n:Nat=>(n:Int)
theorem Qa:(Rows.laid_math_bits_deBruijn64tab:DataW Unit)=Lib.tabData .u8 t64:=by kernel_rfl
set_option maxRecDepth 100000 in
theorem Gp {W:World} (h:laidMetH Tryd.prog Cg W):Eng.lZ W:=by
 have h':laidMet Tryd.prog Cg W:=h;obtain ⟨ps,hv,_⟩:=h';obtain ⟨_,_,_,_,_,_,_,_,_,_,hv,_⟩:=hv;obtain ⟨g,t,cs,fuel,p,q,h1,h2,h3,h4,_⟩:=hv;obtain rfl:1=g:=Option.some.inj ((show Tryd.prog.globalNamed "math/bits.deBruijn64tab" = some 1 by kernel_rfl).symm.trans h1);obtain rfl:139=t:=Option.some.inj ((show (Tryd.prog.globals[1]?).map (·.type)=some 139 by kernel_rfl).symm.trans h2);rw[Qa] at h4;have hcs:=Lib.cells_of_tab Tryd.underlying139 Tryd.underlying5 (by kernel_rfl) (by kernel_rfl) h4;intro b o v hg;unfold Eng.po at hg;split at hg
 · rename_i hbo;obtain ⟨rfl,ho⟩:=hbo;simp only[Option.some.injEq] at hg;subst hg;rw[World.var?_cell h1 h3 o,← Array.getElem?_toList,hcs,List.getElem?_map];have hl:Go.Lib.deBruijn64tab.length=64:=by decide
   rw[t64,List.getElem?_map,List.getElem?_eq_getElem (by omega)];simp only[Option.map_some,List.getD_eq_getElem?_getD,List.getElem?_eq_getElem (show o<Go.Lib.deBruijn64tab.length by omega),Option.getD_some]
 · cases hg
noncomputable def qC (os:Os):World :=
 let w0:=World.holding Tryd.prog os ⟨#[],#[],[]⟩
 let put (h:Array Obj) (g:Nat) (cs:Array Value):Array Obj:=h.modify g fun
  | .cells _ t frozen=>.cells cs t frozen
  | o=>o
 { w0 with heap:=put (put w0.heap 0 (t32.map fun z=>Value.int .u8 z).toArray) 1 (t64.map fun z=>Value.int .u8 z).toArray }
theorem IY (os:Os) (args:Array Value):LaidIn Tryd.prog ((qC os).forCall (fun _ _=>0) ⟨#[],args,[]⟩).memory Cg [0,1] :=
 LaidIn.of_run [0,1] 8 (by kernel_rfl) (by kernel_rfl) (by kernel_rfl) (by kernel_rfl)
theorem GA (os:Os) (args:Array Value):laidMetH Tryd.prog Cg ((qC os).forCall (fun _ _=>0) ⟨#[],args,[]⟩).memory:=(IY os args).met
end Go.Proofs.YtgphpjdchnfjlaaDoor
end
section
namespace Go.Eng.Gall
open Go.Proofs
def P2:List cE:=[]
theorem DL:∀ e ∈ P2,aG Tryd.prog e:=Jh
def jW:List Int:=[100,110,60,110,90,95,75,100,120,125,80,110,80,80,70,200]
def Fh:List Int:=[100,110,90,110,90,95,75,100,120,125,80,110,80,80,70,200]
def gR (a b w s:List Int):Row:=.G (.int .i64 10::.slcT none (.I .i64 a) 4 4 true::.slcT none (.I .i64 b) 2 1 true::(w.map (AV.int .i64)++s.map (AV.int .u64)))
def gA (a b:List Int):AV:=.agg (.G [.int .i64 10,.slcT none (.I .i64 a) 4 4 true,.slcT none (.I .i64 b) 2 1 true])
noncomputable def E1:cE:=⟨46,[],gA jW [3,1]⟩
theorem XS:aG Tryd.prog E1:=a7 DL (H':=[⟨true,[]⟩]) (by kernel_rfl) (by kernel_rfl)
noncomputable def P3:List cE:=E1::P2
theorem DM:∀ e ∈ P3,aG Tryd.prog e:=a6 XS DL
noncomputable def E2:cE:=⟨47,[],gA Fh [3,1]⟩
theorem XT:aG Tryd.prog E2:=a7 DM (H':=[⟨true,[]⟩]) (by kernel_rfl) (by kernel_rfl)
noncomputable def P4:List cE:=E2::P3
theorem DN:∀ e ∈ P4,aG Tryd.prog e:=a6 XT DM
noncomputable def E3:cE:=⟨22,[gA jW [3,1]],.int .i64 0⟩
theorem XU:aG Tryd.prog E3:=a7 DN (H':=[⟨true,[]⟩]) (by kernel_rfl) (by kernel_rfl)
noncomputable def P5:List cE:=E3::P4
theorem DO:∀ e ∈ P5,aG Tryd.prog e:=a6 XU DN
noncomputable def E4:cE:=⟨16,[gA jW [3,1],.int .i64 2,.int .i64 2],.tup [.agg (.I .i64 [100,105]),.int .i64 0]⟩
theorem XV:aG Tryd.prog E4:=a7 DO (H':=[⟨true,[]⟩]) (by kernel_rfl) (by kernel_rfl)
noncomputable def P6:List cE:=E4::P5
theorem DP:∀ e ∈ P6,aG Tryd.prog e:=a6 XV DO
end Go.Eng.Gall
end
section
namespace Go.Eng.Gall
open Go.Proofs
noncomputable def E5:cE:=⟨18,[gA jW [3,1],.int .i64 2],.tup [.agg (.I .i64 [2,3]),.int .i64 0]⟩
theorem XW:aG Tryd.prog E5:=a7 DP (H':=[⟨true,[]⟩]) (by kernel_rfl) (by kernel_rfl)
noncomputable def P7:List cE:=E5::P6
theorem DQ:∀ e ∈ P7,aG Tryd.prog e:=a6 XW DP
noncomputable def E6:cE:=⟨56,[.ptrT none (gR jW [3,1] [0,3,0,1,2,3,0,1,0,0,0,0,0,0,0,0,0,0,0,0] [0,8,0,0,0,0,0,0,0,0]) 0],.agg (.I .i64 [0,3,1,1,2,3,0,0,0,0,0,0,0,0,0,0,0,0,0,0])⟩
theorem XX:aG Tryd.prog E6:=a7 DQ (H':=[⟨true,[]⟩]) (by kernel_rfl) (by kernel_rfl)
noncomputable def P9:List cE:=E6::P7
theorem DR:∀ e ∈ P9,aG Tryd.prog e:=a6 XX DQ
noncomputable def E7:cE:=⟨20,[gA jW [3,1],.int .i64 1],.tup [.agg (.I .i64 [1,1]),.int .i64 0]⟩
theorem XY:aG Tryd.prog E7:=a7 DR (H':=[⟨true,[]⟩]) (by kernel_rfl) (by kernel_rfl)
noncomputable def Qb:List cE:=E7::P9
theorem DS:∀ e ∈ Qb,aG Tryd.prog e:=a6 XY DR
noncomputable def E8:cE:=⟨49,[gA jW [3,1],.nils],.tup [.ptrT none (gR jW [3,1] [0,3,0,1,2,3,0,1,0,0,0,0,0,0,0,0,0,0,0,0] [0,8,0,0,0,0,0,0,0,0]) 0,.int .i64 0]⟩
theorem XZ:aG Tryd.prog E8:=a7 DS (H':=[⟨true,[]⟩]) (by kernel_rfl) (by kernel_rfl)
noncomputable def Qc:List cE:=E8::Qb
theorem DT:∀ e ∈ Qc,aG Tryd.prog e:=a6 XZ DS
end Go.Eng.Gall
end
section
namespace Go.Eng.Gall
open Go.Proofs
noncomputable def E9:cE:=⟨65,[.ptrT none (gR jW [3,1] [0,3,0,1,2,3,0,1,0,0,0,0,0,0,0,0,0,0,0,0] [0,8,0,0,0,0,0,0,0,0]) 0],.tup [.agg (.G [.int .i64 0,.int .i64 0,.nils]),.bool false]⟩
theorem X0:aG Tryd.prog E9:=a7 DT (H':=[⟨true,[]⟩]) (by kernel_rfl) (by kernel_rfl)
noncomputable def Qd:List cE:=E9::Qc
theorem DU:∀ e ∈ Qd,aG Tryd.prog e:=a6 X0 DT
noncomputable def T9:cE:=⟨56,[.ptrT none (gR jW [3,1] [0,0,0,1,2,3,0,1,0,0,0,0,0,0,0,0,0,0,0,0] [0,8,0,0,0,0,0,0,0,0]) 0],.agg (.I .i64 [0,0,1,1,2,3,0,0,0,0,0,0,0,0,0,0,0,0,0,0])⟩
theorem Sn:aG Tryd.prog T9:=a7 DU (H':=[⟨true,[]⟩]) (by kernel_rfl) (by kernel_rfl)
noncomputable def KM:List cE:=T9::Qd
theorem Aa:∀ e ∈ KM,aG Tryd.prog e:=a6 Sn DU
noncomputable def Ua:cE:=⟨65,[.ptrT none (gR jW [3,1] [0,0,0,1,2,3,0,1,0,0,0,0,0,0,0,0,0,0,0,0] [0,8,0,0,0,0,0,0,0,0]) 0],.tup [.agg (.G [.int .i64 0,.int .i64 0,.slcT none (.I .i64 [0,3]) 1 2 false]),.bool true]⟩
theorem Sp:aG Tryd.prog Ua:=a7 Aa (H':=[⟨true,[]⟩]) (by kernel_rfl) (by kernel_rfl)
noncomputable def KN:List cE:=Ua::KM
theorem Ab:∀ e ∈ KN,aG Tryd.prog e:=a6 Sp Aa
noncomputable def Ub:cE:=⟨56,[.ptrT none (gR jW [3,1] [0,3,0,1,2,3,0,0,0,0,0,0,0,0,0,0,0,0,0,0] [0,8,0,0,0,0,0,0,0,0]) 0],.agg (.I .i64 [0,3,1,1,2,3,0,0,0,0,0,0,0,0,0,0,0,0,0,0])⟩
theorem Sq:aG Tryd.prog Ub:=a7 Ab (H':=[⟨true,[]⟩]) (by kernel_rfl) (by kernel_rfl)
noncomputable def KO:List cE:=Ub::KN
theorem Ac:∀ e ∈ KO,aG Tryd.prog e:=a6 Sq Ab
end Go.Eng.Gall
end
section
namespace Go.Eng.Gall
open Go.Proofs
noncomputable def Uc:cE:=⟨65,[.ptrT none (gR jW [3,1] [0,3,0,1,2,3,0,0,0,0,0,0,0,0,0,0,0,0,0,0] [0,8,0,0,0,0,0,0,0,0]) 0],.tup [.agg (.G [.int .i64 0,.int .i64 0,.nils]),.bool false]⟩
theorem Sr:aG Tryd.prog Uc:=a7 Ac (H':=[⟨true,[]⟩]) (by kernel_rfl) (by kernel_rfl)
noncomputable def KP:List cE:=Uc::KO
theorem Ad:∀ e ∈ KP,aG Tryd.prog e:=a6 Sr Ac
noncomputable def Ud:cE:=⟨56,[.ptrT none (gR jW [3,1] [1,1,0,1,2,3,0,0,0,0,0,0,0,0,0,0,0,0,0,0] [0,8,0,0,0,0,0,0,0,0]) 0],.agg (.I .i64 [1,1,1,1,2,3,0,0,0,0,0,0,0,0,0,0,0,0,0,0])⟩
theorem Ss:aG Tryd.prog Ud:=a7 Ad (H':=[⟨true,[]⟩]) (by kernel_rfl) (by kernel_rfl)
noncomputable def KQ:List cE:=Ud::KP
theorem Ae:∀ e ∈ KQ,aG Tryd.prog e:=a6 Ss Ad
noncomputable def Ue:cE:=⟨65,[.ptrT none (gR jW [3,1] [1,1,0,1,2,3,0,0,0,0,0,0,0,0,0,0,0,0,0,0] [0,8,0,0,0,0,0,0,0,0]) 0],.tup [.agg (.G [.int .i64 0,.int .i64 1,.slcT none (.I .i64 [0,1,3]) 1 3 false]),.bool true]⟩
theorem Su:aG Tryd.prog Ue:=a7 Ae (H':=[⟨true,[]⟩]) (by kernel_rfl) (by kernel_rfl)
noncomputable def KR:List cE:=Ue::KQ
theorem Af:∀ e ∈ KR,aG Tryd.prog e:=a6 Su Ae
noncomputable def Uf:cE:=⟨56,[.ptrT none (gR jW [3,1] [0,3,1,1,2,3,0,0,0,0,0,0,0,0,0,0,0,0,0,0] [0,8,0,0,0,0,0,0,0,0]) 0],.agg (.I .i64 [0,3,1,1,2,3,0,0,0,0,0,0,0,0,0,0,0,0,0,0])⟩
theorem Sv:aG Tryd.prog Uf:=a7 Af (H':=[⟨true,[]⟩]) (by kernel_rfl) (by kernel_rfl)
noncomputable def KS:List cE:=Uf::KR
theorem Ag:∀ e ∈ KS,aG Tryd.prog e:=a6 Sv Af
end Go.Eng.Gall
end
section
namespace Go.Eng.Gall
open Go.Proofs
noncomputable def Ug:cE:=⟨65,[.ptrT none (gR jW [3,1] [0,3,1,1,2,3,0,0,0,0,0,0,0,0,0,0,0,0,0,0] [0,8,0,0,0,0,0,0,0,0]) 0],.tup [.agg (.G [.int .i64 0,.int .i64 0,.nils]),.bool false]⟩
theorem Sw:aG Tryd.prog Ug:=a7 Ag (H':=[⟨true,[]⟩]) (by kernel_rfl) (by kernel_rfl)
noncomputable def KU:List cE:=Ug::KS
theorem Ah:∀ e ∈ KU,aG Tryd.prog e:=a6 Sw Ag
noncomputable def Uh:cE:=⟨56,[.ptrT none (gR jW [3,1] [2,2,1,1,2,3,0,0,0,0,0,0,0,0,0,0,0,0,0,0] [0,8,0,0,0,0,0,0,0,0]) 0],.agg (.I .i64 [2,2,1,1,2,3,0,0,0,0,0,0,0,0,0,0,0,0,0,0])⟩
theorem Sx:aG Tryd.prog Uh:=a7 Ah (H':=[⟨true,[]⟩]) (by kernel_rfl) (by kernel_rfl)
noncomputable def KV:List cE:=Uh::KU
theorem Ai:∀ e ∈ KV,aG Tryd.prog e:=a6 Sx Ah
noncomputable def Ui:cE:=⟨65,[.ptrT none (gR jW [3,1] [2,2,1,1,2,3,0,0,0,0,0,0,0,0,0,0,0,0,0,0] [0,8,0,0,0,0,0,0,0,0]) 0],.tup [.agg (.G [.int .i64 0,.int .i64 0,.nils]),.bool false]⟩
theorem Sy:aG Tryd.prog Ui:=a7 Ai (H':=[⟨true,[]⟩]) (by kernel_rfl) (by kernel_rfl)
noncomputable def KW:List cE:=Ui::KV
theorem Aj:∀ e ∈ KW,aG Tryd.prog e:=a6 Sy Ai
noncomputable def Uj:cE:=⟨56,[.ptrT none (gR jW [3,1] [2,2,1,1,3,3,0,0,0,0,0,0,0,0,0,0,0,0,0,0] [0,8,0,0,0,0,0,0,0,0]) 0],.agg (.I .i64 [2,2,1,1,3,3,0,0,0,0,0,0,0,0,0,0,0,0,0,0])⟩
theorem Sz:aG Tryd.prog Uj:=a7 Aj (H':=[⟨true,[]⟩]) (by kernel_rfl) (by kernel_rfl)
noncomputable def KX:List cE:=Uj::KW
theorem Ak:∀ e ∈ KX,aG Tryd.prog e:=a6 Sz Aj
end Go.Eng.Gall
end
section
namespace Go.Eng.Gall
open Go.Proofs
noncomputable def Uk:cE:=⟨65,[.ptrT none (gR jW [3,1] [2,2,1,1,3,3,0,0,0,0,0,0,0,0,0,0,0,0,0,0] [0,8,0,0,0,0,0,0,0,0]) 0],.tup [.agg (.G [.int .i64 0,.int .i64 0,.nils]),.bool false]⟩
theorem SA:aG Tryd.prog Uk:=a7 Ak (H':=[⟨true,[]⟩]) (by kernel_rfl) (by kernel_rfl)
noncomputable def KY:List cE:=Uk::KX
theorem Al:∀ e ∈ KY,aG Tryd.prog e:=a6 SA Ak
noncomputable def Ul:cE:=⟨74,[.ptrT none (gR jW [3,1] [0,3,0,1,2,3,0,1,0,0,0,0,0,0,0,0,0,0,0,0] [0,8,0,0,0,0,0,0,0,0]) 0],.slcT none (.I .i64 [3,1,0,2]) 1 4 false⟩
theorem SB:aG Tryd.prog Ul:=a7 Al (H':=[⟨true,[]⟩]) (by kernel_rfl) (by kernel_rfl)
noncomputable def KZ:List cE:=Ul::KY
theorem Am:∀ e ∈ KZ,aG Tryd.prog e:=a6 SB Al
noncomputable def Um:cE:=⟨38,[gA jW [3,1]],.tup [.slcT none (.I .i64 [3,1,0,2]) 1 4 true,.int .i64 0]⟩
theorem SC:aG Tryd.prog Um:=a7 Am (H':=[⟨true,[]⟩]) (by kernel_rfl) (by kernel_rfl)
noncomputable def K0:List cE:=Um::KZ
theorem An:∀ e ∈ K0,aG Tryd.prog e:=a6 SC Am
noncomputable def Un:cE:=⟨22,[gA Fh [3,1]],.int .i64 0⟩
theorem SD:aG Tryd.prog Un:=a7 An (H':=[⟨true,[]⟩]) (by kernel_rfl) (by kernel_rfl)
noncomputable def K1:List cE:=Un::K0
theorem Ao:∀ e ∈ K1,aG Tryd.prog e:=a6 SD An
end Go.Eng.Gall
end
section
namespace Go.Eng.Gall
open Go.Proofs
noncomputable def Uo:cE:=⟨49,[gA Fh [3,1],.nils],.tup [.ptrT none (gR Fh [3,1] [0,1,0,1,2,3,0,1,0,0,0,0,0,0,0,0,0,0,0,0] [0,8,0,0,0,0,0,0,0,0]) 0,.int .i64 0]⟩
theorem SE:aG Tryd.prog Uo:=a7 Ao (H':=[⟨true,[]⟩]) (by kernel_rfl) (by kernel_rfl)
noncomputable def K2:List cE:=Uo::K1
theorem Ap:∀ e ∈ K2,aG Tryd.prog e:=a6 SE Ao
noncomputable def Up:cE:=⟨56,[.ptrT none (gR Fh [3,1] [0,1,0,1,2,3,0,1,0,0,0,0,0,0,0,0,0,0,0,0] [0,8,0,0,0,0,0,0,0,0]) 0],.agg (.I .i64 [0,1,1,1,2,3,0,0,0,0,0,0,0,0,0,0,0,0,0,0])⟩
theorem SF:aG Tryd.prog Up:=a7 Ap (H':=[⟨true,[]⟩]) (by kernel_rfl) (by kernel_rfl)
noncomputable def K3:List cE:=Up::K2
theorem Aq:∀ e ∈ K3,aG Tryd.prog e:=a6 SF Ap
noncomputable def Uq:cE:=⟨65,[.ptrT none (gR Fh [3,1] [0,1,0,1,2,3,0,1,0,0,0,0,0,0,0,0,0,0,0,0] [0,8,0,0,0,0,0,0,0,0]) 0],.tup [.agg (.G [.int .i64 0,.int .i64 1,.slcT none (.I .i64 [0,1,3]) 1 3 false]),.bool true]⟩
theorem SG:aG Tryd.prog Uq:=a7 Aq (H':=[⟨true,[]⟩]) (by kernel_rfl) (by kernel_rfl)
noncomputable def K4:List cE:=Uq::K3
theorem Ar:∀ e ∈ K4,aG Tryd.prog e:=a6 SG Aq
noncomputable def Ur:cE:=⟨74,[.ptrT none (gR Fh [3,1] [0,1,0,1,2,3,0,1,0,0,0,0,0,0,0,0,0,0,0,0] [0,8,0,0,0,0,0,0,0,0]) 0],.nils⟩
theorem SH:aG Tryd.prog Ur:=a7 Ar (H':=[⟨true,[]⟩]) (by kernel_rfl) (by kernel_rfl)
noncomputable def K5:List cE:=Ur::K4
theorem Au:∀ e ∈ K5,aG Tryd.prog e:=a6 SH Ar
end Go.Eng.Gall
end
section
namespace Go.Eng.Gall
open Go.Proofs
noncomputable def Us:cE:=⟨38,[gA Fh [3,1]],.tup [.nils,.int .i64 13]⟩
theorem SI:aG Tryd.prog Us:=a7 Au (H':=[⟨true,[]⟩]) (by kernel_rfl) (by kernel_rfl)
noncomputable def K6:List cE:=Us::K5
theorem Aw:∀ e ∈ K6,aG Tryd.prog e:=a6 SI Au
noncomputable def Ut:cE:=⟨25,[gA Fh [3,1]],.tup [.agg (.G [.int .i64 0,.int .i64 1,.slcT none (.I .i64 [0,1,3]) 1 3 false]),.int .i64 0]⟩
theorem SJ:aG Tryd.prog Ut:=a7 Aw (H':=[⟨true,[]⟩]) (by kernel_rfl) (by kernel_rfl)
noncomputable def K7:List cE:=Ut::K6
theorem Ax:∀ e ∈ K7,aG Tryd.prog e:=a6 SJ Aw
noncomputable def Uu:cE:=⟨56,[.ptrT none (gR jW [3,1] [1,1,0,1,2,3,0,1,0,0,0,0,0,0,0,0,0,0,0,0] [0,8,0,0,0,0,0,0,0,0]) 0],.agg (.I .i64 [1,1,1,1,2,3,0,0,0,0,0,0,0,0,0,0,0,0,0,0])⟩
theorem SK:aG Tryd.prog Uu:=a7 Ax (H':=[⟨true,[]⟩]) (by kernel_rfl) (by kernel_rfl)
noncomputable def K8:List cE:=Uu::K7
theorem Ay:∀ e ∈ K8,aG Tryd.prog e:=a6 SK Ax
noncomputable def Uv:cE:=⟨65,[.ptrT none (gR jW [3,1] [1,1,0,1,2,3,0,1,0,0,0,0,0,0,0,0,0,0,0,0] [0,8,0,0,0,0,0,0,0,0]) 0],.tup [.agg (.G [.int .i64 0,.int .i64 1,.slcT none (.I .i64 [0,1,3]) 1 3 false]),.bool true]⟩
theorem SL:aG Tryd.prog Uv:=a7 Ay (H':=[⟨true,[]⟩]) (by kernel_rfl) (by kernel_rfl)
noncomputable def K9:List cE:=Uv::K8
theorem Az:∀ e ∈ K9,aG Tryd.prog e:=a6 SL Ay
end Go.Eng.Gall
end
section
namespace Go.Eng.Gall
open Go.Proofs
noncomputable def Uw:cE:=⟨56,[.ptrT none (gR jW [3,1] [2,2,0,1,2,3,0,1,0,0,0,0,0,0,0,0,0,0,0,0] [0,8,0,0,0,0,0,0,0,0]) 0],.agg (.I .i64 [2,2,1,1,2,3,0,0,0,0,0,0,0,0,0,0,0,0,0,0])⟩
theorem SM:aG Tryd.prog Uw:=a7 Az (H':=[⟨true,[]⟩]) (by kernel_rfl) (by kernel_rfl)
noncomputable def La:List cE:=Uw::K9
theorem AA:∀ e ∈ La,aG Tryd.prog e:=a6 SM Az
noncomputable def Ux:cE:=⟨65,[.ptrT none (gR jW [3,1] [2,2,0,1,2,3,0,1,0,0,0,0,0,0,0,0,0,0,0,0] [0,8,0,0,0,0,0,0,0,0]) 0],.tup [.agg (.G [.int .i64 0,.int .i64 0,.nils]),.bool false]⟩
theorem SN:aG Tryd.prog Ux:=a7 AA (H':=[⟨true,[]⟩]) (by kernel_rfl) (by kernel_rfl)
noncomputable def Lb:List cE:=Ux::La
theorem AB:∀ e ∈ Lb,aG Tryd.prog e:=a6 SN AA
noncomputable def Uy:cE:=⟨56,[.ptrT none (gR jW [3,1] [3,3,0,1,2,3,0,1,0,0,0,0,0,0,0,0,0,0,0,0] [0,8,0,0,0,0,0,0,0,0]) 0],.agg (.I .i64 [3,3,1,1,2,3,0,0,0,0,0,0,0,0,0,0,0,0,0,0])⟩
theorem SO:aG Tryd.prog Uy:=a7 AB (H':=[⟨true,[]⟩]) (by kernel_rfl) (by kernel_rfl)
noncomputable def Lc:List cE:=Uy::Lb
theorem AD:∀ e ∈ Lc,aG Tryd.prog e:=a6 SO AB
noncomputable def Uz:cE:=⟨65,[.ptrT none (gR jW [3,1] [3,3,0,1,2,3,0,1,0,0,0,0,0,0,0,0,0,0,0,0] [0,8,0,0,0,0,0,0,0,0]) 0],.tup [.agg (.G [.int .i64 0,.int .i64 0,.nils]),.bool false]⟩
theorem SP:aG Tryd.prog Uz:=a7 AD (H':=[⟨true,[]⟩]) (by kernel_rfl) (by kernel_rfl)
noncomputable def Ld:List cE:=Uz::Lc
theorem AE:∀ e ∈ Ld,aG Tryd.prog e:=a6 SP AD
end Go.Eng.Gall
end
section
namespace Go.Eng.Gall
open Go.Proofs
noncomputable def UA:cE:=⟨30,[gA jW [3,1],.int .i64 0],.tup [.slcT none (.I .i64 [2,3]) 1 2 false,.int .i64 0]⟩
theorem SQ:aG Tryd.prog UA:=a7 AE (H':=[⟨true,[]⟩]) (by kernel_rfl) (by kernel_rfl)
noncomputable def Le:List cE:=UA::Ld
theorem AF:∀ e ∈ Le,aG Tryd.prog e:=a6 SQ AE
noncomputable def UB:cE:=⟨56,[.ptrT none (gR jW [3,1] [0,3,0,1,2,3,0,1,0,0,0,0,0,0,0,0,0,0,0,0] [0,9,0,0,0,0,0,0,0,0]) 0],.agg (.I .i64 [0,0,1,1,2,3,0,0,0,0,0,0,0,0,0,0,0,0,0,0])⟩
theorem SR:aG Tryd.prog UB:=a7 AF (H':=[⟨true,[]⟩]) (by kernel_rfl) (by kernel_rfl)
noncomputable def Lf:List cE:=UB::Le
theorem AG:∀ e ∈ Lf,aG Tryd.prog e:=a6 SR AF
noncomputable def UC:cE:=⟨65,[.ptrT none (gR jW [3,1] [0,3,0,1,2,3,0,1,0,0,0,0,0,0,0,0,0,0,0,0] [0,9,0,0,0,0,0,0,0,0]) 0],.tup [.agg (.G [.int .i64 0,.int .i64 0,.slcT none (.I .i64 [0,3]) 1 2 false]),.bool true]⟩
theorem SS:aG Tryd.prog UC:=a7 AG (H':=[⟨true,[]⟩]) (by kernel_rfl) (by kernel_rfl)
noncomputable def Lg:List cE:=UC::Lf
theorem AH:∀ e ∈ Lg,aG Tryd.prog e:=a6 SS AG
noncomputable def UD:cE:=⟨32,[gA jW [3,1],.int .i64 1,.int .i64 0],.tup [.bool true,.int .i64 0]⟩
theorem SU:aG Tryd.prog UD:=a7 AH (H':=[⟨true,[]⟩]) (by kernel_rfl) (by kernel_rfl)
noncomputable def Lh:List cE:=UD::Lg
theorem HM:∀ e ∈ Lh,aG Tryd.prog e:=a6 SU AH
end Go.Eng.Gall
end
section
namespace Go.Eng.Gall
open Go.Proofs
noncomputable def UE:cE:=⟨73,[.ptrT none (gR jW [3,1] [0,3,0,1,2,3,0,1,0,0,0,0,0,0,0,0,0,0,0,0] [0,8,0,0,0,0,0,0,0,0]) 0],.int .i64 2⟩
theorem SV:aG Tryd.prog UE:=G2 (dr:=10) (lc:=4) (zl:=[100,110,60,110,90,95,75,100,120,125,80,110,80,80,70,200]) (lb:=1) (bl:=[3,1]) (f1:=true) (f2:=true) (Wl:=[0,3,0,1,2,3,0,1,0,0,0,0,0,0,0,0,0,0,0,0]) (Bl:=[0,8,0,0,0,0,0,0,0,0]) (v:=2) rfl (by decide) rfl rfl rfl rfl (by kernel_rfl)
noncomputable def Li:List cE:=UE::Lh
theorem AI:∀ e ∈ Li,aG Tryd.prog e:=a6 SV HM
noncomputable def UF:cE:=⟨34,[gA jW [3,1]],.tup [.int .i64 2,.int .i64 0]⟩
theorem SW:aG Tryd.prog UF:=a7 AI (H':=[⟨true,[]⟩]) (by kernel_rfl) (by kernel_rfl)
noncomputable def Lj:List cE:=UF::Li
theorem AJ:∀ e ∈ Lj,aG Tryd.prog e:=a6 SW AI
noncomputable def UG:cE:=⟨18,[gA jW [3,1],.int .i64 0],.tup [.agg (.I .i64 [0,3]),.int .i64 0]⟩
theorem SX:aG Tryd.prog UG:=a7 AJ (H':=[⟨true,[]⟩]) (by kernel_rfl) (by kernel_rfl)
noncomputable def Lk:List cE:=UG::Lj
theorem AK:∀ e ∈ Lk,aG Tryd.prog e:=a6 SX AJ
noncomputable def UH:cE:=⟨18,[gA jW [3,1],.int .i64 1],.tup [.agg (.I .i64 [0,1]),.int .i64 0]⟩
theorem SY:aG Tryd.prog UH:=a7 AK (H':=[⟨true,[]⟩]) (by kernel_rfl) (by kernel_rfl)
noncomputable def Ll:List cE:=UH::Lk
theorem AL:∀ e ∈ Ll,aG Tryd.prog e:=a6 SY AK
end Go.Eng.Gall
end
section
namespace Go.Eng.Gall
open Go.Proofs
noncomputable def UI:cE:=⟨18,[gA jW [3,1],.int .i64 3],.tup [.agg (.I .i64 [0,1]),.int .i64 0]⟩
theorem SZ:aG Tryd.prog UI:=a7 AL (H':=[⟨true,[]⟩]) (by kernel_rfl) (by kernel_rfl)
noncomputable def Lm:List cE:=UI::Ll
theorem AM:∀ e ∈ Lm,aG Tryd.prog e:=a6 SZ AL
noncomputable def UJ:cE:=⟨20,[gA jW [3,1],.int .i64 3],.tup [.agg (.I .i64 [0,0]),.int .i64 0]⟩
theorem S0:aG Tryd.prog UJ:=a7 AM (H':=[⟨true,[]⟩]) (by kernel_rfl) (by kernel_rfl)
noncomputable def Ln:List cE:=UJ::Lm
theorem AN:∀ e ∈ Ln,aG Tryd.prog e:=a6 S0 AM
noncomputable def UK:cE:=⟨56,[.ptrT none (gR jW [3,1] [0,3,0,1,2,3,0,1,0,0,0,0,0,0,0,0,0,0,0,0] [4,8,0,0,0,0,0,0,0,0]) 0],.agg (.I .i64 [3,3,1,1,2,2,0,0,0,0,0,0,0,0,0,0,0,0,0,0])⟩
theorem S1:aG Tryd.prog UK:=a7 AN (H':=[⟨true,[]⟩]) (by kernel_rfl) (by kernel_rfl)
noncomputable def Lo:List cE:=UK::Ln
theorem AO:∀ e ∈ Lo,aG Tryd.prog e:=a6 S1 AN
noncomputable def UL:cE:=⟨65,[.ptrT none (gR jW [3,1] [0,3,0,1,2,3,0,1,0,0,0,0,0,0,0,0,0,0,0,0] [4,8,0,0,0,0,0,0,0,0]) 0],.tup [.agg (.G [.int .i64 0,.int .i64 0,.nils]),.bool false]⟩
theorem S2:aG Tryd.prog UL:=a7 AO (H':=[⟨true,[]⟩]) (by kernel_rfl) (by kernel_rfl)
noncomputable def Lp:List cE:=UL::Lo
theorem AP:∀ e ∈ Lp,aG Tryd.prog e:=a6 S2 AO
end Go.Eng.Gall
end
section
namespace Go.Eng.Gall
open Go.Proofs
noncomputable def UM:cE:=⟨32,[gA jW [3,1],.int .i64 0,.int .i64 2],.tup [.bool false,.int .i64 0]⟩
theorem S3:aG Tryd.prog UM:=a7 AP (H':=[⟨true,[]⟩]) (by kernel_rfl) (by kernel_rfl)
noncomputable def Lq:List cE:=UM::Lp
theorem HN:∀ e ∈ Lq,aG Tryd.prog e:=a6 S3 AP
noncomputable def UN:cE:=⟨73,[.ptrT none (gR Fh [3,1] [0,1,0,1,2,3,0,1,0,0,0,0,0,0,0,0,0,0,0,0] [0,8,0,0,0,0,0,0,0,0]) 0],.int .i64 0⟩
theorem S4:aG Tryd.prog UN:=G2 (dr:=10) (lc:=4) (zl:=[100,110,90,110,90,95,75,100,120,125,80,110,80,80,70,200]) (lb:=1) (bl:=[3,1]) (f1:=true) (f2:=true) (Wl:=[0,1,0,1,2,3,0,1,0,0,0,0,0,0,0,0,0,0,0,0]) (Bl:=[0,8,0,0,0,0,0,0,0,0]) (v:=0) rfl (by decide) rfl rfl rfl rfl (by kernel_rfl)
noncomputable def Lr:List cE:=UN::Lq
theorem AQ:∀ e ∈ Lr,aG Tryd.prog e:=a6 S4 HN
noncomputable def UO:cE:=⟨34,[gA Fh [3,1]],.tup [.int .i64 0,.int .i64 0]⟩
theorem S5:aG Tryd.prog UO:=a7 AQ (H':=[⟨true,[]⟩]) (by kernel_rfl) (by kernel_rfl)
noncomputable def Ls:List cE:=UO::Lr
theorem AR:∀ e ∈ Ls,aG Tryd.prog e:=a6 S5 AQ
noncomputable def UP:cE:=⟨25,[gA jW [3,1]],.tup [.agg (.G [.int .i64 0,.int .i64 0,.nils]),.int .i64 5]⟩
theorem S6:aG Tryd.prog UP:=a7 AR (H':=[⟨true,[]⟩]) (by kernel_rfl) (by kernel_rfl)
noncomputable def Lt:List cE:=UP::Ls
theorem AS:∀ e ∈ Lt,aG Tryd.prog e:=a6 S6 AR
end Go.Eng.Gall
end
section
namespace Go.Eng.Gall
open Go.Proofs
noncomputable def UQ:cE:=⟨30,[gA Fh [3,1],.int .i64 0],.tup [.nils,.int .i64 13]⟩
theorem S7:aG Tryd.prog UQ:=a7 AS (H':=[⟨true,[]⟩]) (by kernel_rfl) (by kernel_rfl)
noncomputable def P8:List cE:=UQ::Lt
theorem HO:∀ e ∈ P8,aG Tryd.prog e:=a6 S7 AS
end Go.Eng.Gall
end
section
namespace Go.Eng.Gall
open Go.Proofs
noncomputable def EW:cE:=⟨15,[],.bool true⟩
theorem Pj:aG Tryd.prog EW:=a7 HO (H':=[⟨true,[]⟩]) (by kernel_rfl) (by kernel_rfl)
end Go.Eng.Gall
end
