/- Gall: block answers none if and only if there is a right order (plain law). -/
import Derived.Test.YtgphpjdchnfjlaaDoorV3Gp9x5
set_option linter.unusedVariables false
set_option linter.unusedSimpArgs false
set_option maxRecDepth 100000
section
namespace Go.Eng
open Go.Proofs Go.Eng.Gall Go.Eng.Q
theorem Dv {W:Nat→Int} {b:Nat→Nat} {k X c:Nat} (hb:b c<2 ^ 62) (hX:X<2 ^ 62):okW W (bI b) k X c=true↔(∀ a,(b c).testBit a=true→X.testBit a=true)∧W (2*c)≤(k:Int)∧(k:Int)≤W (2*c+1):=by
 unfold okW;obtain ⟨w,hw,hw2⟩:=QD hb hX;rw[show bI b c=(b c:Int) from rfl,hw,Bool.and_eq_true,Bool.and_eq_true,bf,bf,aQ,decide_eq_true_iff,decide_eq_true_iff,beq_iff_eq];have e:(w:Int)=Int.ofNat 0↔∀ a,(b c).testBit a=true→X.testBit a=true:=by
  constructor
  · intro h a ha;have h:w=0:=by
     have h:(w:Int)=0:=h;omega
    have:=hw2 a;rw[h,Nat.zero_testBit,ha,Bool.true_and] at this;cases e:X.testBit a with
    | true=>rfl
    | false=>rw[e] at this;cases this
  · intro h;have:w=0:=by
     apply Nat.eq_of_testBit_eq;intro a;rw[hw2,Nat.zero_testBit];cases e:(b c).testBit a with
     | false=>rfl
     | true=>rw[h a e];rfl
    rw[this];rfl
 rw[e]
theorem kI {n:Nat} {b:Nat→Nat} {W:Nat→Int} {L:List Nat} (hn:n≤10) (hb:∀ c,c<n→b c<2 ^ n):L ∈ ro n (okW W (bI b)) n↔L.length=n∧L.Nodup∧(∀ x ∈ L,x<n)∧∀ i (h:i<L.length),(∀ a,(b L[i]).testBit a=true→a ∈ L.take i)∧W (2*L[i])≤(i:Int)∧(i:Int)≤W (2*L[i]+1):=by
 have p62:2 ^ n≤2 ^ 62:=Nat.pow_le_pow_right (by omega) (by omega);constructor
 · intro h;obtain ⟨h1,h2,h3⟩:=j0 h;refine ⟨h1,h2,h3,fun i hi=>?_⟩;have hl:=h3 _ (List.getElem_mem hi);have hnt:(L.take i).Nodup:=h2.sublist (List.take_sublist i L);have hm:mask (L.take i)<2 ^ n:=nj hnt fun x hx=>h3 x (List.mem_of_mem_take hx);have:=((uc.1 h).2 i hi).2.2;rw[Dv (Nat.lt_of_lt_of_le (hb _ hl) p62) (Nat.lt_of_lt_of_le hm p62)] at this;refine ⟨fun a ha=>?_,this.2⟩;have:=this.1 a ha;rw[cN hnt] at this;exact of_decide_eq_true this
 · rintro ⟨h1,h2,h3,h4⟩;refine uc.2 ⟨h1,fun i hi=>?_⟩;have hl:=h3 _ (List.getElem_mem hi);have hnt:(L.take i).Nodup:=h2.sublist (List.take_sublist i L);have hm:mask (L.take i)<2 ^ n:=nj hnt fun x hx=>h3 x (List.mem_of_mem_take hx);refine ⟨hl,?_,(Dv (Nat.lt_of_lt_of_le (hb _ hl) p62) (Nat.lt_of_lt_of_le hm p62)).2 ⟨fun a ha=>?_,(h4 i hi).2⟩⟩
   · rw[cN hnt];refine decide_eq_false fun hx=>?_;obtain ⟨j,hj,he⟩:=List.mem_iff_getElem.1 hx;rw[List.length_take] at hj;rw[List.getElem_take] at he;have:=(List.pairwise_iff_getElem.1 h2) j i (by omega) hi (by omega);exact this he
   · rw[cN hnt];exact decide_eq_true ((h4 i hi).1 a ha)
section
variable {n:Nat} {b:Nat→Nat} {W:Nat→Int} {L:List Nat}
theorem gp {L:List Nat} {c:Nat} (h:c ∈ L):∃ hi:L.idxOf c<L.length,L[L.idxOf c]=c:=⟨List.idxOf_lt_length_iff.2 h,List.getElem_idxOf _⟩
theorem DV {L:List Nat} {a i:Nat} (h:a ∈ L.take i):L.idxOf a<i:=by
 obtain ⟨j,hj,he⟩:=List.mem_iff_getElem.1 h;rw[List.length_take] at hj;rw[List.getElem_take] at he;have h2:L.idxOf a≤j:=by
  refine Nat.le_of_not_lt fun hlt=>?_;have:=List.not_of_lt_findIdx (p:=(· == a)) (xs:=L) (i:=j) hlt;rw[he] at this;simp at this
 omega
theorem Dg (hL:L.length=n∧L.Nodup∧(∀ x ∈ L,x<n)∧∀ i (h:i<L.length),(∀ a,(b L[i]).testBit a=true→a ∈ L.take i)∧W (2*L[i])≤(i:Int)∧(i:Int)≤W (2*L[i]+1)):∀ t c,c ∈ L→fy n b W t c≤(L.idxOf c:Int)
 | 0,c,hc=>by
   obtain ⟨hi,he⟩:=gp hc;have:=(hL.2.2.2 _ hi).2.1;rw[he] at this;exact this
 | t + 1,c,hc=>by
   rcases jm (fy n b W t c) (fun a=>fy n b W t a+1) (fun a=>(b c).testBit a) n with e | ⟨a,h1,h2,h3⟩
   · have e:fy n b W (t+1) c=fy n b W t c:=e;rw[e];exact Dg hL t c hc
   · have h3:fy n b W (t+1) c=fy n b W t a+1:=h3;obtain ⟨hi,he⟩:=gp hc;have hm:=(hL.2.2.2 _ hi).1 a (by rw[he];exact h2);have:=DV hm;have:=Dg hL t a (List.mem_of_mem_take hm);omega
theorem CZ (hL:L.length=n∧L.Nodup∧(∀ x ∈ L,x<n)∧∀ i (h:i<L.length),(∀ a,(b L[i]).testBit a=true→a ∈ L.take i)∧W (2*L[i])≤(i:Int)∧(i:Int)≤W (2*L[i]+1)):∀ t c,c ∈ L→fw n b W t c≤-(L.idxOf c:Int)
 | 0,c,hc=>by
   obtain ⟨hi,he⟩:=gp hc;have:=(hL.2.2.2 _ hi).2.2;rw[he] at this;show -W (2*c+1)≤_;omega
 | t + 1,c,hc=>by
   rcases jm (fw n b W t c) (fun a=>fw n b W t a+1) (fun a=>(b a).testBit c) n with e | ⟨a,h1,h2,h3⟩
   · have e:fw n b W (t+1) c=fw n b W t c:=e;rw[e];exact CZ hL t c hc
   · have h3:fw n b W (t+1) c=fw n b W t a+1:=h3;have ha:a ∈ L:=gK hL.2.1 hL.1 hL.2.2.1 h1;obtain ⟨hi,he⟩:=gp ha;have hm:=(hL.2.2.2 _ hi).1 c (by rw[he];exact h2);have:=DV hm;have:=CZ hL t a ha;omega
theorem C8 {M:List Int} (hn:M.Nodup) {F T:Int} (h:∀ x ∈ M,F≤x∧x≤T):M≠[]→(M.length:Int)≤T-F+1:=fun hne=>by
 have h1:(M.map fun x=>(x-F).toNat).Nodup:=by
  rw[List.Nodup,List.pairwise_map,List.pairwise_iff_getElem];intro i j hi hj hij;have a:=(List.pairwise_iff_getElem.1 hn) i j hi hj hij;have b1:=h _ (List.getElem_mem hi);have b2:=h _ (List.getElem_mem hj);have a:M[i]≠M[j]:=a;omega
 have h2:=eQ h1 (M:=List.range (T-F+1).toNat) (fun y hy=>by
  obtain ⟨x,hx,rfl⟩:=List.mem_map.1 hy;have:=h x hx;rw[List.mem_range];omega)
 rw[List.length_map,List.length_range] at h2;obtain ⟨x,hx⟩:=List.exists_mem_of_ne_nil M hne;have:=h x hx;omega
theorem FD (hS:fM n W b) (hW:∀ c,c<n→0≤W (2*c)∧W (2*c+1)<n):kD (qB (dx n b W)) n n=none↔∃ L,L ∈ ro n (okW W (bI b)) n:=by
 have hl:=hS.len;have hqe:∀ c,c<n→qB (dx n b W) (2*c)=fy n b W n c∧qB (dx n b W) (2*c+1)=-fw n b W n c:=fun c hc=>by
  rw[rp _ (by omega),rp _ (by omega)];unfold dx;rw[if_pos (by omega),if_pos (by omega),if_pos (by omega),if_neg (by omega),show 2*c / 2=c by omega,show (2*c+1) / 2=c by omega];exact ⟨rfl,rfl⟩
 have hlo:∀ c,W (2*c)≤fy n b W n c:=fun c=>by have:=lo_le (n:=n) (b:=b) (w:=W) 0 n c;rw[Nat.zero_add] at this;exact this
 have hhi:∀ c,-W (2*c+1)≤fw n b W n c:=fun c=>by have:=CX (n:=n) (b:=b) (w:=W) 0 n c;rw[Nat.zero_add] at this;exact this
 constructor
 · intro h;have hr:=JB h;obtain ⟨L,hL⟩:=Hm (B:=fun a c=>(b c).testBit a=true) hr (fun i hi=>by show 0≤qB _ (2*i);rw[(hqe i hi).1];have:=hlo i;have:=hW i hi;omega) (fun i hi=>by show qB _ (2*i+1) < _;rw[(hqe i hi).2];have:=hhi i;have:=hW i hi;omega) (fun a c ha hc hp=>by
    show qB _ (2*a)<qB _ (2*c)∧qB _ (2*a+1)<qB _ (2*c+1);rw[(hqe a ha).1,(hqe c hc).1,(hqe a ha).2,(hqe c hc).2];have:=GD (w:=W) hS.nob ha hc hp;have:=Ko (w:=W) hS.nob ha hc hp;omega)
   refine ⟨L,(kI hl hS.bef).2 ⟨hL.len,hL.nd,hL.lt,fun i hi=>⟨fun a ha=>?_,?_⟩⟩⟩
   · have hc:=hL.lt _ (List.getElem_mem hi);have han:a<n:=by
      refine Nat.lt_of_not_le fun hge=>?_;rw[Nat.testBit_lt_two_pow (Nat.lt_of_lt_of_le (hS.bef _ hc) (Nat.pow_le_pow_right (by omega) hge))] at ha;cases ha
     obtain ⟨hj,he⟩:=gp (gK hL.nd hL.len hL.lt han);rcases Nat.lt_trichotomy (L.idxOf a) i with q | q | q
     · refine List.mem_iff_getElem.2 ⟨L.idxOf a,by rw[List.length_take];omega,?_⟩;rw[List.getElem_take];exact he
     · exfalso;have e:L[i]=a:=by rw[← he];congr 1;exact q.symm
       have:=GD (w:=W) hS.nob (a:=a) (c:=L[i]) han hc ha;rw[e] at this;omega
     · exact absurd (by rw[he];exact ha) (hL.pair i (L.idxOf a) hi hj q)
   · have hc:=hL.lt _ (List.getElem_mem hi);have:=hL.suit i hi;have h1:qB (dx n b W) (2*L[i])≤(i:Int):=this.1;have h2:(i:Int)≤qB (dx n b W) (2*L[i]+1):=this.2;rw[(hqe _ hc).1] at h1;rw[(hqe _ hc).2] at h2;have:=hlo L[i];have:=hhi L[i];omega
 · rintro ⟨L,hL⟩;have hL:=(kI hl hS.bef).1 hL;have hf:iX (fun x y=>∃ j k,j<n∧k<n∧x=qB (dx n b W) (2*j)∧y=qB (dx n b W) (2*k+1)∧rH (qB (dx n b W)) n x y=true) (kD (qB (dx n b W)) n n):=by
    rcases pG (qB (dx n b W)) n n with h1 | ⟨f,t,h1,h2⟩
    · exact h1
    · rw[h1];exact h2
   cases e:kD (qB (dx n b W)) n n with
   | none=>rfl
   | some v =>
     exfalso;obtain ⟨F,T⟩:=v;rw[e] at hf;obtain ⟨⟨j,k,hj,hk,_,_,hov⟩,_⟩:=hf;unfold rH at hov;rw[Bool.and_eq_true,decide_eq_true_iff,decide_eq_true_iff] at hov;have hm:∀ x ∈ dB (qB (dx n b W)) F T n,∃ c,c<n∧x=(c:Int)∧F≤(L.idxOf c:Int)∧(L.idxOf c:Int)≤T:=fun x hx=>by
      obtain ⟨c,h1,h2,h3⟩:=(nb _ _ _ _ _).1 hx;unfold vQ at h2;rw[Bool.and_eq_true,decide_eq_true_iff,decide_eq_true_iff,(hqe c h1).1,(hqe c h1).2] at h2;have hc:c ∈ L:=gK hL.2.1 hL.1 hL.2.2.1 h1;have:=Dg hL n c hc;have:=CZ hL n c hc;exact ⟨c,h1,h3,by omega,by omega⟩
     have hnd:((dB (qB (dx n b W)) F T n).map fun x=>(L.idxOf x.toNat:Int)).Nodup:=by
      rw[List.Nodup,List.pairwise_map];refine (List.Pairwise.and_mem.1 (vR (qB (dx n b W)) F T n)).imp ?_;rintro x y ⟨hx,hy,hne⟩ he;obtain ⟨c,h1,rfl,_⟩:=hm x hx;obtain ⟨d,h2,rfl,_⟩:=hm y hy;rw[Int.toNat_natCast,Int.toNat_natCast] at he;obtain ⟨i1,e1⟩:=gp (gK hL.2.1 hL.1 hL.2.2.1 h1);obtain ⟨i2,e2⟩:=gp (gK hL.2.1 hL.1 hL.2.2.1 h2);have he:L.idxOf c=L.idxOf d:=by omega
      have:c=d:=by
       rw[← e1,← e2];congr 1
      exact hne (by rw[this])
     have:=C8 hnd (F:=F) (T:=T) (fun y hy=>by
      obtain ⟨x,hx,rfl⟩:=List.mem_map.1 hy;obtain ⟨c,_,rfl,h3⟩:=hm x hx;rw[Int.toNat_natCast];exact h3) (fun h0=>by
       have:=congrArg List.length h0;rw[List.length_map] at this;simp at this;rw[this] at hov;simp at hov)
     rw[List.length_map] at this;omega
end
end Go.Eng
end
section
namespace Go.Eng
open Go.Proofs Go.Eng.Gall
theorem Yg (n:Nat) (dr:Int) (lc:Nat) (zc:Nat→Int) (lb:Nat) (zb:Nat→Int) (W B:Nat→Int) (H:ab) (k:Int):bj Tryd.prog (cd n) 100000 34 Tryd.f34 (KtG.kt 34) (il (tX (tX aD 49 [bn dr lc zc lb zb,.nils] (.tup [shV dr lc zc lb zb W B,.int .i64 (Int.ofNat 0)])) 73 [shV dr lc zc lb zb W B] (.int .i64 k)) n 0) aL aJ [(bn dr lc zc lb zb,none)] H =
 Tr.reqP ([bn dr lc zc lb zb,AV.nils]=[bn dr lc zc lb zb,AV.nils]) (Tr.ite (bx (cw (Int.ofNat 0) (Int.ofNat 0))) (Tr.ok ((AV.tup [iI 0,iI 0],none),H)) (Tr.reqP ([shV dr lc zc lb zb W B]=[shV dr lc zc lb zb W B]) (Tr.ok ((AV.tup [AV.int .i64 k,iI 0],none),H)))):=by kernel_rfl
theorem TJ (n:Nat) (dr:Int) (lc:Nat) (zc:Nat→Int) (lb:Nat) (zb:Nat→Int) (H:ab) (e:Int):bj Tryd.prog (cd n) 100000 34 Tryd.f34 (KtG.kt 34) (il (tN (tX aD 49 [bn dr lc zc lb zb,.nils] (.tup [.nilp,.int .i64 e])) 73) n 0) aL aJ [(bn dr lc zc lb zb,none)] H =
 Tr.reqP ([bn dr lc zc lb zb,AV.nils]=[bn dr lc zc lb zb,AV.nils]) (Tr.ite (bx (cw e (Int.ofNat 0))) (Tr.ok ((AV.tup [iI 0,AV.int .i64 e],none),H)) Tr.bad):=by kernel_rfl
theorem TN (n:Nat) (dr:Int) (lc:Nat) (zc:Nat→Int) (lb:Nat) (zb:Nat→Int) (G:ab) (e:Int):bj Tryd.prog (cd (n+2)) 100000 49 Tryd.f49 (KtG.kt 49) (il (tN (tX aD 22 [bn dr lc zc lb zb] (.int .i64 e)) 62) n 2) aL aJ [(bn dr lc zc lb zb,none),(.nils,none)] G =
 Tr.reqP ([bn dr lc zc lb zb]=[bn dr lc zc lb zb]) (Tr.ite (bx (cw e (Int.ofNat 0))) (Tr.ok ((AV.tup [AV.nilp,AV.int .i64 e],none),G)) Tr.bad):=by kernel_rfl
section
variable (n:Nat) (dr:Int) (lc:Nat) (zc:Nat→Int) (lb:Nat) (zb:Nat→Int) (H:ab)
theorem QV (hl:lc≤1000) (hb:lb≤1000) (h0:¬ dg dr lc zc lb zb=0):cd (n+14) (.fn 49) [bn dr lc zc lb zb,.nils] H=some (.tup [.nilp,.int .i64 (dg dr lc zc lb zb)],H):=by
 refine br (n:=n+13) Tryd.func49 rfl rfl rfl (TN (n+11) dr lc zc lb zb H (dg dr lc zc lb zb)) (mA _ (n+11) 2 (fun q=>pR (bR (aW _) (fun H=>by
  rw[show n+11+q=n+q+11 by omega];exact UU (n+q) dr lc zc lb zb H hl hb)))) (ai _ _) (aj _ _) ?_
 refine Tr.ak rfl (Tr.ae (fun q=>Tr.ag ⟨rfl,rfl⟩) (fun q=>?_));rw[aB,aQ] at q;exact absurd (by simpa using q) h0
noncomputable def Q2:AV:=if dg dr lc zc lb zb=0 then .tup [.int .i64 (Q.cntF lc (bK dr lc zc) (fR lb zb)),.int .i64 0] else .tup [.int .i64 0,.int .i64 (dg dr lc zc lb zb)]
theorem VB (hl:lc≤1000) (hb:lb≤1000):cd (n+15) (.fn 34) [bn dr lc zc lb zb] H=some (Q2 dr lc zc lb zb,H):=by
 unfold Q2;by_cases h0:dg dr lc zc lb zb=0
 · rw[if_pos h0];obtain ⟨h1,_⟩:=kg h0;refine br (n:=n+14) Tryd.func34 rfl rfl rfl (Yg (n+14) dr lc zc lb zb (bK dr lc zc) (fR lb zb) H (Q.cntF lc (bK dr lc zc) (fR lb zb))) (bo _ _ (bR (bR (aW _) (fun H=>D8 n dr lc zc lb zb H hb h0)) (fun H=>QX (n+13) dr lc zc lb zb (bK dr lc zc) (fR lb zb) H h1.2))) (ai _ _) (aj _ _) ?_;refine Tr.ak rfl (Tr.ae (fun q=>by simp[aB,aQ] at q) (fun q=>Tr.ak rfl (Tr.ag ⟨rfl,rfl⟩)))
 · rw[if_neg h0];refine br (n:=n+14) Tryd.func34 rfl rfl rfl (TJ (n+14) dr lc zc lb zb H (dg dr lc zc lb zb)) (bo _ _ (pR (bR (aW _) (fun H=>QV n dr lc zc lb zb H hl hb h0)))) (ai _ _) (aj _ _) ?_;refine Tr.ak rfl (Tr.ae (fun q=>Tr.ag ⟨rfl,rfl⟩) (fun q=>?_));rw[aB,aQ] at q;exact absurd (by simpa using q) h0
end
end Go.Eng
end
section
namespace Go.Eng
open Go.Proofs Go.Eng.Gall
noncomputable def iC (r:Row) (a b:Int):bF:=⟨false,[(0,.row r),(0,.row (.I .i64 [a,b]))]⟩
end Go.Eng
end
section
namespace Go.Eng
open Go.Proofs Go.Eng.Gall
noncomputable def xv (dr:Int) (lc:Nat) (zc:Nat→Int) (lb:Nat) (zb:Nat→Int):Option (Int×Int):=kD (qB (dx lc (fun c=>cH zb c lb) (bK dr lc zc))) lc lc
section
variable (n:Nat) (dr:Int) (lc:Nat) (zc:Nat→Int) (lb:Nat) (zb:Nat→Int) (H:ab) (r r2:Row) (a b:Int)
end
end Go.Eng
end
section
namespace Go.Eng
open Go.Proofs Go.Eng.Gall
end Go.Eng
end
section
namespace Go.Eng
open Go.Proofs Go.Eng.Gall
section
variable (n:Nat) (dr:Int) (lc:Nat) (zc:Nat→Int) (lb:Nat) (zb:Nat→Int) (H:ab) (a b:Nat)
theorem MQ {c f i:Nat} {H:ab} {r:Row} {v:AV} {H':ab} (hf:f=63∨f=65) (hr:cX H 0 i 0=some r) (hh:Hq r=true) (h:cd c (.fn f) [.ptrT none r 0] [⟨true,[]⟩]=some (v,H')):ia (cd c) f [.ptr 0 i 0 0] H=some (L4 v,H):=by
 have e:Pr (cd c) f [.ptr 0 i 0 0] H=some (L4 v,H):=by
  show (match cX H 0 i 0 with
   | some r=>if (Hq r && [].all (tz 9))=true then (match cd c (.fn f) (.ptrT none r 0::[]) [⟨true,[]⟩] with
     | some (v,_)=>some (L4 v,H)
     | none=>none) else none
   | none=>none)=_
  rw[hr];dsimp only;rw[hh,h];rfl
 have e2:ia (cd c) f [.ptr 0 i 0 0] H=(match Pr (cd c) f [.ptr 0 i 0 0] H with
  | some x=>some x
  | none=>tM [⟨15,[],.bool true⟩] (cd c) f [.ptr 0 i 0 0] H):=by rcases hf with rfl | rfl<;>rfl
 rw[e2,e]
end
end Go.Eng
end
section
namespace Go.Eng
open Go.Proofs Go.Eng.Gall Go.Eng.Q
section
variable {n:Nat} {g:Nat→Nat} {W:Nat→Int}
theorem BD {L:List Nat} (hn:L.Nodup) {i:Nat} (hi:i<L.length):L.idxOf L[i]=i:=by
 obtain ⟨hj,he⟩:=gp (List.getElem_mem hi);rcases Nat.lt_trichotomy (L.idxOf L[i]) i with q | q | q
 · exact absurd he ((List.pairwise_iff_getElem.1 hn) _ _ hj hi q)
 · exact q
 · exact absurd he.symm ((List.pairwise_iff_getElem.1 hn) _ _ hi hj q)
end
end Go.Eng
end
section
namespace Go.Eng
open Go.Proofs Go.Eng.Gall Go.Eng.Q
section
variable {dr:Int} {lc:Nat} {zc:Nat→Int} {lb:Nat} {zb zb2:Nat→Int} {a b:Nat}
end
end Go.Eng
end
section
namespace Go.Eng
open Go.Proofs Go.Eng.Gall Go.Eng.Q
section
variable {dr:Int} {lc:Nat} {zc:Nat→Int} {lb:Nat} {zb:Nat→Int} {a b:Nat}
theorem wA (c:Nat) (hc:c<lc):0≤bK dr lc zc (2*c)∧bK dr lc zc (2*c+1)<lc:=by
 unfold bK;rw[if_pos (by omega),if_pos (by omega),if_pos (by omega),if_neg (by omega)];omega
theorem LU (hl:lc≤10) (W B:Nat→Int):0≤cntF lc W B∧cntF lc W B≤10000000000:=by
 have h1:=Hn (n:=lc) (ok:=okW W B) lc;have h2:lc ^ lc≤10 ^ 10:=Nat.le_trans (Nat.pow_le_pow_left hl lc) (Nat.pow_le_pow_right (by decide) hl);unfold cntF;have h3:(10:Nat) ^ 10=10000000000:=by decide
 omega
theorem GY (h0:dg dr lc zc lb zb=0):xv dr lc zc lb zb=none↔¬ cntF lc (bK dr lc zc) (fR lb zb)=0:=by
 obtain ⟨h1,h2,h3,h4,h5,h6⟩:=kg h0;have hi:=FD (B9 dr lc zc lb zb h1.2 h3 h4 h5 h6) wA;unfold xv;rw[hi];unfold cntF;constructor
 · rintro ⟨L,hL⟩ h;rw[show fR lb zb=bI (fun c=>cH zb c lb) from rfl] at h;rw[List.eq_nil_of_length_eq_zero (show (ro lc (okW (bK dr lc zc) (bI (fun c=>cH zb c lb))) lc).length=0 by omega)] at hL;cases hL
 · intro h;rw[show fR lb zb=bI (fun c=>cH zb c lb) from rfl] at h;cases e:ro lc (okW (bK dr lc zc) (bI (fun c=>cH zb c lb))) lc with
   | nil=>rw[e] at h;exact absurd rfl h
   | cons L l=>exact ⟨L,by simp⟩
end
end Go.Eng
end
section
namespace Go.Eng
open Go.Proofs Go.Eng.Gall Go.Eng.Q
def nM (W:Nat→Int) (L:List Nat) (i:Nat):Int:=if i / 2 ∈ L then (L.idxOf (i / 2):Int) else W i
theorem Gj (W:Nat→Int):nM W []=W:=by funext i;unfold nM;rw[if_neg (by simp)]
theorem IV {L:List Nat} {c x:Nat} (hc:c ∉ L):(L++[c]).idxOf x=if x ∈ L then L.idxOf x else if x=c then L.length else L.length+1:=by
 rw[List.idxOf_append];split
 · rfl
 · by_cases e:x=c
   · subst e;rw[if_pos rfl,List.idxOf_cons_self,Nat.zero_add]
   · rw[if_neg e,List.idxOf_cons,List.idxOf_nil];have:(c == x)=false:=by simpa using fun h=>e h.symm
     rw[this];simp;omega
theorem Gi {W:Nat→Int} {L:List Nat} {c:Nat} (hc:c ∉ L):nM W (L++[c])=dQ (dQ (nM W L) (2*c) (L.length:Int)) (2*c+1) (L.length:Int):=by
 rw[jR,jR];funext i;dsimp only;unfold nM;rw[IV hc];by_cases e:i / 2=c
 · rw[if_pos (by rw[e];simp),if_neg (by rw[e];exact hc),if_pos e];by_cases e1:i=2*c+1
   · rw[if_pos e1]
   · rw[if_neg e1,if_pos (by omega)]
 · have e1:i≠2*c+1:=by omega
   have e2:i≠2*c:=by omega
   rw[if_neg e1,if_neg e2];by_cases h:i / 2 ∈ L
   · rw[if_pos (by simp[h]),if_pos h,if_pos h]
   · rw[if_neg (by simp[h,e]),if_neg h]
section
variable {n:Nat} {g:Nat→Nat} {W:Nat→Int}
def NL (W:Nat→Int) (L:List Nat):Prop:=∀ i (h:i<L.length),W (2*L[i])≤(i:Int)∧(i:Int)≤W (2*L[i]+1)
theorem Km (hS:fM n W g) {L:List Nat} (hl:L.length≤10) (hL:∀ x ∈ L,x<n):fM n (nM W L) g:=by
 refine ⟨hS.len,fun j=>?_,fun j hj=>?_,hS.bef,hS.off,hS.nob⟩
 · unfold nM;split
   · have:=@List.idxOf_le_length _ _ _ L (j / 2);omega
   · exact hS.win j
 · unfold nM;rw[if_neg (fun h=>by have:=hL _ h;have:=hS.len;omega)];exact hS.zer j hj
theorem Oz (hW:∀ c,c<n→0≤W (2*c)∧W (2*c+1)<n) {L:List Nat} (hl:L.length≤n) (c:Nat) (hc:c<n):0≤nM W L (2*c)∧nM W L (2*c+1)<n:=by
 unfold nM;rw[show 2*c / 2=c by omega,show (2*c+1) / 2=c by omega];split
 · rename_i h;have:=List.idxOf_lt_length_iff.2 h;omega
 · exact hW c hc
theorem Kl (hn:n≤10) (hg:∀ c,c<n→g c<2 ^ n) {L:List Nat} (hd:L.Nodup) (hL:∀ x ∈ L,x<n) (hs:NL W L) (R:List Nat):R ∈ ro n (okW (nM W L) (bI g)) n↔R ∈ ro n (okW W (bI g)) n∧R.take L.length=L:=by
 rw[kI hn hg,kI hn hg];have hw:∀ c b,b<2→nM W L (2*c+b)=if c ∈ L then (L.idxOf c:Int) else W (2*c+b):=fun c b hb=>by
  unfold nM;rw[show (2*c+b) / 2=c by omega]
 constructor
 · rintro ⟨h1,h2,h3,h4⟩;refine ⟨⟨h1,h2,h3,fun i hi=>⟨(h4 i hi).1,?_⟩⟩,?_⟩
   · have h5:=(h4 i hi).2;have e0:=hw R[i] 0 (by omega);rw[Nat.add_zero] at e0;rw[e0,hw R[i] 1 (by omega)] at h5;by_cases hm:R[i] ∈ L
     · rw[if_pos hm,if_pos hm] at h5;obtain ⟨hj,he⟩:=gp hm;have:=hs _ hj;rw[he] at this;have e:L.idxOf R[i]=i:=by omega
       rw[e] at this;exact this
     · rw[if_neg hm,if_neg hm] at h5;exact h5
   · have hle:L.length≤R.length:=by rw[h1];have:=eQ hd (M:=List.range n) (fun x hx=>List.mem_range.2 (hL x hx));rwa [List.length_range] at this
     refine List.ext_getElem (by rw[List.length_take];omega) (fun j a1 a2=>?_);rw[List.getElem_take];have hR:L[j] ∈ R:=gK h2 h1 h3 (hL _ (List.getElem_mem a2));obtain ⟨hi,he⟩:=gp hR;have h5:=(h4 _ hi).2;rw[he] at h5;have e0:=hw L[j] 0 (by omega);rw[Nat.add_zero] at e0;rw[e0,hw L[j] 1 (by omega),if_pos (List.getElem_mem a2),if_pos (List.getElem_mem a2),BD hd a2] at h5;have e:R.idxOf L[j]=j:=by omega
     rw[← he];congr 1;exact e.symm
 · rintro ⟨⟨h1,h2,h3,h4⟩,h5⟩;refine ⟨h1,h2,h3,fun i hi=>⟨(h4 i hi).1,?_⟩⟩;have e0:=hw R[i] 0 (by omega);rw[Nat.add_zero] at e0;rw[e0,hw R[i] 1 (by omega)];by_cases hm:R[i] ∈ L
   · rw[if_pos hm,if_pos hm];obtain ⟨hj,he⟩:=gp hm;have hjR:L.idxOf R[i]<R.length:=by
      have:=congrArg List.length h5;rw[List.length_take] at this;omega
     have e1:R[L.idxOf R[i]]=L[L.idxOf R[i]]:=by
      have:(R.take L.length)[L.idxOf R[i]]'(by rw[h5];exact hj)=L[L.idxOf R[i]]:=by simp only[h5]
      rw[List.getElem_take] at this;exact this
     have e2:L.idxOf R[i]=i:=by
      have e3:R[L.idxOf R[i]]=R[i]:=by rw[e1,he]
      rw[← BD h2 hjR,e3,BD h2 hi]
     omega
   · rw[if_neg hm,if_neg hm];exact (h4 i hi).2
variable (n g W)
noncomputable def zq (W:Nat→Int):Bool:=(kD (qB (dx n g W)) n n).isNone
noncomputable def pq (L:List Nat) (c:Nat):Bool:=!(mask L).testBit c && okW W (bI g) L.length (mask L) c && zq n g (nM W (L++[c]))
noncomputable def eO:Nat→List Nat
 | 0=>[]
 | k+1=>eO k++[if cC (pq n g W (eO k)) n=true then fN (pq n g W (eO k)) n 0 else 0]
variable {n g W}
theorem xt (hS:fM n W g) (hW:∀ c,c<n→0≤W (2*c)∧W (2*c+1)<n) {L:List Nat} (hd:L.Nodup) (hL:∀ x ∈ L,x<n) (hs:NL W L):zq n g (nM W L)=true↔∃ R ∈ ro n (okW W (bI g)) n,R.take L.length=L:=by
 have hle:L.length≤n:=by have:=eQ hd (M:=List.range n) (fun x hx=>List.mem_range.2 (hL x hx));rwa [List.length_range] at this
 unfold zq;rw[Option.isNone_iff_eq_none,FD (Km hS (by have:=hS.len;omega) hL) (Oz hW hle)];constructor
 · rintro ⟨R,hR⟩;exact ⟨R,(Kl hS.len hS.bef hd hL hs R).1 hR⟩
 · rintro ⟨R,hR⟩;exact ⟨R,(Kl hS.len hS.bef hd hL hs R).2 hR⟩
theorem HJ {L:List Nat} {c:Nat} (h:NL W L) (hc:W (2*c)≤(L.length:Int)∧(L.length:Int)≤W (2*c+1)):NL W (L++[c]):=fun i hi=>by
 by_cases e:i<L.length
 · rw[List.getElem_append_left e];exact h i e
 · have:i=L.length:=by rw[List.length_append,List.length_singleton] at hi;omega
   subst this;rw[List.getElem_append_right (Nat.le_refl _)];simp only[Nat.sub_self,List.getElem_cons_zero];exact hc
structure NK (n:Nat) (g:Nat→Nat) (W:Nat→Int) (k:Nat) (L:List Nat):Prop where
 len:L.length=k
 nd:L.Nodup
 lt:∀ x ∈ L,x<n
 su:NL W L
 ex:∃ R ∈ ro n (okW W (bI g)) n,R.take k=L
theorem Kz {n k:Nat} {g:Nat→Nat} {W:Nat→Int} {X c:Nat} (h:okW W (bI g) k X c=true):W (2*c)≤(k:Int)∧(k:Int)≤W (2*c+1):=by
 unfold okW at h;rw[Bool.and_eq_true,Bool.and_eq_true,bf,bf,decide_eq_true_iff,decide_eq_true_iff] at h;exact h.2
theorem Kn (hS:fM n W g) (hW:∀ c,c<n→0≤W (2*c)∧W (2*c+1)<n) {k:Nat} {L:List Nat} (hB:NK n g W k L) {R:List Nat} (hR:R ∈ ro n (okW W (bI g)) n) (ht:R.take k=L) (hk:k<R.length):pq n g W L R[k]=true:=by
 obtain ⟨h1,h2,h3⟩:=j0 hR;have h4:=(uc.1 hR).2 k hk;rw[ht] at h4;have hnm:R[k] ∉ L:=fun h=>by
  have:=h4.2.1;rw[cN hB.nd,decide_eq_true h] at this;cases this
 have ho:okW W (bI g) L.length (mask L) R[k]=true:=by rw[hB.len];exact h4.2.2
 unfold pq;rw[h4.2.1,ho,Bool.not_false,Bool.true_and,Bool.true_and];have hs:=Kz (n:=n) ho;refine (xt hS hW ?_ ?_ (HJ hB.su hs)).2 ⟨R,hR,?_⟩
 · rw[List.nodup_append];exact ⟨hB.nd,by simp,fun x hx y hy he=>by rw[List.mem_singleton] at hy;rw[hy] at he;rw[he] at hx;exact hnm hx⟩
 · intro x hx;rcases List.mem_append.1 hx with hx | hx
   · exact hB.lt x hx
   · rw[List.mem_singleton] at hx;subst hx;exact h4.1
 · rw[List.length_append,List.length_singleton,hB.len,List.take_add_one,ht];simp[hk]
theorem wW (hS:fM n W g) (hW:∀ c,c<n→0≤W (2*c)∧W (2*c+1)<n) {k:Nat} (hB:NK n g W k (eO n g W k)) (hk:k<n):cC (pq n g W (eO n g W k)) n=true∧fN (pq n g W (eO n g W k)) n 0<n∧pq n g W (eO n g W k) (fN (pq n g W (eO n g W k)) n 0)=true∧NK n g W (k+1) (eO n g W (k+1)):=by
 obtain ⟨R,hR,ht⟩:=hB.ex;obtain ⟨h1,h2,h3⟩:=j0 hR;have hx:cC (pq n g W (eO n g W k)) n=true:=(cQ _ _).2 ⟨R[k]'(by omega),(h3 _ (List.getElem_mem _)),Kn hS hW hB hR ht (by omega)⟩;have hf:=mh hx;have hgo:=(m6 (pq n g W (eO n g W k)) n 0).2.2.2 (by omega);refine ⟨hx,hf,hgo,?_⟩;have e:eO n g W (k+1)=eO n g W k++[fN (pq n g W (eO n g W k)) n 0]:=by
  show eO n g W k++[if cC (pq n g W (eO n g W k)) n=true then fN (pq n g W (eO n g W k)) n 0 else 0]=_;rw[if_pos hx]
 rw[e];generalize fN (pq n g W (eO n g W k)) n 0=c at *;generalize eO n g W k=L at *;unfold pq at hgo;rw[Bool.and_eq_true,Bool.and_eq_true,Bool.not_eq_true'] at hgo;obtain ⟨⟨g1,g2⟩,g3⟩:=hgo;have hnm:c ∉ L:=fun h=>by rw[cN hB.nd,decide_eq_true h] at g1;cases g1
 have hd:(L++[c]).Nodup:=by
  rw[List.nodup_append];exact ⟨hB.nd,by simp,fun x hx y hy he=>by rw[List.mem_singleton] at hy;rw[hy] at he;rw[he] at hx;exact hnm hx⟩
 have hlt:∀ x ∈ L++[c],x<n:=by
  intro x hx;rcases List.mem_append.1 hx with hx | hx
  · exact hB.lt x hx
  · rw[List.mem_singleton] at hx;subst hx;exact hf
 have hs:=HJ hB.su (Kz (n:=n) g2);refine ⟨by rw[List.length_append,hB.len];rfl,hd,hlt,hs,?_⟩;have:=(xt hS hW hd hlt hs).1 g3;rwa [List.length_append,hB.len] at this
theorem mj (hS:fM n W g) (hW:∀ c,c<n→0≤W (2*c)∧W (2*c+1)<n) (h:zq n g W=true):∀ k,k≤n→NK n g W k (eO n g W k)
 | 0,_=>by
   have:=(xt hS hW (L:=[]) List.nodup_nil (by simp) (fun i hi=>by cases hi)).1 (by rw[Gj];exact h);exact ⟨rfl,List.nodup_nil,by simp[eO],(fun i hi=>by cases hi),this⟩
 | k+1,hk=>(wW hS hW (mj hS hW h k (by omega)) (by omega)).2.2.2
theorem Gb (hS:fM n W g) (hW:∀ c,c<n→0≤W (2*c)∧W (2*c+1)<n) (h:zq n g W=true):eO n g W n ∈ ro n (okW W (bI g)) n:=by
 obtain ⟨R,hR,ht⟩:=(mj hS hW h n (Nat.le_refl n)).ex;rw[← ht,List.take_of_length_le (by rw[(j0 hR).1];omega)];exact hR
theorem wX (k:Nat):∀ d,(hk:(eO n g W k).length=k)→(eO n g W (k+d)).take k=eO n g W k
 | 0,hk=>by rw[Nat.add_zero,List.take_of_length_le (by omega)]
 | d+1,hk=>by
   have ih:=wX k d hk;show (eO n g W (k+d)++[_]).take k=_;have hl:k≤(eO n g W (k+d)).length:=by
    have:=congrArg List.length ih;rw[List.length_take,hk] at this;omega
   rw[List.take_append_of_le_length hl,ih]
theorem Ga (hS:fM n W g) (hW:∀ c,c<n→0≤W (2*c)∧W (2*c+1)<n) (h:zq n g W=true) {R:List Nat} (hR:R ∈ ro n (okW W (bI g)) n) {k:Nat} (hk:k<n) (ht:R.take k=(eO n g W n).take k):(eO n g W n).getD k 0≤R.getD k 0:=by
 have hB:=mj hS hW h k (by omega);have hB1:=mj hS hW h (k+1) (by omega);have e1:(eO n g W n).take k=eO n g W k:=by have:=wX (n:=n) (g:=g) (W:=W) k (n-k) hB.len;rwa [show k+(n-k)=n by omega] at this
 have e2:(eO n g W n).take (k+1)=eO n g W (k+1):=by have:=wX (n:=n) (g:=g) (W:=W) (k+1) (n-(k+1)) hB1.len;rwa [show k+1+(n-(k+1))=n by omega] at this
 have hx:=(wW hS hW hB hk).1;have e:eO n g W (k+1)=eO n g W k++[fN (pq n g W (eO n g W k)) n 0]:=by
  show eO n g W k++[if cC (pq n g W (eO n g W k)) n=true then fN (pq n g W (eO n g W k)) n 0 else 0]=_;rw[if_pos hx]
 have e3:(eO n g W n).getD k 0=fN (pq n g W (eO n g W k)) n 0:=by
  have h1:((eO n g W n).take (k+1)).getD k 0=(eO n g W n).getD k 0:=by
   rw[List.getD_eq_getElem?_getD,List.getD_eq_getElem?_getD,List.getElem?_take,if_pos (by omega)]
  rw[← h1,e2,e,List.getD_eq_getElem?_getD,List.getElem?_append_right (by rw[hB.len];omega),hB.len,Nat.sub_self];rfl
 obtain ⟨h1,h2,h3⟩:=j0 hR;have hg:=Kn hS hW hB hR (by rw[ht,e1]) (by omega);rw[e3,List.getD_eq_getElem?_getD,List.getElem?_eq_getElem (by omega)];show _≤R[k];refine Nat.le_of_not_lt fun hlt=>?_;have:=(m6 (pq n g W (eO n g W k)) n 0).2.2.1 R[k] (Nat.zero_le _) hlt;rw[hg] at this;cases this
end
end Go.Eng
end
section
namespace Go.Eng
open Go.Proofs Go.Eng.Gall
noncomputable def Ei (d:Nat):AV:=.fn (.func 93) [] [.ptr (d+2) 4 0 0,.ptr (d+2) 0 0 0,.ptr d 0 0 0,.ptr (d+2) 1 0 0]
noncomputable def Bu (lc:Nat) (j:Int):aF:=[(1,Ei 1),(7,.int .i64 (Int.ofNat lc)),(8,.int .i64 j)]
noncomputable def Ns (s:Nat) (R:Row):AV:=.fn (.func 90) [] [.ptrT (some s) (.G [.ptrT none R 0]) 0]
noncomputable def lT (lc:Nat) (j:Int):aF:=[(0,.yld 1 5),(9,.int .i64 (Int.ofNat lc)),(10,.int .i64 j)]
noncomputable def El (R:Row):aF:=[(1,.ptr 0 0 0 0),(3,.ptr 0 1 0 0),(6,.ptr 0 3 0 0),(7,.ptr 0 4 0 0),(19,Ns 0 R)]
noncomputable def FF (R X:Row) (a b:AV) (A:AV) (l:Int):List (Nat×an):=[(0,.row (.G [.ptrT none R 0])),(0,.row X),(0,.row (.G [a,b,.undef])),(0,.row (.G [A])),(0,.row (.I .u64 [l]))]
noncomputable def Mw (R X:Row) (a b:AV) (l:Int) (k:Nat×an):bF:=⟨false,FF R X a b .nils l++[k]⟩
noncomputable def H6 (R X:Row) (a b:AV) (l:Int) (k:Nat×an) (v m:Nat) (y:Nat→Int):bF:=⟨false,FF R X a b (.slc 0 6 v 0 1 m none) l++[k,(v,.row (.M [.arr .i64 y m]))]⟩
noncomputable def x6 (k:Int):bF:=⟨false,[(0,.row (.I .i64 [k]))]⟩
noncomputable def H7 (R X:Row) (b2 b3:Nat×an) (l:Int) (rest:List (Nat×an)):bF:=⟨false,(0,.row (.G [.ptrT none R 0]))::(0,.row X)::b2::b3::(0,.row (.I .u64 [l]))::rest⟩
theorem t92 (n:Nat) (lc:Nat) (H:ab) (j:Int) (q:Bool):aH (bL n 92 16) (il (vE aD 93 [.int .i64 j,.ptr 3 4 0 0,.ptr 3 0 0 0,.ptr 1 0 0 0,.ptr 3 1 0 0] (au::H) (.ok (.bool q,au::H))) n 0) aL aJ (part Tryd.f92 [1,0,1,0,0]) (hints (Bu lc j)) (au::H) =
 Tr.ite (bD j (Int.ofNat lc)) (Tr.reqP ([AV.int .i64 j,AV.ptr 3 4 0 0,AV.ptr 3 0 0 0,AV.ptr 1 0 0 0,AV.ptr 3 1 0 0]=[AV.int .i64 j,AV.ptr 3 4 0 0,AV.ptr 3 0 0 0,AV.ptr 1 0 0 0,AV.ptr 3 1 0 0]∧au::H=au::H) (Tr.ite q (Tr.ok (Ex.ret,[(4,AV.int .i64 j,none)],au::H)) (Tr.ok (Ex.normal,[(1,AV.fn (Fn.func 93) [] [AV.ptr 3 4 0 0,AV.ptr 3 0 0 0,AV.ptr 1 0 0 0,AV.ptr 3 1 0 0],none),(7,iI lc,none),(8,AV.int .i64 (bh .i64 j (Int.ofNat 1)),none)],au::H)))) (Tr.ok (Ex.exit 0,[(1,AV.fn (Fn.func 93) [] [AV.ptr 3 4 0 0,AV.ptr 3 0 0 0,AV.ptr 1 0 0 0,AV.ptr 3 1 0 0],none),(7,iI lc,none),(8,AV.int .i64 j,none),(9,AV.bool false,some 1)],au::H)):=by kernel_rfl
theorem TC (n:Nat) (lc:Nat) (H:ab) (j:Int):aH (bL n 92 16) (il aD n 0) aL aJ (part Tryd.f92 [1,0,1,0,0]) (hints (Bu lc j)) (au::H) =
 Tr.ite (bD j (Int.ofNat lc)) Tr.bad (Tr.ok (Ex.exit 0,[(1,AV.fn (Fn.func 93) [] [AV.ptr 3 4 0 0,AV.ptr 3 0 0 0,AV.ptr 1 0 0 0,AV.ptr 3 1 0 0],none),(7,iI lc,none),(8,AV.int .i64 j,none),(9,AV.bool false,some 1)],au::H)):=by kernel_rfl
theorem YJ (n:Nat) (lc:Nat) (zc:Nat→Int) (H:ab) (q:Bool) (k:Int):bj Tryd.prog (cd n) 100000 92 Tryd.f92 (KtG.kt 92) (il aD n 0) (cr aL 0 (Bu lc (Int.ofNat 0)) (au::H) (.ite q (.ok (.ret,[(4,.int .i64 k,none)],au::H)) (.ok (.normal,hints (Bu lc (Int.ofNat lc)++[(9,.bool false)]),au::H)))) aJ [(slA 4 lc zc,none),(Ei 0,none)] H =
 (fun (Z0:aF)=>Tr.reqP (Z0=Z0∧au::H=au::H) (Tr.ite q (Tr.ok ((AV.int .i64 k,none),H)) (Tr.ok ((iI 0,some 1),H)))) [(1,AV.fn (Fn.func 93) [] [AV.ptr 3 4 0 0,AV.ptr 3 0 0 0,AV.ptr 1 0 0 0,AV.ptr 3 1 0 0]),(7,iI lc),(8,iI 0)]:=by kernel_rfl
theorem Tz (n:Nat) (lc:Nat) (j:Int) (G G':ab):aH (bL n 90 18) (Pq (il aD n 0) 1 5 [.int .i64 j] (au::G) (.ok (.bool true,au::G'))) aL aJ (part Tryd.f90 [1,0,0]) (hints (lT lc j)) (au::G) =
 Tr.ite (bD j (Int.ofNat lc)) (Tr.reqP ([AV.int .i64 j]=[AV.int .i64 j]∧au::G=au::G) (Tr.ite (bx true) (Tr.ok (Ex.ret,[(0,AV.yld 1 5,none),(9,iI lc,none),(10,AV.int .i64 j,none),(16,AV.bool true,some 1)],au::G')) (Tr.ok (Ex.normal,[(0,AV.yld 1 5,none),(9,iI lc,none),(10,AV.int .i64 (bh .i64 j (Int.ofNat 1)),none)],au::G')))) (Tr.ok (Ex.exit 0,[(0,AV.yld 1 5,none),(9,iI lc,none),(10,AV.int .i64 j,none),(11,AV.bool false,some 1)],au::G)):=by kernel_rfl
theorem TA (n:Nat) (lc:Nat) (j:Int) (G:ab):aH (bL n 90 18) (il aD n 0) aL aJ (part Tryd.f90 [1,0,0]) (hints (lT lc j)) (au::G) =
 Tr.ite (bD j (Int.ofNat lc)) Tr.bad (Tr.ok (Ex.exit 0,[(0,AV.yld 1 5,none),(9,iI lc,none),(10,AV.int .i64 j,none),(11,AV.bool false,some 1)],au::G)):=by kernel_rfl
theorem TX (n:Nat) (dr:Int) (lc:Nat) (zc:Nat→Int) (lb:Nat) (zb:Nat→Int) (W B:Nat→Int) (G G':ab):bj Tryd.prog (cd n) 100000 90 Tryd.f90 (KtG.kt 90) (il aD n 0) (cr aL 0 (lT lc (Int.ofNat 0)) (au::G) (.ok (.normal,hints (lT lc (Int.ofNat lc)++[(11,.bool false)]),au::G'))) aJ [(.yld 0 5,none),(.ptrT (some 0) (.G [shV dr lc zc lb zb W B]) 0,none)] G =
 Tr.reqP ([(0,AV.yld 1 5),(9,iI lc),(10,iI 0)]=[(0,AV.yld 1 5),(9,iI lc),(10,iI 0)]∧au::G=au::G) (Tr.ok ((AV.tup [],none),G')):=by kernel_rfl
theorem PY (n:Nat) (R:Row) (L:bF) (H:ab) (k:Int):aH (iQ n 74 43 2 5) (il aD n 0) aL aJ (part Tryd.f74 [1,1,1,1,1,0,1,0,0]) (hints [(1,.ptr 2 0 0 0),(3,.ptr 2 1 0 0),(6,.ptr 2 3 0 0),(7,.ptr 2 4 0 0),(19,Ns 2 R),(20,.int .i64 k)]) (au::au::L::H) =
 Tr.ok (Ex.normal,[(1,AV.ptr 2 0 0 0,none),(3,AV.ptr 2 1 0 0,none),(6,AV.ptr 2 3 0 0,none),(7,AV.ptr 2 4 0 0,none),(8,AV.ptr 0 0 0 0,none)],(bA [(0,an.row (Row.I .i64 [k]))])::au::L::H):=by kernel_rfl
theorem YK (n:Nat) (dr:Int) (lc:Nat) (zc:Nat→Int) (lb:Nat) (zb:Nat→Int) (W X B:Nat→Int) (H:ab) (b2 b3:Nat×an) (l k c:Int) (rest:List (Nat×an)) (s q:Bool) (f t:Int):bj Tryd.prog (cd n) 100000 93 Tryd.f93 (KtG.kt 93) (il (vE (tX aD 71 [shV dr lc zc lb zb W B,.int .i64 c,.int .i64 k] (.bool s)) 65 [.ptr 0 0 0 0] (⟨false,[(0,.row (shR dr lc zc lb zb (dQ (dQ X (dC (aq 3 c 2) 3) k) (dC (ar (aq 3 c 2) 1) 3) k) B))]⟩::au::x6 k::au::H7 (shR dr lc zc lb zb W B) (shR dr lc zc lb zb X B) b2 b3 l rest::H) (.ok (.tup [.agg (.G [.int .i64 f,.int .i64 t,.undef]),.bool q],⟨false,[(0,.row (shR dr lc zc lb zb (dQ (dQ X (dC (aq 3 c 2) 3) k) (dC (ar (aq 3 c 2) 1) 3) k) B))]⟩::au::x6 k::au::H7 (shR dr lc zc lb zb W B) (shR dr lc zc lb zb X B) b2 b3 l rest::H))) n 0) aL aJ [(.int .i64 c,none),(.ptr 3 4 0 0,none),(.ptr 3 0 0 0,none),(.ptr 1 0 0 0,none),(.ptr 3 1 0 0,none)] (au::x6 k::au::H7 (shR dr lc zc lb zb W B) (shR dr lc zc lb zb X B) b2 b3 l rest::H) =
 (fun (Z0:bF)=>((fun (Z1:bF)=>((fun (Z2:bF)=>Tr.req (c8 (Int.ofNat 0) c) (Tr.ite (bx (cw (l9 IntKind.u64 l (eh IntKind.u64 (Int.ofNat 1) c)) (Int.ofNat 0))) (Tr.ok ((AV.bool false,some 1),au::Z1::au::Z0::H)) (Tr.req (cj c 10) (Tr.req (eD (aq 23 c 1) 1 23 10) (Tr.ite (bx (cw (AY IntKind.u64 (B (dC (aq 23 c 1) 23)) l) (Int.ofNat 0))) (Tr.ok ((AV.bool false,some 1),au::Z1::au::Z0::H)) (Tr.reqP ([shV dr lc zc lb zb W B,AV.int .i64 c,AV.int .i64 k]=[shV dr lc zc lb zb W B,AV.int .i64 c,AV.int .i64 k]) (Tr.ite (bx s) (Tr.ok ((AV.bool false,some 1),au::Z1::au::Z0::H)) (Tr.req (cj c 10) (Tr.req (cD 0 0) (Tr.req (eD (aq 3 c 2) 1 3 20) (Tr.req (eD (ar (aq 3 c 2) 1) 1 3 20) (Tr.reqP ([AV.ptr 0 0 0 0]=[AV.ptr 0 0 0 0]∧Z2::au::Z1::au::Z0::H=Z2::au::Z1::au::Z0::H) (Tr.ok ((AV.bool (bx q),none),au::Z1::au::Z0::H)))))))))))))) (bA [(0,an.row (shR dr lc zc lb zb (dQ (dQ X (dC (aq 3 c 2) 3) k) (dC (ar (aq 3 c 2) 1) 3) k) B))]))) (bA [(0,an.row (Row.I .i64 [k]))]))) (bA ((0,an.row (Row.G [shV dr lc zc lb zb W B]))::(0,an.row (shR dr lc zc lb zb X B))::b2::b3::(0,an.row (Row.I IntKind.u64 [l]))::rest)):=by kernel_rfl
theorem TY (n:Nat) (dr:Int) (lc:Nat) (zc:Nat→Int) (lb:Nat) (zb:Nat→Int) (W X B:Nat→Int) (H:ab) (b2 b3:Nat×an) (l k c:Int) (rest:List (Nat×an)) (s:Bool):bj Tryd.prog (cd n) 100000 93 Tryd.f93 (KtG.kt 93) (il (tN (tX aD 71 [shV dr lc zc lb zb W B,.int .i64 c,.int .i64 k] (.bool s)) 65) n 0) aL aJ [(.int .i64 c,none),(.ptr 3 4 0 0,none),(.ptr 3 0 0 0,none),(.ptr 1 0 0 0,none),(.ptr 3 1 0 0,none)] (au::x6 k::au::H7 (shR dr lc zc lb zb W B) (shR dr lc zc lb zb X B) b2 b3 l rest::H) =
 (fun (Z0:bF)=>Tr.req (c8 (Int.ofNat 0) c) (Tr.ite (bx (cw (l9 IntKind.u64 l (eh IntKind.u64 (Int.ofNat 1) c)) (Int.ofNat 0))) (Tr.ok ((AV.bool false,some 1),au::(bA [(0,an.row (Row.I .i64 [k]))])::au::Z0::H)) (Tr.req (cj c 10) (Tr.req (eD (aq 23 c 1) 1 23 10) (Tr.ite (bx (cw (AY IntKind.u64 (B (dC (aq 23 c 1) 23)) l) (Int.ofNat 0))) (Tr.ok ((AV.bool false,some 1),au::(bA [(0,an.row (Row.I .i64 [k]))])::au::Z0::H)) (Tr.reqP ([shV dr lc zc lb zb W B,AV.int .i64 c,AV.int .i64 k]=[shV dr lc zc lb zb W B,AV.int .i64 c,AV.int .i64 k]) (Tr.ite (bx s) (Tr.ok ((AV.bool false,some 1),au::(bA [(0,an.row (Row.I .i64 [k]))])::au::Z0::H)) (Tr.req (cj c 10) (Tr.req (cD 0 0) (Tr.req (eD (aq 3 c 2) 1 3 20) (Tr.req (eD (ar (aq 3 c 2) 1) 1 3 20) Tr.bad))))))))))) (bA ((0,an.row (Row.G [shV dr lc zc lb zb W B]))::(0,an.row (shR dr lc zc lb zb X B))::b2::b3::(0,an.row (Row.I IntKind.u64 [l]))::rest)):=by kernel_rfl
theorem Tv (n:Nat) (dr:Int) (lc:Nat) (zc:Nat→Int) (lb:Nat) (zb:Nat→Int) (W X B:Nat→Int) (H:ab) (a b:AV) (l k c:Int) (K:Nat×an):aH (iQ n 74 43 2 5) (il (vE aD 92 [slA 4 lc zc,Ei 0] (x6 k::au::Mw (shR dr lc zc lb zb W B) (shR dr lc zc lb zb X B) a b l K::H) (.ok (.int .i64 c,x6 k::au::Mw (shR dr lc zc lb zb W B) (shR dr lc zc lb zb X B) a b l K::H))) n 0) aL aJ (part Tryd.f74 [1,1,1,1,1,0,1,0,1]) (hints [(1,.ptr 2 0 0 0),(3,.ptr 2 1 0 0),(6,.ptr 2 3 0 0),(7,.ptr 2 4 0 0),(8,.ptr 0 0 0 0)]) (x6 k::au::Mw (shR dr lc zc lb zb W B) (shR dr lc zc lb zb X B) a b l K::H) =
 (fun (Z0:bF)=>((fun (Z1:List AV)=>Tr.reqP (Z1=Z1∧(bA [(0,an.row (Row.I .i64 [k]))])::au::Z0::H=(bA [(0,an.row (Row.I .i64 [k]))])::au::Z0::H) (Tr.req (cj c 10) (Tr.req (cD 0 0) (Tr.req (eD (aq 3 c 2) 1 3 20) (Tr.req (eD (ar (aq 3 c 2) 1) 1 3 20) (Tr.req (c8 (Int.ofNat 0) c) (Tr.req (bO (eR 0 0) (eR 0 1)) (Tr.req (ie 0 1 8) (Tr.req (cD 0 0) (Tr.req (eR 1 1) (Tr.ok (Ex.normal,[],(bA [(0,an.row (Row.I .i64 [k])),(0,an.row (Row.I .i64 [c])),(0,an.dead)])::au::(bA [(0,an.row (Row.G [shV dr lc zc lb zb W B])),(0,an.row (shR dr lc zc lb zb (dQ (dQ X (dC (aq 3 c 2) 3) k) (dC (ar (aq 3 c 2) 1) 3) k) B)),(0,an.row (Row.G [a,b,AV.undef])),(0,an.row (Row.G [AV.slc 0 6 0 0 1 1 none])),(0,an.row (Row.I IntKind.u64 [sa IntKind.u64 l (eh IntKind.u64 (Int.ofNat 1) c)])),K,(0,an.row (rM (az [c]) 1))])::H)))))))))))) [slA 4 lc zc,AV.fn (Fn.func 93) [] [AV.ptr 2 4 0 0,AV.ptr 2 0 0 0,AV.ptr 0 0 0 0,AV.ptr 2 1 0 0]])) (bA [(0,an.row (Row.G [shV dr lc zc lb zb W B])),(0,an.row (shR dr lc zc lb zb X B)),(0,an.row (Row.G [a,b,AV.undef])),(0,an.row (Row.G [AV.nils])),(0,an.row (Row.I IntKind.u64 [l])),K]):=by kernel_rfl
theorem Tw (n:Nat) (dr:Int) (lc:Nat) (zc:Nat→Int) (lb:Nat) (zb:Nat→Int) (W X B:Nat→Int) (H:ab) (a b:AV) (l k c:Int) (K:Nat×an) (v m:Nat) (y:Nat→Int):aH (iQ n 74 43 2 5) (il (vE aD 92 [slA 4 lc zc,Ei 0] (x6 k::au::H6 (shR dr lc zc lb zb W B) (shR dr lc zc lb zb X B) a b l K v m y::H) (.ok (.int .i64 c,x6 k::au::H6 (shR dr lc zc lb zb W B) (shR dr lc zc lb zb X B) a b l K v m y::H))) n 0) aL aJ (part Tryd.f74 [1,1,1,1,1,0,1,0,1]) (hints [(1,.ptr 2 0 0 0),(3,.ptr 2 1 0 0),(6,.ptr 2 3 0 0),(7,.ptr 2 4 0 0),(8,.ptr 0 0 0 0)]) (x6 k::au::H6 (shR dr lc zc lb zb W B) (shR dr lc zc lb zb X B) a b l K v m y::H) =
 (fun (Z0:bF)=>((fun (Z1:List AV)=>Tr.reqP (Z1=Z1∧(bA [(0,an.row (Row.I .i64 [k]))])::au::Z0::H=(bA [(0,an.row (Row.I .i64 [k]))])::au::Z0::H) (Tr.req (cj c 10) (Tr.req (cD 0 0) (Tr.req (eD (aq 3 c 2) 1 3 20) (Tr.req (eD (ar (aq 3 c 2) 1) 1 3 20) (Tr.req (c8 (Int.ofNat 0) c) (Tr.req (bO (eR 0 0) (eR 0 1)) (Tr.req (ie m 1 8) (Tr.req (cD 0 0) (Tr.req (eR 1 1) (Tr.req (cD v v) (Tr.req (cD (ar 0 m) m) (Tr.ok (Ex.normal,[],(bA [(0,an.row (Row.I .i64 [k])),(0,an.row (Row.I .i64 [c]))])::au::(bA [(0,an.row (Row.G [shV dr lc zc lb zb W B])),(0,an.row (shR dr lc zc lb zb (dQ (dQ X (dC (aq 3 c 2) 3) k) (dC (ar (aq 3 c 2) 1) 3) k) B)),(0,an.row (Row.G [a,b,AV.undef])),(0,an.row (Row.G [AV.slc 0 6 (Nat.succ v) 0 1 (ar m 1) none])),(0,an.row (Row.I IntKind.u64 [sa IntKind.u64 l (eh IntKind.u64 (Int.ofNat 1) c)])),K,(Nat.succ v,an.row (rM (nZ (pZ y 0) m (az [c])) (ar m 1)))])::H)))))))))))))) [slA 4 lc zc,AV.fn (Fn.func 93) [] [AV.ptr 2 4 0 0,AV.ptr 2 0 0 0,AV.ptr 0 0 0 0,AV.ptr 2 1 0 0]])) (bA [(0,an.row (Row.G [shV dr lc zc lb zb W B])),(0,an.row (shR dr lc zc lb zb X B)),(0,an.row (Row.G [a,b,AV.undef])),(0,an.row (Row.G [AV.slc 0 6 v 0 1 m none])),(0,an.row (Row.I IntKind.u64 [l])),K,(v,an.row (rM y m))]):=by kernel_rfl
theorem Yx (n:Nat) (dr:Int) (lc:Nat) (zc:Nat→Int) (lb:Nat) (zb:Nat→Int) (W X B:Nat→Int) (H:ab) (f t l:Int) (v m:Nat) (y:Nat→Int):bj Tryd.prog (cd n) 100000 74 Tryd.f74 (KtG.kt 74) (il (vE (tX aD 70 [shV dr lc zc lb zb W B] (Ns 0 (shR dr lc zc lb zb W B))) 65 [.ptr 0 1 0 0] (⟨false,[(0,.row (.G [shV dr lc zc lb zb W B])),(0,.row (shR dr lc zc lb zb W B))]⟩::H) (.ok (.tup [.agg (.G [.int .i64 f,.int .i64 t,.undef]),.bool false],⟨false,[(0,.row (.G [shV dr lc zc lb zb W B])),(0,.row (shR dr lc zc lb zb W B))]⟩::H))) n 0) aL (Ib aJ (fun _=>true) (El (shR dr lc zc lb zb W B)) (⟨false,FF (shR dr lc zc lb zb W B) (shR dr lc zc lb zb W B) (.int .i64 f) (.int .i64 t) .nils (Int.ofNat 0)⟩::H) (.ok (.normal,hints (El (shR dr lc zc lb zb W B)),H6 (shR dr lc zc lb zb W B) (shR dr lc zc lb zb X B) (.int .i64 f) (.int .i64 t) l (0,.dead) v m y::H))) [(shV dr lc zc lb zb W B,none)] H =
 (fun (Z0:bF)=>((fun (Z1:aF)=>((fun (Z2:bF)=>Tr.reqP ([AV.ptr 0 1 0 0]=[AV.ptr 0 1 0 0]∧Z2::H=Z2::H) (Tr.ite false (Tr.ok ((AV.nils,none),H)) (Tr.reqP ([shV dr lc zc lb zb W B]=[shV dr lc zc lb zb W B]) (Tr.reqP (Z1=Z1∧Z0::H=Z0::H) (Tr.req (cD v v) (Tr.req (eD 0 m 0 m) (Tr.ok ((aK m (pZ y 0) false,none),H)))))))) (bA [(0,an.row (Row.G [shV dr lc zc lb zb W B])),(0,an.row (shR dr lc zc lb zb W B))]))) [(1,AV.ptr 0 0 0 0),(3,AV.ptr 0 1 0 0),(6,AV.ptr 0 3 0 0),(7,AV.ptr 0 4 0 0),(19,AV.fn (Fn.func 90) [] [AV.ptrT (some 0) (Row.G [shV dr lc zc lb zb W B]) 0])])) (bA [(0,an.row (Row.G [shV dr lc zc lb zb W B])),(0,an.row (shR dr lc zc lb zb W B)),(0,an.row (Row.G [AV.int .i64 f,AV.int .i64 t,AV.undef])),(0,an.row (Row.G [AV.nils])),(0,an.row (Row.I IntKind.u64 [Int.ofNat 0]))]):=by kernel_rfl
theorem TU (n:Nat) (dr:Int) (lc:Nat) (zc:Nat→Int) (lb:Nat) (zb:Nat→Int) (W B:Nat→Int) (H:ab) (f t:Int):bj Tryd.prog (cd n) 100000 74 Tryd.f74 (KtG.kt 74) (il (vE (tX aD 70 [shV dr lc zc lb zb W B] (Ns 0 (shR dr lc zc lb zb W B))) 65 [.ptr 0 1 0 0] (⟨false,[(0,.row (.G [shV dr lc zc lb zb W B])),(0,.row (shR dr lc zc lb zb W B))]⟩::H) (.ok (.tup [.agg (.G [.int .i64 f,.int .i64 t,.undef]),.bool true],⟨false,[(0,.row (.G [shV dr lc zc lb zb W B])),(0,.row (shR dr lc zc lb zb W B))]⟩::H))) n 0) aL aJ [(shV dr lc zc lb zb W B,none)] H =
 (fun (Z0:bF)=>Tr.reqP ([AV.ptr 0 1 0 0]=[AV.ptr 0 1 0 0]∧Z0::H=Z0::H) (Tr.ite true (Tr.ok ((AV.nils,none),H)) (Tr.reqP ([shV dr lc zc lb zb W B]=[shV dr lc zc lb zb W B]) Tr.bad))) (bA [(0,an.row (Row.G [shV dr lc zc lb zb W B])),(0,an.row (shR dr lc zc lb zb W B))]):=by kernel_rfl
theorem Vh (n:Nat) (dr:Int) (lc:Nat) (zc:Nat→Int) (lb:Nat) (zb:Nat→Int) (W B:Nat→Int) (H:ab):bj Tryd.prog (cd n) 100000 70 Tryd.f70 (KtG.kt 70) (il aD n 0) aL aJ [(shV dr lc zc lb zb W B,none)] H =
 Tr.ok ((AV.fn (Fn.func 90) [] [AV.ptrT (some 0) (Row.G [shV dr lc zc lb zb W B]) 0],none),H):=by kernel_rfl
theorem Yh (n:Nat) (dr:Int) (lc:Nat) (zc:Nat→Int) (lb:Nat) (zb:Nat→Int) (W B:Nat→Int) (H:ab) (m:Nat) (y:Nat→Int):bj Tryd.prog (cd n) 100000 38 Tryd.f38 (KtG.kt 38) (il (tX (tX aD 49 [bn dr lc zc lb zb,.nils] (.tup [shV dr lc zc lb zb W B,.int .i64 (Int.ofNat 0)])) 74 [shV dr lc zc lb zb W B] (aK m y false)) n 0) aL aJ [(bn dr lc zc lb zb,none)] H =
 Tr.reqP ([bn dr lc zc lb zb,AV.nils]=[bn dr lc zc lb zb,AV.nils]) (Tr.ite (bx (cw (Int.ofNat 0) (Int.ofNat 0))) (Tr.ok ((AV.tup [AV.nils,iI 0],none),H)) (Tr.reqP ([shV dr lc zc lb zb W B]=[shV dr lc zc lb zb W B]) (Tr.req (bW 0 m) (Tr.ite false (Tr.ok ((AV.tup [AV.nils,iI 13],none),H)) (Tr.req (Dm (Int.ofNat m) (Int.ofNat m) 8) (Tr.req (eR (xk m (b5 (Int.ofNat m))) m) (Tr.req (eR (ar 0 (xk m (b5 (Int.ofNat m)))) m) (Tr.req (cD 0 0) (Tr.req (eD 0 (xk m (b5 (Int.ofNat m))) 0 (b5 (Int.ofNat m))) (Tr.req (cD 0 0) (Tr.req (eD 0 (b5 (Int.ofNat m)) 0 (b5 (Int.ofNat m))) (Tr.ok ((AV.tup [AV.slcT none (rM (pZ (kT (fun x=>Int.ofNat 0) 0 y (xk m (b5 (Int.ofNat m)))) 0) (b5 (Int.ofNat m))) 1 (b5 (Int.ofNat m)) (cD (b5 (Int.ofNat m)) (b5 (Int.ofNat m))),iI 0],none),H))))))))))))):=by kernel_rfl
theorem TK (n:Nat) (dr:Int) (lc:Nat) (zc:Nat→Int) (lb:Nat) (zb:Nat→Int) (W B:Nat→Int) (H:ab):bj Tryd.prog (cd n) 100000 38 Tryd.f38 (KtG.kt 38) (il (tX (tX aD 49 [bn dr lc zc lb zb,.nils] (.tup [shV dr lc zc lb zb W B,.int .i64 (Int.ofNat 0)])) 74 [shV dr lc zc lb zb W B] .nils) n 0) aL aJ [(bn dr lc zc lb zb,none)] H =
 Tr.reqP ([bn dr lc zc lb zb,AV.nils]=[bn dr lc zc lb zb,AV.nils]) (Tr.ite (bx (cw (Int.ofNat 0) (Int.ofNat 0))) (Tr.ok ((AV.tup [AV.nils,iI 0],none),H)) (Tr.reqP ([shV dr lc zc lb zb W B]=[shV dr lc zc lb zb W B]) (Tr.ite true (Tr.ok ((AV.tup [AV.nils,iI 13],none),H)) (Tr.req (Dm (Int.ofNat 0) (Int.ofNat 0) 8) Tr.bad)))):=by kernel_rfl
end Go.Eng
end
