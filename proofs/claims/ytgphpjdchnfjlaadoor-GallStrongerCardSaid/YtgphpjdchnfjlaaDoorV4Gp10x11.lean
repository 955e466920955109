/- Gall: block answers none if and only if there is a right order (plain law). -/
import Derived.Test.YtgphpjdchnfjlaaDoorV4Gp9x5
set_option linter.unusedVariables false
set_option linter.unusedSimpArgs false
set_option maxRecDepth 100000
section
namespace Go.Eng
open Go.Proofs Go.Eng.Gall Go.Eng.Q
theorem CL {W:Nat→Int} {b:Nat→Nat} {k X c:Nat} (hb:b c<2 ^ 62) (hX:X<2 ^ 62):okW W (bI b) k X c=true↔(∀ a,(b c).testBit a=true→X.testBit a=true)∧W (2*c)≤(k:Int)∧(k:Int)≤W (2*c+1):=by
 unfold okW;obtain ⟨w,hw,hw2⟩:=PH hb hX;rw[show bI b c=(b c:Int) from rfl,hw,Bool.and_eq_true,Bool.and_eq_true,bn,bn,bm,decide_eq_true_iff,decide_eq_true_iff,beq_iff_eq];have e:(w:Int)=Int.ofNat 0↔∀ a,(b c).testBit a=true→X.testBit a=true:=by
  constructor
  · intro h a ha;have h:w=0:=by
     have h:(w:Int)=0:=h;omega
    have:=hw2 a;rw[h,Nat.zero_testBit,ha,Bool.true_and] at this;cases e:X.testBit a with
    | true=>rfl
    | false=>rw[e] at this;cases this
  · intro h;have:w=0:=by
     apply Nat.eq_of_testBit_eq;intro a;rw[hw2,Nat.zero_testBit];cases e:(b c).testBit a with
     | false=>rfl
     | true=>rw[h a e];rfl
    rw[this];rfl
 rw[e]
theorem pt {n:Nat} {b:Nat→Nat} {W:Nat→Int} {L:List Nat} (hn:n≤10) (hb:∀ c,c<n→b c<2 ^ n):L ∈ ro n (okW W (bI b)) n↔L.length=n∧L.Nodup∧(∀ x ∈ L,x<n)∧∀ i (h:i<L.length),(∀ a,(b L[i]).testBit a=true→a ∈ L.take i)∧W (2*L[i])≤(i:Int)∧(i:Int)≤W (2*L[i]+1):=by
 have p62:2 ^ n≤2 ^ 62:=Nat.pow_le_pow_right (by omega) (by omega);constructor
 · intro h;obtain ⟨h1,h2,h3⟩:=oj h;refine ⟨h1,h2,h3,fun i hi=>?_⟩;have hl:=h3 _ (List.getElem_mem hi);have hnt:(L.take i).Nodup:=h2.sublist (List.take_sublist i L);have hm:mask (L.take i)<2 ^ n:=mS hnt fun x hx=>h3 x (List.mem_of_mem_take hx);have:=((tC.1 h).2 i hi).2.2;rw[CL (Nat.lt_of_lt_of_le (hb _ hl) p62) (Nat.lt_of_lt_of_le hm p62)] at this;refine ⟨fun a ha=>?_,this.2⟩;have:=this.1 a ha;rw[cC hnt] at this;exact of_decide_eq_true this
 · rintro ⟨h1,h2,h3,h4⟩;refine tC.2 ⟨h1,fun i hi=>?_⟩;have hl:=h3 _ (List.getElem_mem hi);have hnt:(L.take i).Nodup:=h2.sublist (List.take_sublist i L);have hm:mask (L.take i)<2 ^ n:=mS hnt fun x hx=>h3 x (List.mem_of_mem_take hx);refine ⟨hl,?_,(CL (Nat.lt_of_lt_of_le (hb _ hl) p62) (Nat.lt_of_lt_of_le hm p62)).2 ⟨fun a ha=>?_,(h4 i hi).2⟩⟩
   · rw[cC hnt];refine decide_eq_false fun hx=>?_;obtain ⟨j,hj,he⟩:=List.mem_iff_getElem.1 hx;rw[List.length_take] at hj;rw[List.getElem_take] at he;have:=(List.pairwise_iff_getElem.1 h2) j i (by omega) hi (by omega);exact this he
   · rw[cC hnt];exact decide_eq_true ((h4 i hi).1 a ha)
section
variable {n:Nat} {b:Nat→Nat} {W:Nat→Int} {L:List Nat}
theorem iR {L:List Nat} {c:Nat} (h:c ∈ L):∃ hi:L.idxOf c<L.length,L[L.idxOf c]=c:=⟨List.idxOf_lt_length_iff.2 h,List.getElem_idxOf _⟩
theorem Dh {L:List Nat} {a i:Nat} (h:a ∈ L.take i):L.idxOf a<i:=by
 obtain ⟨j,hj,he⟩:=List.mem_iff_getElem.1 h;rw[List.length_take] at hj;rw[List.getElem_take] at he;have h2:L.idxOf a≤j:=by
  refine Nat.le_of_not_lt fun hlt=>?_;have:=List.not_of_lt_findIdx (p:=(· == a)) (xs:=L) (i:=j) hlt;rw[he] at this;simp at this
 omega
theorem F0 (hL:L.length=n∧L.Nodup∧(∀ x ∈ L,x<n)∧∀ i (h:i<L.length),(∀ a,(b L[i]).testBit a=true→a ∈ L.take i)∧W (2*L[i])≤(i:Int)∧(i:Int)≤W (2*L[i]+1)):∀ t c,c ∈ L→fo n b W t c≤(L.idxOf c:Int)
 | 0,c,hc=>by
   obtain ⟨hi,he⟩:=iR hc;have:=(hL.2.2.2 _ hi).2.1;rw[he] at this;exact this
 | t + 1,c,hc=>by
   rcases je (fo n b W t c) (fun a=>fo n b W t a+1) (fun a=>(b c).testBit a) n with e | ⟨a,h1,h2,h3⟩
   · have e:fo n b W (t+1) c=fo n b W t c:=e;rw[e];exact F0 hL t c hc
   · have h3:fo n b W (t+1) c=fo n b W t a+1:=h3;obtain ⟨hi,he⟩:=iR hc;have hm:=(hL.2.2.2 _ hi).1 a (by rw[he];exact h2);have:=Dh hm;have:=F0 hL t a (List.mem_of_mem_take hm);omega
theorem FK (hL:L.length=n∧L.Nodup∧(∀ x ∈ L,x<n)∧∀ i (h:i<L.length),(∀ a,(b L[i]).testBit a=true→a ∈ L.take i)∧W (2*L[i])≤(i:Int)∧(i:Int)≤W (2*L[i]+1)):∀ t c,c ∈ L→fm n b W t c≤-(L.idxOf c:Int)
 | 0,c,hc=>by
   obtain ⟨hi,he⟩:=iR hc;have:=(hL.2.2.2 _ hi).2.2;rw[he] at this;show -W (2*c+1)≤_;omega
 | t + 1,c,hc=>by
   rcases je (fm n b W t c) (fun a=>fm n b W t a+1) (fun a=>(b a).testBit c) n with e | ⟨a,h1,h2,h3⟩
   · have e:fm n b W (t+1) c=fm n b W t c:=e;rw[e];exact FK hL t c hc
   · have h3:fm n b W (t+1) c=fm n b W t a+1:=h3;have ha:a ∈ L:=kQ hL.2.1 hL.1 hL.2.2.1 h1;obtain ⟨hi,he⟩:=iR ha;have hm:=(hL.2.2.2 _ hi).1 c (by rw[he];exact h2);have:=Dh hm;have:=FK hL t a ha;omega
theorem Ik {M:List Int} (hn:M.Nodup) {F T:Int} (h:∀ x ∈ M,F≤x∧x≤T):M≠[]→(M.length:Int)≤T-F+1:=fun hne=>by
 have h1:(M.map fun x=>(x-F).toNat).Nodup:=by
  rw[List.Nodup,List.pairwise_map,List.pairwise_iff_getElem];intro i j hi hj hij;have a:=(List.pairwise_iff_getElem.1 hn) i j hi hj hij;have b1:=h _ (List.getElem_mem hi);have b2:=h _ (List.getElem_mem hj);have a:M[i]≠M[j]:=a;omega
 have h2:=eI h1 (M:=List.range (T-F+1).toNat) (fun y hy=>by
  obtain ⟨x,hx,rfl⟩:=List.mem_map.1 hy;have:=h x hx;rw[List.mem_range];omega)
 rw[List.length_map,List.length_range] at h2;obtain ⟨x,hx⟩:=List.exists_mem_of_ne_nil M hne;have:=h x hx;omega
theorem Lf (hS:gE n W b) (hW:∀ c,c<n→0≤W (2*c)∧W (2*c+1)<n):lj (qB (jm n b W)) n n=none↔∃ L,L ∈ ro n (okW W (bI b)) n:=by
 have hl:=hS.len;have hqe:∀ c,c<n→qB (jm n b W) (2*c)=fo n b W n c∧qB (jm n b W) (2*c+1)=-fm n b W n c:=fun c hc=>by
  rw[GB _ (by omega),GB _ (by omega)];unfold jm;rw[if_pos (by omega),if_pos (by omega),if_pos (by omega),if_neg (by omega),show 2*c / 2=c by omega,show (2*c+1) / 2=c by omega];exact ⟨rfl,rfl⟩
 have hlo:∀ c,W (2*c)≤fo n b W n c:=fun c=>by have:=lo_le (n:=n) (b:=b) (w:=W) 0 n c;rw[Nat.zero_add] at this;exact this
 have hhi:∀ c,-W (2*c+1)≤fm n b W n c:=fun c=>by have:=Cj (n:=n) (b:=b) (w:=W) 0 n c;rw[Nat.zero_add] at this;exact this
 constructor
 · intro h;have hr:=I2 h;obtain ⟨L,hL⟩:=GH (B:=fun a c=>(b c).testBit a=true) hr (fun i hi=>by show 0≤qB _ (2*i);rw[(hqe i hi).1];have:=hlo i;have:=hW i hi;omega) (fun i hi=>by show qB _ (2*i+1) < _;rw[(hqe i hi).2];have:=hhi i;have:=hW i hi;omega) (fun a c ha hc hp=>by
    show qB _ (2*a)<qB _ (2*c)∧qB _ (2*a+1)<qB _ (2*c+1);rw[(hqe a ha).1,(hqe c hc).1,(hqe a ha).2,(hqe c hc).2];have:=FZ (w:=W) hS.nob ha hc hp;have:=JM (w:=W) hS.nob ha hc hp;omega)
   refine ⟨L,(pt hl hS.bef).2 ⟨hL.len,hL.nd,hL.lt,fun i hi=>⟨fun a ha=>?_,?_⟩⟩⟩
   · have hc:=hL.lt _ (List.getElem_mem hi);have han:a<n:=by
      refine Nat.lt_of_not_le fun hge=>?_;rw[Nat.testBit_lt_two_pow (Nat.lt_of_lt_of_le (hS.bef _ hc) (Nat.pow_le_pow_right (by omega) hge))] at ha;cases ha
     obtain ⟨hj,he⟩:=iR (kQ hL.nd hL.len hL.lt han);rcases Nat.lt_trichotomy (L.idxOf a) i with q | q | q
     · refine List.mem_iff_getElem.2 ⟨L.idxOf a,by rw[List.length_take];omega,?_⟩;rw[List.getElem_take];exact he
     · exfalso;have e:L[i]=a:=by rw[← he];congr 1;exact q.symm
       have:=FZ (w:=W) hS.nob (a:=a) (c:=L[i]) han hc ha;rw[e] at this;omega
     · exact absurd (by rw[he];exact ha) (hL.pair i (L.idxOf a) hi hj q)
   · have hc:=hL.lt _ (List.getElem_mem hi);have:=hL.suit i hi;have h1:qB (jm n b W) (2*L[i])≤(i:Int):=this.1;have h2:(i:Int)≤qB (jm n b W) (2*L[i]+1):=this.2;rw[(hqe _ hc).1] at h1;rw[(hqe _ hc).2] at h2;have:=hlo L[i];have:=hhi L[i];omega
 · rintro ⟨L,hL⟩;have hL:=(pt hl hS.bef).1 hL;have hf:jK (fun x y=>∃ j k,j<n∧k<n∧x=qB (jm n b W) (2*j)∧y=qB (jm n b W) (2*k+1)∧tl (qB (jm n b W)) n x y=true) (lj (qB (jm n b W)) n n):=by
    rcases tk (qB (jm n b W)) n n with h1 | ⟨f,t,h1,h2⟩
    · exact h1
    · rw[h1];exact h2
   cases e:lj (qB (jm n b W)) n n with
   | none=>rfl
   | some v =>
     exfalso;obtain ⟨F,T⟩:=v;rw[e] at hf;obtain ⟨⟨j,k,hj,hk,_,_,hov⟩,_⟩:=hf;unfold tl at hov;rw[Bool.and_eq_true,decide_eq_true_iff,decide_eq_true_iff] at hov;have hm:∀ x ∈ dO (qB (jm n b W)) F T n,∃ c,c<n∧x=(c:Int)∧F≤(L.idxOf c:Int)∧(L.idxOf c:Int)≤T:=fun x hx=>by
      obtain ⟨c,h1,h2,h3⟩:=(ru _ _ _ _ _).1 hx;unfold xw at h2;rw[Bool.and_eq_true,decide_eq_true_iff,decide_eq_true_iff,(hqe c h1).1,(hqe c h1).2] at h2;have hc:c ∈ L:=kQ hL.2.1 hL.1 hL.2.2.1 h1;have:=F0 hL n c hc;have:=FK hL n c hc;exact ⟨c,h1,h3,by omega,by omega⟩
     have hnd:((dO (qB (jm n b W)) F T n).map fun x=>(L.idxOf x.toNat:Int)).Nodup:=by
      rw[List.Nodup,List.pairwise_map];refine (List.Pairwise.and_mem.1 (vk (qB (jm n b W)) F T n)).imp ?_;rintro x y ⟨hx,hy,hne⟩ he;obtain ⟨c,h1,rfl,_⟩:=hm x hx;obtain ⟨d,h2,rfl,_⟩:=hm y hy;rw[Int.toNat_natCast,Int.toNat_natCast] at he;obtain ⟨i1,e1⟩:=iR (kQ hL.2.1 hL.1 hL.2.2.1 h1);obtain ⟨i2,e2⟩:=iR (kQ hL.2.1 hL.1 hL.2.2.1 h2);have he:L.idxOf c=L.idxOf d:=by omega
      have:c=d:=by
       rw[← e1,← e2];congr 1
      exact hne (by rw[this])
     have:=Ik hnd (F:=F) (T:=T) (fun y hy=>by
      obtain ⟨x,hx,rfl⟩:=List.mem_map.1 hy;obtain ⟨c,_,rfl,h3⟩:=hm x hx;rw[Int.toNat_natCast];exact h3) (fun h0=>by
       have:=congrArg List.length h0;rw[List.length_map] at this;simp at this;rw[this] at hov;simp at hov)
     rw[List.length_map] at this;omega
end
end Go.Eng
end
section
namespace Go.Eng
open Go.Proofs Go.Eng.Gall
theorem WQ (n:Nat) (dr:Int) (lc:Nat) (zc:Nat→Int) (lb:Nat) (zb:Nat→Int) (W B:Nat→Int) (H:aa) (k:Int):bk Tryd.prog (cd n) 100000 34 Tryd.f34 (KtG.kt 34) (il (tX (tX aH 49 [bG dr lc zc lb zb,.nils] (.tup [shV dr lc zc lb zb W B,.int .i64 (Int.ofNat 0)])) 73 [shV dr lc zc lb zb W B] (.int .i64 k)) n 0) aS aR [(bG dr lc zc lb zb,none)] H =
 Tr.reqP ([bG dr lc zc lb zb,AV.nils]=[bG dr lc zc lb zb,AV.nils]) (Tr.ite (aE (bw (Int.ofNat 0) (Int.ofNat 0))) (Tr.ok ((AV.tup [iI 0,iI 0],none),H)) (Tr.reqP ([shV dr lc zc lb zb W B]=[shV dr lc zc lb zb W B]) (Tr.ok ((AV.tup [AV.int .i64 k,iI 0],none),H)))):=by kernel_rfl
theorem Sy (n:Nat) (dr:Int) (lc:Nat) (zc:Nat→Int) (lb:Nat) (zb:Nat→Int) (H:aa) (e:Int):bk Tryd.prog (cd n) 100000 34 Tryd.f34 (KtG.kt 34) (il (tN (tX aH 49 [bG dr lc zc lb zb,.nils] (.tup [.nilp,.int .i64 e])) 73) n 0) aS aR [(bG dr lc zc lb zb,none)] H =
 Tr.reqP ([bG dr lc zc lb zb,AV.nils]=[bG dr lc zc lb zb,AV.nils]) (Tr.ite (aE (bw e (Int.ofNat 0))) (Tr.ok ((AV.tup [iI 0,AV.int .i64 e],none),H)) Tr.bad):=by kernel_rfl
theorem SD (n:Nat) (dr:Int) (lc:Nat) (zc:Nat→Int) (lb:Nat) (zb:Nat→Int) (G:aa) (e:Int):bk Tryd.prog (cd (n+2)) 100000 49 Tryd.f49 (KtG.kt 49) (il (tN (tX aH 22 [bG dr lc zc lb zb] (.int .i64 e)) 62) n 2) aS aR [(bG dr lc zc lb zb,none),(.nils,none)] G =
 Tr.reqP ([bG dr lc zc lb zb]=[bG dr lc zc lb zb]) (Tr.ite (aE (bw e (Int.ofNat 0))) (Tr.ok ((AV.tup [AV.nilp,AV.int .i64 e],none),G)) Tr.bad):=by kernel_rfl
section
variable (n:Nat) (dr:Int) (lc:Nat) (zc:Nat→Int) (lb:Nat) (zb:Nat→Int) (H:aa)
theorem PX (hl:lc≤1000) (hb:lb≤1000) (h0:¬ c9 dr lc zc lb zb=0):cd (n+14) (.fn 49) [bG dr lc zc lb zb,.nils] H=some (.tup [.nilp,.int .i64 (c9 dr lc zc lb zb)],H):=by
 refine bB (n:=n+13) Tryd.func49 rfl rfl rfl (SD (n+11) dr lc zc lb zb H (c9 dr lc zc lb zb)) (kg _ (n+11) 2 (fun q=>G2 (dk (bj _) (fun H=>by
  rw[show n+11+q=n+q+11 by omega];exact PT (n+q) dr lc zc lb zb H hl hb)))) (ai _ _) (aj _ _) ?_
 refine Tr.al rfl (Tr.af (fun q=>Tr.ah ⟨rfl,rfl⟩) (fun q=>?_));rw[aM,bm] at q;exact absurd (by simpa using q) h0
noncomputable def P5:AV:=if c9 dr lc zc lb zb=0 then .tup [.int .i64 (Q.cntF lc (dg dr lc zc) (jr lb zb)),.int .i64 0] else .tup [.int .i64 0,.int .i64 (c9 dr lc zc lb zb)]
theorem Uj (hl:lc≤1000) (hb:lb≤1000):cd (n+15) (.fn 34) [bG dr lc zc lb zb] H=some (P5 dr lc zc lb zb,H):=by
 unfold P5;by_cases h0:c9 dr lc zc lb zb=0
 · rw[if_pos h0];obtain ⟨h1,_⟩:=vV h0;refine bB (n:=n+14) Tryd.func34 rfl rfl rfl (WQ (n+14) dr lc zc lb zb (dg dr lc zc) (jr lb zb) H (Q.cntF lc (dg dr lc zc) (jr lb zb))) (bM _ _ (dk (dk (bj _) (fun H=>Lj n dr lc zc lb zb H hb h0)) (fun H=>P0 (n+13) dr lc zc lb zb (dg dr lc zc) (jr lb zb) H h1.2))) (ai _ _) (aj _ _) ?_;refine Tr.al rfl (Tr.af (fun q=>by simp[aM,bm] at q) (fun q=>Tr.al rfl (Tr.ah ⟨rfl,rfl⟩)))
 · rw[if_neg h0];refine bB (n:=n+14) Tryd.func34 rfl rfl rfl (Sy (n+14) dr lc zc lb zb H (c9 dr lc zc lb zb)) (bM _ _ (G2 (dk (bj _) (fun H=>PX n dr lc zc lb zb H hl hb h0)))) (ai _ _) (aj _ _) ?_;refine Tr.al rfl (Tr.af (fun q=>Tr.ah ⟨rfl,rfl⟩) (fun q=>?_));rw[aM,bm] at q;exact absurd (by simpa using q) h0
end
end Go.Eng
end
section
namespace Go.Eng
open Go.Proofs Go.Eng.Gall
noncomputable def iv (r:Row) (a b:Int):bF:=⟨false,[(0,.row r),(0,.row (.I .i64 [a,b]))]⟩
end Go.Eng
end
section
namespace Go.Eng
open Go.Proofs Go.Eng.Gall
noncomputable def JW (dr:Int) (lc:Nat) (zc:Nat→Int) (lb:Nat) (zb:Nat→Int):Option (Int×Int):=lj (qB (jm lc (fun c=>gY zb c lb) (dg dr lc zc))) lc lc
section
variable (n:Nat) (dr:Int) (lc:Nat) (zc:Nat→Int) (lb:Nat) (zb:Nat→Int) (H:aa) (r r2:Row) (a b:Int)
end
end Go.Eng
end
section
namespace Go.Eng
open Go.Proofs Go.Eng.Gall
end Go.Eng
end
section
namespace Go.Eng
open Go.Proofs Go.Eng.Gall
section
variable (n:Nat) (dr:Int) (lc:Nat) (zc:Nat→Int) (lb:Nat) (zb:Nat→Int) (H:aa) (a b:Nat)
theorem Mh {c f i:Nat} {H:aa} {r:Row} {v:AV} {H':aa} (hf:f=63∨f=65) (hr:cO H 0 i 0=some r) (hh:GK r=true) (h:cd c (.fn f) [.ptrT none r 0] [⟨true,[]⟩]=some (v,H')):gO (cd c) f [.ptr 0 i 0 0] H=some (Lx v,H):=by
 have e:OL (cd c) f [.ptr 0 i 0 0] H=some (Lx v,H):=by
  show (match cO H 0 i 0 with
   | some r=>if (GK r && [].all (sZ 9))=true then (match cd c (.fn f) (.ptrT none r 0::[]) [⟨true,[]⟩] with
     | some (v,_)=>some (Lx v,H)
     | none=>none) else none
   | none=>none)=_
  rw[hr];dsimp only;rw[hh,h];rfl
 have e2:gO (cd c) f [.ptr 0 i 0 0] H=(match OL (cd c) f [.ptr 0 i 0 0] H with
  | some x=>some x
  | none=>tj [⟨15,[],.bool true⟩] (cd c) f [.ptr 0 i 0 0] H):=by rcases hf with rfl | rfl<;>rfl
 rw[e2,e]
end
end Go.Eng
end
section
namespace Go.Eng
open Go.Proofs Go.Eng.Gall Go.Eng.Q
section
variable {n:Nat} {g:Nat→Nat} {W:Nat→Int}
theorem AY {L:List Nat} (hn:L.Nodup) {i:Nat} (hi:i<L.length):L.idxOf L[i]=i:=by
 obtain ⟨hj,he⟩:=iR (List.getElem_mem hi);rcases Nat.lt_trichotomy (L.idxOf L[i]) i with q | q | q
 · exact absurd he ((List.pairwise_iff_getElem.1 hn) _ _ hj hi q)
 · exact q
 · exact absurd he.symm ((List.pairwise_iff_getElem.1 hn) _ _ hi hj q)
end
end Go.Eng
end
section
namespace Go.Eng
open Go.Proofs Go.Eng.Gall Go.Eng.Q
section
variable {dr:Int} {lc:Nat} {zc:Nat→Int} {lb:Nat} {zb zb2:Nat→Int} {a b:Nat}
end
end Go.Eng
end
section
namespace Go.Eng
open Go.Proofs Go.Eng.Gall Go.Eng.Q
section
variable {dr:Int} {lc:Nat} {zc:Nat→Int} {lb:Nat} {zb:Nat→Int} {a b:Nat}
theorem KW (c:Nat) (hc:c<lc):0≤dg dr lc zc (2*c)∧dg dr lc zc (2*c+1)<lc:=by
 unfold dg;rw[if_pos (by omega),if_pos (by omega),if_pos (by omega),if_neg (by omega)];omega
end
end Go.Eng
end
section
namespace Go.Eng
open Go.Proofs Go.Eng.Gall Go.Eng.Q
def np (W:Nat→Int) (L:List Nat) (i:Nat):Int:=if i / 2 ∈ L then (L.idxOf (i / 2):Int) else W i
theorem FE (W:Nat→Int):np W []=W:=by funext i;unfold np;rw[if_neg (by simp)]
theorem Ii {L:List Nat} {c x:Nat} (hc:c ∉ L):(L++[c]).idxOf x=if x ∈ L then L.idxOf x else if x=c then L.length else L.length+1:=by
 rw[List.idxOf_append];split
 · rfl
 · by_cases e:x=c
   · subst e;rw[if_pos rfl,List.idxOf_cons_self,Nat.zero_add]
   · rw[if_neg e,List.idxOf_cons,List.idxOf_nil];have:(c == x)=false:=by simpa using fun h=>e h.symm
     rw[this];simp;omega
theorem FD {W:Nat→Int} {L:List Nat} {c:Nat} (hc:c ∉ L):np W (L++[c])=eg (eg (np W L) (2*c) (L.length:Int)) (2*c+1) (L.length:Int):=by
 rw[jH,jH];funext i;dsimp only;unfold np;rw[Ii hc];by_cases e:i / 2=c
 · rw[if_pos (by rw[e];simp),if_neg (by rw[e];exact hc),if_pos e];by_cases e1:i=2*c+1
   · rw[if_pos e1]
   · rw[if_neg e1,if_pos (by omega)]
 · have e1:i≠2*c+1:=by omega
   have e2:i≠2*c:=by omega
   rw[if_neg e1,if_neg e2];by_cases h:i / 2 ∈ L
   · rw[if_pos (by simp[h]),if_pos h,if_pos h]
   · rw[if_neg (by simp[h,e]),if_neg h]
section
variable {n:Nat} {g:Nat→Nat} {W:Nat→Int}
def Nc (W:Nat→Int) (L:List Nat):Prop:=∀ i (h:i<L.length),W (2*L[i])≤(i:Int)∧(i:Int)≤W (2*L[i]+1)
theorem JL (hS:gE n W g) {L:List Nat} (hl:L.length≤10) (hL:∀ x ∈ L,x<n):gE n (np W L) g:=by
 refine ⟨hS.len,fun j=>?_,fun j hj=>?_,hS.bef,hS.off,hS.nob⟩
 · unfold np;split
   · have:=@List.idxOf_le_length _ _ _ L (j / 2);omega
   · exact hS.win j
 · unfold np;rw[if_neg (fun h=>by have:=hL _ h;have:=hS.len;omega)];exact hS.zer j hj
theorem NT (hW:∀ c,c<n→0≤W (2*c)∧W (2*c+1)<n) {L:List Nat} (hl:L.length≤n) (c:Nat) (hc:c<n):0≤np W L (2*c)∧np W L (2*c+1)<n:=by
 unfold np;rw[show 2*c / 2=c by omega,show (2*c+1) / 2=c by omega];split
 · rename_i h;have:=List.idxOf_lt_length_iff.2 h;omega
 · exact hW c hc
theorem JK (hn:n≤10) (hg:∀ c,c<n→g c<2 ^ n) {L:List Nat} (hd:L.Nodup) (hL:∀ x ∈ L,x<n) (hs:Nc W L) (R:List Nat):R ∈ ro n (okW (np W L) (bI g)) n↔R ∈ ro n (okW W (bI g)) n∧R.take L.length=L:=by
 rw[pt hn hg,pt hn hg];have hw:∀ c b,b<2→np W L (2*c+b)=if c ∈ L then (L.idxOf c:Int) else W (2*c+b):=fun c b hb=>by
  unfold np;rw[show (2*c+b) / 2=c by omega]
 constructor
 · rintro ⟨h1,h2,h3,h4⟩;refine ⟨⟨h1,h2,h3,fun i hi=>⟨(h4 i hi).1,?_⟩⟩,?_⟩
   · have h5:=(h4 i hi).2;have e0:=hw R[i] 0 (by omega);rw[Nat.add_zero] at e0;rw[e0,hw R[i] 1 (by omega)] at h5;by_cases hm:R[i] ∈ L
     · rw[if_pos hm,if_pos hm] at h5;obtain ⟨hj,he⟩:=iR hm;have:=hs _ hj;rw[he] at this;have e:L.idxOf R[i]=i:=by omega
       rw[e] at this;exact this
     · rw[if_neg hm,if_neg hm] at h5;exact h5
   · have hle:L.length≤R.length:=by rw[h1];have:=eI hd (M:=List.range n) (fun x hx=>List.mem_range.2 (hL x hx));rwa [List.length_range] at this
     refine List.ext_getElem (by rw[List.length_take];omega) (fun j a1 a2=>?_);rw[List.getElem_take];have hR:L[j] ∈ R:=kQ h2 h1 h3 (hL _ (List.getElem_mem a2));obtain ⟨hi,he⟩:=iR hR;have h5:=(h4 _ hi).2;rw[he] at h5;have e0:=hw L[j] 0 (by omega);rw[Nat.add_zero] at e0;rw[e0,hw L[j] 1 (by omega),if_pos (List.getElem_mem a2),if_pos (List.getElem_mem a2),AY hd a2] at h5;have e:R.idxOf L[j]=j:=by omega
     rw[← he];congr 1;exact e.symm
 · rintro ⟨⟨h1,h2,h3,h4⟩,h5⟩;refine ⟨h1,h2,h3,fun i hi=>⟨(h4 i hi).1,?_⟩⟩;have e0:=hw R[i] 0 (by omega);rw[Nat.add_zero] at e0;rw[e0,hw R[i] 1 (by omega)];by_cases hm:R[i] ∈ L
   · rw[if_pos hm,if_pos hm];obtain ⟨hj,he⟩:=iR hm;have hjR:L.idxOf R[i]<R.length:=by
      have:=congrArg List.length h5;rw[List.length_take] at this;omega
     have e1:R[L.idxOf R[i]]=L[L.idxOf R[i]]:=by
      have:(R.take L.length)[L.idxOf R[i]]'(by rw[h5];exact hj)=L[L.idxOf R[i]]:=by simp only[h5]
      rw[List.getElem_take] at this;exact this
     have e2:L.idxOf R[i]=i:=by
      have e3:R[L.idxOf R[i]]=R[i]:=by rw[e1,he]
      rw[← AY h2 hjR,e3,AY h2 hi]
     omega
   · rw[if_neg hm,if_neg hm];exact (h4 i hi).2
variable (n g W)
noncomputable def DZ (W:Nat→Int):Bool:=(lj (qB (jm n g W)) n n).isNone
noncomputable def rp (L:List Nat) (c:Nat):Bool:=!(mask L).testBit c && okW W (bI g) L.length (mask L) c && DZ n g (np W (L++[c]))
noncomputable def iU:Nat→List Nat
 | 0=>[]
 | k+1=>iU k++[if dx (rp n g W (iU k)) n=true then fN (rp n g W (iU k)) n 0 else 0]
variable {n g W}
theorem wS (hS:gE n W g) (hW:∀ c,c<n→0≤W (2*c)∧W (2*c+1)<n) {L:List Nat} (hd:L.Nodup) (hL:∀ x ∈ L,x<n) (hs:Nc W L):DZ n g (np W L)=true↔∃ R ∈ ro n (okW W (bI g)) n,R.take L.length=L:=by
 have hle:L.length≤n:=by have:=eI hd (M:=List.range n) (fun x hx=>List.mem_range.2 (hL x hx));rwa [List.length_range] at this
 unfold DZ;rw[Option.isNone_iff_eq_none,Lf (JL hS (by have:=hS.len;omega) hL) (NT hW hle)];constructor
 · rintro ⟨R,hR⟩;exact ⟨R,(JK hS.len hS.bef hd hL hs R).1 hR⟩
 · rintro ⟨R,hR⟩;exact ⟨R,(JK hS.len hS.bef hd hL hs R).2 hR⟩
theorem G0 {L:List Nat} {c:Nat} (h:Nc W L) (hc:W (2*c)≤(L.length:Int)∧(L.length:Int)≤W (2*c+1)):Nc W (L++[c]):=fun i hi=>by
 by_cases e:i<L.length
 · rw[List.getElem_append_left e];exact h i e
 · have:i=L.length:=by rw[List.length_append,List.length_singleton] at hi;omega
   subst this;rw[List.getElem_append_right (Nat.le_refl _)];simp only[Nat.sub_self,List.getElem_cons_zero];exact hc
structure Nb (n:Nat) (g:Nat→Nat) (W:Nat→Int) (k:Nat) (L:List Nat):Prop where
 len:L.length=k
 nd:L.Nodup
 lt:∀ x ∈ L,x<n
 su:Nc W L
 ex:∃ R ∈ ro n (okW W (bI g)) n,R.take k=L
theorem JX {n k:Nat} {g:Nat→Nat} {W:Nat→Int} {X c:Nat} (h:okW W (bI g) k X c=true):W (2*c)≤(k:Int)∧(k:Int)≤W (2*c+1):=by
 unfold okW at h;rw[Bool.and_eq_true,Bool.and_eq_true,bn,bn,decide_eq_true_iff,decide_eq_true_iff] at h;exact h.2
theorem NV (hS:gE n W g) (hW:∀ c,c<n→0≤W (2*c)∧W (2*c+1)<n) {k:Nat} {L:List Nat} (hB:Nb n g W k L) {R:List Nat} (hR:R ∈ ro n (okW W (bI g)) n) (ht:R.take k=L) (hk:k<R.length):rp n g W L R[k]=true:=by
 obtain ⟨h1,h2,h3⟩:=oj hR;have h4:=(tC.1 hR).2 k hk;rw[ht] at h4;have hnm:R[k] ∉ L:=fun h=>by
  have:=h4.2.1;rw[cC hB.nd,decide_eq_true h] at this;cases this
 have ho:okW W (bI g) L.length (mask L) R[k]=true:=by rw[hB.len];exact h4.2.2
 unfold rp;rw[h4.2.1,ho,Bool.not_false,Bool.true_and,Bool.true_and];have hs:=JX (n:=n) ho;refine (wS hS hW ?_ ?_ (G0 hB.su hs)).2 ⟨R,hR,?_⟩
 · rw[List.nodup_append];exact ⟨hB.nd,by simp,fun x hx y hy he=>by rw[List.mem_singleton] at hy;rw[hy] at he;rw[he] at hx;exact hnm hx⟩
 · intro x hx;rcases List.mem_append.1 hx with hx | hx
   · exact hB.lt x hx
   · rw[List.mem_singleton] at hx;subst hx;exact h4.1
 · rw[List.length_append,List.length_singleton,hB.len,List.take_add_one,ht];simp[hk]
theorem Ce (hS:gE n W g) (hW:∀ c,c<n→0≤W (2*c)∧W (2*c+1)<n) {k:Nat} (hB:Nb n g W k (iU n g W k)) (hk:k<n):dx (rp n g W (iU n g W k)) n=true∧fN (rp n g W (iU n g W k)) n 0<n∧rp n g W (iU n g W k) (fN (rp n g W (iU n g W k)) n 0)=true∧Nb n g W (k+1) (iU n g W (k+1)):=by
 obtain ⟨R,hR,ht⟩:=hB.ex;obtain ⟨h1,h2,h3⟩:=oj hR;have hx:dx (rp n g W (iU n g W k)) n=true:=(cP _ _).2 ⟨R[k]'(by omega),(h3 _ (List.getElem_mem _)),NV hS hW hB hR ht (by omega)⟩;have hf:=oQ hx;have hgo:=(rn (rp n g W (iU n g W k)) n 0).2.2.2 (by omega);refine ⟨hx,hf,hgo,?_⟩;have e:iU n g W (k+1)=iU n g W k++[fN (rp n g W (iU n g W k)) n 0]:=by
  show iU n g W k++[if dx (rp n g W (iU n g W k)) n=true then fN (rp n g W (iU n g W k)) n 0 else 0]=_;rw[if_pos hx]
 rw[e];generalize fN (rp n g W (iU n g W k)) n 0=c at *;generalize iU n g W k=L at *;unfold rp at hgo;rw[Bool.and_eq_true,Bool.and_eq_true,Bool.not_eq_true'] at hgo;obtain ⟨⟨g1,g2⟩,g3⟩:=hgo;have hnm:c ∉ L:=fun h=>by rw[cC hB.nd,decide_eq_true h] at g1;cases g1
 have hd:(L++[c]).Nodup:=by
  rw[List.nodup_append];exact ⟨hB.nd,by simp,fun x hx y hy he=>by rw[List.mem_singleton] at hy;rw[hy] at he;rw[he] at hx;exact hnm hx⟩
 have hlt:∀ x ∈ L++[c],x<n:=by
  intro x hx;rcases List.mem_append.1 hx with hx | hx
  · exact hB.lt x hx
  · rw[List.mem_singleton] at hx;subst hx;exact hf
 have hs:=G0 hB.su (JX (n:=n) g2);refine ⟨by rw[List.length_append,hB.len];rfl,hd,hlt,hs,?_⟩;have:=(wS hS hW hd hlt hs).1 g3;rwa [List.length_append,hB.len] at this
theorem wm (hS:gE n W g) (hW:∀ c,c<n→0≤W (2*c)∧W (2*c+1)<n) (h:DZ n g W=true):∀ k,k≤n→Nb n g W k (iU n g W k)
 | 0,_=>by
   have:=(wS hS hW (L:=[]) List.nodup_nil (by simp) (fun i hi=>by cases hi)).1 (by rw[FE];exact h);exact ⟨rfl,List.nodup_nil,by simp[iU],(fun i hi=>by cases hi),this⟩
 | k+1,hk=>(Ce hS hW (wm hS hW h k (by omega)) (by omega)).2.2.2
end
end Go.Eng
end
section
namespace Go.Eng
open Go.Proofs Go.Eng.Gall
noncomputable def DE (d:Nat):AV:=.fn (.func 93) [] [.ptr (d+2) 4 0 0,.ptr (d+2) 0 0 0,.ptr d 0 0 0,.ptr (d+2) 1 0 0]
noncomputable def AO (lc:Nat) (j:Int):aD:=[(1,DE 1),(7,.int .i64 (Int.ofNat lc)),(8,.int .i64 j)]
noncomputable def MP (s:Nat) (R:Row):AV:=.fn (.func 90) [] [.ptrT (some s) (.G [.ptrT none R 0]) 0]
noncomputable def lH (lc:Nat) (j:Int):aD:=[(0,.yld 1 5),(9,.int .i64 (Int.ofNat lc)),(10,.int .i64 j)]
noncomputable def DI (R:Row):aD:=[(1,.ptr 0 0 0 0),(3,.ptr 0 1 0 0),(6,.ptr 0 3 0 0),(7,.ptr 0 4 0 0),(19,MP 0 R)]
noncomputable def ES (R X:Row) (a b:AV) (A:AV) (l:Int):List (Nat×an):=[(0,.row (.G [.ptrT none R 0])),(0,.row X),(0,.row (.G [a,b,.undef])),(0,.row (.G [A])),(0,.row (.I .u64 [l]))]
noncomputable def LX (R X:Row) (a b:AV) (l:Int) (k:Nat×an):bF:=⟨false,ES R X a b .nils l++[k]⟩
noncomputable def Hi (R X:Row) (a b:AV) (l:Int) (k:Nat×an) (v m:Nat) (y:Nat→Int):bF:=⟨false,ES R X a b (.slc 0 6 v 0 1 m none) l++[k,(v,.row (.M [.arr .i64 y m]))]⟩
noncomputable def xx (k:Int):bF:=⟨false,[(0,.row (.I .i64 [k]))]⟩
noncomputable def Hj (R X:Row) (b2 b3:Nat×an) (l:Int) (rest:List (Nat×an)):bF:=⟨false,(0,.row (.G [.ptrT none R 0]))::(0,.row X)::b2::b3::(0,.row (.I .u64 [l]))::rest⟩
theorem t92 (n:Nat) (lc:Nat) (H:aa) (j:Int) (q:Bool):aJ (bP n 92 16) (il (se aH 93 [.int .i64 j,.ptr 3 4 0 0,.ptr 3 0 0 0,.ptr 1 0 0 0,.ptr 3 1 0 0] (ar::H) (.ok (.bool q,ar::H))) n 0) aS aR (part Tryd.f92 [1,0,1,0,0]) (hints (AO lc j)) (ar::H) =
 Tr.ite (bH j (Int.ofNat lc)) (Tr.reqP ([AV.int .i64 j,AV.ptr 3 4 0 0,AV.ptr 3 0 0 0,AV.ptr 1 0 0 0,AV.ptr 3 1 0 0]=[AV.int .i64 j,AV.ptr 3 4 0 0,AV.ptr 3 0 0 0,AV.ptr 1 0 0 0,AV.ptr 3 1 0 0]∧ar::H=ar::H) (Tr.ite q (Tr.ok (Ex.ret,[(4,AV.int .i64 j,none)],ar::H)) (Tr.ok (Ex.normal,[(1,AV.fn (Fn.func 93) [] [AV.ptr 3 4 0 0,AV.ptr 3 0 0 0,AV.ptr 1 0 0 0,AV.ptr 3 1 0 0],none),(7,iI lc,none),(8,AV.int .i64 (a6 .i64 j (Int.ofNat 1)),none)],ar::H)))) (Tr.ok (Ex.exit 0,[(1,AV.fn (Fn.func 93) [] [AV.ptr 3 4 0 0,AV.ptr 3 0 0 0,AV.ptr 1 0 0 0,AV.ptr 3 1 0 0],none),(7,iI lc,none),(8,AV.int .i64 j,none),(9,AV.bool false,some 1)],ar::H)):=by kernel_rfl
theorem Sp (n:Nat) (lc:Nat) (H:aa) (j:Int):aJ (bP n 92 16) (il aH n 0) aS aR (part Tryd.f92 [1,0,1,0,0]) (hints (AO lc j)) (ar::H) =
 Tr.ite (bH j (Int.ofNat lc)) Tr.bad (Tr.ok (Ex.exit 0,[(1,AV.fn (Fn.func 93) [] [AV.ptr 3 4 0 0,AV.ptr 3 0 0 0,AV.ptr 1 0 0 0,AV.ptr 3 1 0 0],none),(7,iI lc,none),(8,AV.int .i64 j,none),(9,AV.bool false,some 1)],ar::H)):=by kernel_rfl
theorem Xd (n:Nat) (lc:Nat) (zc:Nat→Int) (H:aa) (q:Bool) (k:Int):bk Tryd.prog (cd n) 100000 92 Tryd.f92 (KtG.kt 92) (il aH n 0) (cM aS 0 (AO lc (Int.ofNat 0)) (ar::H) (.ite q (.ok (.ret,[(4,.int .i64 k,none)],ar::H)) (.ok (.normal,hints (AO lc (Int.ofNat lc)++[(9,.bool false)]),ar::H)))) aR [(slA 4 lc zc,none),(DE 0,none)] H =
 (fun (Z0:aD)=>Tr.reqP (Z0=Z0∧ar::H=ar::H) (Tr.ite q (Tr.ok ((AV.int .i64 k,none),H)) (Tr.ok ((iI 0,some 1),H)))) [(1,AV.fn (Fn.func 93) [] [AV.ptr 3 4 0 0,AV.ptr 3 0 0 0,AV.ptr 1 0 0 0,AV.ptr 3 1 0 0]),(7,iI lc),(8,iI 0)]:=by kernel_rfl
theorem Sl (n:Nat) (lc:Nat) (j:Int) (G G':aa):aJ (bP n 90 18) (OK (il aH n 0) 1 5 [.int .i64 j] (ar::G) (.ok (.bool true,ar::G'))) aS aR (part Tryd.f90 [1,0,0]) (hints (lH lc j)) (ar::G) =
 Tr.ite (bH j (Int.ofNat lc)) (Tr.reqP ([AV.int .i64 j]=[AV.int .i64 j]∧ar::G=ar::G) (Tr.ite (aE true) (Tr.ok (Ex.ret,[(0,AV.yld 1 5,none),(9,iI lc,none),(10,AV.int .i64 j,none),(16,AV.bool true,some 1)],ar::G')) (Tr.ok (Ex.normal,[(0,AV.yld 1 5,none),(9,iI lc,none),(10,AV.int .i64 (a6 .i64 j (Int.ofNat 1)),none)],ar::G')))) (Tr.ok (Ex.exit 0,[(0,AV.yld 1 5,none),(9,iI lc,none),(10,AV.int .i64 j,none),(11,AV.bool false,some 1)],ar::G)):=by kernel_rfl
theorem Sm (n:Nat) (lc:Nat) (j:Int) (G:aa):aJ (bP n 90 18) (il aH n 0) aS aR (part Tryd.f90 [1,0,0]) (hints (lH lc j)) (ar::G) =
 Tr.ite (bH j (Int.ofNat lc)) Tr.bad (Tr.ok (Ex.exit 0,[(0,AV.yld 1 5,none),(9,iI lc,none),(10,AV.int .i64 j,none),(11,AV.bool false,some 1)],ar::G)):=by kernel_rfl
theorem SL (n:Nat) (dr:Int) (lc:Nat) (zc:Nat→Int) (lb:Nat) (zb:Nat→Int) (W B:Nat→Int) (G G':aa):bk Tryd.prog (cd n) 100000 90 Tryd.f90 (KtG.kt 90) (il aH n 0) (cM aS 0 (lH lc (Int.ofNat 0)) (ar::G) (.ok (.normal,hints (lH lc (Int.ofNat lc)++[(11,.bool false)]),ar::G'))) aR [(.yld 0 5,none),(.ptrT (some 0) (.G [shV dr lc zc lb zb W B]) 0,none)] G =
 Tr.reqP ([(0,AV.yld 1 5),(9,iI lc),(10,iI 0)]=[(0,AV.yld 1 5),(9,iI lc),(10,iI 0)]∧ar::G=ar::G) (Tr.ok ((AV.tup [],none),G')):=by kernel_rfl
theorem O9 (n:Nat) (R:Row) (L:bF) (H:aa) (k:Int):aJ (iJ n 74 43 2 5) (il aH n 0) aS aR (part Tryd.f74 [1,1,1,1,1,0,1,0,0]) (hints [(1,.ptr 2 0 0 0),(3,.ptr 2 1 0 0),(6,.ptr 2 3 0 0),(7,.ptr 2 4 0 0),(19,MP 2 R),(20,.int .i64 k)]) (ar::ar::L::H) =
 Tr.ok (Ex.normal,[(1,AV.ptr 2 0 0 0,none),(3,AV.ptr 2 1 0 0,none),(6,AV.ptr 2 3 0 0,none),(7,AV.ptr 2 4 0 0,none),(8,AV.ptr 0 0 0 0,none)],(bC [(0,an.row (Row.I .i64 [k]))])::ar::L::H):=by kernel_rfl
theorem Xe (n:Nat) (dr:Int) (lc:Nat) (zc:Nat→Int) (lb:Nat) (zb:Nat→Int) (W X B:Nat→Int) (H:aa) (b2 b3:Nat×an) (l k c:Int) (rest:List (Nat×an)) (s q:Bool) (f t:Int):bk Tryd.prog (cd n) 100000 93 Tryd.f93 (KtG.kt 93) (il (se (tX aH 71 [shV dr lc zc lb zb W B,.int .i64 c,.int .i64 k] (.bool s)) 65 [.ptr 0 0 0 0] (⟨false,[(0,.row (shR dr lc zc lb zb (eg (eg X (cY (av 3 c 2) 3) k) (cY (aq (av 3 c 2) 1) 3) k) B))]⟩::ar::xx k::ar::Hj (shR dr lc zc lb zb W B) (shR dr lc zc lb zb X B) b2 b3 l rest::H) (.ok (.tup [.agg (.G [.int .i64 f,.int .i64 t,.undef]),.bool q],⟨false,[(0,.row (shR dr lc zc lb zb (eg (eg X (cY (av 3 c 2) 3) k) (cY (aq (av 3 c 2) 1) 3) k) B))]⟩::ar::xx k::ar::Hj (shR dr lc zc lb zb W B) (shR dr lc zc lb zb X B) b2 b3 l rest::H))) n 0) aS aR [(.int .i64 c,none),(.ptr 3 4 0 0,none),(.ptr 3 0 0 0,none),(.ptr 1 0 0 0,none),(.ptr 3 1 0 0,none)] (ar::xx k::ar::Hj (shR dr lc zc lb zb W B) (shR dr lc zc lb zb X B) b2 b3 l rest::H) =
 (fun (Z0:bF)=>((fun (Z1:bF)=>((fun (Z2:bF)=>Tr.req (dJ (Int.ofNat 0) c) (Tr.ite (aE (bw (m5 IntKind.u64 l (ef IntKind.u64 (Int.ofNat 1) c)) (Int.ofNat 0))) (Tr.ok ((AV.bool false,some 1),ar::Z1::ar::Z0::H)) (Tr.req (bR c 10) (Tr.req (dT (av 23 c 1) 1 23 10) (Tr.ite (aE (bw (Ah IntKind.u64 (B (cY (av 23 c 1) 23)) l) (Int.ofNat 0))) (Tr.ok ((AV.bool false,some 1),ar::Z1::ar::Z0::H)) (Tr.reqP ([shV dr lc zc lb zb W B,AV.int .i64 c,AV.int .i64 k]=[shV dr lc zc lb zb W B,AV.int .i64 c,AV.int .i64 k]) (Tr.ite (aE s) (Tr.ok ((AV.bool false,some 1),ar::Z1::ar::Z0::H)) (Tr.req (bR c 10) (Tr.req (cj 0 0) (Tr.req (dT (av 3 c 2) 1 3 20) (Tr.req (dT (aq (av 3 c 2) 1) 1 3 20) (Tr.reqP ([AV.ptr 0 0 0 0]=[AV.ptr 0 0 0 0]∧Z2::ar::Z1::ar::Z0::H=Z2::ar::Z1::ar::Z0::H) (Tr.ok ((AV.bool (aE q),none),ar::Z1::ar::Z0::H)))))))))))))) (bC [(0,an.row (shR dr lc zc lb zb (eg (eg X (cY (av 3 c 2) 3) k) (cY (aq (av 3 c 2) 1) 3) k) B))]))) (bC [(0,an.row (Row.I .i64 [k]))]))) (bC ((0,an.row (Row.G [shV dr lc zc lb zb W B]))::(0,an.row (shR dr lc zc lb zb X B))::b2::b3::(0,an.row (Row.I IntKind.u64 [l]))::rest)):=by kernel_rfl
theorem SM (n:Nat) (dr:Int) (lc:Nat) (zc:Nat→Int) (lb:Nat) (zb:Nat→Int) (W X B:Nat→Int) (H:aa) (b2 b3:Nat×an) (l k c:Int) (rest:List (Nat×an)) (s:Bool):bk Tryd.prog (cd n) 100000 93 Tryd.f93 (KtG.kt 93) (il (tN (tX aH 71 [shV dr lc zc lb zb W B,.int .i64 c,.int .i64 k] (.bool s)) 65) n 0) aS aR [(.int .i64 c,none),(.ptr 3 4 0 0,none),(.ptr 3 0 0 0,none),(.ptr 1 0 0 0,none),(.ptr 3 1 0 0,none)] (ar::xx k::ar::Hj (shR dr lc zc lb zb W B) (shR dr lc zc lb zb X B) b2 b3 l rest::H) =
 (fun (Z0:bF)=>Tr.req (dJ (Int.ofNat 0) c) (Tr.ite (aE (bw (m5 IntKind.u64 l (ef IntKind.u64 (Int.ofNat 1) c)) (Int.ofNat 0))) (Tr.ok ((AV.bool false,some 1),ar::(bC [(0,an.row (Row.I .i64 [k]))])::ar::Z0::H)) (Tr.req (bR c 10) (Tr.req (dT (av 23 c 1) 1 23 10) (Tr.ite (aE (bw (Ah IntKind.u64 (B (cY (av 23 c 1) 23)) l) (Int.ofNat 0))) (Tr.ok ((AV.bool false,some 1),ar::(bC [(0,an.row (Row.I .i64 [k]))])::ar::Z0::H)) (Tr.reqP ([shV dr lc zc lb zb W B,AV.int .i64 c,AV.int .i64 k]=[shV dr lc zc lb zb W B,AV.int .i64 c,AV.int .i64 k]) (Tr.ite (aE s) (Tr.ok ((AV.bool false,some 1),ar::(bC [(0,an.row (Row.I .i64 [k]))])::ar::Z0::H)) (Tr.req (bR c 10) (Tr.req (cj 0 0) (Tr.req (dT (av 3 c 2) 1 3 20) (Tr.req (dT (aq (av 3 c 2) 1) 1 3 20) Tr.bad))))))))))) (bC ((0,an.row (Row.G [shV dr lc zc lb zb W B]))::(0,an.row (shR dr lc zc lb zb X B))::b2::b3::(0,an.row (Row.I IntKind.u64 [l]))::rest)):=by kernel_rfl
theorem Si (n:Nat) (dr:Int) (lc:Nat) (zc:Nat→Int) (lb:Nat) (zb:Nat→Int) (W X B:Nat→Int) (H:aa) (a b:AV) (l k c:Int) (K:Nat×an):aJ (iJ n 74 43 2 5) (il (se aH 92 [slA 4 lc zc,DE 0] (xx k::ar::LX (shR dr lc zc lb zb W B) (shR dr lc zc lb zb X B) a b l K::H) (.ok (.int .i64 c,xx k::ar::LX (shR dr lc zc lb zb W B) (shR dr lc zc lb zb X B) a b l K::H))) n 0) aS aR (part Tryd.f74 [1,1,1,1,1,0,1,0,1]) (hints [(1,.ptr 2 0 0 0),(3,.ptr 2 1 0 0),(6,.ptr 2 3 0 0),(7,.ptr 2 4 0 0),(8,.ptr 0 0 0 0)]) (xx k::ar::LX (shR dr lc zc lb zb W B) (shR dr lc zc lb zb X B) a b l K::H) =
 (fun (Z0:bF)=>((fun (Z1:List AV)=>Tr.reqP (Z1=Z1∧(bC [(0,an.row (Row.I .i64 [k]))])::ar::Z0::H=(bC [(0,an.row (Row.I .i64 [k]))])::ar::Z0::H) (Tr.req (bR c 10) (Tr.req (cj 0 0) (Tr.req (dT (av 3 c 2) 1 3 20) (Tr.req (dT (aq (av 3 c 2) 1) 1 3 20) (Tr.req (dJ (Int.ofNat 0) c) (Tr.req (bJ (dD 0 0) (dD 0 1)) (Tr.req (fU 0 1 8) (Tr.req (cj 0 0) (Tr.req (dD 1 1) (Tr.ok (Ex.normal,[],(bC [(0,an.row (Row.I .i64 [k])),(0,an.row (Row.I .i64 [c])),(0,an.dead)])::ar::(bC [(0,an.row (Row.G [shV dr lc zc lb zb W B])),(0,an.row (shR dr lc zc lb zb (eg (eg X (cY (av 3 c 2) 3) k) (cY (aq (av 3 c 2) 1) 3) k) B)),(0,an.row (Row.G [a,b,AV.undef])),(0,an.row (Row.G [AV.slc 0 6 0 0 1 1 none])),(0,an.row (Row.I IntKind.u64 [rH IntKind.u64 l (ef IntKind.u64 (Int.ofNat 1) c)])),K,(0,an.row (rM (az [c]) 1))])::H)))))))))))) [slA 4 lc zc,AV.fn (Fn.func 93) [] [AV.ptr 2 4 0 0,AV.ptr 2 0 0 0,AV.ptr 0 0 0 0,AV.ptr 2 1 0 0]])) (bC [(0,an.row (Row.G [shV dr lc zc lb zb W B])),(0,an.row (shR dr lc zc lb zb X B)),(0,an.row (Row.G [a,b,AV.undef])),(0,an.row (Row.G [AV.nils])),(0,an.row (Row.I IntKind.u64 [l])),K]):=by kernel_rfl
theorem Sj (n:Nat) (dr:Int) (lc:Nat) (zc:Nat→Int) (lb:Nat) (zb:Nat→Int) (W X B:Nat→Int) (H:aa) (a b:AV) (l k c:Int) (K:Nat×an) (v m:Nat) (y:Nat→Int):aJ (iJ n 74 43 2 5) (il (se aH 92 [slA 4 lc zc,DE 0] (xx k::ar::Hi (shR dr lc zc lb zb W B) (shR dr lc zc lb zb X B) a b l K v m y::H) (.ok (.int .i64 c,xx k::ar::Hi (shR dr lc zc lb zb W B) (shR dr lc zc lb zb X B) a b l K v m y::H))) n 0) aS aR (part Tryd.f74 [1,1,1,1,1,0,1,0,1]) (hints [(1,.ptr 2 0 0 0),(3,.ptr 2 1 0 0),(6,.ptr 2 3 0 0),(7,.ptr 2 4 0 0),(8,.ptr 0 0 0 0)]) (xx k::ar::Hi (shR dr lc zc lb zb W B) (shR dr lc zc lb zb X B) a b l K v m y::H) =
 (fun (Z0:bF)=>((fun (Z1:List AV)=>Tr.reqP (Z1=Z1∧(bC [(0,an.row (Row.I .i64 [k]))])::ar::Z0::H=(bC [(0,an.row (Row.I .i64 [k]))])::ar::Z0::H) (Tr.req (bR c 10) (Tr.req (cj 0 0) (Tr.req (dT (av 3 c 2) 1 3 20) (Tr.req (dT (aq (av 3 c 2) 1) 1 3 20) (Tr.req (dJ (Int.ofNat 0) c) (Tr.req (bJ (dD 0 0) (dD 0 1)) (Tr.req (fU m 1 8) (Tr.req (cj 0 0) (Tr.req (dD 1 1) (Tr.req (cj v v) (Tr.req (cj (aq 0 m) m) (Tr.ok (Ex.normal,[],(bC [(0,an.row (Row.I .i64 [k])),(0,an.row (Row.I .i64 [c]))])::ar::(bC [(0,an.row (Row.G [shV dr lc zc lb zb W B])),(0,an.row (shR dr lc zc lb zb (eg (eg X (cY (av 3 c 2) 3) k) (cY (aq (av 3 c 2) 1) 3) k) B)),(0,an.row (Row.G [a,b,AV.undef])),(0,an.row (Row.G [AV.slc 0 6 (Nat.succ v) 0 1 (aq m 1) none])),(0,an.row (Row.I IntKind.u64 [rH IntKind.u64 l (ef IntKind.u64 (Int.ofNat 1) c)])),K,(Nat.succ v,an.row (rM (oD (dZ y 0) m (az [c])) (aq m 1)))])::H)))))))))))))) [slA 4 lc zc,AV.fn (Fn.func 93) [] [AV.ptr 2 4 0 0,AV.ptr 2 0 0 0,AV.ptr 0 0 0 0,AV.ptr 2 1 0 0]])) (bC [(0,an.row (Row.G [shV dr lc zc lb zb W B])),(0,an.row (shR dr lc zc lb zb X B)),(0,an.row (Row.G [a,b,AV.undef])),(0,an.row (Row.G [AV.slc 0 6 v 0 1 m none])),(0,an.row (Row.I IntKind.u64 [l])),K,(v,an.row (rM y m))]):=by kernel_rfl
theorem W3 (n:Nat) (dr:Int) (lc:Nat) (zc:Nat→Int) (lb:Nat) (zb:Nat→Int) (W X B:Nat→Int) (H:aa) (f t l:Int) (v m:Nat) (y:Nat→Int):bk Tryd.prog (cd n) 100000 74 Tryd.f74 (KtG.kt 74) (il (se (tX aH 70 [shV dr lc zc lb zb W B] (MP 0 (shR dr lc zc lb zb W B))) 65 [.ptr 0 1 0 0] (⟨false,[(0,.row (.G [shV dr lc zc lb zb W B])),(0,.row (shR dr lc zc lb zb W B))]⟩::H) (.ok (.tup [.agg (.G [.int .i64 f,.int .i64 t,.undef]),.bool false],⟨false,[(0,.row (.G [shV dr lc zc lb zb W B])),(0,.row (shR dr lc zc lb zb W B))]⟩::H))) n 0) aS (Hn aR (fun _=>true) (DI (shR dr lc zc lb zb W B)) (⟨false,ES (shR dr lc zc lb zb W B) (shR dr lc zc lb zb W B) (.int .i64 f) (.int .i64 t) .nils (Int.ofNat 0)⟩::H) (.ok (.normal,hints (DI (shR dr lc zc lb zb W B)),Hi (shR dr lc zc lb zb W B) (shR dr lc zc lb zb X B) (.int .i64 f) (.int .i64 t) l (0,.dead) v m y::H))) [(shV dr lc zc lb zb W B,none)] H =
 (fun (Z0:bF)=>((fun (Z1:aD)=>((fun (Z2:bF)=>Tr.reqP ([AV.ptr 0 1 0 0]=[AV.ptr 0 1 0 0]∧Z2::H=Z2::H) (Tr.ite false (Tr.ok ((AV.nils,none),H)) (Tr.reqP ([shV dr lc zc lb zb W B]=[shV dr lc zc lb zb W B]) (Tr.reqP (Z1=Z1∧Z0::H=Z0::H) (Tr.req (cj v v) (Tr.req (dT 0 m 0 m) (Tr.ok ((aY m (dZ y 0) false,none),H)))))))) (bC [(0,an.row (Row.G [shV dr lc zc lb zb W B])),(0,an.row (shR dr lc zc lb zb W B))]))) [(1,AV.ptr 0 0 0 0),(3,AV.ptr 0 1 0 0),(6,AV.ptr 0 3 0 0),(7,AV.ptr 0 4 0 0),(19,AV.fn (Fn.func 90) [] [AV.ptrT (some 0) (Row.G [shV dr lc zc lb zb W B]) 0])])) (bC [(0,an.row (Row.G [shV dr lc zc lb zb W B])),(0,an.row (shR dr lc zc lb zb W B)),(0,an.row (Row.G [AV.int .i64 f,AV.int .i64 t,AV.undef])),(0,an.row (Row.G [AV.nils])),(0,an.row (Row.I IntKind.u64 [Int.ofNat 0]))]):=by kernel_rfl
theorem SJ (n:Nat) (dr:Int) (lc:Nat) (zc:Nat→Int) (lb:Nat) (zb:Nat→Int) (W B:Nat→Int) (H:aa) (f t:Int):bk Tryd.prog (cd n) 100000 74 Tryd.f74 (KtG.kt 74) (il (se (tX aH 70 [shV dr lc zc lb zb W B] (MP 0 (shR dr lc zc lb zb W B))) 65 [.ptr 0 1 0 0] (⟨false,[(0,.row (.G [shV dr lc zc lb zb W B])),(0,.row (shR dr lc zc lb zb W B))]⟩::H) (.ok (.tup [.agg (.G [.int .i64 f,.int .i64 t,.undef]),.bool true],⟨false,[(0,.row (.G [shV dr lc zc lb zb W B])),(0,.row (shR dr lc zc lb zb W B))]⟩::H))) n 0) aS aR [(shV dr lc zc lb zb W B,none)] H =
 (fun (Z0:bF)=>Tr.reqP ([AV.ptr 0 1 0 0]=[AV.ptr 0 1 0 0]∧Z0::H=Z0::H) (Tr.ite true (Tr.ok ((AV.nils,none),H)) (Tr.reqP ([shV dr lc zc lb zb W B]=[shV dr lc zc lb zb W B]) Tr.bad))) (bC [(0,an.row (Row.G [shV dr lc zc lb zb W B])),(0,an.row (shR dr lc zc lb zb W B))]):=by kernel_rfl
theorem TX (n:Nat) (dr:Int) (lc:Nat) (zc:Nat→Int) (lb:Nat) (zb:Nat→Int) (W B:Nat→Int) (H:aa):bk Tryd.prog (cd n) 100000 70 Tryd.f70 (KtG.kt 70) (il aH n 0) aS aR [(shV dr lc zc lb zb W B,none)] H =
 Tr.ok ((AV.fn (Fn.func 90) [] [AV.ptrT (some 0) (Row.G [shV dr lc zc lb zb W B]) 0],none),H):=by kernel_rfl
theorem WS (n:Nat) (dr:Int) (lc:Nat) (zc:Nat→Int) (lb:Nat) (zb:Nat→Int) (W B:Nat→Int) (H:aa) (m:Nat) (y:Nat→Int):bk Tryd.prog (cd n) 100000 38 Tryd.f38 (KtG.kt 38) (il (tX (tX aH 49 [bG dr lc zc lb zb,.nils] (.tup [shV dr lc zc lb zb W B,.int .i64 (Int.ofNat 0)])) 74 [shV dr lc zc lb zb W B] (aY m y false)) n 0) aS aR [(bG dr lc zc lb zb,none)] H =
 Tr.reqP ([bG dr lc zc lb zb,AV.nils]=[bG dr lc zc lb zb,AV.nils]) (Tr.ite (aE (bw (Int.ofNat 0) (Int.ofNat 0))) (Tr.ok ((AV.tup [AV.nils,iI 0],none),H)) (Tr.reqP ([shV dr lc zc lb zb W B]=[shV dr lc zc lb zb W B]) (Tr.req (cH 0 m) (Tr.ite false (Tr.ok ((AV.tup [AV.nils,iI 13],none),H)) (Tr.req (CC (Int.ofNat m) (Int.ofNat m) 8) (Tr.req (dD (wN m (bX (Int.ofNat m))) m) (Tr.req (dD (aq 0 (wN m (bX (Int.ofNat m)))) m) (Tr.req (cj 0 0) (Tr.req (dT 0 (wN m (bX (Int.ofNat m))) 0 (bX (Int.ofNat m))) (Tr.req (cj 0 0) (Tr.req (dT 0 (bX (Int.ofNat m)) 0 (bX (Int.ofNat m))) (Tr.ok ((AV.tup [AV.slcT none (rM (dZ (m6 (fun x=>Int.ofNat 0) 0 y (wN m (bX (Int.ofNat m)))) 0) (bX (Int.ofNat m))) 1 (bX (Int.ofNat m)) (cj (bX (Int.ofNat m)) (bX (Int.ofNat m))),iI 0],none),H))))))))))))):=by kernel_rfl
theorem SB (n:Nat) (dr:Int) (lc:Nat) (zc:Nat→Int) (lb:Nat) (zb:Nat→Int) (W B:Nat→Int) (H:aa):bk Tryd.prog (cd n) 100000 38 Tryd.f38 (KtG.kt 38) (il (tX (tX aH 49 [bG dr lc zc lb zb,.nils] (.tup [shV dr lc zc lb zb W B,.int .i64 (Int.ofNat 0)])) 74 [shV dr lc zc lb zb W B] .nils) n 0) aS aR [(bG dr lc zc lb zb,none)] H =
 Tr.reqP ([bG dr lc zc lb zb,AV.nils]=[bG dr lc zc lb zb,AV.nils]) (Tr.ite (aE (bw (Int.ofNat 0) (Int.ofNat 0))) (Tr.ok ((AV.tup [AV.nils,iI 0],none),H)) (Tr.reqP ([shV dr lc zc lb zb W B]=[shV dr lc zc lb zb W B]) (Tr.ite true (Tr.ok ((AV.tup [AV.nils,iI 13],none),H)) (Tr.req (CC (Int.ofNat 0) (Int.ofNat 0) 8) Tr.bad)))):=by kernel_rfl
end Go.Eng
end
