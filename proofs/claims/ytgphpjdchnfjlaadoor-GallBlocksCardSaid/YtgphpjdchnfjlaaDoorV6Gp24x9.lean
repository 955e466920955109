/- Gall: what the reference's ways count (plain law). -/
import Derived.Test.YtgphpjdchnfjlaaDoorV6Gdjx8
import Derived.Test.YtgphpjdchnfjlaaDoorV6Gp12x15
import Derived.Test.YtgphpjdchnfjlaaDoorV6Gahx18
set_option linter.unusedVariables false
set_option linter.unusedSimpArgs false
set_option maxRecDepth 100000
section
namespace Go.Eng
open Go.Proofs Go.Eng.Gall Go.Eng.Q
section
variable {O:Int} {U:Nat} {Z:Nat→Int} {V:Nat} {J:Nat→Int}
theorem IJ (h0:c7 O U Z V J=0) {c:Nat} (hc:c<U):(cZ J c V).testBit c=false:=by
 obtain ⟨h1,h2,h3,h4,h5,h6⟩:=pH h0;cases h:(cZ J c V).testBit c
 · rfl
 · have:=CI (w:=fun _=>0) h6 hc hc h;omega
theorem wU (h0:c7 O U Z V J=0) {one two co pl:Int} {d:Nat→Nat} (hd:∀ b c,b<U→c<U→b≠c→((d c).testBit b=true↔(cZ J c V).testBit b=true∨((b:Int)=one∧(c:Int)=two))) (hs:∀ c,c<U→(d c).testBit c=false) (hl:∀ c,c<U→d c<2 ^ U) {k X c:Nat} (hc:c<U) (hX:X<2 ^ U):rE O U Z V J one two co pl k X c=true↔okW (cj O U Z) (bI d) k X c=true∧¬ ((c:Int)=co∧0≤pl∧¬ (k:Int)=pl):=by
 obtain ⟨h1,h2,h3,h4,h5,h6⟩:=pH h0;have hp:2 ^ U≤2 ^ 10:=Nat.pow_le_pow_right (by decide) h1.2;have hp2:(2:Nat) ^ 10<2 ^ 62:=by decide
 have hdc:=hl c hc;rw[wT wO wO];unfold rE Jj;rw[Int.toNat_natCast,Bool.and_eq_true,Bool.and_eq_true,Bool.and_eq_true,decide_eq_true_iff,decide_eq_true_iff,FT];have e1:(!(decide ((c:Int)=co) && (decide (0≤pl) && !decide ((k:Int)=pl))))=true↔¬ ((c:Int)=co∧0≤pl∧¬ (k:Int)=pl):=by
  rw[Bool.not_eq_true',← Bool.not_eq_true,Bool.and_eq_true,Bool.and_eq_true,decide_eq_true_iff,decide_eq_true_iff,Bool.not_eq_true',decide_eq_false_iff_not]
 have e2:(∀ b,b<U→Aw V J one two X c b=false)↔∀ a,(d c).testBit a=true→X.testBit a=true:=by
  constructor
  · intro h a ha;have hal:a<U:=by
     by_cases q:a<U
     · exact q
     · rw[Nat.testBit_lt_two_pow (Nat.lt_of_lt_of_le hdc (Nat.pow_le_pow_right (by decide) wO))] at ha;cases ha
    have hne:a≠c:=by rintro rfl;rw[hs a hc] at ha;cases ha
    cases hx:X.testBit a
    · exfalso;have:=h a hal;unfold Aw at this;rw[hx,decide_eq_false hne,Da h5] at this;simp only[Bool.not_false,Bool.true_and] at this;rw[Bool.or_eq_false_iff] at this;rcases (hd a c hal hc hne).1 ha with q | ⟨q1,q2⟩
      · rw[this.1] at q;cases q
      · have t2:=this.2;rw[decide_eq_true q1,decide_eq_true q2] at t2;cases t2
    · rfl
  · intro h b hb;unfold Aw;cases hx:X.testBit b
    · by_cases hne:b=c
      · rw[decide_eq_true hne];rfl
      · have hn:¬ (d c).testBit b=true:=fun q=>by rw[h b q] at hx;cases hx
        rw[hd b c hb hc hne] at hn;rw[decide_eq_false hne,Da h5];simp only[Bool.not_false,Bool.true_and];rw[Bool.or_eq_false_iff];refine ⟨by rw[← Bool.not_eq_true];exact fun q=>hn (.inl q),?_⟩;rw[← Bool.not_eq_true,Bool.and_eq_true,decide_eq_true_iff,decide_eq_true_iff];exact fun q=>hn (.inr q)
    · rfl
 rw[e1,e2];constructor
 · rintro ⟨⟨⟨a1,a2⟩,a3⟩,a4⟩;exact ⟨⟨a4,a1,a2⟩,a3⟩
 · rintro ⟨⟨a4,a1,a2⟩,a3⟩;exact ⟨⟨⟨a1,a2⟩,a3⟩,a4⟩
theorem Mt (h0:c7 O U Z V J=0) {one two co pl:Int} {d:Nat→Nat} (hd:∀ b c,b<U→c<U→b≠c→((d c).testBit b=true↔(cZ J c V).testBit b=true∨((b:Int)=one∧(c:Int)=two))) (hs:∀ c,c<U→(d c).testBit c=false) (hl:∀ c,c<U→d c<2 ^ U) (L:List Nat):L ∈ ro U (rE O U Z V J one two co pl) U↔L ∈ ro U (okW (cj O U Z) (bI d)) U∧∀ i (h:i<L.length),¬ ((L[i]:Int)=co∧0≤pl∧¬ (i:Int)=pl):=by
 have hm:∀ {ok:Nat→Nat→Nat→Bool},L ∈ ro U ok U→∀ i,mask (L.take i)<2 ^ U:=fun h i=>by
  obtain ⟨h1,h2,h3⟩:=qg h;exact wK (List.Nodup.sublist (List.take_sublist i L) h2) fun x hx=>h3 x (List.mem_of_mem_take hx)
 constructor
 · intro h;have hm:=hm h;obtain ⟨g1,g2⟩:=mg.1 h;refine ⟨mg.2 ⟨g1,fun i hi=>⟨(g2 i hi).1,(g2 i hi).2.1,((wU h0 hd hs hl (g2 i hi).1 (hm i)).1 (g2 i hi).2.2).1⟩⟩,fun i hi=>((wU h0 hd hs hl (g2 i hi).1 (hm i)).1 (g2 i hi).2.2).2⟩
 · rintro ⟨h,hr⟩;have hm:=hm h;obtain ⟨g1,g2⟩:=mg.1 h;exact mg.2 ⟨g1,fun i hi=>⟨(g2 i hi).1,(g2 i hi).2.1,(wU h0 hd hs hl (g2 i hi).1 (hm i)).2 ⟨(g2 i hi).2.2,hr i hi⟩⟩⟩
theorem Td {ok:Nat→Nat→Nat→Bool}:zW U ok 0 0=((ro U ok U).length:Int):=by
 unfold zW;rw[if_pos ⟨Nat.le_refl 0,Nat.two_pow_pos U⟩,Jw]
theorem Iw (h0:c7 O U Z V J=0):zW U (rE O U Z V J (Int.negSucc 0) (Int.negSucc 0) (Int.negSucc 0) (Int.negSucc 0)) 0 0=cntF U (cj O U Z) (mZ V J):=by
 obtain ⟨h1,h2,h3,h4,h5,h6⟩:=pH h0;rw[Td];unfold cntF;congr 1;refine LZ (tC _ _ _) (tC _ _ _) fun L=>?_;rw[Mt h0 (d:=fun c=>cZ J c V) (fun b c _ _ _=>⟨.inl,fun h=>h.elim id fun h=>by have:=h.1;omega⟩) (fun c hc=>IJ h0 hc) (fun c _=>v7 J c U V fun i hi=>(h5 i hi).1)];exact ⟨fun h=>h.1,fun h=>⟨h,fun i hi q=>by have:=q.2.1;omega⟩⟩
end
end Go.Eng
end
section
namespace Go.Eng
open Go.Proofs Go.Eng.Gall
end Go.Eng
end
section
namespace Go.Eng
open Go.Proofs Go.Eng.Gall
section
variable (n:Nat) (O:Int) (U:Nat) (Z:Nat→Int) (V:Nat) (J:Nat→Int) (H:ab)
end
end Go.Eng
end
section
namespace Go.Eng
open Go.Proofs Go.Eng.Gall
noncomputable def JT:Code:=part Tryd.f30 [1,1,1,1,0,1,0,0]
noncomputable def JU:Code:=part Tryd.f30 [1,1,1,1,0,1,0,1]
theorem WY:dX (bx Tryd.f30)=[(.tmp 25,#[26],JT,JU)]:=by kernel_rfl
section
variable (n:Nat) (O:Int) (U:Nat) (Z:Nat→Int) (V:Nat) (J:Nat→Int) (W:Nat→Int) (g:Nat→Nat) (H:ab) (r0:Row)
end
end Go.Eng
end
section
namespace Go.Eng
open Go.Proofs Go.Eng.Gall
section
variable (n:Nat) (O:Int) (U:Nat) (Z:Nat→Int) (V:Nat) (J:Nat→Int) (W:Nat→Int) (g:Nat→Nat) (H:ab) (r0:Row)
end
end Go.Eng
end
section
namespace Go.Eng
open Go.Proofs Go.Eng.Gall
section
variable (n:Nat) (O:Int) (U:Nat) (Z:Nat→Int) (V:Nat) (J:Nat→Int) (H:ab)
theorem OP {c:Nat} {fr:aA} {G:ab} {Y:dY} (hx:exec (bO c 30 60) (.rangeFunc (.tmp 25) #[26] JT JU) fr G=some Y.st):(OZ aR (fun _=>true) fr G (.ok Y)).Ok (bO c 30 60) (bx Tryd.f30) :=
 GM (ai _ _) (fun f ps a b _ hm x hx2=>by
  rw[WY] at hm;simp only[List.mem_cons,Prod.mk.injEq,List.not_mem_nil,or_false] at hm;obtain ⟨rfl,rfl,rfl,rfl⟩:=hm;rw[← Tr.af hx2];exact hx)
end
end Go.Eng
end
section
namespace Go.Eng
open Go.Proofs Go.Eng.Gall
section
variable (n:Nat) (O:Int) (U:Nat) (Z:Nat→Int) (V:Nat) (J:Nat→Int) (H:ab)
variable (r r2:Row) (a b:Int)
theorem UP (h0:c7 O U Z V J=0):cd (n+4) (.fn 66) [bk O U Z V J] H=some (.int .i64 (Q.cntF U (cj O U Z) (mZ V J)),H):=by
 obtain ⟨h1,h2,h3,h4,h5,h6⟩:=pH h0;rw[← Iw h0];refine bB (n:=n+3) Tryd.func66 rfl rfl rfl (Xp (n+3) O U Z V J H (2 ^ U) (zW U (rE O U Z V J (Int.negSucc 0) (Int.negSucc 0) (Int.negSucc 0) (Int.negSucc 0)) 0) (fun x=>x=[bk O U Z V J,.int .i64 (Int.negSucc 0),.int .i64 (Int.negSucc 0),.int .i64 (Int.negSucc 0),.int .i64 (Int.negSucc 0)])) (bC _ _ (Cr (bh _) (fun A H hA=>by
  subst hA;exact UR n O U Z V J H _ _ _ _ h1 wO h3 h4))) (aj _ _) (ai _ _) ?_
 have hp:=Nat.two_pow_pos U;generalize (2:Nat) ^ U=P at *;exact Tr.ak rfl (Tr.aa wG (Tr.aa wG (Tr.ag ⟨rfl,rfl⟩)))
end
end Go.Eng
end
section
namespace Go.Eng
open Int (ofNat)
open Go.Proofs Go.Eng.Gall
noncomputable def uA (U:Nat) (r:Nat→Int) (g:Bool) (i:Int):aA:=[(1,.ptr 0 0 0 0),(2,.ptr 0 1 0 0),(4,K8 U r),(5,.ptr 0 2 0 0),(6,.bool g),(7,.int .i64 i)]
noncomputable def lL (U:Nat) (r:Nat→Int) (g:Bool) (i k:Int):aA:=uA U r g i++[(8,.int .i64 k)]
noncomputable def je (U:Nat) (r:Nat→Int) (g:Bool) (i k c:Int):aA:=lL U r g i k++[(9,.ptr 0 3 0 0),(10,.int .i64 c)]
noncomputable def dh (O:Int) (U:Nat) (Z:Nat→Int) (V:Nat) (J:Nat→Int) (x:List AV) (R:List (Nat×an)):bJ:=⟨false,[(0,.row (.G [.int .i64 O,slA 4 U Z,slA 2 V J])),(0,.row (.G [.int .i64 (ofNat 0),.int .i64 (ofNat 0),.nils])),(0,.row (.G x))]++R⟩
theorem J7 (n:Nat) (O:Int) (U:Nat) (Z:Nat→Int) (V:Nat) (J:Nat→Int) (H:ab) (r:Nat→Int) (g:Bool) (x:List AV) (i k c f t:Int):aH (bO n 26 108) (il aJ n 0) aS aR (part Tryd.f26 [1,1,1,1,1,0,1,0,0,1,0,0,1,0,0,1,0,0,1,0,1,0,0]) (hints (je U r g i k c)) (dh O U Z V J x [(0,.row (.G [.int .i64 f,.int .i64 t,.nils]))]::H) =
 (fun (Z0:aD)=>((fun (Z1:bJ)=>Tr.ite (bw c (ofNat U)) (Tr.req (b8 c U) (Tr.req (bR (aq 0 c 2) (bD U 2)) (Tr.ite (cU f (r (aq 0 c 2))) (Tr.req (b8 c U) (Tr.req (bR (ar (aq 0 c 2) 1) (bD U 2)) (Tr.ite (cU (r (ar (aq 0 c 2) 1)) t) (Tr.req (ig 0 1 8) (Tr.req (cu 0 0) (Tr.req (dO 1 1) (Tr.ok (Ex.normal,Z0,(bK [(0,cW O U Z V J),(0,an.row (Row.G [iI 0,iI 0,AV.nils])),(0,an.row (Row.G x)),(0,an.row (Row.G [AV.int .i64 f,AV.int .i64 t,AV.slc 0 5 0 0 1 1 none])),(0,an.row (Row.I .i64 [c])),(0,an.row (rM (aI [c]) 1))])::H))))) (Tr.ok (Ex.normal,Z0,Z1::H))))) (Tr.ok (Ex.normal,Z0,Z1::H))))) (Tr.ok (Ex.exit 4,[(1,AV.ptr 0 0 0 0,none),(2,AV.ptr 0 1 0 0,none),(4,slA 2 U r,none),(5,AV.ptr 0 2 0 0,none),(6,AV.bool g,none),(7,AV.int .i64 i,none),(8,AV.int .i64 k,none),(9,AV.ptr 0 3 0 0,none),(10,AV.int .i64 c,none),(50,AV.bool false,some 1)],Z1::H))) (bK [(0,cW O U Z V J),(0,an.row (Row.G [iI 0,iI 0,AV.nils])),(0,an.row (Row.G x)),(0,an.row (Row.G [AV.int .i64 f,AV.int .i64 t,AV.nils]))]))) [(1,AV.ptr 0 0 0 0,none),(2,AV.ptr 0 1 0 0,none),(4,slA 2 U r,none),(5,AV.ptr 0 2 0 0,none),(6,AV.bool g,none),(7,AV.int .i64 i,none),(8,AV.int .i64 k,none),(9,AV.ptr 0 3 0 0,none),(10,AV.int .i64 (aQ .i64 c (ofNat 1)),none)]:=by kernel_rfl
theorem G6 (n:Nat) (O:Int) (U:Nat) (Z:Nat→Int) (V:Nat) (J:Nat→Int) (H:ab) (r:Nat→Int) (g:Bool) (f0 t0:Int) (i k c f t:Int) (v m:Nat) (y:Nat→Int):aH (bO n 26 108) (il aJ n 0) aS aR (part Tryd.f26 [1,1,1,1,1,0,1,0,0,1,0,0,1,0,0,1,0,0,1,0,1,0,0]) (hints (je U r g i k c)) (dh O U Z V J [.int .i64 f0,.int .i64 t0,.nils] [(0,.row (.G [.int .i64 f,.int .i64 t,.slc 0 4 v 0 1 m none])),(v,.row (.M [.arr .i64 y m]))]::H) =
 (fun (Z0:aD)=>((fun (Z1:bJ)=>Tr.ite (bw c (ofNat U)) (Tr.req (b8 c U) (Tr.req (bR (aq 0 c 2) (bD U 2)) (Tr.ite (cU f (r (aq 0 c 2))) (Tr.req (b8 c U) (Tr.req (bR (ar (aq 0 c 2) 1) (bD U 2)) (Tr.ite (cU (r (ar (aq 0 c 2) 1)) t) (Tr.req (ig m 1 8) (Tr.req (cu 0 0) (Tr.req (dO 1 1) (Tr.req (cu v v) (Tr.req (cu (ar 0 m) m) (Tr.ok (Ex.normal,Z0,(bK [(0,cW O U Z V J),(0,an.row (Row.G [iI 0,iI 0,AV.nils])),(0,an.row (Row.G [AV.int .i64 f0,AV.int .i64 t0,AV.nils])),(0,an.row (Row.G [AV.int .i64 f,AV.int .i64 t,AV.slc 0 4 (Nat.succ v) 0 1 (ar m 1) none])),(Nat.succ v,an.row (rM (oz (qj y 0) m (aI [c])) (ar m 1))),(0,an.row (Row.I .i64 [c]))])::H))))))) (Tr.ok (Ex.normal,Z0,Z1::H))))) (Tr.ok (Ex.normal,Z0,Z1::H))))) (Tr.req (cu v v) (Tr.req (fF 0 m 0 m) (Tr.ok (Ex.exit 4,[(1,AV.ptr 0 0 0 0,none),(2,AV.ptr 0 1 0 0,none),(4,slA 2 U r,none),(5,AV.ptr 0 2 0 0,none),(6,AV.bool g,none),(7,AV.int .i64 i,none),(8,AV.int .i64 k,none),(9,AV.ptr 0 3 0 0,none),(10,AV.int .i64 c,none),(50,AV.bool false,some 1)],(bK [(0,cW O U Z V J),(0,an.row (Row.G [iI 0,iI 0,AV.nils])),(0,an.row (Row.G [AV.int .i64 f0,AV.int .i64 t0,AV.nils])),(0,an.row (Row.G [AV.int .i64 f,AV.int .i64 t,bG m (qj y 0) false])),(v,an.dead)])::H))))) (bK [(0,cW O U Z V J),(0,an.row (Row.G [iI 0,iI 0,AV.nils])),(0,an.row (Row.G [AV.int .i64 f0,AV.int .i64 t0,AV.nils])),(0,an.row (Row.G [AV.int .i64 f,AV.int .i64 t,AV.slc 0 4 v 0 1 m none])),(v,an.row (rM y m))]))) [(1,AV.ptr 0 0 0 0,none),(2,AV.ptr 0 1 0 0,none),(4,slA 2 U r,none),(5,AV.ptr 0 2 0 0,none),(6,AV.bool g,none),(7,AV.int .i64 i,none),(8,AV.int .i64 k,none),(9,AV.ptr 0 3 0 0,none),(10,AV.int .i64 (aQ .i64 c (ofNat 1)),none)]:=by kernel_rfl
theorem MH (n:Nat) (O:Int) (U:Nat) (Z:Nat→Int) (V:Nat) (J:Nat→Int) (H:ab) (r:Nat→Int) (g:Bool) (f0 t0:Int) (i k e f t:Int):aH (bO n 26 108) (il (tX aJ 28 [bk O U Z V J,.agg (.G [.int .i64 f,.int .i64 t,.nils])] (.int .i64 e)) n 0) (cw aS 4 (je U r g i k (ofNat 0)) (dh O U Z V J [.int .i64 f0,.int .i64 t0,.nils] [(0,.row (.G [.int .i64 f,.int .i64 t,.nils]))]::H) (.ok (.normal,hints (je U r g i k (ofNat U)++[(50,.bool false)]),dh O U Z V J [.int .i64 f0,.int .i64 t0,.nils] [(0,.row (.G [.int .i64 f,.int .i64 t,.nils]))]::H))) aR (part Tryd.f26 [1,1,1,1,1,0,1,0,0,1,0,0,1,0,0]) (hints (lL U r g i k)) (dh O U Z V J [.int .i64 f0,.int .i64 t0,.nils] []::H) =
 (fun (Z0:bJ)=>((fun (Z1:aD)=>((fun (Z2:aD)=>((fun (Z3:bJ)=>((fun (Z4:aA)=>Tr.ite (bw k (ofNat U)) (Tr.req (b8 i U) (Tr.req (bR (aq 0 i 2) (bD U 2)) (Tr.req (b8 k U) (Tr.req (bR (ar (aq 0 k 2) 1) (bD U 2)) (Tr.req (bL (dO 0 0) (dO 0 1)) (Tr.reqP (Z4=Z4∧(bK [(0,cW O U Z V J),(0,an.row (Row.G [iI 0,iI 0,AV.nils])),(0,an.row (Row.G [AV.int .i64 f0,AV.int .i64 t0,AV.nils])),(0,an.row (Row.G [AV.int .i64 (r (aq 0 i 2)),AV.int .i64 (r (ar (aq 0 k 2) 1)),AV.nils]))])::H=Z0::H) (Tr.reqP ([bk O U Z V J,AV.agg (Row.G [AV.int .i64 f,AV.int .i64 t,AV.nils])]=[bk O U Z V J,AV.agg (Row.G [AV.int .i64 f,AV.int .i64 t,AV.nils])]) (Tr.ite (cK e (ofNat 0)) (Tr.ite (bU g) (Tr.ok (Ex.normal,Z1,Z3::H)) (Tr.ite (bw f f0) (Tr.ok (Ex.normal,Z1,Z3::H)) (Tr.ite (cK f f0) (Tr.ite (bw t t0) (Tr.ok (Ex.normal,Z1,Z3::H)) (Tr.ok (Ex.normal,Z2,Z0::H))) (Tr.ok (Ex.normal,Z2,Z0::H))))) (Tr.ok (Ex.normal,Z2,Z0::H)))))))))) (Tr.ok (Ex.exit 2,[(1,AV.ptr 0 0 0 0,none),(2,AV.ptr 0 1 0 0,none),(4,slA 2 U r,none),(5,AV.ptr 0 2 0 0,none),(6,AV.bool g,none),(7,AV.int .i64 i,none),(8,AV.int .i64 k,none),(33,AV.bool false,some 1)],(bK [(0,cW O U Z V J),(0,an.row (Row.G [iI 0,iI 0,AV.nils])),(0,an.row (Row.G [AV.int .i64 f0,AV.int .i64 t0,AV.nils]))])::H))) [(1,AV.ptr 0 0 0 0),(2,AV.ptr 0 1 0 0),(4,slA 2 U r),(5,AV.ptr 0 2 0 0),(6,AV.bool g),(7,AV.int .i64 i),(8,AV.int .i64 k),(9,AV.ptr 0 3 0 0),(10,iI 0)])) (bK [(0,cW O U Z V J),(0,an.row (Row.G [iI 0,iI 0,AV.nils])),(0,an.row (Row.G [AV.int .i64 f,AV.int .i64 t,AV.nils])),(0,an.row (Row.G [AV.int .i64 f,AV.int .i64 t,AV.nils]))]))) [(1,AV.ptr 0 0 0 0,none),(2,AV.ptr 0 1 0 0,none),(4,slA 2 U r,none),(5,AV.ptr 0 2 0 0,none),(6,AV.bool g,none),(7,AV.int .i64 i,none),(8,AV.int .i64 (aQ .i64 k (ofNat 1)),none)])) [(1,AV.ptr 0 0 0 0,none),(2,AV.ptr 0 1 0 0,none),(4,slA 2 U r,none),(5,AV.ptr 0 2 0 0,none),(6,AV.bool true,some 1),(7,AV.int .i64 i,none),(8,AV.int .i64 (aQ .i64 k (ofNat 1)),none)])) (bK [(0,cW O U Z V J),(0,an.row (Row.G [iI 0,iI 0,AV.nils])),(0,an.row (Row.G [AV.int .i64 f0,AV.int .i64 t0,AV.nils])),(0,an.row (Row.G [AV.int .i64 f,AV.int .i64 t,AV.nils]))]):=by kernel_rfl
theorem MI (n:Nat) (O:Int) (U:Nat) (Z:Nat→Int) (V:Nat) (J:Nat→Int) (H:ab) (r:Nat→Int) (g:Bool) (f0 t0:Int) (i k e f t:Int) (v m:Nat) (y:Nat→Int):aH (bO n 26 108) (il (tX aJ 28 [bk O U Z V J,.agg (.G [.int .i64 f,.int .i64 t,bG m y false])] (.int .i64 e)) n 0) (cw aS 4 (je U r g i k (ofNat 0)) (dh O U Z V J [.int .i64 f0,.int .i64 t0,.nils] [(0,.row (.G [.int .i64 f,.int .i64 t,.nils]))]::H) (.ok (.normal,hints (je U r g i k (ofNat U)++[(50,.bool false)]),dh O U Z V J [.int .i64 f0,.int .i64 t0,.nils] [(0,.row (.G [.int .i64 f,.int .i64 t,bG m y false])),(v,.dead)]::H))) aR (part Tryd.f26 [1,1,1,1,1,0,1,0,0,1,0,0,1,0,0]) (hints (lL U r g i k)) (dh O U Z V J [.int .i64 f0,.int .i64 t0,.nils] []::H) =
 (fun (Z0:Row)=>((fun (Z1:aD)=>((fun (Z2:aD)=>((fun (Z3:bJ)=>((fun (Z4:bJ)=>((fun (Z5:aA)=>((fun (Z6:Nat×an)=>Tr.ite (bw k (ofNat U)) (Tr.req (b8 i U) (Tr.req (bR (aq 0 i 2) (bD U 2)) (Tr.req (b8 k U) (Tr.req (bR (ar (aq 0 k 2) 1) (bD U 2)) (Tr.req (bL (dO 0 0) (dO 0 1)) (Tr.reqP (Z5=Z5∧(bK [(0,cW O U Z V J),(0,an.row (Row.G [iI 0,iI 0,AV.nils])),Z6,(0,an.row (Row.G [AV.int .i64 (r (aq 0 i 2)),AV.int .i64 (r (ar (aq 0 k 2) 1)),AV.nils]))])::H=(bK [(0,cW O U Z V J),(0,an.row (Row.G [iI 0,iI 0,AV.nils])),Z6,(0,an.row (Row.G [AV.int .i64 f,AV.int .i64 t,AV.nils]))])::H) (Tr.reqP ([bk O U Z V J,AV.agg Z0]=[bk O U Z V J,AV.agg Z0]) (Tr.ite (cK e (ofNat 0)) (Tr.ite (bU g) (Tr.ok (Ex.normal,Z1,Z4::H)) (Tr.ite (bw f f0) (Tr.ok (Ex.normal,Z1,Z4::H)) (Tr.ite (cK f f0) (Tr.ite (bw t t0) (Tr.ok (Ex.normal,Z1,Z4::H)) (Tr.ok (Ex.normal,Z2,Z3::H))) (Tr.ok (Ex.normal,Z2,Z3::H))))) (Tr.ok (Ex.normal,Z2,Z3::H)))))))))) (Tr.ok (Ex.exit 2,[(1,AV.ptr 0 0 0 0,none),(2,AV.ptr 0 1 0 0,none),(4,slA 2 U r,none),(5,AV.ptr 0 2 0 0,none),(6,AV.bool g,none),(7,AV.int .i64 i,none),(8,AV.int .i64 k,none),(33,AV.bool false,some 1)],(bK [(0,cW O U Z V J),(0,an.row (Row.G [iI 0,iI 0,AV.nils])),Z6])::H))) (0,an.row (Row.G [AV.int .i64 f0,AV.int .i64 t0,AV.nils])))) [(1,AV.ptr 0 0 0 0),(2,AV.ptr 0 1 0 0),(4,slA 2 U r),(5,AV.ptr 0 2 0 0),(6,AV.bool g),(7,AV.int .i64 i),(8,AV.int .i64 k),(9,AV.ptr 0 3 0 0),(10,iI 0)])) (bK [(0,cW O U Z V J),(0,an.row (Row.G [iI 0,iI 0,AV.nils])),(0,an.row Z0),(0,an.row Z0),(v,an.dead)]))) (bK [(0,cW O U Z V J),(0,an.row (Row.G [iI 0,iI 0,AV.nils])),(0,an.row (Row.G [AV.int .i64 f0,AV.int .i64 t0,AV.nils])),(0,an.row Z0),(v,an.dead)]))) [(1,AV.ptr 0 0 0 0,none),(2,AV.ptr 0 1 0 0,none),(4,slA 2 U r,none),(5,AV.ptr 0 2 0 0,none),(6,AV.bool g,none),(7,AV.int .i64 i,none),(8,AV.int .i64 (aQ .i64 k (ofNat 1)),none)])) [(1,AV.ptr 0 0 0 0,none),(2,AV.ptr 0 1 0 0,none),(4,slA 2 U r,none),(5,AV.ptr 0 2 0 0,none),(6,AV.bool true,some 1),(7,AV.int .i64 i,none),(8,AV.int .i64 (aQ .i64 k (ofNat 1)),none)])) (Row.G [AV.int .i64 f,AV.int .i64 t,bG m y false]):=by kernel_rfl
theorem ML (n:Nat) (O:Int) (U:Nat) (Z:Nat→Int) (V:Nat) (J:Nat→Int) (H:ab) (r:Nat→Int) (g:Bool) (f0 t0:Int) (i k:Int):aH (bO n 26 108) (il aJ n 0) (dC aS 4) aR (part Tryd.f26 [1,1,1,1,1,0,1,0,0,1,0,0,1,0,0]) (hints (lL U r g i k)) (dh O U Z V J [.int .i64 f0,.int .i64 t0,.nils] []::H) =
 Tr.ite (bw k (ofNat U)) (Tr.req (b8 i U) (Tr.req (bR (aq 0 i 2) (bD U 2)) (Tr.req (b8 k U) (Tr.req (bR (ar (aq 0 k 2) 1) (bD U 2)) (Tr.req (bL (dO 0 0) (dO 0 1)) Tr.bad))))) (Tr.ok (Ex.exit 2,[(1,AV.ptr 0 0 0 0,none),(2,AV.ptr 0 1 0 0,none),(4,slA 2 U r,none),(5,AV.ptr 0 2 0 0,none),(6,AV.bool g,none),(7,AV.int .i64 i,none),(8,AV.int .i64 k,none),(33,AV.bool false,some 1)],(bK [(0,cW O U Z V J),(0,an.row (Row.G [iI 0,iI 0,AV.nils])),(0,an.row (Row.G [AV.int .i64 f0,AV.int .i64 t0,AV.nils]))])::H)):=by kernel_rfl
theorem G7 (n:Nat) (O:Int) (U:Nat) (Z:Nat→Int) (V:Nat) (J:Nat→Int) (H:ab) (r:Nat→Int) (g:Bool) (f0 t0:Int) (m0:Nat) (y0:Nat→Int) (i k c f t:Int) (v m:Nat) (y:Nat→Int):aH (bO n 26 108) (il aJ n 0) aS aR (part Tryd.f26 [1,1,1,1,1,0,1,0,0,1,0,0,1,0,0,1,0,0,1,0,1,0,0]) (hints (je U r g i k c)) (dh O U Z V J [.int .i64 f0,.int .i64 t0,bG m0 y0 false] [(0,.row (.G [.int .i64 f,.int .i64 t,.slc 0 4 v 0 1 m none])),(v,.row (.M [.arr .i64 y m]))]::H) =
 (fun (Z0:aD)=>((fun (Z1:bJ)=>Tr.ite (bw c (ofNat U)) (Tr.req (b8 c U) (Tr.req (bR (aq 0 c 2) (bD U 2)) (Tr.ite (cU f (r (aq 0 c 2))) (Tr.req (b8 c U) (Tr.req (bR (ar (aq 0 c 2) 1) (bD U 2)) (Tr.ite (cU (r (ar (aq 0 c 2) 1)) t) (Tr.req (ig m 1 8) (Tr.req (cu 0 0) (Tr.req (dO 1 1) (Tr.req (cu v v) (Tr.req (cu (ar 0 m) m) (Tr.ok (Ex.normal,Z0,(bK [(0,cW O U Z V J),(0,an.row (Row.G [iI 0,iI 0,AV.nils])),(0,an.row (Row.G [AV.int .i64 f0,AV.int .i64 t0,bG m0 y0 false])),(0,an.row (Row.G [AV.int .i64 f,AV.int .i64 t,AV.slc 0 4 (Nat.succ v) 0 1 (ar m 1) none])),(Nat.succ v,an.row (rM (oz (qj y 0) m (aI [c])) (ar m 1))),(0,an.row (Row.I .i64 [c]))])::H))))))) (Tr.ok (Ex.normal,Z0,Z1::H))))) (Tr.ok (Ex.normal,Z0,Z1::H))))) (Tr.req (cu v v) (Tr.req (fF 0 m 0 m) (Tr.ok (Ex.exit 4,[(1,AV.ptr 0 0 0 0,none),(2,AV.ptr 0 1 0 0,none),(4,slA 2 U r,none),(5,AV.ptr 0 2 0 0,none),(6,AV.bool g,none),(7,AV.int .i64 i,none),(8,AV.int .i64 k,none),(9,AV.ptr 0 3 0 0,none),(10,AV.int .i64 c,none),(50,AV.bool false,some 1)],(bK [(0,cW O U Z V J),(0,an.row (Row.G [iI 0,iI 0,AV.nils])),(0,an.row (Row.G [AV.int .i64 f0,AV.int .i64 t0,bG m0 y0 false])),(0,an.row (Row.G [AV.int .i64 f,AV.int .i64 t,bG m (qj y 0) false])),(v,an.dead)])::H))))) (bK [(0,cW O U Z V J),(0,an.row (Row.G [iI 0,iI 0,AV.nils])),(0,an.row (Row.G [AV.int .i64 f0,AV.int .i64 t0,bG m0 y0 false])),(0,an.row (Row.G [AV.int .i64 f,AV.int .i64 t,AV.slc 0 4 v 0 1 m none])),(v,an.row (rM y m))]))) [(1,AV.ptr 0 0 0 0,none),(2,AV.ptr 0 1 0 0,none),(4,slA 2 U r,none),(5,AV.ptr 0 2 0 0,none),(6,AV.bool g,none),(7,AV.int .i64 i,none),(8,AV.int .i64 k,none),(9,AV.ptr 0 3 0 0,none),(10,AV.int .i64 (aQ .i64 c (ofNat 1)),none)]:=by kernel_rfl
theorem MJ (n:Nat) (O:Int) (U:Nat) (Z:Nat→Int) (V:Nat) (J:Nat→Int) (H:ab) (r:Nat→Int) (g:Bool) (f0 t0:Int) (m0:Nat) (y0:Nat→Int) (i k e f t:Int):aH (bO n 26 108) (il (tX aJ 28 [bk O U Z V J,.agg (.G [.int .i64 f,.int .i64 t,.nils])] (.int .i64 e)) n 0) (cw aS 4 (je U r g i k (ofNat 0)) (dh O U Z V J [.int .i64 f0,.int .i64 t0,bG m0 y0 false] [(0,.row (.G [.int .i64 f,.int .i64 t,.nils]))]::H) (.ok (.normal,hints (je U r g i k (ofNat U)++[(50,.bool false)]),dh O U Z V J [.int .i64 f0,.int .i64 t0,bG m0 y0 false] [(0,.row (.G [.int .i64 f,.int .i64 t,.nils]))]::H))) aR (part Tryd.f26 [1,1,1,1,1,0,1,0,0,1,0,0,1,0,0]) (hints (lL U r g i k)) (dh O U Z V J [.int .i64 f0,.int .i64 t0,bG m0 y0 false] []::H) =
 (fun (Z0:bJ)=>((fun (Z1:aD)=>((fun (Z2:aD)=>((fun (Z3:bJ)=>((fun (Z4:aA)=>Tr.ite (bw k (ofNat U)) (Tr.req (b8 i U) (Tr.req (bR (aq 0 i 2) (bD U 2)) (Tr.req (b8 k U) (Tr.req (bR (ar (aq 0 k 2) 1) (bD U 2)) (Tr.req (bL (dO 0 0) (dO 0 1)) (Tr.reqP (Z4=Z4∧(bK [(0,cW O U Z V J),(0,an.row (Row.G [iI 0,iI 0,AV.nils])),(0,an.row (Row.G [AV.int .i64 f0,AV.int .i64 t0,bG m0 y0 false])),(0,an.row (Row.G [AV.int .i64 (r (aq 0 i 2)),AV.int .i64 (r (ar (aq 0 k 2) 1)),AV.nils]))])::H=Z0::H) (Tr.reqP ([bk O U Z V J,AV.agg (Row.G [AV.int .i64 f,AV.int .i64 t,AV.nils])]=[bk O U Z V J,AV.agg (Row.G [AV.int .i64 f,AV.int .i64 t,AV.nils])]) (Tr.ite (cK e (ofNat 0)) (Tr.ite (bU g) (Tr.ok (Ex.normal,Z1,Z3::H)) (Tr.ite (bw f f0) (Tr.ok (Ex.normal,Z1,Z3::H)) (Tr.ite (cK f f0) (Tr.ite (bw t t0) (Tr.ok (Ex.normal,Z1,Z3::H)) (Tr.ok (Ex.normal,Z2,Z0::H))) (Tr.ok (Ex.normal,Z2,Z0::H))))) (Tr.ok (Ex.normal,Z2,Z0::H)))))))))) (Tr.ok (Ex.exit 2,[(1,AV.ptr 0 0 0 0,none),(2,AV.ptr 0 1 0 0,none),(4,slA 2 U r,none),(5,AV.ptr 0 2 0 0,none),(6,AV.bool g,none),(7,AV.int .i64 i,none),(8,AV.int .i64 k,none),(33,AV.bool false,some 1)],(bK [(0,cW O U Z V J),(0,an.row (Row.G [iI 0,iI 0,AV.nils])),(0,an.row (Row.G [AV.int .i64 f0,AV.int .i64 t0,bG m0 y0 false]))])::H))) [(1,AV.ptr 0 0 0 0),(2,AV.ptr 0 1 0 0),(4,slA 2 U r),(5,AV.ptr 0 2 0 0),(6,AV.bool g),(7,AV.int .i64 i),(8,AV.int .i64 k),(9,AV.ptr 0 3 0 0),(10,iI 0)])) (bK [(0,cW O U Z V J),(0,an.row (Row.G [iI 0,iI 0,AV.nils])),(0,an.row (Row.G [AV.int .i64 f,AV.int .i64 t,AV.nils])),(0,an.row (Row.G [AV.int .i64 f,AV.int .i64 t,AV.nils]))]))) [(1,AV.ptr 0 0 0 0,none),(2,AV.ptr 0 1 0 0,none),(4,slA 2 U r,none),(5,AV.ptr 0 2 0 0,none),(6,AV.bool g,none),(7,AV.int .i64 i,none),(8,AV.int .i64 (aQ .i64 k (ofNat 1)),none)])) [(1,AV.ptr 0 0 0 0,none),(2,AV.ptr 0 1 0 0,none),(4,slA 2 U r,none),(5,AV.ptr 0 2 0 0,none),(6,AV.bool true,some 1),(7,AV.int .i64 i,none),(8,AV.int .i64 (aQ .i64 k (ofNat 1)),none)])) (bK [(0,cW O U Z V J),(0,an.row (Row.G [iI 0,iI 0,AV.nils])),(0,an.row (Row.G [AV.int .i64 f0,AV.int .i64 t0,bG m0 y0 false])),(0,an.row (Row.G [AV.int .i64 f,AV.int .i64 t,AV.nils]))]):=by kernel_rfl
theorem MK (n:Nat) (O:Int) (U:Nat) (Z:Nat→Int) (V:Nat) (J:Nat→Int) (H:ab) (r:Nat→Int) (g:Bool) (f0 t0:Int) (m0:Nat) (y0:Nat→Int) (i k e f t:Int) (v m:Nat) (y:Nat→Int):aH (bO n 26 108) (il (tX aJ 28 [bk O U Z V J,.agg (.G [.int .i64 f,.int .i64 t,bG m y false])] (.int .i64 e)) n 0) (cw aS 4 (je U r g i k (ofNat 0)) (dh O U Z V J [.int .i64 f0,.int .i64 t0,bG m0 y0 false] [(0,.row (.G [.int .i64 f,.int .i64 t,.nils]))]::H) (.ok (.normal,hints (je U r g i k (ofNat U)++[(50,.bool false)]),dh O U Z V J [.int .i64 f0,.int .i64 t0,bG m0 y0 false] [(0,.row (.G [.int .i64 f,.int .i64 t,bG m y false])),(v,.dead)]::H))) aR (part Tryd.f26 [1,1,1,1,1,0,1,0,0,1,0,0,1,0,0]) (hints (lL U r g i k)) (dh O U Z V J [.int .i64 f0,.int .i64 t0,bG m0 y0 false] []::H) =
 (fun (Z0:Row)=>((fun (Z1:aD)=>((fun (Z2:aD)=>((fun (Z3:bJ)=>((fun (Z4:bJ)=>((fun (Z5:aA)=>((fun (Z6:Nat×an)=>Tr.ite (bw k (ofNat U)) (Tr.req (b8 i U) (Tr.req (bR (aq 0 i 2) (bD U 2)) (Tr.req (b8 k U) (Tr.req (bR (ar (aq 0 k 2) 1) (bD U 2)) (Tr.req (bL (dO 0 0) (dO 0 1)) (Tr.reqP (Z5=Z5∧(bK [(0,cW O U Z V J),(0,an.row (Row.G [iI 0,iI 0,AV.nils])),Z6,(0,an.row (Row.G [AV.int .i64 (r (aq 0 i 2)),AV.int .i64 (r (ar (aq 0 k 2) 1)),AV.nils]))])::H=(bK [(0,cW O U Z V J),(0,an.row (Row.G [iI 0,iI 0,AV.nils])),Z6,(0,an.row (Row.G [AV.int .i64 f,AV.int .i64 t,AV.nils]))])::H) (Tr.reqP ([bk O U Z V J,AV.agg Z0]=[bk O U Z V J,AV.agg Z0]) (Tr.ite (cK e (ofNat 0)) (Tr.ite (bU g) (Tr.ok (Ex.normal,Z1,Z4::H)) (Tr.ite (bw f f0) (Tr.ok (Ex.normal,Z1,Z4::H)) (Tr.ite (cK f f0) (Tr.ite (bw t t0) (Tr.ok (Ex.normal,Z1,Z4::H)) (Tr.ok (Ex.normal,Z2,Z3::H))) (Tr.ok (Ex.normal,Z2,Z3::H))))) (Tr.ok (Ex.normal,Z2,Z3::H)))))))))) (Tr.ok (Ex.exit 2,[(1,AV.ptr 0 0 0 0,none),(2,AV.ptr 0 1 0 0,none),(4,slA 2 U r,none),(5,AV.ptr 0 2 0 0,none),(6,AV.bool g,none),(7,AV.int .i64 i,none),(8,AV.int .i64 k,none),(33,AV.bool false,some 1)],(bK [(0,cW O U Z V J),(0,an.row (Row.G [iI 0,iI 0,AV.nils])),Z6])::H))) (0,an.row (Row.G [AV.int .i64 f0,AV.int .i64 t0,bG m0 y0 false])))) [(1,AV.ptr 0 0 0 0),(2,AV.ptr 0 1 0 0),(4,slA 2 U r),(5,AV.ptr 0 2 0 0),(6,AV.bool g),(7,AV.int .i64 i),(8,AV.int .i64 k),(9,AV.ptr 0 3 0 0),(10,iI 0)])) (bK [(0,cW O U Z V J),(0,an.row (Row.G [iI 0,iI 0,AV.nils])),(0,an.row Z0),(0,an.row Z0),(v,an.dead)]))) (bK [(0,cW O U Z V J),(0,an.row (Row.G [iI 0,iI 0,AV.nils])),(0,an.row (Row.G [AV.int .i64 f0,AV.int .i64 t0,bG m0 y0 false])),(0,an.row Z0),(v,an.dead)]))) [(1,AV.ptr 0 0 0 0,none),(2,AV.ptr 0 1 0 0,none),(4,slA 2 U r,none),(5,AV.ptr 0 2 0 0,none),(6,AV.bool g,none),(7,AV.int .i64 i,none),(8,AV.int .i64 (aQ .i64 k (ofNat 1)),none)])) [(1,AV.ptr 0 0 0 0,none),(2,AV.ptr 0 1 0 0,none),(4,slA 2 U r,none),(5,AV.ptr 0 2 0 0,none),(6,AV.bool true,some 1),(7,AV.int .i64 i,none),(8,AV.int .i64 (aQ .i64 k (ofNat 1)),none)])) (Row.G [AV.int .i64 f,AV.int .i64 t,bG m y false]):=by kernel_rfl
theorem MM (n:Nat) (O:Int) (U:Nat) (Z:Nat→Int) (V:Nat) (J:Nat→Int) (H:ab) (r:Nat→Int) (g:Bool) (f0 t0:Int) (m0:Nat) (y0:Nat→Int) (i k:Int):aH (bO n 26 108) (il aJ n 0) (dC aS 4) aR (part Tryd.f26 [1,1,1,1,1,0,1,0,0,1,0,0,1,0,0]) (hints (lL U r g i k)) (dh O U Z V J [.int .i64 f0,.int .i64 t0,bG m0 y0 false] []::H) =
 Tr.ite (bw k (ofNat U)) (Tr.req (b8 i U) (Tr.req (bR (aq 0 i 2) (bD U 2)) (Tr.req (b8 k U) (Tr.req (bR (ar (aq 0 k 2) 1) (bD U 2)) (Tr.req (bL (dO 0 0) (dO 0 1)) Tr.bad))))) (Tr.ok (Ex.exit 2,[(1,AV.ptr 0 0 0 0,none),(2,AV.ptr 0 1 0 0,none),(4,slA 2 U r,none),(5,AV.ptr 0 2 0 0,none),(6,AV.bool g,none),(7,AV.int .i64 i,none),(8,AV.int .i64 k,none),(33,AV.bool false,some 1)],(bK [(0,cW O U Z V J),(0,an.row (Row.G [iI 0,iI 0,AV.nils])),(0,an.row (Row.G [AV.int .i64 f0,AV.int .i64 t0,bG m0 y0 false]))])::H)):=by kernel_rfl
theorem SE (n:Nat) (O:Int) (U:Nat) (Z:Nat→Int) (V:Nat) (J:Nat→Int) (H:ab) (r:Nat→Int) (g:Bool) (x:List AV) (i:Int) (g2:Bool) (x2:List AV):aH (bO n 26 108) (il aJ n 0) (cw aS 2 (lL U r g i (ofNat 0)) (dh O U Z V J x []::H) (.ok (.normal,hints (lL U r g2 i (ofNat U)++[(33,.bool false)]),dh O U Z V J x2 []::H))) aR (part Tryd.f26 [1,1,1,1,1,0,1,0,0]) (hints (uA U r g i)) (dh O U Z V J x []::H) =
 (fun (Z0:bJ)=>((fun (Z1:aA)=>Tr.ite (bw i (ofNat U)) (Tr.reqP (Z1=Z1∧Z0::H=Z0::H) (Tr.ok (Ex.normal,[(1,AV.ptr 0 0 0 0,none),(2,AV.ptr 0 1 0 0,none),(4,slA 2 U r,none),(5,AV.ptr 0 2 0 0,none),(6,AV.bool g2,none),(7,AV.int .i64 (aQ .i64 i (ofNat 1)),none)],(bK [(0,cW O U Z V J),(0,an.row (Row.G [iI 0,iI 0,AV.nils])),(0,an.row (Row.G x2))])::H))) (Tr.ok (Ex.exit 0,[(1,AV.ptr 0 0 0 0,none),(2,AV.ptr 0 1 0 0,none),(4,slA 2 U r,none),(5,AV.ptr 0 2 0 0,none),(6,AV.bool g,none),(7,AV.int .i64 i,none),(27,AV.bool false,some 1)],Z0::H))) [(1,AV.ptr 0 0 0 0),(2,AV.ptr 0 1 0 0),(4,slA 2 U r),(5,AV.ptr 0 2 0 0),(6,AV.bool g),(7,AV.int .i64 i),(8,iI 0)])) (bK [(0,cW O U Z V J),(0,an.row (Row.G [iI 0,iI 0,AV.nils])),(0,an.row (Row.G x))]):=by kernel_rfl
theorem O9 (n:Nat) (O:Int) (U:Nat) (Z:Nat→Int) (V:Nat) (J:Nat→Int) (H:ab) (r:Nat→Int) (g:Bool) (x:List AV) (i:Int):aH (bO n 26 108) (il aJ n 0) (dC aS 2) aR (part Tryd.f26 [1,1,1,1,1,0,1,0,0]) (hints (uA U r g i)) (dh O U Z V J x []::H) =
 Tr.ite (bw i (ofNat U)) Tr.bad (Tr.ok (Ex.exit 0,[(1,AV.ptr 0 0 0 0,none),(2,AV.ptr 0 1 0 0,none),(4,slA 2 U r,none),(5,AV.ptr 0 2 0 0,none),(6,AV.bool g,none),(7,AV.int .i64 i,none),(27,AV.bool false,some 1)],(bK [(0,cW O U Z V J),(0,an.row (Row.G [iI 0,iI 0,AV.nils])),(0,an.row (Row.G x))])::H)):=by kernel_rfl
theorem Xb (n:Nat) (O:Int) (U:Nat) (Z:Nat→Int) (V:Nat) (J:Nat→Int) (H:ab) (r:Nat→Int) (f t:Int) (m:Nat) (y:Nat→Int):bu Tryd.prog (cd n) 100000 26 Tryd.f26 (KtG.kt 26) (il (tX (tX (tX aJ 23 [bk O U Z V J] (.int .i64 (ofNat 0))) 66 [bk O U Z V J] (.int .i64 (ofNat 0))) 57 [bk O U Z V J] (K8 U r)) n 0) (cw aS 0 (uA U r false (ofNat 0)) (dh O U Z V J [.int .i64 (ofNat 0),.int .i64 (ofNat 0),.nils] []::H) (.ok (.normal,hints (uA U r true (ofNat U)++[(27,.bool false)]),dh O U Z V J [.int .i64 f,.int .i64 t,bG m y false] []::H))) aR [(bk O U Z V J,none)] H =
 (fun (Z0:bJ)=>((fun (Z1:aA)=>Tr.reqP ([bk O U Z V J]=[bk O U Z V J]) (Tr.ite (bU (cK (ofNat 0) (ofNat 0))) (Tr.reqP ([bk O U Z V J]=[bk O U Z V J]) (Tr.ok ((AV.tup [AV.agg (Row.G [iI 0,iI 0,AV.nils]),iI 0],none),H))) (Tr.reqP ([bk O U Z V J]=[bk O U Z V J]) (Tr.ite (bw (ofNat 0) (ofNat 0)) (Tr.ok ((AV.tup [AV.agg (Row.G [iI 0,iI 0,AV.nils]),iI 5],none),H)) (Tr.reqP ([bk O U Z V J]=[bk O U Z V J]) (Tr.reqP (Z1=Z1∧Z0::H=Z0::H) (Tr.ok ((AV.tup [AV.agg (Row.G [AV.int .i64 f,AV.int .i64 t,bG m y false]),iI 0],none),H)))))))) [(1,AV.ptr 0 0 0 0),(2,AV.ptr 0 1 0 0),(4,slA 2 U r),(5,AV.ptr 0 2 0 0),(6,AV.bool false),(7,iI 0)])) (bK [(0,cW O U Z V J),(0,an.row (Row.G [iI 0,iI 0,AV.nils])),(0,an.row (Row.G [iI 0,iI 0,AV.nils]))]):=by kernel_rfl
theorem SR (n:Nat) (O:Int) (U:Nat) (Z:Nat→Int) (V:Nat) (J:Nat→Int) (H:ab) (c:Int):bu Tryd.prog (cd n) 100000 26 Tryd.f26 (KtG.kt 26) (il (tN (tX (tX aJ 23 [bk O U Z V J] (.int .i64 (ofNat 0))) 66 [bk O U Z V J] (.int .i64 c)) 57) n 0) (dC aS 0) aR [(bk O U Z V J,none)] H =
 Tr.reqP ([bk O U Z V J]=[bk O U Z V J]) (Tr.ite (bU (cK (ofNat 0) (ofNat 0))) (Tr.reqP ([bk O U Z V J]=[bk O U Z V J]) (Tr.ok ((AV.tup [AV.agg (Row.G [iI 0,iI 0,AV.nils]),iI 0],none),H))) (Tr.reqP ([bk O U Z V J]=[bk O U Z V J]) (Tr.ite (bw (ofNat 0) c) (Tr.ok ((AV.tup [AV.agg (Row.G [iI 0,iI 0,AV.nils]),iI 5],none),H)) Tr.bad))):=by kernel_rfl
theorem SS (n:Nat) (O:Int) (U:Nat) (Z:Nat→Int) (V:Nat) (J:Nat→Int) (H:ab) (e:Int):bu Tryd.prog (cd n) 100000 26 Tryd.f26 (KtG.kt 26) (il (tN (tN (tX aJ 23 [bk O U Z V J] (.int .i64 e)) 66) 57) n 0) (dC aS 0) aR [(bk O U Z V J,none)] H =
 Tr.reqP ([bk O U Z V J]=[bk O U Z V J]) (Tr.ite (bU (cK e (ofNat 0))) (Tr.reqP ([bk O U Z V J]=[bk O U Z V J]) (Tr.ok ((AV.tup [AV.agg (Row.G [iI 0,iI 0,AV.nils]),AV.int .i64 e],none),H))) Tr.bad):=by kernel_rfl
theorem SY (n:Nat) (O:Int) (U:Nat) (Z:Nat→Int) (V:Nat) (J:Nat→Int) (H:ab) (f t:Int):bu Tryd.prog (cd n) 100000 28 Tryd.f28 (KtG.kt 28) (il (tN (tX aJ 23 [bk O U Z V J] (.int .i64 (ofNat 0))) 57) n 0) (dC (dC aS 0) 2) aR [(bk O U Z V J,none),(.agg (.G [.int .i64 f,.int .i64 t,.nils]),none)] H =
 Tr.reqP ([bk O U Z V J]=[bk O U Z V J]) (Tr.ite (bU (cK (ofNat 0) (ofNat 0))) (Tr.reqP ([bk O U Z V J]=[bk O U Z V J]) (Tr.ok ((iI 0,none),H))) (Tr.ite (bw f (Int.negSucc 1999)) (Tr.ok ((iI 3,some 1),H)) (Tr.ite (bw (ofNat 2000) f) (Tr.ok ((iI 3,some 1),H)) (Tr.ite (bw t (Int.negSucc 1999)) (Tr.ok ((iI 3,some 1),H)) (Tr.ite (bw (ofNat 2000) t) (Tr.ok ((iI 3,some 1),H)) (Tr.ok ((iI 3,some 1),H))))))):=by kernel_rfl
theorem SW (n:Nat) (O:Int) (U:Nat) (Z:Nat→Int) (V:Nat) (J:Nat→Int) (H:ab) (f t e:Int) (m:Nat) (y:Nat→Int):bu Tryd.prog (cd n) 100000 28 Tryd.f28 (KtG.kt 28) (il (tN (tX aJ 23 [bk O U Z V J] (.int .i64 e)) 57) n 0) (dC (dC aS 0) 2) aR [(bk O U Z V J,none),(oF f t m y,none)] H =
 Tr.reqP ([bk O U Z V J]=[bk O U Z V J]) (Tr.ite (bU (cK e (ofNat 0))) (Tr.reqP ([bk O U Z V J]=[bk O U Z V J]) (Tr.ok ((AV.int .i64 e,none),H))) (Tr.ite (bw f (Int.negSucc 1999)) (Tr.ok ((iI 3,some 1),H)) (Tr.ite (bw (ofNat 2000) f) (Tr.ok ((iI 3,some 1),H)) (Tr.ite (bw t (Int.negSucc 1999)) (Tr.ok ((iI 3,some 1),H)) (Tr.ite (bw (ofNat 2000) t) (Tr.ok ((iI 3,some 1),H)) (Tr.ite (cK (ofNat m) (ofNat 0)) (Tr.ok ((iI 3,some 1),H)) Tr.bad)))))):=by kernel_rfl
theorem SQ (n:Nat) (O:Int) (U:Nat) (Z:Nat→Int) (V:Nat) (J:Nat→Int) (H:ab) (e:Int):bu Tryd.prog (cd n) 100000 25 Tryd.f25 (KtG.kt 25) (il (tN (tX aJ 49 [bk O U Z V J,.nils] (.tup [.nilp,.int .i64 e])) 65) n 0) aS aR [(bk O U Z V J,none)] H =
 Tr.reqP ([bk O U Z V J,AV.nils]=[bk O U Z V J,AV.nils]) (Tr.ite (bU (cK e (ofNat 0))) (Tr.ok ((AV.tup [AV.agg (Row.G [iI 0,iI 0,AV.nils]),AV.int .i64 e],none),H)) Tr.bad):=by kernel_rfl
theorem SU (n:Nat) (O:Int) (U:Nat) (Z:Nat→Int) (V:Nat) (J:Nat→Int) (H:ab) (f t e:Int) (m:Nat) (y:Nat→Int):bu Tryd.prog (cd n) 100000 27 Tryd.f27 (KtG.kt 27) (il (tN (tN (tN (tX aJ 49 [bk O U Z V J,.nils] (.tup [.nilp,.int .i64 e])) 59) 56) 67) n 0) (dC aS 1) aR [(bk O U Z V J,none),(oF f t m y,none)] H =
 Tr.reqP ([bk O U Z V J,AV.nils]=[bk O U Z V J,AV.nils]) (Tr.ite (bU (cK e (ofNat 0))) (Tr.ok ((AV.int .i64 e,none),H)) Tr.bad):=by kernel_rfl
end Go.Eng
end
section
namespace Go.Eng
open Go.Proofs Go.Eng.Gall
def Nz:Option (Int×Int)→Int→Int→Bool
 | none,_,_=>true
 | some (f,t),F,T=>decide (F<f) || (decide (F=f) && decide (T<t))
section
variable (R:Int→Int→Bool) (r:Nat→Int) (U:Nat)
def G3 (b:Option (Int×Int)) (F T:Int):Option (Int×Int):=if (R F T && Nz b F T)=true then some (F,T) else b
def DJ (F:Int) (b:Option (Int×Int)):Nat→Option (Int×Int)
 | 0=>b
 | k+1=>G3 R (DJ F b k) F (r (2*k+1))
def xA:Nat→Option (Int×Int)
 | 0=>none
 | i+1=>DJ R r (r (2*i)) (xA i) U
variable {R r U}
theorem EC {P:Int→Int→Prop} {F T:Int} {b:Option (Int×Int)} (hb:dZ P b):dZ (fun x y=>P x y∨(x=F∧y=T∧R F T=true)) (G3 R b F T):=by
 unfold G3;by_cases ho:R F T=true
 · cases b with
   | none =>
     rw[if_pos (by rw[ho];rfl)];refine ⟨.inr ⟨rfl,rfl,ho⟩,?_⟩;rintro x y (h | ⟨rfl,rfl,_⟩)
     · exact absurd h (hb x y)
     · exact .inr ⟨rfl,Int.le_refl _⟩
   | some v =>
     obtain ⟨f,t⟩:=v;obtain ⟨h1,h2⟩:=hb;have hx:Nz (some (f,t)) F T=true↔F<f∨(F=f∧T<t):=by
      show (decide (F<f) || (decide (F=f) && decide (T<t)))=true↔_;rw[Bool.or_eq_true,Bool.and_eq_true,decide_eq_true_iff,decide_eq_true_iff,decide_eq_true_iff]
     by_cases hc:F<f∨(F=f∧T<t)
     · rw[if_pos (by rw[ho,hx.2 hc];rfl)];refine ⟨.inr ⟨rfl,rfl,ho⟩,?_⟩;rintro x y (h | ⟨rfl,rfl,_⟩)
       · have:=h2 x y h;omega
       · exact .inr ⟨rfl,Int.le_refl _⟩
     · rw[if_neg (by rw[ho,Bool.true_and];exact fun h=>hc (hx.1 h))];refine ⟨.inl h1,?_⟩;rintro x y (h | ⟨rfl,rfl,_⟩)
       · exact h2 x y h
       · omega
 · rw[if_neg (by rw[show R F T=false by simpa using ho];simp)];exact (c8 (fun x y=>⟨fun h=>.inl h,fun h=>h.elim id fun h=>absurd h.2.2 ho⟩)).1 hb
theorem vh {P:Int→Int→Prop} {F:Int} {b:Option (Int×Int)} (hb:dZ P b):∀ k,dZ (fun x y=>P x y∨(x=F∧∃ j,j<k∧y=r (2*j+1)∧R F y=true)) (DJ R r F b k)
 | 0=>(c8 (fun x y=>⟨fun h=>.inl h,fun h=>h.elim id fun ⟨_,j,h,_⟩=>absurd h (Nat.not_lt_zero j)⟩)).1 hb
 | k + 1=>by
   have:=EC (R:=R) (F:=F) (T:=r (2*k+1)) (vh (F:=F) hb k);refine (c8 (fun x y=>?_)).1 this;constructor
   · rintro ((h | ⟨h1,j,h2,h3,h4⟩) | ⟨rfl,rfl,h3⟩)
     · exact .inl h
     · exact .inr ⟨h1,j,by omega,h3,h4⟩
     · exact .inr ⟨rfl,k,by omega,rfl,h3⟩
   · rintro (h | ⟨rfl,j,h2,rfl,h4⟩)
     · exact .inl (.inl h)
     · by_cases e:j=k
       · subst e;exact .inr ⟨rfl,rfl,h4⟩
       · exact .inl (.inr ⟨rfl,j,by omega,rfl,h4⟩)
theorem vf:∀ i,dZ (fun x y=>∃ j k,j<i∧k<U∧x=r (2*j)∧y=r (2*k+1)∧R x y=true) (xA R r U i)
 | 0=>fun F T ⟨j,_,h,_⟩=>absurd h (Nat.not_lt_zero j)
 | i + 1=>by
   refine (c8 (fun x y=>?_)).1 (vh (vf i) U);constructor
   · rintro (⟨j,k,h1,h2⟩ | ⟨rfl,k,h1,rfl,h2⟩)
     · exact ⟨j,k,by omega,h2⟩
     · exact ⟨i,k,by omega,h1,rfl,rfl,h2⟩
   · rintro ⟨j,k,h1,h2,rfl,rfl,h3⟩;by_cases e:j=i
     · subst e;exact .inr ⟨rfl,k,h2,rfl,h3⟩
     · exact .inl ⟨j,k,by omega,h2,rfl,rfl,h3⟩
end
theorem DV {P:Int→Int→Prop} {a b:Option (Int×Int)} (ha:dZ P a) (hb:dZ P b):a=b:=by
 cases a with
 | none=>cases b with
   | none=>rfl
   | some v=>exact absurd hb.1 (ha _ _)
 | some u=>cases b with
   | none=>exact absurd ha.1 (hb _ _)
   | some v =>
     obtain ⟨f,t⟩:=u
     obtain ⟨g,s⟩:=v
     have h1:=ha.2 g s hb.1
     have h2:=hb.2 f t ha.1
     have e1:f=g:=by omega
     have e2:t=s:=by omega
     rw[e1,e2]
theorem Bb {q r:Nat→Int} (F T:Int):∀ j,(∀ i,i<2*j→q i=r i)→cE q F T j=cE r F T j
 | 0,_=>rfl
 | j+1,h=>by
   unfold cE;have e:m9 q F T j=m9 r F T j:=by
    unfold m9;rw[h _ wO,h _ wO]
   rw[e,Bb F T j (fun i hi=>h i wO)]
noncomputable def lx (r:Nat→Int) (U:Nat) (F T:Int):Bool:=decide (uf U r F T (cE r F T U).length (aI (cE r F T U))=0)
theorem O1 {r:Nat→Int} {U:Nat} {F T:Int} (hF:-2000≤F∧F≤2000) (hT:-2000≤T∧T≤2000):lx r U F T=pB r U F T:=by
 have hm:=fun x=>mI r F T x U;have hi:=CC r F T U;unfold lx pB;generalize cE r F T U=M at *;have hel:∀ j,(hj:j<M.length)→∃ c,c<U∧aI M j=(c:Int)∧m9 r F T c=true:=fun j hj=>by
  obtain ⟨c,c1,c2,c3⟩:=(hm _).1 (List.getElem_mem hj);exact ⟨c,c1,by rw[Bj M j hj];exact c3,c2⟩
 have h3:¬ dz (ur U (aI M)) M.length=true:=by
  intro h;obtain ⟨j,hj,hx⟩:=(dI _ _).1 h;obtain ⟨c,c1,c2,c3⟩:=hel j hj;unfold ur Bg at hx;rw[c2,Bool.or_eq_true,decide_eq_true_iff,decide_eq_true_iff] at hx;rcases hx with hx | hx
  · split at hx
    · omega
    · have:=(List.pairwise_iff_getElem.1 hi) (j-1) j wO hj wO;rw[← Bj M j hj,← Bj M (j-1) wO,c2] at this;omega
  · omega
 have h14:¬ dz (vZ r F T (aI M)) M.length=true:=by
  intro h;obtain ⟨j,hj,hx⟩:=(dI _ _).1 h;obtain ⟨c,c1,c2,c3⟩:=hel j hj;unfold vZ at hx;unfold m9 at c3;rw[Bool.and_eq_true,decide_eq_true_iff,decide_eq_true_iff] at c3;rw[c2,Int.toNat_natCast,Bool.or_eq_true,decide_eq_true_iff,decide_eq_true_iff,Nat.mul_comm c 2] at hx;omega
 rw[Bool.eq_iff_iff,decide_eq_true_iff,Bool.and_eq_true,decide_eq_true_iff,decide_eq_true_iff];unfold uf;rw[if_neg h3];by_cases h0:M.length=0
 · rw[if_pos (.inr h0)];constructor
   · intro h;omega
   · rintro ⟨h,_⟩;omega
 · rw[if_neg wO];by_cases hc:(M.length:Int)≤T-F+1
   · rw[if_pos (.inr hc)];constructor
     · intro h;omega
     · rintro ⟨_,h⟩;omega
   · rw[if_neg (fun h=>h.elim h14 hc)];exact ⟨fun _=>⟨by omega,by omega⟩,fun _=>rfl⟩
section
variable {O:Int} {U:Nat} {Z:Nat→Int} {V:Nat} {J:Nat→Int}
theorem K9 (h0:c7 O U Z V J=0) (j:Nat) (hj:j<2*U):-1500≤dN U (fun c=>cZ J c V) (cj O U Z) j∧dN U (fun c=>cZ J c V) (cj O U Z) j≤1500:=by
 obtain ⟨h1,h2,h3,h4,h5,h6⟩:=pH h0;have:=pF (K:=1200) wO (fun i=>by
  unfold cj;by_cases h:i<2*U
  · rw[if_pos h];obtain ⟨v1,v2,v3,v4,v5,v6⟩:=He h4 (show i / 2<U by omega);have q1:=mC (a:=Z (i / 2*4+3)-Z (i / 2*4+1)) h3.1 (K:=1000) wO wO (by decide);have q2:=mC (a:=Z (i / 2*4)-Z (i / 2*4+2)) h3.1 (K:=1000) wO wO (by decide);split<;>omega
  · rw[if_neg h];omega) (B4 U (fun c=>cZ J c V) (cj O U Z)) (j / 2) wO
 rcases Nat.mod_two_eq_zero_or_one j with e | e
 · rw[show 2*(j / 2)=j by omega] at this;omega
 · rw[show 2*(j / 2)+1=j by omega] at this;omega
theorem Ny (h0:c7 O U Z V J=0):xA (lx (dN U (fun c=>cZ J c V) (cj O U Z)) U) (dN U (fun c=>cZ J c V) (cj O U Z)) U U=Ho O U Z V J:=by
 have hl:=(pH h0).1.2;have hb:=K9 h0;have h1:=vf (R:=lx (dN U (fun c=>cZ J c V) (cj O U Z)) U) (r:=dN U (fun c=>cZ J c V) (cj O U Z)) (U:=U) U;have h2:dZ (fun x y=>∃ j k,j<U∧k<U∧x=qB (dN U (fun c=>cZ J c V) (cj O U Z)) (2*j)∧y=qB (dN U (fun c=>cZ J c V) (cj O U Z)) (2*k+1)∧pB (qB (dN U (fun c=>cZ J c V) (cj O U Z))) U x y=true) (Ho O U Z V J):=by
  unfold Ho;rcases pd (qB (dN U (fun c=>cZ J c V) (cj O U Z))) U U with h1 | ⟨f,t,h1,h2⟩
  · exact h1
  · rw[h1];exact h2
 refine DV h1 ((c8 (fun x y=>?_)).1 h2);generalize dN U (fun c=>cZ J c V) (cj O U Z)=r at *;have hq:∀ i,i<2*U→qB r i=r i:=fun i hi=>tv r wO;have key:∀ j k,j<U→k<U→pB (qB r) U (r (2*j)) (r (2*k+1))=lx r U (r (2*j)) (r (2*k+1)):=fun j k hj hk=>by
  have b1:=hb (2*j) wO;have b2:=hb (2*k+1) wO;rw[O1 wO wO];unfold pB;rw[Bb _ _ U hq]
 constructor
 · rintro ⟨j,k,hj,hk,rfl,rfl,h⟩;rw[hq _ wO,hq _ wO] at h;rw[hq _ wO,hq _ wO];exact ⟨j,k,hj,hk,rfl,rfl,by rw[← key j k hj hk];exact h⟩
 · rintro ⟨j,k,hj,hk,rfl,rfl,h⟩;exact ⟨j,k,hj,hk,(hq _ wO).symm,(hq _ wO).symm,by rw[key j k hj hk];exact h⟩
end
end Go.Eng
end
