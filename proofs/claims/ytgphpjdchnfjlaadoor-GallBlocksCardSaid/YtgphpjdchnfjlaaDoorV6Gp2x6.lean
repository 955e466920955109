/- Gall: how many right orders there are, set by set (plain law). -/
import Derived.Test.YtgphpjdchnfjlaaDoorV6EngKtGx2
import Derived.Test.YtgphpjdchnfjlaaDoorV6EngOx6
import Derived.Sort.Row
import Derived.Sort.Grow
import Derived.Sort.OwnSortedInts
import Derived.Test.YtgphpjdchnfjlaaDoorV6EngXx4
import Derived.Test.YtgphpjdchnfjlaaDoorV6EngThx10
import Derived.ProofKit
set_option linter.unusedVariables false
set_option linter.unusedSimpArgs false
section
namespace Go.Eng.Gall
theorem xt {x i:Nat} (h:x.testBit i=false) (j:Nat):(x+2 ^ i).testBit j=(decide (j=i) || x.testBit j):=by
 rw[Nat.add_comm];rcases Nat.lt_trichotomy j i with c | c | c
 · rw[Nat.testBit_two_pow_add_gt c,decide_eq_false (by omega),Bool.false_or]
 · subst c;rw[Nat.testBit_two_pow_add_eq,h,decide_eq_true rfl];rfl
 · rw[decide_eq_false (by omega),Bool.false_or];obtain ⟨d,rfl⟩:∃ d,j=(i+1)+d:=⟨j-(i+1),by omega⟩
   have hm:=Nat.mod_pow_succ (x:=x) (b:=2) (k:=i);rw[Nat.testBit_eq_decide_div_mod_eq,decide_eq_false_iff_not] at h;have h1:x % 2 ^ i<2 ^ i:=Nat.mod_lt _ (Nat.two_pow_pos i);have h0:x / 2 ^ i % 2<2:=Nat.mod_lt _ (by decide);have h2:x % 2 ^ (i+1)=x % 2 ^ i:=by rw[hm,show x / 2 ^ i % 2=0 by omega,Nat.mul_zero,Nat.add_zero]
   have h3:(2 ^ i+x) / 2 ^ (i+1)=x / 2 ^ (i+1):=by
    have e:=Nat.div_add_mod x (2 ^ (i+1));have hp:2 ^ (i+1)=2*2 ^ i:=by rw[Nat.pow_succ];omega
    rw[show 2 ^ i+x=(x % 2 ^ (i+1)+2 ^ i)+2 ^ (i+1)*(x / 2 ^ (i+1)) by omega,Nat.add_mul_div_left _ _ (Nat.two_pow_pos _),Nat.div_eq_of_lt (by omega)];omega
   rw[Nat.add_comm (i+1) d,← Nat.testBit_div_two_pow,← Nat.testBit_div_two_pow,h3]
theorem Gw {x i:Nat} (h:x.testBit i=false):x ||| 2 ^ i=x+2 ^ i:=by
 apply Nat.eq_of_testBit_eq;intro j;rw[xt h,Nat.testBit_or,Nat.testBit_two_pow,Bool.or_comm];congr 1;by_cases e:i=j
 · subst e;rfl
 · rw[decide_eq_false e,decide_eq_false (fun h=>e h.symm)]
def mask:List Nat→Nat
 | []=>0
 | a::L=>mask L+2 ^ a
theorem o9 (L:List Nat) (c:Nat):mask (L++[c])=mask L+2 ^ c:=by
 induction L with
 | nil=>rfl
 | cons a L ih=>show mask (L++[c])+2 ^ a=mask L+2 ^ a+2 ^ c;rw[ih];omega
theorem eF:∀ {L:List Nat},L.Nodup→∀ c,(mask L).testBit c=decide (c ∈ L)
 | [],_,c=>by simp[mask]
 | a::L,h,c=>by
   rw[List.nodup_cons] at h;show (mask L+2 ^ a).testBit c=_;rw[xt (by rw[eF h.2];exact decide_eq_false h.1),eF h.2];by_cases e:c=a
   · subst e;simp
   · simp[e]
theorem Gf {L M:List Nat} (hL:L.Nodup) (hM:M.Nodup) (h:mask L=mask M):L.length=M.length:=by
 have key:∀ {L M:List Nat},L.Nodup→M.Nodup→mask L=mask M→∀ x ∈ L,x ∈ M:=fun {L M} hL hM h x hx=>by
  have:=eF hL x;rw[h,eF hM,decide_eq_true hx,decide_eq_true_iff] at this;exact this
 exact Nat.le_antisymm (fT hL (key hL hM h)) (fT hM (key hM hL h.symm))
section
variable (n:Nat) (ok:Nat→Nat→Nat→Bool)
def nx (j k X:Nat):List Nat:=(List.range j).filter fun c=>!X.testBit c && ok k X c
def ro:Nat→List (List Nat)
 | 0=>[[]]
 | k+1=>(ro k).flatMap fun L=>(nx ok n k (mask L)).map fun c=>L++[c]
def cF (k X:Nat):Nat:=(ro n ok k).countP fun L=>mask L == X
def cT (j k X Y:Nat):Nat:=(nx ok j k X).countP fun c=>X+2 ^ c == Y
variable {n ok}
theorem ma {j k X c:Nat}:c ∈ nx ok j k X↔c<j∧X.testBit c=false∧ok k X c=true:=by
 unfold nx;rw[List.mem_filter,List.mem_range,Bool.and_eq_true,Bool.not_eq_true']
theorem Gn (j k X:Nat):nx ok (j+1) k X=nx ok j k X++(if (!X.testBit j && ok k X j)=true then [j] else []):=by
 unfold nx;rw[List.range_succ,List.filter_append];congr 1;by_cases h:(!X.testBit j && ok k X j)=true
 · rw[if_pos h];simp only[List.filter_cons,h,if_true,List.filter_nil]
 · rw[if_neg h];simp only[List.filter_cons,h,if_false,List.filter_nil,Bool.false_eq_true]
theorem AL (j k X Y:Nat):cT ok (j+1) k X Y=cT ok j k X Y+(if (!X.testBit j && ok k X j)=true∧X+2 ^ j=Y then 1 else 0):=by
 unfold cT;rw[Gn,List.countP_append];congr 1;by_cases h:(!X.testBit j && ok k X j)=true
 · rw[if_pos h];by_cases e:X+2 ^ j=Y
   · rw[if_pos ⟨h,e⟩,List.countP_cons_of_pos (by simpa using e)];rfl
   · rw[if_neg (fun q=>e q.2),List.countP_cons_of_neg (by simpa using e)];rfl
 · rw[if_neg h,if_neg (fun q=>h q.1)];rfl
theorem Cc (j k X:Nat):cT ok j k X X=0:=by
 unfold cT;rw[List.countP_eq_zero];intro c _;have:=Nat.two_pow_pos c;simp only[beq_iff_eq];omega
theorem qg {k:Nat} {L:List Nat} (h:L ∈ ro n ok k):L.length=k∧L.Nodup∧∀ x ∈ L,x<n:=by
 induction k generalizing L with
 | zero =>
   simp only[ro,List.mem_singleton] at h;subst h;exact ⟨rfl,List.nodup_nil,fun x hx=>by cases hx⟩
 | succ k ih =>
   simp only[ro,List.mem_flatMap,List.mem_map] at h;obtain ⟨M,hM,c,hc,rfl⟩:=h;obtain ⟨h1,h2,h3⟩:=ih hM;obtain ⟨c1,c2,c3⟩:=ma.1 hc;rw[eF h2] at c2;have hcM:c ∉ M:=of_decide_eq_false c2;refine ⟨by rw[List.length_append,h1];rfl,List.nodup_append.2 ⟨h2,List.nodup_cons.2 ⟨List.not_mem_nil,List.nodup_nil⟩,fun x hx y hy e=>?_⟩,fun x hx=>?_⟩
   · rw[List.mem_singleton] at hy;subst hy;subst e;exact hcM hx
   · rcases List.mem_append.1 hx with hx | hx
     · exact h3 x hx
     · rw[List.mem_singleton] at hx;subst hx;exact c1
theorem lF {k X:Nat}:0<cF n ok k X↔∃ L ∈ ro n ok k,mask L=X:=by
 unfold cF;rw[List.countP_pos_iff];constructor
 · rintro ⟨L,h1,h2⟩;exact ⟨L,h1,by simpa using h2⟩
 · rintro ⟨L,h1,h2⟩;exact ⟨L,h1,by simpa using h2⟩
theorem Fl {j k X Y:Nat}:0<cT ok j k X Y↔∃ c,c<j∧X.testBit c=false∧ok k X c=true∧X+2 ^ c=Y:=by
 unfold cT;rw[List.countP_pos_iff];constructor
 · rintro ⟨c,h1,h2⟩;obtain ⟨a,b,d⟩:=ma.1 h1;exact ⟨c,a,b,d,by simpa using h2⟩
 · rintro ⟨c,a,b,d,e⟩;exact ⟨c,ma.2 ⟨a,b,d⟩,by simpa using e⟩
theorem zA {α:Type} (l:List α) (f g:α→Nat):(l.map fun x=>f x+g x).sum=(l.map f).sum+(l.map g).sum:=by
 induction l with
 | nil=>rfl
 | cons a l ih=>simp only[List.map_cons,List.sum_cons,ih];omega
theorem Jn (keys:List Nat) (hn:keys.Nodup) (t:Nat→Nat) (a:Nat) (ha:a ∈ keys):(keys.map fun x=>(if a=x then 1 else 0)*t x).sum=t a:=by
 induction keys with
 | nil=>cases ha
 | cons b keys ih =>
   rw[List.nodup_cons] at hn;rw[List.map_cons,List.sum_cons];by_cases e:a=b
   · subst e;have:(keys.map fun x=>(if a=x then 1 else 0)*t x).sum=0:=by
      have:∀ (l:List Nat),a ∉ l→(l.map fun x=>(if a=x then 1 else 0)*t x).sum=0:=by
       intro l;induction l with
       | nil=>intro _;rfl
       | cons d l ih =>
         intro h;rw[List.mem_cons,not_or] at h;rw[List.map_cons,List.sum_cons,ih h.2,if_neg h.1];omega
      exact this keys hn.1
     rw[this,if_pos rfl];omega
   · rw[if_neg e,ih hn.2 (by rcases List.mem_cons.1 ha with h | h;exact absurd h e;exact h)];omega
theorem vV (keys:List Nat) (hn:keys.Nodup) (t:Nat→Nat):∀ (l:List (List Nat)),(∀ L ∈ l,mask L ∈ keys)→(l.map fun L=>t (mask L)).sum=(keys.map fun x=>(l.countP fun L=>mask L == x)*t x).sum
 | [],_=>by
   show 0=_;induction keys with
   | nil=>rfl
   | cons a keys ih=>rw[List.map_cons,List.sum_cons,← ih (List.nodup_cons.1 hn).2 (fun L hL=>by cases hL)];simp
 | L::l,h=>by
   have ih:=vV keys hn t l (fun M hM=>h M (List.mem_cons_of_mem _ hM));rw[List.map_cons,List.sum_cons,ih,← Jn keys hn t (mask L) (h L List.mem_cons_self),← zA];congr 1;apply List.map_congr_left;intro x _;rw[← Nat.add_mul];congr 1;rw[List.countP_cons];by_cases e:mask L=x
   · rw[if_pos e,if_pos (by simpa using e)];omega
   · rw[if_neg e,if_neg (by simpa using e)];omega
theorem Ll (k Y:Nat):cF n ok (k+1) Y=((ro n ok k).map fun L=>cT ok n k (mask L) Y).sum:=by
 unfold cF;rw[ro,List.countP_flatMap];congr 1;apply List.map_congr_left;intro L _;show List.countP _ (List.map _ _)=_;rw[List.countP_map];unfold cT;congr 1;funext c;show (mask (L++[c]) == Y)=_;rw[o9]
theorem Ca (k Y:Nat) (keys:List Nat) (hn:keys.Nodup) (hk:∀ X,0<cF n ok k X→X ∈ keys):(keys.map fun x=>cF n ok k x*cT ok n k x Y).sum=cF n ok (k+1) Y:=by
 rw[Ll];exact (vV keys hn (fun X=>cT ok n k X Y) (ro n ok k) (fun L hL=>hk _ (lF.2 ⟨L,hL,rfl⟩))).symm
theorem Fk {k l X:Nat} (h1:0<cF n ok k X) (h2:0<cF n ok l X):k=l:=by
 obtain ⟨L,l1,l2⟩:=lF.1 h1;obtain ⟨M,m1,m2⟩:=lF.1 h2;have a:=qg l1;have b:=qg m1;have:=Gf a.2.1 b.2.1 (l2.trans m2.symm);omega
theorem Cd {k X Y:Nat} (h1:0<cF n ok k X) (h2:0<cT ok n k X Y):0<cF n ok (k+1) Y:=by
 obtain ⟨L,l1,l2⟩:=lF.1 h1;obtain ⟨c,a,b,d,e⟩:=Fl.1 h2;refine lF.2 ⟨L++[c],?_,by rw[o9,l2,e]⟩;rw[ro,List.mem_flatMap];exact ⟨L,l1,List.mem_map.2 ⟨c,ma.2 ⟨a,by rw[l2];exact b,by rw[l2];exact d⟩,rfl⟩⟩
theorem HO {k Y:Nat} (h:0<cF n ok (k+1) Y):∃ X,0<cF n ok k X∧0<cT ok n k X Y:=by
 obtain ⟨L,l1,l2⟩:=lF.1 h;rw[ro,List.mem_flatMap] at l1;obtain ⟨M,m1,m2⟩:=l1;obtain ⟨c,c1,rfl⟩:=List.mem_map.1 m2;obtain ⟨a,b,d⟩:=ma.1 c1;exact ⟨mask M,lF.2 ⟨M,m1,rfl⟩,Fl.2 ⟨c,a,b,d,by rw[← l2,o9]⟩⟩
theorem Fj {k X:Nat} (h:0<cF n ok k X):X<2 ^ n:=by
 obtain ⟨L,l1,l2⟩:=lF.1 h;obtain ⟨_,a,b⟩:=qg l1;subst l2;apply Nat.lt_pow_two_of_testBit;intro i hi;rw[eF a];exact decide_eq_false (fun hm=>by have:=b i hm;omega)
theorem GO (k:Nat):(ro n ok k).length≤n ^ k:=by
 induction k with
 | zero=>exact Nat.le_refl _
 | succ k ih =>
   rw[ro,List.length_flatMap];have:∀ l:List (List Nat),(l.map fun L=>((nx ok n k (mask L)).map fun c=>L++[c]).length).sum≤l.length*n:=by
    intro l;induction l with
    | nil=>exact Nat.zero_le _
    | cons L l ih =>
      rw[List.map_cons,List.sum_cons,List.length_cons,Nat.succ_mul,List.length_map];have:(nx ok n k (mask L)).length≤n:=by
       unfold nx;exact Nat.le_trans (List.length_filter_le _ _) (by rw[List.length_range];exact Nat.le_refl _)
      omega
   refine Nat.le_trans (this _) ?_;rw[Nat.pow_succ];exact Nat.mul_le_mul_right n ih
theorem JI (k X:Nat):cF n ok k X≤n ^ k:=Nat.le_trans List.countP_le_length (GO k)
theorem Lk:cF n ok n (2 ^ n-1)=(ro n ok n).length:=by
 unfold cF;rw[List.countP_eq_length];intro L hL;obtain ⟨h1,h2,h3⟩:=qg hL;rw[beq_iff_eq];apply Nat.eq_of_testBit_eq;intro i;rw[eF h2,Nat.testBit_two_pow_sub_one];by_cases hi:i<n
 · rw[decide_eq_true hi,decide_eq_true];apply Classical.byContradiction;intro hc;have:=fT (L:=i::L) (M:=List.range n) (List.nodup_cons.2 ⟨hc,h2⟩) (fun x hx=>by
    rcases List.mem_cons.1 hx with rfl | hx
    · simpa using hi
    · simpa using h3 x hx)
   rw[List.length_cons,List.length_range] at this;omega
 · rw[decide_eq_false hi,decide_eq_false (fun hm=>hi (h3 i hm))]
theorem Cb (X:Nat):cF n ok 0 X=if X=0 then 1 else 0:=by
 unfold cF;show List.countP _ [[]]=_;by_cases h:X=0
 · subst h;rfl
 · rw[if_neg h,List.countP_cons_of_neg (by simpa[mask] using fun e:0=X=>h e.symm)];rfl
def hD (n:Nat) (ok:Nat→Nat→Nat→Bool) (k:Nat) (L:List Nat) (Y:Nat):Bool:=(!decide (Y ∈ L) && decide (0<cF n ok k Y)) || L.any fun x=>decide (0<cT ok n k x Y)
def gD (n:Nat) (ok:Nat→Nat→Nat→Bool) (k:Nat) (L:List Nat) (Y:Nat):Nat:=if Y ∈ L then 0 else cF n ok k Y+(L.map fun x=>cF n ok k x*cT ok n k x Y).sum
theorem AK {k X Y:Nat} (hX:0<cF n ok k X) (hY:0<cF n ok k Y):cT ok n k X Y=0:=by
 apply Classical.byContradiction;intro hc;have:=Fk hY (Cd hX (by omega));omega
theorem G5 {α:Type} (l:List α) (f:α→Nat) (h:∀ x ∈ l,f x=0):(l.map f).sum=0:=by
 induction l with
 | nil=>rfl
 | cons a l ih=>rw[List.map_cons,List.sum_cons,h a List.mem_cons_self,ih (fun x hx=>h x (List.mem_cons_of_mem _ hx))]
theorem FR {k:Nat} {L:List Nat} (hL:∀ x ∈ L,0<cF n ok k x) {X:Nat} (hX:0<cF n ok k X) (hn:X ∉ L):gD n ok k L X=cF n ok k X:=by
 unfold gD;rw[if_neg hn,G5 _ _ (fun x hx=>by rw[AK (hL x hx) hX];omega)];omega
theorem Ie {k:Nat} {L:List Nat} (hL:∀ x ∈ L,0<cF n ok k x) {X:Nat} (hX:0<cF n ok k X) (Y:Nat):(!decide (Y=X) && (hD n ok k L Y || decide (0<cT ok n k X Y)))=hD n ok k (L++[X]) Y:=by
 unfold hD;rw[List.any_append];simp only[List.any_cons,List.any_nil,Bool.or_false];by_cases e:Y=X
 · subst e;have h1:(L.any fun x=>decide (0<cT ok n k x Y))=false:=by
    rw[List.any_eq_false];intro x hx;rw[AK (hL x hx) hX];simp
   rw[h1,Cc];simp
 · simp[e,Bool.or_assoc]
theorem Ic {k:Nat} {L:List Nat} (hL:∀ x ∈ L,0<cF n ok k x) {X:Nat} (hX:0<cF n ok k X) (hn:X ∉ L) (Y:Nat):(if Y=X then 0 else gD n ok k L Y+gD n ok k L X*cT ok n k X Y)=gD n ok k (L++[X]) Y:=by
 rw[FR hL hX hn];unfold gD;by_cases e:Y=X
 · subst e;rw[if_pos rfl,if_pos (by simp)]
 · rw[if_neg e];by_cases m:Y ∈ L
   · rw[if_pos m,if_pos (by simp[m]),AK hX (hL Y m)];omega
   · rw[if_neg m,if_neg (by simp[m,e]),List.map_append,List.sum_append];simp only[List.map_cons,List.map_nil,List.sum_cons,List.sum_nil];omega
theorem LJ {k:Nat} {L:List Nat} (hL:∀ x,x ∈ L↔0<cF n ok k x) (Y:Nat):hD n ok k L Y=decide (0<cF n ok (k+1) Y):=by
 unfold hD;have h1:(!decide (Y ∈ L) && decide (0<cF n ok k Y))=false:=by
  by_cases m:Y ∈ L
  · rw[decide_eq_true m];rfl
  · rw[decide_eq_false (fun h=>m ((hL Y).2 h))];simp
 rw[h1,Bool.false_or];by_cases h:0<cF n ok (k+1) Y
 · rw[decide_eq_true h,List.any_eq_true];obtain ⟨X,a,b⟩:=HO h;exact ⟨X,(hL X).2 a,decide_eq_true b⟩
 · rw[decide_eq_false h,List.any_eq_false];intro x hx hc;exact h (Cd ((hL x).1 hx) (of_decide_eq_true hc))
theorem LF {k:Nat} {L:List Nat} (hn:L.Nodup) (hL:∀ x,x ∈ L↔0<cF n ok k x) (Y:Nat):gD n ok k L Y=cF n ok (k+1) Y:=by
 have e:=Ca k Y L hn (fun X h=>(hL X).2 h);unfold gD;rw[e];by_cases m:Y ∈ L
 · rw[if_pos m];apply Classical.byContradiction;intro hc;have:=Fk ((hL Y).1 m) (show 0<cF n ok (k+1) Y by omega);omega
 · rw[if_neg m];have:¬ 0<cF n ok k Y:=fun h=>m ((hL Y).2 h);omega
theorem N6 {k:Nat} {L:List Nat} (hn:L.Nodup) (hL:∀ x ∈ L,0<cF n ok k x) {X:Nat} (hX:0<cF n ok k X) (hXL:X ∉ L) (j Y:Nat) (hj:j≤n):gD n ok k L Y+gD n ok k L X*cT ok j k X Y≤cF n ok k Y+cF n ok (k+1) Y:=by
 rw[FR hL hX hXL];have hsub:∀ M:List Nat,M.Nodup→(∀ x ∈ M,0<cF n ok k x)→(M.map fun x=>cF n ok k x*cT ok n k x Y).sum≤cF n ok (k+1) Y:=by
  intro M hM hk;have e:=Ca (n:=n) (ok:=ok) k Y (M++((List.range (2 ^ n)).filter fun x=>!decide (x ∈ M))) (List.nodup_append.2 ⟨hM,List.Pairwise.filter _ List.nodup_range,fun x hx y hy e=>by
   subst e;simp only[List.mem_filter,Bool.not_eq_true',decide_eq_false_iff_not] at hy;exact hy.2 hx⟩) (fun X h=>by
    by_cases m:X ∈ M
    · exact List.mem_append_left _ m
    · exact List.mem_append_right _ (List.mem_filter.2 ⟨List.mem_range.2 (Fj h),by simpa using m⟩))
  rw[← e,List.map_append,List.sum_append];omega
 have h1:cT ok j k X Y≤cT ok n k X Y:=by
  have:∀ d,cT ok j k X Y≤cT ok (j+d) k X Y:=by
   intro d;induction d with
   | zero=>exact Nat.le_refl _
   | succ d ih=>rw[show j+(d+1)=j+d+1 by omega,AL];omega
  have:=this (n-j);rwa [show j+(n-j)=n by omega] at this
 have h2:=hsub (L++[X]) (List.nodup_append.2 ⟨hn,List.nodup_cons.2 ⟨List.not_mem_nil,List.nodup_nil⟩,fun x hx y hy e=>by
  rw[List.mem_singleton] at hy;subst hy;subst e;exact hXL hx⟩) (fun x hx=>by
   rcases List.mem_append.1 hx with h | h
   · exact hL x h
   · rw[List.mem_singleton] at h;subst h;exact hX)
 rw[List.map_append,List.sum_append] at h2;simp only[List.map_cons,List.map_nil,List.sum_cons,List.sum_nil] at h2;have h3:cF n ok k X*cT ok j k X Y≤cF n ok k X*cT ok n k X Y:=Nat.mul_le_mul_left _ h1;unfold gD;split<;>omega
end
end Go.Eng.Gall
end
section
namespace Go.Eng
open Go.Sort

noncomputable def J4 (g:List Int→List Int) (z:Nat→Int) (off len:Nat):Nat→Int:=fun x=>if off≤x∧x<off+len then (g ((List.range len).map fun q=>z (off+q))).getD (x-off) 0 else z x
noncomputable def Mw (g:List Int→List Int) (args:List AV) (H:ab):Option (AV×ab) :=
 match args with
 | [.slc d i ver off 1 len cap]=>match dg H d i ver with
   | some (.M [.arr .i64 z n])=>if aL H d=false∧0<len∧len<4611686018427387904∧off+len≤n then some (.tup [],eh H d i (ver,.row (.M [.arr .i64 (J4 g z off len) n]))) else none
   | _=>none
 | _=>none
def Jz (P:Program) (f:FuncId) (g:List Int→List Int):Prop:=(∃ fn,P.funcs[f]?=some fn∧fn.body.isNone=false)∧(∀ L,(g L).length=L.length) ∧
 ∀ (blk off cap:Nat) (zs:List Int) (w:World),Holds (Value.int .i64) w blk off zs.toArray→blk<w.heap.size→zs.length<4611686018427387904 →
  Calls P f #[.slice (some ⟨blk,off,none⟩) zs.length cap] w fun e w'=>e=.returned (.tuple #[])∧∃ n os,w'=grow (putRow (Value.int .i64) (Sort.ahead w n) blk off (g zs).toArray) os
theorem I6 {P:Program} {f:FuncId} {g:List Int→List Int} (hS:Jz P f g) {args:List AV} {H:ab} {v:AV} {H':ab} (h:Mw g args H=some (v,H')) (hne:H≠[])
 {p:aF} {M:Mu} {w:World} {cargs:Array Value} (hH:bj p M H w) (hA:eH p M args cargs):(∃ fn,P.funcs[f]?=some fn∧fn.body.isNone=false)∧CallsIn Fence.wide 0 P f cargs w (eP p M H w v H'):=by
 obtain ⟨hfn,hlen,hcall⟩:=hS
 refine ⟨hfn,callsIn_wide.2 ?_⟩
 unfold Mw at h
 split at h
 case h_2=>simp at h
 rename_i d i ver off len cap
 split at h
 case h_2=>simp at h
 rename_i z n hq
 split at h
 case isFalse=>simp at h
 rename_i hc
 obtain ⟨hl,hpos,hsz,hoff⟩:=hc
 simp only[nP] at h
 obtain ⟨rfl,rfl⟩:=h
 have hg:=dL hq
 obtain ⟨b,o,t,hm,⟨c,e,hb,hct,hot,hr⟩,_⟩:=hH.live d i ver (.row (.M [.arr .i64 z n])) hg (by simp)
 have hn:Row.len (.M [.arr .i64 z n])=n:=by simp[Row.len,ay,aP]
 rw[hn] at hot
 have hgetM:∀ (y:Nat→Int) (j:Nat),j<n→Row.get (.M [.arr .i64 y n]) j=.int .i64 (y j):=fun y j hj=>by
  show getM [.arr .i64 y n] j=_;simp only[getM];rw[if_pos hj]
 have hcell:∀ j,j<n→c.getD (o+j) undef=.int .i64 (z j):=fun j hj=>by
  have:=hr.get j (by rw[hn];exact hj);rw[hgetM z j hj] at this;exact this.ofInt
 have hblt:b<w.heap.size:=(Array.getElem?_eq_some_iff.1 hb).1
 have hsize:cargs.size=1:=hA.1
 have hv:=hA.2 0 (by simp)
 have hd:cargs=#[cargs.getD 0 undef]:=by
  apply Array.ext
  · simpa using hsize
  · intro j h1 h2;have:j=0:=by omega
    subst this;simp[Array.getD,hsize]
 generalize cargs.getD 0 undef=cv at hv hd
 subst hd
 have hv:al p M (.slc d i ver off 1 len cap) cv:=hv
 cases hv with
 | slc hm2 hl2 hc2 hn2 hx2 =>
   rename_i b2 o2 t2 x cc
   rw[hm] at hm2
   simp only[nP] at hm2
   obtain ⟨rfl,rfl,rfl⟩:=hm2
   have hx:x=o+off:=by
    rcases hx2 with h0 | h0
    · omega
    · exact h0
   subst hx
   have hzl:((List.range len).map fun q=>z (off+q)).length=len:=by simp
   generalize hzs:((List.range len).map fun q=>z (off+q))=zs at hzl
   have hz:∀ j,(hj:j<zs.length)→zs[j]=z (off+j):=fun j hj=>by
    subst hzs;simp
   have hsz2:zs.length<4611686018427387904:=by rw[hzl];exact hsz
   have hh:Holds (Value.int .i64) w b (o+off) zs.toArray:=by
    intro j hj;have hj':j<zs.length:=by simpa using hj
    have h1:=hcell (off+j) wO;have hcs:o+off+j<c.size:=by omega
    refine ⟨?_,by simp[World.frozen?,hb]⟩;simp only[World.cell?,hb];simp only[Option.isSome_none,Bool.false_eq_true,if_false];rw[show o+(off+j)=o+off+j by omega] at h1;have h2:c[o+off+j]?=some (.int .i64 (z (off+j))):=by
     rw[Array.getElem?_eq_getElem hcs];simp only[Array.getD,hcs,dif_pos] at h1;simpa using h1
    rw[h2];simp[hj',hz j hj']
   rw[← hzl]
   refine (hcall b (o+off) cc zs w hh hblt hsz2).mono ?_
   rintro en w' ⟨rfl,nn,os,rfl⟩
   rw[hzl]
   have hgl:=hlen zs
   have hb':(grow (putRow (Value.int .i64) (Sort.ahead w nn) b (o+off) (g zs).toArray) os).heap[b]?=some (.cells (putCells (Value.int .i64) (o+off) (g zs).toArray c) e (0,0)):=by
    rw[heap_grow_old _ _ (by simpa[putRow,mapBlock,Sort.ahead] using hblt)];simp[putRow,mapBlock,Sort.ahead,Array.getElem?_modify,hb,onCells]
   have st:dx (fun x=>x≠b) w (grow (putRow (Value.int .i64) (Sort.ahead w nn) b (o+off) (g zs).toArray) os):=by
    refine ⟨rfl,rfl,rfl,?_,fun k hk hne=>?_⟩
    · simp[grow,putRow,mapBlock,Sort.ahead]
    · rw[heap_grow_old _ _ (by simpa[putRow,mapBlock,Sort.ahead] using hk)];simp[putRow,mapBlock,Sort.ahead,Array.getElem?_modify];intro h;exact absurd h.symm hne
   have hrel:fB p (M.up d) (.row (.M [.arr .i64 (J4 g z off len) n])) b o t (grow (putRow (Value.int .i64) (Sort.ahead w nn) b (o+off) (g zs).toArray) os):=by
    have hn':Row.len (.M [.arr .i64 (J4 g z off len) n])=n:=by simp[Row.len,ay,aP]
    refine ⟨_,e,hb',by simp[putCells,hct],by rw[hn'];exact hot,fun j hj=>?_⟩;rw[hn'] at hj;have hcs:o+j<c.size:=by omega
    have key:(putCells (Value.int .i64) (o+off) (g zs).toArray c).getD (o+j) undef=.int .i64 (J4 g z off len j):=by
     have h1:=hcell j hj;simp only[Array.getD,hcs,dif_pos] at h1;simp only[Array.getD,putCells,Array.size_mapIdx,hcs,dif_pos,Array.getInternal_eq_getElem,Array.getElem_mapIdx];unfold J4;rw[hzs];have hs3:(g zs).toArray.size=len:=by simp[hgl,hzl]
     by_cases hin:off≤j∧j<off+len
     · rw[if_pos (by rw[hs3];omega),if_pos hin];have e1:o+j-(o+off)=j-off:=by omega
       rw[e1];have hlt:j-off<(g zs).length:=by omega
       simp[List.getD_eq_getElem?_getD,hlt]
     · rw[if_neg (by rw[hs3];omega),if_neg hin];simpa using h1
    refine ⟨?_,by show ((putCells (Value.int .i64) (o+off) (g zs).toArray c).getD (o+j) undef).oneCell'=true;rw[key];rfl⟩;show al p (jc (M.up d) (.M [.arr .i64 (J4 g z off len) n])) (Row.get (.M [.arr .i64 (J4 g z off len) n]) j) ((putCells (Value.int .i64) (o+off) (g zs).toArray c).getD (o+j) undef);rw[key,hgetM _ j hj];exact .int _ _
   obtain ⟨p',M',hE,hvt⟩:=rj (v:=.tup []) (δ:=.set d i (ver,.row (.M [.arr .i64 (J4 g z off len) n]))) (cv:=.tuple #[]) hne hH ⟨ver,_,b,o,t,b,o,t,hg,by simp,hl,hm,by simp,hrel,st,.inl rfl,.tup rfl (fun j hj=>absurd hj (by simp)),.inl ⟨rfl,rfl,rfl,rfl⟩⟩
   refine ⟨_,rfl,⟨fun d' i' hl'=>?_,fun d' _=>cH _ _ _ _ _⟩,p',M',hE,hvt⟩
   rw[dW,if_neg]
   rintro ⟨rfl,_,_⟩
   rw[hl] at hl';cases hl'
end Go.Eng
end
section
namespace Go.Eng
def Ia:AV→AV
 | .int k n=>.int k n
 | .bool b=>.bool b
 | _=>.undef
theorem xW {p q:aF} {M N:Mu} {v:AV} {c:Value} (h:al p M v c):al q N (Ia v) c:=by
 unfold Ia;split
 · exact h.bp _ _
 · cases h;exact .bool _
 · exact .undef _
def Ib:AV→AV
 | .int k n=>.int k n
 | .bool b=>.bool b
 | .agg (.I k l)=>.agg (.I k l)
 | .agg (.M l)=>.agg (.M (mapM' Ia l))
 | .agg (.G l)=>.agg (.G (l.map Ia))
 | _=>.undef
def PS:AV→AV
 | .tup l=>.tup (l.map Ib)
 | v=>Ib v
theorem xX {p q:aF} {M N:Mu} {v:AV} {c:Value} (h:al p M v c):al q N (Ib v) c:=by
 unfold Ib;split
 · exact h.bp _ _
 · cases h;exact .bool _
 · cases h with
   | agg hs h1 hv=>exact .agg hs h1 (fun j hj=>(hv j hj).bp _ _)
 · rename_i l;cases h with
   | agg hs h1 hv =>
     refine .agg (by simpa[Row.len,aU] using hs) (fun j hj=>h1 j (by simpa[Row.len,aU] using hj)) (fun j hj=>?_);have hj':j<ay l:=by simpa[Row.len,aU] using hj
     exact l6 hj' (hv j hj') xW
 · rename_i l;cases h with
   | agg hs h1 hv =>
     refine .agg (by simpa[Row.len] using hs) (fun j hj=>h1 j (by simpa[Row.len] using hj)) (fun j hj=>?_);have hj':j<l.length:=by simpa[Row.len] using hj
     have:=xW (q:=q) (N:=N) (hv j hj');simpa[Row.get,jc,List.getD_eq_getElem?_getD,hj'] using this
 · exact .undef _
theorem Co {p q:aF} {M N:Mu} {v:AV} {c:Value} (h:al p M v c):al q N (PS v) c:=by
 unfold PS;split
 · cases h with
   | tup hs hv =>
     rename_i l cs;refine .tup (by simpa using hs) (fun j hj=>?_);have hj':j<l.length:=by simpa using hj
     have:=xX (q:=q) (N:=N) (hv j hj');simpa[List.getD_eq_getElem?_getD,hj'] using this
 · exact xX h
def BC:List db→Bool
 | []=>true
 | .one v::r=>uh 9 v && BC r
 | .arr _ _ _::r=>BC r
def Mx:Row→Bool
 | .I ..=>true
 | .G l=>l.all (uh 9)
 | .F ..=>true
 | .M l=>BC l
theorem tH {p:aF} {M N:Mu}:∀ (l:List db),BC l=true→∀ j,j<ay l→∀ c,al p M (getM l j) c→al p N (getM l j) c
 | [],_,j,hj,c,_=>by simp[ay] at hj
 | .one v::r,h,0,hj,c,hv=>by
   simp only[BC,Bool.and_eq_true] at h;exact pc 9 h.1 hv
 | .one v::r,h,j+1,hj,c,hv=>by
   simp only[BC,Bool.and_eq_true] at h;simp only[getM] at hv ⊢;exact tH r h.2 j (by simp only[ay,aP] at hj;omega) c hv
 | .arr k z n::r,h,j,hj,c,hv=>by
   simp only[BC] at h;simp only[getM] at hv ⊢;split
   · rename_i e;rw[if_pos e] at hv;exact hv.bp _ _
   · rename_i e;rw[if_neg e] at hv;exact tH r h (j-n) (by simp only[ay,aP] at hj;omega) c hv
theorem zj {p:aF} {M N:Mu} {r:Row} (h:Mx r=true) {vs:Nat→Value} (hr:bg p M r vs):bg p N r vs:=by
 intro j hj;refine ⟨?_,(hr j hj).2⟩;have h0:=(hr j hj).1;cases r with
 | I k l=>exact h0.bp _ _
 | G l=>exact pc 9 (gy (f:=uh 9) h hj) h0
 | F f n=>exact h0
 | M l=>exact tH l h j hj _ h0
noncomputable def SB (call:aK) (f:FuncId) (args:List AV) (H:ab):Option (AV×ab) :=
 match args with
 | .ptr d i ver off::rest=>match dg H d i ver with
   | some r=>if (Mx r && rest.all (uh 9))=true then (match call (.fn f) (.ptrT none r off::rest) [⟨true,[]⟩] with
     | some (v,_)=>some (PS v,H)
     | none=>none) else none
   | none=>none
 | _=>none
theorem Mr {P:Program} {call:aK} (hC:b9 P call) {f:FuncId} {args:List AV} {H:ab} {v:AV} {H':ab} (h:SB call f args H=some (v,H')) {p:aF} {M:Mu} {w:World} {cargs:Array Value} (hH:bj p M H w) (hA:eH p M args cargs) :
 (∃ fn,P.funcs[f]?=some fn∧fn.body.isNone=false)∧CallsIn Fence.wide 0 P f cargs w (eP p M H w v H'):=by
 unfold SB at h
 split at h
 case h_2=>simp at h
 rename_i d i ver off rest
 split at h
 case h_2=>simp at h
 rename_i r hr
 split at h
 case isFalse=>simp at h
 rename_i hc
 rw[Bool.and_eq_true] at hc
 split at h
 case h_2=>simp at h
 rename_i u H2 hcall
 simp only[nP] at h
 obtain ⟨rfl,rfl⟩:=h
 have hg:=dL hr
 obtain ⟨b,o,t,hm,hb,hno⟩:=hH.live d i ver (.row r) hg (by simp)
 obtain ⟨vs,v1,v2⟩:=mh hb
 have hle:aF.le p (lT p b o r.len vs):=by
  intro b' o' v hv;rw[fR hno,if_neg]
  · exact hv
  · rintro ⟨rfl,_⟩;rw[hno] at hv;cases hv
 have hH0:bj (lT p b o r.len vs) Mu.no [⟨true,[]⟩] w:=⟨fun b' o' v hp=>by
  rw[fR hno] at hp;split at hp
  · rename_i he;obtain ⟨rfl,h1,h2⟩:=he;rw[← hp];have:=v2 (o'-o) wO;rw[show o+(o'-o)=o' by omega] at this;exact this
  · exact hH.pers _ _ _ hp,(fun d i v B hg hB=>by
  cases d<;>simp[az,au] at hg<;>exact absurd hg.2.symm hB),(fun d i v B d' i' v' B' b o t o' t' hg hB hg' hB' hm hm'=>by cases hm),(fun d i v t hm=>by cases hm)⟩
 have hA0:eH (lT p b o r.len vs) Mu.no (.ptrT none r off::rest) cargs:=⟨hA.1,fun j hj=>by
  cases j with
  | zero =>
    have h0:al p M (.ptr d i ver off) (cargs.getD 0 undef):=hA.2 0 (by simp);generalize cargs.getD 0 undef=cv at h0;cases h0 with
    | ptr h0 =>
      rename_i b2 o2 t2;rw[hm] at h0;simp only[nP] at h0;obtain ⟨rfl,rfl,rfl⟩:=h0;refine .ptrT vs (fun j hj=>?_) (fun j hj=>(v1 j hj).2) (fun j hj=>?_)
      · rw[fR hno,if_pos ⟨rfl,by omega,by omega⟩];congr 2;omega
      · exact (zj (N:=Mu.no) hc.1 v1).get j hj |>.mono hle (Mu.le.refl _) |> fun h=>by
         cases r<;>exact h
  | succ j =>
    have h1:=hA.2 (j+1) hj;exact (pc 9 (gy hc.2 (by simpa using hj)) h1).mono hle (Mu.le.refl _)⟩
 obtain ⟨h1,h2⟩:=hC (.fn f) _ _ u H2 hcall (by simp) _ Mu.no w cargs hH0 hA0
 refine ⟨h1,h2.mono ?_⟩
 rintro en w' ⟨cv,rfl,st,p',M',hE,hv⟩
 have all:∀ b,Go.Eng.bA Mu.no [⟨true,[]⟩] b:=fun b d i u B _ _ _ o t hm=>by cases hm
 refine ⟨cv,rfl,Still.refl H,p,M,{ cC.refl hH with rel:=⟨fun b' o' v hp=>hE.rel.pers b' o' v (hE.pst _ _ _ (hle _ _ _ hp)),?_,hH.apart,hH.dom⟩,stay:=hE.stay.weaken (fun b _ _=>all b) },Co hv⟩
 intro d i u B hg hB
 obtain ⟨b,o,t,k1,k2,k3⟩:=hH.live d i u B hg hB
 exact ⟨b,o,t,k1,k2.mono (aF.le.refl _) (Mu.le.refl _) (hE.stay.block b (k2.lt hB) (all b)),k3⟩
noncomputable def Nh:AV→AV
 | .ptrT (some k) r off=>if Mx r=true then .ptrT none r off else .ptrT (some k) r off
 | v=>v
theorem Jq {p:aF} {M:Mu} {v:AV} {c:Value} (h:al p M v c):al p M (Nh v) c:=by
 unfold Nh;split
 · rename_i k r off;split
   · rename_i hr;cases h with
     | ptrT vs hp h1 hv =>
       refine .ptrT vs hp h1 (fun j hj=>?_);have:bg p (M.up k) r vs:=fun j hj=>⟨hv j hj,h1 j hj⟩
       exact (zj (N:=Mu.no) hr this j hj).1
   · exact h
 · exact h
noncomputable def PW (c:Option (AV×ab)):Option (AV×ab) :=
 match c with
 | some (v,H)=>some (Nh v,H)
 | none=>none
theorem eP.Nh {p:aF} {M:Mu} {H H':ab} {w:World} {v:AV} {e:Ending} {w':World} (h:eP p M H w v H' e w'):eP p M H w (Go.Eng.Nh v) H' e w':=by
 obtain ⟨cv,h1,st,p',M',hE,hv⟩:=h;exact ⟨cv,h1,st,p',M',hE,Jq hv⟩
end Go.Eng
end
section
namespace Go.Eng
theorem D2 {P:Program} {f:FuncId} {fn:Func} {c:Code} (hf:P.funcs[f]?=some fn) (hb:fn.body=some c) {args:List AV} (hle:args.length≤fn.ntmps) {H:ab} {e:Ex} {fr:aA} {l:bJ} {H':ab} (he:e=.normal∨e=.ret) {v0 v2:AV}
 {j ver off sz len:Nat} {cap:Option Nat} {q:Row} (hv:hJ P fr (l::H') fn.results.toList=some [.agg (.G [v0,.slc 0 j ver off sz len cap,v2])]) (hq:dg (l::H') 0 j ver=some q) (hl0:l.lock=false) (hl1:aL H' 0=false) (hne:H'≠[])
 (hC:dQ P Fence.wide none fn.ntmps c (fH 0 args) (⟨false,[]⟩::H) e fr (l::H')) {p:aF} {M:Mu} {w:World} {cargs:Array Value} (hH:bj p M H w) (hA:eH p M args cargs) :
 CallsIn Fence.wide 0 P f cargs w (eP p M H w (dE (bQ l.bs j ((az (l::H') 0 j).1,.dead)) 5 (.agg (.G [v0,.slc 1 (ao H' 0) 0 off sz len cap,v2]))) (bz H' 0 (.row (jd 1 q)))):=by
 refine callsIn_of_wp_marks hf hb trivial (hC w.heap.size p (dj M) _ w _ (rV hA hle) hH.down (by simp) rfl (Marks.nil _ _ _) (fun a' w' ⟨p',M',k1,k2,k3⟩=>?_)) rfl
 have main:LeavesInM Fence.wide 0 P fn a'.tmps (eP p M H w (dE (bQ l.bs j ((az (l::H') 0 j).1,.dead)) 5 (.agg (.G [v0,.slc 1 (ao H' 0) 0 off sz len cap,v2]))) (bz H' 0 (.row (jd 1 q)))) a'.defers .returning w':=by
  obtain ⟨rs,h1,h2,_,h3⟩:=k3;rw[h1];refine kG (p:=p) (M:=dj M) (H:=⟨false,[]⟩::H) (w:=w) (p':=p') (M':=M') (H':=l::H') (fun w2 hE=>?_) rs w' h2 (fun r hr=>⟨(h3 r hr).1,(h3 r hr).2.2⟩) k1;obtain ⟨cv,r1,r2⟩:=mf k2 hE.rel hv;have r2':al p' M' (.agg (.G [v0,.slc 0 j ver off sz len cap,v2])) cv:=r2;cases r2' with
  | agg hs h1c hvv =>
    rename_i cs;have e0:=hvv 0 (by simp[Row.len]);have e1:=hvv 1 (by simp[Row.len]);have e2:=hvv 2 (by simp[Row.len]);simp only[Row.get,List.getD_cons_zero,List.getD_cons_succ] at e0 e1 e2;have e0:al p' M' v0 _:=e0;have e1:al p' M' (.slc 0 j ver off sz len cap) _:=e1;have e2:al p' M' v2 _:=e2;generalize hc1:cs.getD 1 undef=c1 at e1;cases e1 with
    | slc hm h5 h6 h7 h8 =>
      rename_i b o t x cc;have mv:=hE.rel.move (d:=1) hq hm hl0 hl1 (by
       cases H' with
       | nil=>exact absurd rfl hne
       | cons y r=>simp) wO
      have hE2:=hE.trans mv;have hk:bz (ev (l::H') 0 j) 1 (.row (jd 1 q))=(⟨l.lock,(bQ l.bs j ((az (l::H') 0 j).1,.dead))⟩:bJ)::bz H' 0 (.row (jd 1 q)):=rfl;rw[hk] at hE2;refine ⟨_,r1,_,rfl,⟨fun d i hl=>hE2.same (d+1) i wO hl,fun d hl=>hE2.next (d+1) wO hl⟩,_,_,hE2.pop,?_⟩;have:=wu hE2.rel 5 (.agg (.G [v0,.slc 1 (ao H' 0) 0 off sz len cap,v2])) (.agg cs) (.agg (by simpa[Row.len] using hs) (fun j2 hj2=>h1c j2 (by simpa[Row.len] using hj2)) (fun j2 hj2=>by
       have h01:j2=0∨j2=1∨j2=2:=by simp[Row.len] at hj2;omega
       rcases h01 with rfl | rfl | rfl
       · show al _ _ v0 _;exact e0.mono (aF.le.refl _) mv.mu
       · show al _ _ (.slc 1 (ao H' 0) 0 off sz len cap) _;rw[hc1];refine .slc (b:=b) (o:=o) (t:=t) ?_ h5 h6 h7 h8;show br M' 1 (ao (l::H') 1) 0 (b,o,t) 1 (ao H' 0) 0=some (b,o,t);unfold br;exact if_pos ⟨rfl,rfl,rfl⟩
       · show al _ _ v2 _;exact e2.mono (aF.le.refl _) mv.mu))
      exact this
 rcases he with rfl | rfl
 · exact main
 · exact main
noncomputable def Bt (P:Program) (KT:FuncId→Nat→Nat) (fu:Nat) (f:FuncId) (call:aK) (args:List AV) (H:ab):Option (AV×ab) :=
 match P.funcs[f]? with
 | none=>none
 | some fn => match fn.body with
   | none=>none
   | some c=>if Nat.ble args.length fn.ntmps then
     match oM ⟨P,call,fu,f,fn.ntmps,KT f,none⟩ c (fH 0 args) (⟨false,[]⟩::H) with
     | some (e,fr,l::l1::H')=>(match e with
       | .normal | .ret=>match hJ P fr (l::l1::H') fn.results.toList with
         | some [.agg (.G [v0,.slc 0 j ver off sz len cap,v2])]=>match dg (l::l1::H') 0 j ver with
           | some q=>if l.lock || l1.lock then none else some (dE (bQ l.bs j ((az (l::l1::H') 0 j).1,.dead)) 5 (.agg (.G [v0,.slc 1 l1.bs.length 0 off sz len cap,v2])),bz (l1::H') 0 (.row (jd 1 q)))
           | none=>none
         | _=>none
       | _=>none)
     | _=>none
     else none
theorem Eh {P:Program} (hN:dG P) (hD:gb P) {f:FuncId} (KT:FuncId→Nat→Nat) (fu:Nat) {call:aK} (hC:b9 P call) {args:List AV} {H:ab} {v:AV} {H':ab} (h:Bt P KT fu f call args H=some (v,H'))
 {p:aF} {M:Mu} {w:World} {cargs:Array Value} (hH:bj p M H w) (hA:eH p M args cargs):(∃ fn,P.funcs[f]?=some fn∧fn.body.isNone=false)∧CallsIn Fence.wide 0 P f cargs w (eP p M H w v H'):=by
 unfold Bt at h
 split at h
 · simp at h
 rename_i fn hf
 split at h
 · simp at h
 rename_i c hb
 split at h
 case isFalse=>simp at h
 rename_i hle
 split at h
 case h_2=>simp at h
 rename_i e fr l l1 H1 he
 rw[fK] at he
 have hcode:=cV (cx:=⟨P,call,fu,f,fn.ntmps,KT f,none⟩) dJ.wide hN hC (more hN hD hC _ _ rfl rfl dJ.wide) _ _ _ _ _ _ he
 have fin:(e=.normal∨e=.ret)→(match hJ P fr (l::l1::H1) fn.results.toList with
  | some [.agg (.G [v0,.slc 0 j ver off sz len cap,v2])]=>match dg (l::l1::H1) 0 j ver with
    | some q=>if l.lock || l1.lock then none else some (dE (bQ l.bs j ((az (l::l1::H1) 0 j).1,.dead)) 5 (.agg (.G [v0,.slc 1 l1.bs.length 0 off sz len cap,v2])),bz (l1::H1) 0 (.row (jd 1 q)))
    | none=>none
  | _=>none)=some (v,H')→(∃ fn,P.funcs[f]?=some fn∧fn.body.isNone=false)∧CallsIn Fence.wide 0 P f cargs w (eP p M H w v H'):=fun he h=>by
  split at h
  case h_2=>simp at h
  rename_i v0 j ver off sz len cap v2 hv
  split at h
  case h_2=>simp at h
  rename_i q hq
  split at h
  case isTrue=>simp at h
  rename_i hlk
  simp only[Bool.or_eq_true,not_or,Bool.not_eq_true] at hlk
  simp only[nP] at h
  obtain ⟨rfl,rfl⟩:=h
  exact ⟨⟨fn,hf,by rw[hb];rfl⟩,D2 hf hb (by simpa using hle) he hv hq hlk.1 hlk.2 (by simp) hcode hH hA⟩
 split at h
 · exact fin (.inl rfl) h
 · exact fin (.inr rfl) h
 · simp at h
noncomputable def BQ (P:Program) (KT:FuncId→Nat→Nat) (fu:Nat) (g:FuncId) (call:aK):aK:=fun tgt args H=>match tgt with
 | .fn f=>if Nat.beq f g then Bt P KT fu g call args H else call (.fn f) args H
 | tgt=>call tgt args H
theorem EH {P:Program} (hN:dG P) (hD:gb P) (KT:FuncId→Nat→Nat) (fu:Nat) (g:FuncId) {call:aK} (hC:b9 P call):b9 P (BQ P KT fu g call):=by
 intro tgt args H v H' h hne p M w cargs hH hA;cases tgt with
 | fn f =>
   unfold BQ at h;dsimp only at h;split at h
   · rename_i e;have:=Nat.eq_of_beq_eq_true e;subst this;exact Eh hN hD KT fu hC h hH hA
   · exact hC (.fn f) args H v H' h hne p M w cargs hH hA
 | round d i=>exact hC (.round d i) args H v H' h hne p M w cargs hH hA
 | mode=>exact hC .mode args H v H' h hne p M w cargs hH hA
end Go.Eng
end
section
namespace Go.Eng
open Go.ChangeShapes Go.RowKit

theorem uQ {H:Type} {enc:TypeId×Value→H} {P:Program} {f:Func} {s:ChangeSpec} {apart fresh handsOn again:Bool} {W W':World} {args:Array Value} {v:Value} {ds gs:List (DataW H)} {before pa pv:List MemPlace}
 (hW:DataW.Whole enc P f.params.toList s.vars apart W args.toList ds gs before) (hb:Below W.heap.size W W')
 (hres:∀ (b:Nat) (sp:Nat→Bool) (hd:Bool),DataW.TrodAll enc P W' b sp hd f.resultTypes.toList (v.resultList f.resultTypes.size) (s.fn H (ds++gs)).results [])
 (hargs:∀ sp:Nat→Bool,(∀ p ∈ before,sp p.block=true)→DataW.TrodAll enc P W' 0 sp true f.params.toList args.toList (s.fn H (ds++gs)).args pa)
 (hvars:∀ sp:Nat→Bool,(∀ p ∈ before,sp p.block=true)→DataW.TrodVars enc P W' sp s.vars (s.fn H (ds++gs)).vars pv) (hps:before=pa++pv)
 (hok:∀ (j:Nat) (t:TypeId) (r:Value),f.resultTypes[j]?=some t→(v.resultList f.resultTypes.size)[j]?=some r→Value.okWide P W' .any 0 t r) :
 s.post enc P f apart fresh handsOn again W args v W':=by
 have old:∀ p ∈ before,p.block<W.heap.size:=fun p hp=>hW.lt p hp
 have hz:=hW
 obtain ⟨_,_,_,_,_,hz,hn⟩:=hz
 refine ⟨ds,gs,before,[],pa,pv,hW,hres _ _ _,hargs _ (fun p hp=>by simpa using old p hp),hvars _ (fun p hp=>by simpa using old p hp),hb.frame _,fun _=>⟨hok,_,_,[]++pa++pv,⟨[]++pa,pv,trodAll_append (hargs _ (fun _ _=>rfl)) (hres _ _ _),hvars _ (fun _ _=>rfl),rfl,?_,?_⟩,?_⟩⟩
 · intro b off hp
   have hp':MemPlace.cell b off ∈ before:=by rw[hps];simpa using hp
   rw[hb.frozen (old _ hp')]
   exact hz b off hp'
 · intro ha
   have:=hn ha
   rw[hps] at this
   simpa using this
 · intro p hp _
   rw[hps]
   simpa using hp

end Go.Eng
end
section
namespace Go.Eng
open Go.ChangeShapes

open Classical in
noncomputable def Pw (w:World):aF:=if h:ly w then ⟨fun b o=>w.cell? ⟨b,o,none⟩,h⟩ else aF.z
theorem KZ {w:World} (h:ly w):Pw w=⟨fun b o=>w.cell? ⟨b,o,none⟩,h⟩:=dif_pos h
theorem Jy {w:World} (h:ly w) (b o:Nat):Pw w b o=w.cell? ⟨b,o,none⟩:=by
 rw[KZ h]
theorem bj.all {w:World} (hg:ly w):bj (Pw w) Mu.no [⟨true,[]⟩] w where
 pers:=fun b o v h=>by rw[Jy hg] at h;exact h
 live:=fun d i v B hg hB=>by
  cases d<;>simp[az,au] at hg<;>exact absurd hg.2.symm hB
 apart:=fun d i v B d' i' v' B' b o t o' t' hg hB hg' hB' hm hm'=>by cases hm
 dom:=fun d i v t hm=>by cases hm

theorem DN {P:Program} {call:aK} (hC:b9 P call) {f:FuncId} {args:List AV} {x:Bool} {H':ab} (h:call (.fn f) args [⟨true,[]⟩]=some (.bool x,H')) {cargs:Array Value} {w:World} (hg:ly w) (hA:eH (Pw w) Mu.no args cargs) :
 Calls P f cargs w (fun e w'=>e=.returned (.bool x)∧Go.RowKit.Below w.heap.size w w'):=by
 have:=(hC (.fn f) args _ (.bool x) H' h (by simp) _ _ w cargs (bj.all hg) hA).2
 refine (callsIn_wide.1 this).mono ?_
 rintro e w' ⟨cv,rfl,_,p',M',hE,hv⟩
 cases hv
 exact ⟨rfl,(hE.stay.weaken (fun b _ _ d i v B _ _ _ o t hm=>by cases hm)).below⟩

def kY (k:IntKind) (P:Program) (t:TypeId) (n:Nat):Prop:=∀ (H:Type) (enc:TypeId×Value→H) (w:World) (base:Nat) (sp:Nat→Bool) (held:Bool) (fuel:Nat) (cs:List Value) (x:DataW H×List MemPlace),
 DataW.trod enc P w base sp held fuel t cs=some x→cs.length=n∧∀ j,j<n→∃ z:Int,cs[j]?=some (.int k z)∧(Lit.int k z).wf=true
abbrev uU (P:Program) (t:TypeId) (n:Nat):Prop:=kY .i64 P t n
theorem x5 {P:Program} {t:TypeId} {k:IntKind} (ht:P.underlying t=some (.int k)):kY k P t 1:=by
 intro H enc w base sp held fuel cs x h;obtain ⟨n,rfl,_,hw⟩:=DataW.trod_int ht h;refine ⟨rfl,fun j hj=>?_⟩;obtain rfl:j=0:=by omega
 exact ⟨n,rfl,hw⟩
theorem wm {P:Program} {k:IntKind} {t:TypeId} {f0 f1:Field} {n0 n1:Nat} (ht:P.underlying t=some (.struct #[f0,f1])) (h0:kY k P f0.type n0) (h1:kY k P f1.type n1) (o0:f0.offset=0) (o1:f1.offset=n0) (c0:P.cellsOf f0.type=n0) (c1:P.cellsOf f1.type=n1) (c:P.cellsOf t=n0+n1):kY k P t (n0+n1):=by
 intro H enc w base sp held fuel cs x h;obtain ⟨y0,y1,n,_,hl,g0,g1⟩:=trod_struct2 ht h;obtain ⟨k0,k1⟩:=h0 _ _ _ _ _ _ _ _ _ g0;obtain ⟨m0,m1⟩:=h1 _ _ _ _ _ _ _ _ _ g1;refine ⟨by rw[hl,c],fun j hj=>?_⟩;by_cases hlt:j<n0
 · obtain ⟨z,hz,hw⟩:=k1 j hlt;refine ⟨z,?_,hw⟩;rw[o0,c0] at hz;simpa[List.getElem?_take,hlt] using hz
 · obtain ⟨z,hz,hw⟩:=m1 (j-n0) wO;refine ⟨z,?_,hw⟩;rw[o1,c1] at hz;have hlt2:j-n0<n1:=by omega
   simpa[List.getElem?_take,hlt2,List.getElem?_drop,show n0+(j-n0)=j by omega] using hz

theorem r7 {w:World} {a:Addr}:∀ (l:List Nat) (cs:List Value),(l.mapM fun i=>w.cell? (a.add i))=some cs→∀ (j i:Nat),l[j]?=some i→∃ v,cs[j]?=some v∧w.cell? (a.add i)=some v
 | [],cs,h,j,i,hi=>by simp at hi
 | x::l,cs,h,j,i,hi=>by
   simp only[List.mapM_cons,Option.bind_eq_bind,Option.bind_eq_some_iff,Option.pure_def,Option.some.injEq] at h;obtain ⟨v,hv,r,hr,rfl⟩:=h;cases j with
   | zero=>simp at hi;subst hi;exact ⟨v,rfl,hv⟩
   | succ j=>exact r7 l r hr j i (by simpa using hi)

theorem BF {P:Program} {k:IntKind} {t e:TypeId} {n:Nat} (ht:P.underlying t=some (.slice e)) (he:kY k P e n) (hn:0<n) (hc:P.cellsOf e=n) {H:Type} {enc:TypeId×Value→H} {w:World} {base:Nat} {sp:Nat→Bool} {held:Bool} {fuel:Nat} {v:Value} {x:DataW H×List MemPlace}
 (hg:ly w) (hspot:∀ a l c,v=.slice (some a) l c→a.spot=none) (h:DataW.trod enc P w base sp held fuel t [v]=some x) :
 (v=.slice none 0 0)∨∃ (zs:Nat→Int) (len:Nat),al (Pw w) Mu.no (.slcT none (.F (fun j=>.int k (zs j)) (len*n)) n len false) v∧∀ j,j<len*n→(Lit.int k (zs j)).wf=true:=by
 rcases DataW.trod_slice ht h with ⟨h0,_⟩ | ⟨a,len,cap,elems,rest,m,_,hcs,_,_,hl,_,hlen,hel,_,_⟩
 · left;simpa using h0
 · right
   simp only[List.cons.injEq,and_true] at hcs
   have hsp:=hspot a len cap hcs
   have cell:∀ j,j<len*n→∃ z:Int,w.cell? ⟨a.block,a.off+j,none⟩=some (.int k z)∧(Lit.int k z).wf=true:=by
    intro j hj;have hi:j / n<len:=by rw[Nat.div_lt_iff_lt_mul hn];exact hj
    have:=hel (j / n) hi;have hex:elems[j / n]?≠none:=by simp;omega
    rw[← this] at hex;cases hcl:w.cells? base (a.add (j / n*P.cellsOf e)) (P.cellsOf e) with
    | none=>rw[hcl] at hex;simp at hex
    | some cs =>
      rw[hcl] at hex;cases hy:DataW.trod enc P w base sp held m e cs with
      | none=>simp[hy] at hex
      | some y =>
        obtain ⟨k0,k1⟩:=he _ _ _ _ _ _ _ _ _ hy;obtain ⟨z,hz,hw⟩:=k1 (j % n) (Nat.mod_lt _ hn);unfold World.cells? at hcl;split at hcl
        · obtain ⟨u,hu,hcu⟩:=r7 _ _ hcl (j % n) (j % n) (by rw[hc];simp[Nat.mod_lt _ hn]);rw[hz] at hu;have hu:=Option.some.inj hu;subst hu;refine ⟨z,?_,hw⟩;rw[hc] at hcu;have e1:(a.add (j / n*n)).add (j % n)=⟨a.block,a.off+j,none⟩:=by
           have hd:=Nat.div_add_mod j n;have hd2:j / n*n+j % n=j:=by rw[Nat.mul_comm];exact hd
           cases a;simp only at hsp;subst hsp;have ad:∀ (b o i:Nat),Addr.add ⟨b,o,none⟩ i=⟨b,o+i,none⟩:=fun b o i=>by
            unfold Addr.add;split
            · rename_i h0;subst h0;rfl
            · rfl
           rw[ad,ad,Nat.add_assoc,hd2]
          rw[← e1];exact hcu
        · simp at hcl
   obtain ⟨zs,hzs⟩:∃ zs:Nat→Int,∀ j,j<len*n→w.cell? ⟨a.block,a.off+j,none⟩=some (.int k (zs j))∧(Lit.int k (zs j)).wf=true :=
    ⟨fun j=>if h:j<len*n then Classical.choose (cell j h) else 0,fun j hj=>by
      have:=Classical.choose_spec (cell j hj);simp only[dif_pos hj];exact this⟩
   refine ⟨zs,len,?_,fun j hj=>(hzs j hj).2⟩
   rw[hcs]
   obtain ⟨b,o,sp'⟩:=a
   simp only at hsp
   subst hsp
   exact .slcT (o:=o) (fun j=>.int k (zs j)) (fun j hj=>by rw[Jy hg];exact (hzs j hj).1) (fun j hj=>rfl) (fun j hj=>.int _ _) hl (fun h=>by cases h) (.inr rfl)

end Go.Eng
end
