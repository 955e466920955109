/- The engine: functions that only read a list that lies at their caller's, known by what they do with a list that lies still. -/
import Derived.Test.YtgphpjdchnfjlaaDoorV6Gp2x6
import Derived.Test.YtgphpjdchnfjlaaDoorV6EngTa
import Derived.Lib.TrailingZeros
set_option linter.unusedVariables false
set_option linter.unusedSimpArgs false
section
namespace Go.Eng
noncomputable def O0 (call:aK) (f:FuncId) (args:List AV) (H:ab):Option (AV×ab) :=
 match args with
 | [.int k1 a1,.int k2 a2,.slc d i ver 0 1 len cap]=>match dg H d i ver with
   | some (.I .i64 l)=>if l.length=len then (match call (.fn f) [.int k1 a1,.int k2 a2,.slcT none (.M [.arr .i64 (aI l) len]) 1 len false] [⟨true,[]⟩] with
     | some (v,_)=>some (PS v,H)
     | none=>none) else none
   | _=>none
 | _=>none
theorem Ms {P:Program} {call:aK} (hC:b9 P call) {f:FuncId} {args:List AV} {H:ab} {v:AV} {H':ab} (h:O0 call f args H=some (v,H')) {p:aF} {M:Mu} {w:World} {cargs:Array Value} (hH:bj p M H w) (hA:eH p M args cargs) :
 (∃ fn,P.funcs[f]?=some fn∧fn.body.isNone=false)∧CallsIn Fence.wide 0 P f cargs w (eP p M H w v H'):=by
 unfold O0 at h
 split at h
 case h_2=>simp at h
 rename_i k1 a1 k2 a2 d i ver len cap
 split at h
 case h_2=>simp at h
 rename_i l hr
 split at h
 case isFalse=>simp at h
 rename_i hlen
 split at h
 case h_2=>simp at h
 rename_i u H2 hcall
 simp only[nP] at h
 obtain ⟨rfl,rfl⟩:=h
 have hg:=dL hr
 obtain ⟨b,o,t,hm,hb,hno⟩:=hH.live d i ver (.row (.I .i64 l)) hg (by simp)
 obtain ⟨vs,v1,v2⟩:=mh hb
 have hle:aF.le p (lT p b o (Row.I .i64 l).len vs):=by
  intro b' o' v hv;rw[fR hno,if_neg]
  · exact hv
  · rintro ⟨rfl,_⟩;rw[hno] at hv;cases hv
 have hH0:bj (lT p b o (Row.I .i64 l).len vs) Mu.no [⟨true,[]⟩] w:=⟨fun b' o' v hp=>by
  rw[fR hno] at hp;split at hp
  · rename_i he;obtain ⟨rfl,h1,h2⟩:=he;rw[← hp];have:=v2 (o'-o) wO;rw[show o+(o'-o)=o' by omega] at this;exact this
  · exact hH.pers _ _ _ hp,(fun d i v B hg hB=>by
  cases d<;>simp[az,au] at hg<;>exact absurd hg.2.symm hB),(fun d i v B d' i' v' B' b o t o' t' hg hB hg' hB' hm hm'=>by cases hm),(fun d i v t hm=>by cases hm)⟩
 have hrow:(Row.M [.arr .i64 (aI l) len]).len=(Row.I .i64 l).len:=by
  show len+0=l.length;omega
 have hA0:eH (lT p b o (Row.I .i64 l).len vs) Mu.no [.int k1 a1,.int k2 a2,.slcT none (.M [.arr .i64 (aI l) len]) 1 len false] cargs:=⟨hA.1,fun j hj=>by
  have h3:j=0∨j=1∨j=2:=by simp at hj;omega
  rcases h3 with rfl | rfl | rfl
  · have h0:al p M (.int k1 a1) (cargs.getD 0 undef):=hA.2 0 (by simp);exact h0.bp _ _
  · have h0:al p M (.int k2 a2) (cargs.getD 1 undef):=hA.2 1 (by simp);exact h0.bp _ _
  · have h0:al p M (.slc d i ver 0 1 len cap) (cargs.getD 2 undef):=hA.2 2 (by simp);show al _ _ (.slcT none (.M [.arr .i64 (aI l) len]) 1 len false) (cargs.getD 2 undef);generalize cargs.getD 2 undef=cv at h0;cases h0 with
    | slc h0 h5 h6 h7 h8 =>
      rename_i b2 o2 t2 x cc;rw[hm] at h0;simp only[nP] at h0;obtain ⟨rfl,rfl,rfl⟩:=h0;refine .slcT (o:=o) vs (fun j hj=>?_) (fun j hj=>(v1 j (by rw[← hrow];exact hj)).2) (fun j hj=>?_) h5 (fun e=>by cases e) (by rcases h8 with h8 | h8;exact .inl h8;exact .inr wO)
      · rw[hrow] at hj;rw[fR hno,if_pos ⟨rfl,by omega,by omega⟩];congr 2;omega
      · rw[hrow] at hj;have hj':j<l.length:=hj;have h9:=(v1 j hj).1;have e:(Row.M [.arr .i64 (aI l) len]).get j=.int .i64 (l.getD j 0):=by
         show (if j<len then AV.int .i64 (aI l j) else _)=_;rw[if_pos wO,gw]
        rw[e];have h9:al p _ (.int .i64 (l.getD j 0)) (vs j):=h9;exact h9.bp _ _⟩
 obtain ⟨h1,h2⟩:=hC (.fn f) _ _ u H2 hcall (by simp) _ Mu.no w cargs hH0 hA0
 refine ⟨h1,h2.mono ?_⟩
 rintro en w' ⟨cv,rfl,st,p',M',hE,hv⟩
 have all:∀ b,Go.Eng.bA Mu.no [⟨true,[]⟩] b:=fun b d i u B _ _ _ o t hm=>by cases hm
 refine ⟨cv,rfl,Still.refl H,p,M,{ cC.refl hH with rel:=⟨fun b' o' v hp=>hE.rel.pers b' o' v (hE.pst _ _ _ (hle _ _ _ hp)),?_,hH.apart,hH.dom⟩,stay:=hE.stay.weaken (fun b _ _=>all b) },Co hv⟩
 intro d i u B hg hB
 obtain ⟨b,o,t,k1,k2,k3⟩:=hH.live d i u B hg hB
 exact ⟨b,o,t,k1,k2.mono (aF.le.refl _) (Mu.le.refl _) (hE.stay.block b (k2.lt hB) (all b)),k3⟩
end Go.Eng
end
section
namespace Go.Eng.Gall
def mk (p:Nat→Bool):Nat→Nat
 | 0=>0
 | j+1=>if p j=true then mk p j+2 ^ j else mk p j
theorem gY (p:Nat→Bool):∀ j c,(mk p j).testBit c=(decide (c<j) && p c)
 | 0,c=>by simp[mk]
 | j + 1,c=>by
   have ih:=gY p j;unfold mk;by_cases hp:p j=true
   · rw[if_pos hp,xt (by rw[ih];simp),ih];by_cases e:c=j
     · subst e;simp[hp]
     · rw[decide_eq_false e,Bool.false_or];by_cases h:c<j
       · rw[decide_eq_true h,decide_eq_true (by omega)]
       · rw[decide_eq_false h,decide_eq_false (by omega)]
   · rw[if_neg hp,ih];by_cases e:c=j
     · subst e;have:p c=false:=by simpa using hp
       rw[this];simp
     · by_cases h:c<j
       · rw[decide_eq_true h,decide_eq_true (by omega)]
       · rw[decide_eq_false h,decide_eq_false (by omega)]
theorem OE (p:Nat→Bool) (j:Nat):mk p j<2 ^ j:=by
 apply Nat.lt_pow_two_of_testBit;intro i hi;rw[gY,decide_eq_false (by omega)];rfl
theorem mk_zero {p:Nat→Bool} {j:Nat}:mk p j=0↔∀ c,c<j→p c=false:=by
 constructor
 · intro h c hc;have:=gY p j c;rw[h,decide_eq_true hc] at this;simpa using this.symm
 · intro h;apply Nat.eq_of_testBit_eq;intro c;rw[gY,Nat.zero_testBit];by_cases hc:c<j
   · rw[h c hc];simp
   · rw[decide_eq_false hc];rfl
theorem L9 (j:Nat):mk (fun c=>decide (c<j)) j=2 ^ j-1:=by
 apply Nat.eq_of_testBit_eq;intro c;rw[gY,Nat.testBit_two_pow_sub_one];simp
section
variable (n:Nat) (b:Nat→Nat)
def bS:Nat→Nat→Bool
 | 0,c=>decide (c<n)
 | t+1,c=>decide (c<n) && (List.range n).any fun a=>bS t a && (b c).testBit a
def ll:Bool:=(List.range n).any (bS n b n)
variable {n b}
theorem nk {t c:Nat} (h:bS n b t c=true):c<n:=by
 cases t with
 | zero=>simpa[bS] using h
 | succ t=>simp only[bS,Bool.and_eq_true,decide_eq_true_eq] at h;exact h.1
theorem gk {t c:Nat}:bS n b (t+1) c=true↔c<n∧∃ a,bS n b t a=true∧(b c).testBit a=true:=by
 simp only[bS,Bool.and_eq_true,decide_eq_true_eq,List.any_eq_true,List.mem_range];constructor
 · rintro ⟨h,a,_,h2⟩;exact ⟨h,a,h2⟩
 · rintro ⟨h,a,h2,h3⟩;exact ⟨h,a,nk h2,h2,h3⟩
theorem wV {t:Nat}:∀ {c},bS n b (t+1) c=true→bS n b t c=true:=by
 induction t with
 | zero=>intro c h;simpa[bS] using (gk.1 h).1
 | succ t ih =>
   intro c h;obtain ⟨h1,a,h2,h3⟩:=gk.1 h;exact gk.2 ⟨h1,a,ih h2,h3⟩
theorem th {t:Nat} (h:∀ c,bS n b t c=false):∀ s c,bS n b (t+s) c=false
 | 0,c=>h c
 | s+1,c=>by
   cases e:bS n b (t+(s+1)) c with
   | false=>rfl
   | true=>have:=wV (t:=t+s) e;rw[th h s c] at this;cases this
theorem IQ {t:Nat} (h:∀ c,bS n b t c=true→bS n b (t+1) c=true):∀ s c,bS n b t c=true→bS n b (t+s) c=true:=by
 have h1:∀ s,∀ c,bS n b (t+s) c=true→bS n b (t+s+1) c=true:=by
  intro s;induction s with
  | zero=>exact h
  | succ s ih =>
    intro c hc;obtain ⟨a1,a,a2,a3⟩:=gk.1 hc;exact gk.2 ⟨a1,a,ih a a2,a3⟩
 intro s;induction s with
 | zero=>exact fun c hc=>hc
 | succ s ih=>exact fun c hc=>h1 s c (ih c hc)
theorem sl (p:Nat→Prop):∀ k,(∀ t,t<k→¬ p t)∨∃ T,T<k∧p T∧∀ t,t<T→¬ p t
 | 0=>.inl fun t h=>by omega
 | k + 1=>by
   rcases sl p k with h | ⟨T,h1,h2⟩
   · by_cases hk:p k
     · exact .inr ⟨k,by omega,hk,h⟩
     · exact .inl fun t ht=>by
        by_cases e:t=k
        · subst e;exact hk
        · exact h t (by omega)
   · exact .inr ⟨T,by omega,h2⟩
theorem Lf:∃ T,T≤n∧(∀ t,t<T→(∃ c,bS n b t c=true)∧∃ c,bS n b t c=true∧bS n b (t+1) c=false) ∧
 (((∀ c,bS n b T c=false)∧ll n b=false)∨((∃ c,bS n b T c=true)∧(∀ c,bS n b T c=true→bS n b (T+1) c=true)∧ll n b=true)):=by
 have hb:ll n b=true↔∃ c,bS n b n c=true:=by
  unfold ll;rw[List.any_eq_true];constructor
  · rintro ⟨c,_,h⟩;exact ⟨c,h⟩
  · rintro ⟨c,h⟩;exact ⟨c,List.mem_range.2 (nk h),h⟩
 have fin:∀ T,T≤n→((∀ c,bS n b T c=false)∨(∀ c,bS n b T c=true→bS n b (T+1) c=true)) →
  (((∀ c,bS n b T c=false)∧ll n b=false)∨((∃ c,bS n b T c=true)∧(∀ c,bS n b T c=true→bS n b (T+1) c=true)∧ll n b=true)):=by
  intro T hT h
  by_cases he:∀ c,bS n b T c=false
  · refine .inl ⟨he,?_⟩
    cases e:ll n b with
    | false=>rfl
    | true =>
      obtain ⟨c,hc⟩:=hb.1 e
      have:=th he (n-T) c
      rw[show T+(n-T)=n by omega,hc] at this;cases this
  · have hs:=h.resolve_left he
    have hex:∃ c,bS n b T c=true:=by
     apply Classical.byContradiction;intro hn;exact he fun c=>by
      cases e:bS n b T c with
      | false=>rfl
      | true=>exact absurd ⟨c,e⟩ hn
    obtain ⟨c,hc⟩:=hex
    refine .inr ⟨⟨c,hc⟩,hs,hb.2 ⟨c,?_⟩⟩
    have:=IQ hs (n-T) c hc
    rwa [show T+(n-T)=n by omega] at this
 rcases sl (fun t=>(∀ c,bS n b t c=false)∨(∀ c,bS n b t c=true→bS n b (t+1) c=true)) (n+1) with h | ⟨T,h1,h2,h3⟩
 · exfalso
   have len:∀ t,t≤n→((List.range n).filter (bS n b t)).length≤n-t:=by
    intro t;induction t with
    | zero=>intro _;exact Nat.le_trans (List.length_filter_le _ _) (by rw[List.length_range];omega)
    | succ t ih =>
      intro ht;have hi:=ih (by omega);have hn:=h t (by omega);rw[not_or] at hn;obtain ⟨c,hc⟩:=Classical.not_forall.1 hn.2;rw[Classical.not_imp] at hc;have:=fT (L:=c::(List.range n).filter (bS n b (t+1))) (M:=(List.range n).filter (bS n b t)) (List.nodup_cons.2 ⟨fun hm=>hc.2 (List.mem_filter.1 hm).2,List.Pairwise.filter _ List.nodup_range⟩) (fun x hx=>by
       rcases List.mem_cons.1 hx with rfl | hx
       · exact List.mem_filter.2 ⟨List.mem_range.2 (nk hc.1),hc.1⟩
       · obtain ⟨x1,x2⟩:=List.mem_filter.1 hx;exact List.mem_filter.2 ⟨x1,wV x2⟩)
      rw[List.length_cons] at this;omega
   have h0:=len n (Nat.le_refl n)
   refine h n (by omega) (.inl fun c=>?_)
   cases e:bS n b n c with
   | false=>rfl
   | true =>
     have hm:c ∈ (List.range n).filter (bS n b n):=List.mem_filter.2 ⟨List.mem_range.2 (nk e),e⟩
     have:=List.length_pos_of_mem hm
     omega
 · refine ⟨T,by omega,fun t ht=>?_,fin T (by omega) h2⟩
   have hn:=h3 t ht
   rw[not_or] at hn
   obtain ⟨c,hc⟩:=Classical.not_forall.1 hn.2
   rw[Classical.not_imp] at hc
   exact ⟨⟨c,hc.1⟩,c,hc.1,by simpa using hc.2⟩
theorem and_zero {x y:Nat}:x &&& y=0↔∀ a,x.testBit a=true→y.testBit a=false:=by
 constructor
 · intro h a ha;have:=congrArg (fun z=>z.testBit a) h;simpa[Nat.testBit_and,ha] using this
 · intro h;apply Nat.eq_of_testBit_eq;intro a;rw[Nat.testBit_and,Nat.zero_testBit];cases e:x.testBit a with
   | false=>rfl
   | true=>rw[h a e];rfl
theorem IP {t c:Nat} (hc:c<n):bS n b (t+1) c=false↔b c &&& mk (bS n b t) n=0:=by
 rw[and_zero];constructor
 · intro h a ha;rw[gY];cases e:bS n b t a with
   | false=>simp
   | true=>rw[gk.2 ⟨hc,a,e,ha⟩] at h;cases h
 · intro h;cases e:bS n b (t+1) c with
   | false=>rfl
   | true =>
     obtain ⟨_,a,a1,a2⟩:=gk.1 e;have:=h a a2;rw[gY,a1,decide_eq_true (nk a1)] at this;cases this
end
end Go.Eng.Gall
end
section
namespace Go.Eng.Gall
def Bp (i:Int) (f:Nat→Int) (p:Nat→Bool):Nat→Int
 | 0=>i
 | k+1=>if p k=true then max (Bp i f p k) (f k) else Bp i f p k
theorem wP (i:Int) (f:Nat→Int) (p:Nat→Bool):∀ k,i≤Bp i f p k
 | 0=>Int.le_refl _
 | k+1=>by
   have:=wP i f p k;unfold Bp;split<;>omega
theorem s7 (i:Int) (f:Nat→Int) (p:Nat→Bool):∀ k a,a<k→p a=true→f a≤Bp i f p k
 | 0,a,h,_=>by omega
 | k + 1,a,h,hp=>by
   by_cases e:a=k
   · subst e;unfold Bp;rw[if_pos hp];omega
   · have:=s7 i f p k a (by omega) hp;unfold Bp;split<;>omega
theorem iV (i:Int) (f:Nat→Int) (p:Nat→Bool):∀ k,Bp i f p k=i∨∃ a,a<k∧p a=true∧Bp i f p k=f a
 | 0=>.inl rfl
 | k + 1=>by
   have ih:=iV i f p k;unfold Bp;by_cases hp:p k=true
   · rw[if_pos hp];by_cases h:Bp i f p k≤f k
     · exact .inr ⟨k,by omega,hp,by omega⟩
     · rw[show max (Bp i f p k) (f k)=Bp i f p k by omega];rcases ih with h2 | ⟨a,h1,h2,h3⟩
       · exact .inl h2
       · exact .inr ⟨a,by omega,h2,h3⟩
   · rw[if_neg hp];rcases ih with h2 | ⟨a,h1,h2,h3⟩
     · exact .inl h2
     · exact .inr ⟨a,by omega,h2,h3⟩
section
variable (n:Nat) (b:Nat→Nat) (w:Nat→Int)
def fi:Nat→Nat→Int
 | 0,c=>w (2*c)
 | t+1,c=>Bp (fi t c) (fun a=>fi t a+1) (fun a=>(b c).testBit a) n
def fh:Nat→Nat→Int
 | 0,a=>-w (2*a+1)
 | t+1,a=>Bp (fh t a) (fun c=>fh t c+1) (fun c=>(b c).testBit a) n
def dN (i:Nat):Int:=if i<2*n then (if i % 2=0 then fi n b w n (i / 2) else -fh n b w n (i / 2)) else w i
variable {n b w}
theorem CJ (t c:Nat):fi n b w t c≤fi n b w (t+1) c:=wP _ _ _ _
theorem Cw (t c:Nat):fh n b w t c≤fh n b w (t+1) c:=wP _ _ _ _
theorem CK:∀ t c,c<n→fi n b w t c<fi n b w (t+1) c→bS n b (t+1) c=true
 | 0,c,hc,h=>by
   rcases iV (fi n b w 0 c) (fun a=>fi n b w 0 a+1) (fun a=>(b c).testBit a) n with e | ⟨a,h1,h2,_⟩
   · have:fi n b w (0+1) c=fi n b w 0 c:=e;omega
   · exact gk.2 ⟨hc,a,by simpa[bS] using h1,h2⟩
 | t + 1,c,hc,h=>by
   rcases iV (fi n b w (t+1) c) (fun a=>fi n b w (t+1) a+1) (fun a=>(b c).testBit a) n with e | ⟨a,h1,h2,h3⟩
   · have:fi n b w (t+1+1) c=fi n b w (t+1) c:=e;omega
   · have e:fi n b w (t+1+1) c=fi n b w (t+1) a+1:=h3;have h4:fi n b w t a+1≤fi n b w (t+1) c:=s7 (fi n b w t c) (fun a=>fi n b w t a+1) (fun a=>(b c).testBit a) n a h1 h2;exact gk.2 ⟨hc,a,CK t a h1 (by omega),h2⟩
theorem Cy:∀ t a,a<n→fh n b w t a<fh n b w (t+1) a→∃ c,∀ s,bS n b s a=true→bS n b (s+(t+1)) c=true
 | 0,a,ha,h=>by
   rcases iV (fh n b w 0 a) (fun c=>fh n b w 0 c+1) (fun c=>(b c).testBit a) n with e | ⟨c,h1,h2,_⟩
   · have:fh n b w (0+1) a=fh n b w 0 a:=e;omega
   · exact ⟨c,fun s hs=>gk.2 ⟨h1,a,hs,h2⟩⟩
 | t + 1,a,ha,h=>by
   rcases iV (fh n b w (t+1) a) (fun c=>fh n b w (t+1) c+1) (fun c=>(b c).testBit a) n with e | ⟨c,h1,h2,h3⟩
   · have:fh n b w (t+1+1) a=fh n b w (t+1) a:=e;omega
   · have e:fh n b w (t+1+1) a=fh n b w (t+1) c+1:=h3;have h4:fh n b w t c+1≤fh n b w (t+1) a:=s7 (fh n b w t a) (fun c=>fh n b w t c+1) (fun c=>(b c).testBit a) n c h1 h2;obtain ⟨d,hd⟩:=Cy t c h1 (by omega);refine ⟨d,fun s hs=>?_⟩;have:=hd (s+1) (gk.2 ⟨h1,a,hs,h2⟩);rwa [show s+1+(t+1)=s+(t+1+1) by omega] at this
theorem JG (h:ll n b=false) (s c:Nat):bS n b (n+s) c=false:=by
 refine th (fun c=>?_) s c;cases e:bS n b n c with
 | false=>rfl
 | true =>
   have:ll n b=true:=by unfold ll;rw[List.any_eq_true];exact ⟨c,List.mem_range.2 (nk e),e⟩
   rw[h] at this;cases this
theorem L2 (h:ll n b=false) (s c:Nat) (hc:c<n):fi n b w (n+s) c=fi n b w n c:=by
 induction s with
 | zero=>rfl
 | succ s ih =>
   have h1:fi n b w (n+s) c≤fi n b w (n+(s+1)) c:=CJ (n:=n) (b:=b) (w:=w) (n+s) c;apply Classical.byContradiction;intro hne;have h2:fi n b w (n+s) c<fi n b w (n+s+1) c:=by
    have:fi n b w (n+s) c<fi n b w (n+(s+1)) c:=by omega
    exact this
   have h3:bS n b (n+(s+1)) c=true:=CK (n+s) c hc h2;rw[JG h] at h3;cases h3
theorem LM (h:ll n b=false) (s c:Nat) (hc:c<n):fh n b w (n+s) c=fh n b w n c:=by
 induction s with
 | zero=>rfl
 | succ s ih =>
   have h1:fh n b w (n+s) c≤fh n b w (n+(s+1)) c:=Cw (n:=n) (b:=b) (w:=w) (n+s) c;apply Classical.byContradiction;intro hne;have h2:fh n b w (n+s) c<fh n b w (n+s+1) c:=by
    have:fh n b w (n+s) c<fh n b w (n+(s+1)) c:=by omega
    exact this
   obtain ⟨d,hd⟩:=Cy (n:=n) (b:=b) (w:=w) (n+s) c hc h2;have:=hd 0 (by simpa[bS] using hc);rw[show 0+(n+s+1)=n+(s+1) by omega,JG h] at this;cases this
theorem CI (h:ll n b=false) {a c:Nat} (ha:a<n) (hc:c<n) (hp:(b c).testBit a=true):fi n b w n a+1≤fi n b w n c:=by
 rw[← L2 h 1 c hc];exact s7 (fi n b w n c) (fun a=>fi n b w n a+1) (fun a=>(b c).testBit a) n a ha hp
theorem JN (h:ll n b=false) {a c:Nat} (ha:a<n) (hc:c<n) (hp:(b c).testBit a=true):fh n b w n c+1≤fh n b w n a:=by
 rw[← LM h 1 a ha];exact s7 (fh n b w n a) (fun c=>fh n b w n c+1) (fun c=>(b c).testBit a) n c hc hp
def AA (r:Nat→Int) (i:Nat) (x:Int):Nat→Int:=fun j=>if j=i then x else r j
def Az (r:Nat→Int) (a c:Nat):Nat→Int:=AA (AA r (2*c) (max (r (2*c)) (r (2*a)+1))) (2*a+1) (min (AA r (2*c) (max (r (2*c)) (r (2*a)+1)) (2*a+1)) (AA r (2*c) (max (r (2*c)) (r (2*a)+1)) (2*c+1)-1))
theorem BK (r:Nat→Int) (a c d:Nat):Az r a c (2*d)=if d=c then max (r (2*c)) (r (2*a)+1) else r (2*d):=by
 unfold Az AA;rw[if_neg (by omega)];by_cases e:d=c
 · rw[if_pos (by omega),if_pos e]
 · rw[if_neg (by omega),if_neg e]
theorem BJ (r:Nat→Int) (a c d:Nat):Az r a c (2*d+1)=if d=a then min (r (2*a+1)) (r (2*c+1)-1) else r (2*d+1):=by
 unfold Az AA;by_cases e:d=a
 · subst e;rw[if_pos rfl,if_pos rfl,if_neg (by omega),if_neg (by omega)]
 · rw[if_neg (by omega),if_neg e,if_neg (by omega)]
theorem Ji (r:Nat→Int) {a c i n:Nat} (ha:a<n) (hc:c<n) (hi:2*n≤i):Az r a c i=r i:=by
 unfold Az AA;rw[if_neg (by omega),if_neg (by omega)]
def kQ (r:Nat→Int):List (Nat×Nat)→Nat→Int
 | []=>r
 | p::l=>kQ (Az r p.1 p.2) l
theorem xe (r:Nat→Int) (l m:List (Nat×Nat)):kQ r (l++m)=kQ (kQ r l) m:=by
 induction l generalizing r with
 | nil=>rfl
 | cons p l ih=>exact ih _
structure Bd (n:Nat) (b:Nat→Nat) (w:Nat→Int) (t:Nat) (r:Nat→Int):Prop where
 lo:∀ c,c<n→fi n b w t c≤r (2*c)∧r (2*c)≤fi n b w n c
 hi:∀ c,c<n→fh n b w t c≤-r (2*c+1)∧-r (2*c+1)≤fh n b w n c
 out:∀ i,2*n≤i→r i=w i
theorem lo_le (t s c:Nat):fi n b w t c≤fi n b w (t+s) c:=by
 induction s with
 | zero=>exact Int.le_refl _
 | succ s ih=>have:=CJ (n:=n) (b:=b) (w:=w) (t+s) c;rw[show t+s+1=t+(s+1) by omega] at this;omega
theorem Cv (t s c:Nat):fh n b w t c≤fh n b w (t+s) c:=by
 induction s with
 | zero=>exact Int.le_refl _
 | succ s ih=>have:=Cw (n:=n) (b:=b) (w:=w) (t+s) c;rw[show t+s+1=t+(s+1) by omega] at this;omega
theorem P7:Bd n b w 0 w:=⟨fun c _=>⟨Int.le_refl _,by have:=lo_le (n:=n) (b:=b) (w:=w) 0 n c;rwa [Nat.zero_add] at this⟩,fun c _=>⟨Int.le_refl _,by have:=Cv (n:=n) (b:=b) (w:=w) 0 n c;rwa [Nat.zero_add] at this⟩,fun i _=>rfl⟩
theorem La (h:ll n b=false) {t:Nat} {r:Nat→Int} (hr:Bd n b w t r) {a c:Nat} (ha:a<n) (hc:c<n) (hp:(b c).testBit a=true):Bd n b w t (Az r a c)∧(∀ d,r (2*d)≤Az r a c (2*d))∧(∀ d,Az r a c (2*d+1)≤r (2*d+1))∧r (2*a)+1≤Az r a c (2*c)∧Az r a c (2*a+1)≤r (2*c+1)-1:=by
 have h1:=CI (w:=w) h ha hc hp;have h2:=JN (w:=w) h ha hc hp;have la:=hr.lo a ha;have ha2:=hr.hi a ha;have hc2:=hr.hi c hc;refine ⟨⟨fun d hd=>?_,fun d hd=>?_,fun i hi=>by rw[Ji r ha hc hi];exact hr.out i hi⟩,fun d=>?_,fun d=>?_,?_,?_⟩
 · have:=hr.lo d hd;rw[BK];split
   · rename_i e;subst e;omega
   · exact this
 · have:=hr.hi d hd;rw[BJ];split
   · rename_i e;subst e;omega
   · exact this
 · rw[BK];split
   · rename_i e;subst e;omega
   · omega
 · rw[BJ];split
   · rename_i e;subst e;omega
   · omega
 · rw[BK,if_pos rfl];omega
 · rw[BJ,if_pos rfl];omega
theorem oC (h:ll n b=false) {t:Nat}:∀ (l:List (Nat×Nat)) {r:Nat→Int},Bd n b w t r→(∀ p ∈ l,p.1<n∧p.2<n∧(b p.2).testBit p.1=true) →
 Bd n b w t (kQ r l)∧(∀ d,r (2*d)≤kQ r l (2*d))∧(∀ d,kQ r l (2*d+1)≤r (2*d+1))∧(∀ p ∈ l,r (2*p.1)+1≤kQ r l (2*p.2)∧kQ r l (2*p.1+1)≤r (2*p.2+1)-1)
 | [],r,hr,_=>⟨hr,fun d=>Int.le_refl _,fun d=>Int.le_refl _,fun p hp=>by cases hp⟩
 | p :: l,r,hr,hl=>by
   obtain ⟨p1,p2,p3⟩:=hl p (by simp);obtain ⟨s1,s2,s3,s4,s5⟩:=La h hr p1 p2 p3;obtain ⟨i1,i2,i3,i4⟩:=oC h l s1 (fun q hq=>hl q (List.mem_cons_of_mem _ hq));refine ⟨i1,fun d=>Int.le_trans (s2 d) (i2 d),fun d=>Int.le_trans (i3 d) (s3 d),fun q hq=>?_⟩;rcases List.mem_cons.1 hq with rfl | hq
   · exact ⟨Int.le_trans s4 (i2 _),Int.le_trans (i3 _) s5⟩
   · have:=i4 q hq;have a1:=s2 q.1;have a2:=s3 q.2;exact ⟨by show r (2*q.1)+1≤kQ (Az r p.1 p.2) l (2*q.2);omega,by show kQ (Az r p.1 p.2) l (2*q.1+1)≤r (2*q.2+1)-1;omega⟩
def EN (n:Nat) (b:Nat→Nat) (l:List (Nat×Nat)):Prop:=∀ a c,(a,c) ∈ l↔a<n∧c<n∧(b c).testBit a=true
theorem EX (h:ll n b=false) {t:Nat} {l:List (Nat×Nat)} (hl:EN n b l) {r:Nat→Int} (hr:Bd n b w t r):Bd n b w (t+1) (kQ r l):=by
 obtain ⟨i1,i2,i3,i4⟩:=oC h l hr (fun p hp=>(hl p.1 p.2).1 hp);refine ⟨fun c hc=>⟨?_,(i1.lo c hc).2⟩,fun a ha=>⟨?_,(i1.hi a ha).2⟩,i1.out⟩
 · rcases iV (fi n b w t c) (fun a=>fi n b w t a+1) (fun a=>(b c).testBit a) n with e | ⟨a,h1,h2,h3⟩
   · have:fi n b w (t+1) c=fi n b w t c:=e;have:=(i1.lo c hc).1;omega
   · have e:fi n b w (t+1) c=fi n b w t a+1:=h3;have:=(i4 (a,c) ((hl a c).2 ⟨h1,hc,h2⟩)).1;have:=(hr.lo a h1).1;dsimp only at *;omega
 · rcases iV (fh n b w t a) (fun c=>fh n b w t c+1) (fun c=>(b c).testBit a) n with e | ⟨c,h1,h2,h3⟩
   · have:fh n b w (t+1) a=fh n b w t a:=e;have:=(i1.hi a ha).1;omega
   · have e:fh n b w (t+1) a=fh n b w t c+1:=h3;have:=(i4 (a,c) ((hl a c).2 ⟨ha,h1,h2⟩)).2;have:=(hr.hi c h1).1;dsimp only at *;omega
theorem AI {t:Nat} (ht:n≤t) {r:Nat→Int} (hr:Bd n b w t r):r=dN n b w:=by
 funext i;unfold dN;by_cases hi:i<2*n
 · rw[if_pos hi];by_cases e:i % 2=0
   · rw[if_pos e];have:=hr.lo (i / 2) (by omega);have h2:=lo_le (n:=n) (b:=b) (w:=w) n (t-n) (i / 2);rw[show n+(t-n)=t by omega] at h2;rw[show 2*(i / 2)=i by omega] at this;omega
   · rw[if_neg e];have:=hr.hi (i / 2) (by omega);have h2:=Cv (n:=n) (b:=b) (w:=w) n (t-n) (i / 2);rw[show n+(t-n)=t by omega] at h2;rw[show 2*(i / 2)+1=i by omega] at this;omega
 · rw[if_neg hi];exact hr.out i (by omega)
theorem HG (h:ll n b=false) {t:Nat} {l:List (Nat×Nat)} (hl:EN n b l) {r:Nat→Int} (hr:Bd n b w t r) (hs:kQ r l=r):r=dN n b w:=by
 have:∀ s,Bd n b w (t+s) r:=by
  intro s;induction s with
  | zero=>exact hr
  | succ s ih=>have:=EX h hl ih;rw[hs] at this;exact this
 exact AI (t:=t+n) (by omega) (this n)
def fk (l:List (Nat×Nat)) (w:Nat→Int):Nat→Nat→Int
 | 0=>w
 | t+1=>kQ (fk l w t) l
theorem kR (h:ll n b=false) {l:List (Nat×Nat)} (hl:EN n b l):∀ t,Bd n b w t (fk l w t)
 | 0=>P7
 | t+1=>EX h hl (kR h hl t)
end
end Go.Eng.Gall
end
section
namespace Go.Eng.Gall
def lY (x:Nat):Nat:=Go.Lib.ctz 64 x
theorem Iv {x:Nat} (h0:x≠0) (h:x<2 ^ 64):∃ m,x=2 ^ lY x*(2*m+1):=by
 obtain ⟨m,hm,_⟩:=Go.Lib.ctzFrom_spec 64 x (by omega) h;refine ⟨m,?_⟩;have e:lY x=Go.Lib.ctzFrom 64 x:=by unfold lY;simp[Go.Lib.ctz,h0]
 rw[e];exact hm
theorem L7 {x:Nat} (h0:x≠0) (h:x<2 ^ 64):x.testBit (lY x)=true∧(∀ i,i<lY x→x.testBit i=false)∧∀ i,(x &&& (x-1)).testBit i=(x.testBit i && !decide (i=lY x)):=by
 obtain ⟨m,hm⟩:=Iv h0 h;generalize lY x=k at *;have hp:=Nat.two_pow_pos k;have b1:∀ i,x.testBit i=if i<k then false else (2*m+1).testBit (i-k):=fun i=>by
  have:=Nat.testBit_two_pow_mul_add (2*m+1) hp i;rw[Nat.add_zero] at this;rw[hm,this,Nat.zero_testBit]
 have hx1:x-1=2 ^ k*(2*m)+(2 ^ k-1):=by rw[hm,Nat.mul_add];omega
 have b2:∀ i,(x-1).testBit i=if i<k then (2 ^ k-1).testBit i else (2*m).testBit (i-k):=fun i=>by
  rw[hx1,Nat.testBit_two_pow_mul_add (2*m) (show 2 ^ k-1<2 ^ k by omega) i]
 refine ⟨?_,fun i hi=>by rw[b1,if_pos hi],fun i=>?_⟩
 · rw[b1,if_neg (by omega),Nat.sub_self,Nat.testBit_zero];simp
 · rw[Nat.testBit_and,b1,b2];by_cases hi:i<k
   · rw[if_pos hi];simp
   · rw[if_neg hi,if_neg hi];by_cases e:i=k
     · subst e;rw[Nat.sub_self,Nat.testBit_zero,Nat.testBit_zero];simp
     · obtain ⟨d,hd⟩:∃ d,i-k=d+1:=⟨i-k-1,by omega⟩
       rw[hd,Nat.testBit_succ,Nat.testBit_succ,show (2*m+1) / 2=m by omega,show 2*m / 2=m by omega,decide_eq_false e];simp
def jM (x:Nat):Nat→Nat
 | 0=>x
 | k+1=>jM x k &&& (jM x k-1)
def my:Nat→Nat→List Nat
 | 0,_=>[]
 | f+1,x=>if x=0 then [] else lY x::my f (x &&& (x-1))
theorem vO (x k:Nat):jM x (k+1)=jM (x &&& (x-1)) k:=by
 induction k with
 | zero=>rfl
 | succ k ih=>show jM x (k+1) &&& (jM x (k+1)-1)=_;rw[ih];rfl
theorem v8:∀ (f x:Nat),x<2 ^ 64→(∀ i,x.testBit i=true→10≤i+f∧i<10) →
 (∀ a,a ∈ my f x↔x.testBit a=true)∧(∀ k (hk:k<(my f x).length),jM x k≠0∧(my f x)[k]=lY (jM x k))∧jM x (my f x).length=0
 | 0,x,h,hb=>by
   have hz:x=0:=by
    apply Nat.eq_of_testBit_eq;intro i;rw[Nat.zero_testBit];cases e:x.testBit i with
    | false=>rfl
    | true=>have:=hb i e;omega
   subst hz;refine ⟨fun a=>by simp[my],fun k hk=>absurd hk (Nat.not_lt_zero k),rfl⟩
 | f + 1,x,h,hb=>by
   by_cases h0:x=0
   · subst h0;refine ⟨fun a=>by simp[my],fun k hk=>by simp[my] at hk,by simp[my,jM]⟩
   · obtain ⟨l1,l2,l3⟩:=L7 h0 h;have hlt:x &&& (x-1)<2 ^ 64:=Nat.and_lt_two_pow _ (by omega);have hw:=hb _ l1;obtain ⟨i1,i2,i3⟩:=v8 f (x &&& (x-1)) hlt (fun i hi=>by
      rw[l3,Bool.and_eq_true] at hi;have h1:=hb i hi.1;refine ⟨?_,h1.2⟩;have:i≠lY x:=by simpa using hi.2
      apply Classical.byContradiction;intro hc;have:i<lY x:=by omega
      rw[l2 i this] at hi;cases hi.1)
     have e:my (f+1) x=lY x::my f (x &&& (x-1)):=by show (if x=0 then _ else _)=_;rw[if_neg h0]
     refine ⟨fun a=>?_,fun k hk=>?_,?_⟩
     · rw[e,List.mem_cons,i1,l3,Bool.and_eq_true];constructor
       · rintro (rfl | ⟨h2,_⟩)
         · exact l1
         · exact h2
       · intro h2;by_cases ea:a=lY x
         · exact .inl ea
         · exact .inr ⟨h2,by simpa using ea⟩
     · cases k with
       | zero =>
         refine ⟨h0,?_⟩;simp only[e,List.getElem_cons_zero];rfl
       | succ k =>
         rw[e,List.length_cons] at hk;have:=i2 k (by omega);rw[vO];refine ⟨this.1,?_⟩;simp only[e,List.getElem_cons_succ];exact this.2
     · rw[e,List.length_cons,vO];exact i3
theorem Mq (x k:Nat) (h:x<2 ^ 62):jM x k<2 ^ 62:=by
 induction k with
 | zero=>exact h
 | succ k ih=>exact Nat.and_lt_two_pow _ (by show jM x k-1 < _;omega)
def lu (b:Nat→Nat):Nat→List (Nat×Nat)
 | 0=>[]
 | c+1=>lu b c++(my 10 (b c)).map fun a=>(a,c)
theorem Db (b:Nat→Nat) (k:Nat) (hb:∀ c,c<k→b c<2 ^ 10) (a c:Nat):(a,c) ∈ lu b k↔c<k∧(b c).testBit a=true:=by
 induction k with
 | zero=>simp[lu]
 | succ k ih =>
   have hk:=hb k (by omega);have hall:=(v8 10 (b k) (Nat.lt_of_lt_of_le hk (by decide)) (fun i hi=>⟨by omega,by
    apply Classical.byContradiction;intro hc;have:=Nat.testBit_lt_two_pow (Nat.lt_of_lt_of_le hk (Nat.pow_le_pow_right (by decide) (show 10≤i by omega)));rw[hi] at this;cases this⟩)).1
   unfold lu;rw[List.mem_append,ih (fun c hc=>hb c (by omega)),List.mem_map];constructor
   · rintro (⟨h1,h2⟩ | ⟨d,hd,e⟩)
     · exact ⟨by omega,h2⟩
     · simp only[Prod.mk.injEq] at e;obtain ⟨rfl,rfl⟩:=e;exact ⟨by omega,(hall d).1 hd⟩
   · rintro ⟨h1,h2⟩;by_cases e:c=k
     · subst e;exact .inr ⟨a,(hall a).2 h2,rfl⟩
     · exact .inl ⟨by omega,h2⟩
end Go.Eng.Gall
end
