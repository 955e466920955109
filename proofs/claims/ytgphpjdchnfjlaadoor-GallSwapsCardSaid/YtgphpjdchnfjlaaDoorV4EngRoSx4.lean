/- The engine: functions that only read a list that lies at their caller's, known by what they do with a list that lies still. -/
import Derived.Test.YtgphpjdchnfjlaaDoorV4Gp2x6
import Derived.Test.YtgphpjdchnfjlaaDoorV4EngOrax2
import Derived.Lib.TrailingZeros
set_option linter.unusedVariables false
set_option linter.unusedSimpArgs false
section
namespace Go.Eng
noncomputable def LB (call:aA) (f:FuncId) (args:List AV) (H:aa):Option (AV×aa) :=
 match args with
 | [.int k1 a1,.int k2 a2,.slc d i ver 0 1 len cap]=>match cE H d i ver with
   | some (.I .i64 l)=>if l.length=len then (match call (.fn f) [.int k1 a1,.int k2 a2,.slcT none (.M [.arr .i64 (aX l) len]) 1 len false] [⟨true,[]⟩] with
     | some (v,_)=>some (Mv v,H)
     | none=>none) else none
   | _=>none
 | _=>none
theorem JJ {P:Program} {call:aA} (hC:bN P call) {f:FuncId} {args:List AV} {H:aa} {v:AV} {H':aa} (h:LB call f args H=some (v,H')) {p:aB} {M:Mu} {w:World} {cargs:Array Value} (hH:a7 p M H w) (hA:ep p M args cargs) :
 (∃ fn,P.funcs[f]?=some fn∧fn.body.isNone=false)∧CallsIn Fence.wide 0 P f cargs w (fy p M H w v H'):=by
 unfold LB at h
 split at h
 case h_2=>simp at h
 rename_i k1 a1 k2 a2 d i ver len cap
 split at h
 case h_2=>simp at h
 rename_i l hr
 split at h
 case isFalse=>simp at h
 rename_i hlen
 split at h
 case h_2=>simp at h
 rename_i u H2 hcall
 simp only[nP] at h
 obtain ⟨rfl,rfl⟩:=h
 have hg:=dw hr
 obtain ⟨b,o,t,hm,hb,hno⟩:=hH.live d i ver (.row (.I .i64 l)) hg (by simp)
 obtain ⟨vs,v1,v2⟩:=lQ hb
 have hle:aB.le p (lz p b o (Row.I .i64 l).len vs):=by
  intro b' o' v hv
  rw[fK hno,if_neg]
  · exact hv
  · rintro ⟨rfl,_⟩
    rw[hno] at hv;cases hv
 have hH0:a7 (lz p b o (Row.I .i64 l).len vs) Mu.no [⟨true,[]⟩] w:=⟨fun b' o' v hp=>by
  rw[fK hno] at hp
  split at hp
  · rename_i he
    obtain ⟨rfl,h1,h2⟩:=he
    rw[← hp]
    have:=v2 (o'-o) (by omega)
    rw[show o+(o'-o)=o' by omega] at this
    exact this
  · exact hH.pers _ _ _ hp,(fun d i v B hg hB=>by
  cases d<;>simp[ar,ao] at hg<;>exact absurd hg.2.symm hB),(fun d i v B d' i' v' B' b o t o' t' hg hB hg' hB' hm hm'=>by cases hm),(fun d i v t hm=>by cases hm)⟩
 have hrow:(Row.M [.arr .i64 (aX l) len]).len=(Row.I .i64 l).len:=by
  show len+0=l.length
  omega
 have hA0:ep (lz p b o (Row.I .i64 l).len vs) Mu.no [.int k1 a1,.int k2 a2,.slcT none (.M [.arr .i64 (aX l) len]) 1 len false] cargs:=⟨hA.1,fun j hj=>by
  have h3:j=0∨j=1∨j=2:=by simp at hj;omega
  rcases h3 with rfl | rfl | rfl
  · have h0:ai p M (.int k1 a1) (cargs.getD 0 undef):=hA.2 0 (by simp)
    exact h0.bg _ _
  · have h0:ai p M (.int k2 a2) (cargs.getD 1 undef):=hA.2 1 (by simp)
    exact h0.bg _ _
  · have h0:ai p M (.slc d i ver 0 1 len cap) (cargs.getD 2 undef):=hA.2 2 (by simp)
    show ai _ _ (.slcT none (.M [.arr .i64 (aX l) len]) 1 len false) (cargs.getD 2 undef)
    generalize cargs.getD 2 undef=cv at h0
    cases h0 with
    | slc h0 h5 h6 h7 h8 =>
      rename_i b2 o2 t2 x cc
      rw[hm] at h0
      simp only[nP] at h0
      obtain ⟨rfl,rfl,rfl⟩:=h0
      refine .slcT (o:=o) vs (fun j hj=>?_) (fun j hj=>(v1 j (by rw[← hrow];exact hj)).2) (fun j hj=>?_) h5 (fun e=>by cases e) (by rcases h8 with h8 | h8;exact .inl h8;exact .inr (by omega))
      · rw[hrow] at hj
        rw[fK hno,if_pos ⟨rfl,by omega,by omega⟩]
        congr 2;omega
      · rw[hrow] at hj
        have hj':j<l.length:=hj
        have h9:=(v1 j hj).1
        have e:(Row.M [.arr .i64 (aX l) len]).get j=.int .i64 (l.getD j 0):=by
         show (if j<len then AV.int .i64 (aX l j) else _)=_
         rw[if_pos (by omega),gp]
        rw[e]
        have h9:ai p _ (.int .i64 (l.getD j 0)) (vs j):=h9
        exact h9.bg _ _⟩
 obtain ⟨h1,h2⟩:=hC (.fn f) _ _ u H2 hcall (by simp) _ Mu.no w cargs hH0 hA0
 refine ⟨h1,h2.mono ?_⟩
 rintro en w' ⟨cv,rfl,st,p',M',hE,hv⟩
 have all:∀ b,Go.Eng.bk Mu.no [⟨true,[]⟩] b:=fun b d i u B _ _ _ o t hm=>by cases hm
 refine ⟨cv,rfl,Still.refl H,p,M,{ bZ.refl hH with rel:=⟨fun b' o' v hp=>hE.rel.pers b' o' v (hE.pst _ _ _ (hle _ _ _ hp)),?_,hH.apart,hH.dom⟩,stay:=hE.stay.weaken (fun b _ _=>all b) },AB hv⟩
 intro d i u B hg hB
 obtain ⟨b,o,t,k1,k2,k3⟩:=hH.live d i u B hg hB
 exact ⟨b,o,t,k1,k2.mono (aB.le.refl _) (Mu.le.refl _) (hE.stay.block b (k2.lt hB) (all b)),k3⟩
end Go.Eng
end
section
namespace Go.Eng.Gall
def mk (p:Nat→Bool):Nat→Nat
 | 0=>0
 | j+1=>if p j=true then mk p j+2 ^ j else mk p j
theorem gP (p:Nat→Bool):∀ j c,(mk p j).testBit c=(decide (c<j) && p c)
 | 0,c=>by simp[mk]
 | j + 1,c=>by
   have ih:=gP p j
   unfold mk
   by_cases hp:p j=true
   · rw[if_pos hp,zY (by rw[ih];simp),ih]
     by_cases e:c=j
     · subst e;simp[hp]
     · rw[decide_eq_false e,Bool.false_or]
       by_cases h:c<j
       · rw[decide_eq_true h,decide_eq_true (by omega)]
       · rw[decide_eq_false h,decide_eq_false (by omega)]
   · rw[if_neg hp,ih]
     by_cases e:c=j
     · subst e
       have:p c=false:=by simpa using hp
       rw[this];simp
     · by_cases h:c<j
       · rw[decide_eq_true h,decide_eq_true (by omega)]
       · rw[decide_eq_false h,decide_eq_false (by omega)]
theorem Lt (p:Nat→Bool) (j:Nat):mk p j<2 ^ j:=by
 apply Nat.lt_pow_two_of_testBit
 intro i hi
 rw[gP,decide_eq_false (by omega)];rfl
theorem mk_zero {p:Nat→Bool} {j:Nat}:mk p j=0↔∀ c,c<j→p c=false:=by
 constructor
 · intro h c hc
   have:=gP p j c
   rw[h,decide_eq_true hc] at this
   simpa using this.symm
 · intro h
   apply Nat.eq_of_testBit_eq
   intro c
   rw[gP,Nat.zero_testBit]
   by_cases hc:c<j
   · rw[h c hc];simp
   · rw[decide_eq_false hc];rfl
theorem Jt (j:Nat):mk (fun c=>decide (c<j)) j=2 ^ j-1:=by
 apply Nat.eq_of_testBit_eq
 intro c
 rw[gP,Nat.testBit_two_pow_sub_one];simp
section
variable (n:Nat) (b:Nat→Nat)
def bG:Nat→Nat→Bool
 | 0,c=>decide (c<n)
 | t+1,c=>decide (c<n) && (List.range n).any fun a=>bG t a && (b c).testBit a
def sL:Bool:=(List.range n).any (bG n b n)
variable {n b}
theorem ou {t c:Nat} (h:bG n b t c=true):c<n:=by
 cases t with
 | zero=>simpa[bG] using h
 | succ t=>simp only[bG,Bool.and_eq_true,decide_eq_true_eq] at h;exact h.1
theorem kD {t c:Nat}:bG n b (t+1) c=true↔c<n∧∃ a,bG n b t a=true∧(b c).testBit a=true:=by
 simp only[bG,Bool.and_eq_true,decide_eq_true_eq,List.any_eq_true,List.mem_range]
 constructor
 · rintro ⟨h,a,_,h2⟩;exact ⟨h,a,h2⟩
 · rintro ⟨h,a,h2,h3⟩;exact ⟨h,a,ou h2,h2,h3⟩
theorem vv {t:Nat}:∀ {c},bG n b (t+1) c=true→bG n b t c=true:=by
 induction t with
 | zero=>intro c h;simpa[bG] using (kD.1 h).1
 | succ t ih =>
   intro c h
   obtain ⟨h1,a,h2,h3⟩:=kD.1 h
   exact kD.2 ⟨h1,a,ih h2,h3⟩
theorem xp {t:Nat} (h:∀ c,bG n b t c=false):∀ s c,bG n b (t+s) c=false
 | 0,c=>h c
 | s+1,c=>by
   cases e:bG n b (t+(s+1)) c with
   | false=>rfl
   | true=>have:=vv (t:=t+s) e;rw[xp h s c] at this;cases this
theorem Gr {t:Nat} (h:∀ c,bG n b t c=true→bG n b (t+1) c=true):∀ s c,bG n b t c=true→bG n b (t+s) c=true:=by
 have h1:∀ s,∀ c,bG n b (t+s) c=true→bG n b (t+s+1) c=true:=by
  intro s
  induction s with
  | zero=>exact h
  | succ s ih =>
    intro c hc
    obtain ⟨a1,a,a2,a3⟩:=kD.1 hc
    exact kD.2 ⟨a1,a,ih a a2,a3⟩
 intro s
 induction s with
 | zero=>exact fun c hc=>hc
 | succ s ih=>exact fun c hc=>h1 s c (ih c hc)
theorem wC (p:Nat→Prop):∀ k,(∀ t,t<k→¬ p t)∨∃ T,T<k∧p T∧∀ t,t<T→¬ p t
 | 0=>.inl fun t h=>by omega
 | k + 1=>by
   rcases wC p k with h | ⟨T,h1,h2⟩
   · by_cases hk:p k
     · exact .inr ⟨k,by omega,hk,h⟩
     · exact .inl fun t ht=>by
        by_cases e:t=k
        · subst e;exact hk
        · exact h t (by omega)
   · exact .inr ⟨T,by omega,h2⟩
theorem II:∃ T,T≤n∧(∀ t,t<T→(∃ c,bG n b t c=true)∧∃ c,bG n b t c=true∧bG n b (t+1) c=false) ∧
 (((∀ c,bG n b T c=false)∧sL n b=false)∨((∃ c,bG n b T c=true)∧(∀ c,bG n b T c=true→bG n b (T+1) c=true)∧sL n b=true)):=by
 have hb:sL n b=true↔∃ c,bG n b n c=true:=by
  unfold sL
  rw[List.any_eq_true]
  constructor
  · rintro ⟨c,_,h⟩;exact ⟨c,h⟩
  · rintro ⟨c,h⟩;exact ⟨c,List.mem_range.2 (ou h),h⟩
 have fin:∀ T,T≤n→((∀ c,bG n b T c=false)∨(∀ c,bG n b T c=true→bG n b (T+1) c=true)) →
  (((∀ c,bG n b T c=false)∧sL n b=false)∨((∃ c,bG n b T c=true)∧(∀ c,bG n b T c=true→bG n b (T+1) c=true)∧sL n b=true)):=by
  intro T hT h
  by_cases he:∀ c,bG n b T c=false
  · refine .inl ⟨he,?_⟩
    cases e:sL n b with
    | false=>rfl
    | true =>
      obtain ⟨c,hc⟩:=hb.1 e
      have:=xp he (n-T) c
      rw[show T+(n-T)=n by omega,hc] at this;cases this
  · have hs:=h.resolve_left he
    have hex:∃ c,bG n b T c=true:=by
     apply Classical.byContradiction
     intro hn
     exact he fun c=>by
      cases e:bG n b T c with
      | false=>rfl
      | true=>exact absurd ⟨c,e⟩ hn
    obtain ⟨c,hc⟩:=hex
    refine .inr ⟨⟨c,hc⟩,hs,hb.2 ⟨c,?_⟩⟩
    have:=Gr hs (n-T) c hc
    rwa [show T+(n-T)=n by omega] at this
 rcases wC (fun t=>(∀ c,bG n b t c=false)∨(∀ c,bG n b t c=true→bG n b (t+1) c=true)) (n+1) with h | ⟨T,h1,h2,h3⟩
 · exfalso
   have len:∀ t,t≤n→((List.range n).filter (bG n b t)).length≤n-t:=by
    intro t
    induction t with
    | zero=>intro _;exact Nat.le_trans (List.length_filter_le _ _) (by rw[List.length_range];omega)
    | succ t ih =>
      intro ht
      have hi:=ih (by omega)
      have hn:=h t (by omega)
      rw[not_or] at hn
      obtain ⟨c,hc⟩:=Classical.not_forall.1 hn.2
      rw[Classical.not_imp] at hc
      have:=jQ (L:=c::(List.range n).filter (bG n b (t+1))) (M:=(List.range n).filter (bG n b t)) (List.nodup_cons.2 ⟨fun hm=>hc.2 (List.mem_filter.1 hm).2,List.Pairwise.filter _ List.nodup_range⟩) (fun x hx=>by
       rcases List.mem_cons.1 hx with rfl | hx
       · exact List.mem_filter.2 ⟨List.mem_range.2 (ou hc.1),hc.1⟩
       · obtain ⟨x1,x2⟩:=List.mem_filter.1 hx
         exact List.mem_filter.2 ⟨x1,vv x2⟩)
      rw[List.length_cons] at this
      omega
   have h0:=len n (Nat.le_refl n)
   refine h n (by omega) (.inl fun c=>?_)
   cases e:bG n b n c with
   | false=>rfl
   | true =>
     have hm:c ∈ (List.range n).filter (bG n b n):=List.mem_filter.2 ⟨List.mem_range.2 (ou e),e⟩
     have:=List.length_pos_of_mem hm
     omega
 · refine ⟨T,by omega,fun t ht=>?_,fin T (by omega) h2⟩
   have hn:=h3 t ht
   rw[not_or] at hn
   obtain ⟨c,hc⟩:=Classical.not_forall.1 hn.2
   rw[Classical.not_imp] at hc
   exact ⟨⟨c,hc.1⟩,c,hc.1,by simpa using hc.2⟩
theorem and_zero {x y:Nat}:x &&& y=0↔∀ a,x.testBit a=true→y.testBit a=false:=by
 constructor
 · intro h a ha
   have:=congrArg (fun z=>z.testBit a) h
   simpa[Nat.testBit_and,ha] using this
 · intro h
   apply Nat.eq_of_testBit_eq
   intro a
   rw[Nat.testBit_and,Nat.zero_testBit]
   cases e:x.testBit a with
   | false=>rfl
   | true=>rw[h a e];rfl
theorem Gq {t c:Nat} (hc:c<n):bG n b (t+1) c=false↔b c &&& mk (bG n b t) n=0:=by
 rw[and_zero]
 constructor
 · intro h a ha
   rw[gP]
   cases e:bG n b t a with
   | false=>simp
   | true=>rw[kD.2 ⟨hc,a,e,ha⟩] at h;cases h
 · intro h
   cases e:bG n b (t+1) c with
   | false=>rfl
   | true =>
     obtain ⟨_,a,a1,a2⟩:=kD.1 e
     have:=h a a2
     rw[gP,a1,decide_eq_true (ou a1)] at this;cases this
end
end Go.Eng.Gall
end
section
namespace Go.Eng.Gall
section
variable (n:Nat) (b:Nat→Nat) (w:Nat→Int)
variable {n b w}
end
end Go.Eng.Gall
end
section
namespace Go.Eng.Gall
end Go.Eng.Gall
end
