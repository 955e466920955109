/- Lay: trying all plans: one is found just if no cells crowd. -/
import Derived.Test.YtoomemfhcbajoaaV8Lb53x4
import Derived.Test.YtoomemfhcbajoaaV8EngRnLx7
import Derived.Test.YtoomemfhcbajoaaV8EngKtL
import Derived.Test.YtoomemfhcbajoaaProg
import Derived.KernelRfl
import Derived.Test.YtoomemfhcbajoaaChecked
import Derived.Test.YtoomemfhcbajoaaV8LaRfx7
import Derived.Test.YtoomemfhcbajoaaV8Lb14x11
import Derived.Test.YtoomemfhcbajoaaV8EngRnFx5
import Derived.Test.YtoomemfhcbajoaaRows
import Derived.ProofKit
import Derived.OpenShut
set_option linter.unusedVariables false
set_option linter.unusedSimpArgs false
set_option maxRecDepth 100000
section
namespace Go.Eng
theorem vw (S i:Nat):bt S i=S.testBit i:=by unfold bt;rw[Nat.testBit_eq_decide_div_mod_eq]
theorem IB:∀ D,D<64→∀ S,S<64→S &&& D=0→∀ i,i<6→bt (D+S) i=(bt D i || bt S i)∧(bt D i && bt S i)=false:=by decide +kernel
theorem IC:∀ D,D<64→∀ S,S<64→(∀ i,i<6→(bt D i && bt S i)=false)→S &&& D=0:=by decide +kernel
theorem AX:∀ l,l<7→∀ D,D<2 ^ l→(D+1=2 ^ l↔∀ i,i<l→bt D i=true):=by decide +kernel
def nA (p:Nat→Bool):Nat→Nat
 | 0=>0
 | i+1=>2 ^ i*(p i).toNat+nA p i
theorem pV (p:Nat→Bool):∀ l,nA p l<2 ^ l
 | 0=>by show 0<1;decide
 | l+1=>by
   have:=pV p l
   show 2 ^ l*(p l).toNat+nA p l<2 ^ (l+1)
   rw[Nat.pow_succ]
   cases p l
   · show 2 ^ l*0+nA p l < _;omega
   · show 2 ^ l*1+nA p l < _;omega
theorem ud (p:Nat→Bool) (i:Nat):∀ l,bt (nA p l) i=(decide (i<l) && p i)
 | 0=>by
   rw[vw]
   show Nat.testBit 0 i=_
   simp
 | l + 1=>by
   have ih:=ud p i l
   rw[vw] at ih ⊢
   show Nat.testBit (2 ^ l*(p l).toNat+nA p l) i=_
   rw[Nat.testBit_two_pow_mul_add _ (pV p l)]
   by_cases c:i<l
   · rw[if_pos c,ih,decide_eq_true c,decide_eq_true (show i<l+1 by omega)]
   · rw[if_neg c]
     by_cases e:i=l
     · subst e
       rw[Nat.sub_self,decide_eq_true (show i<i+1 by omega),Bool.true_and]
       cases p i<;>rfl
     · rw[decide_eq_false (show ¬ i<l+1 by omega),Bool.false_and]
       have:i-l=(i-l-1)+1:=by omega
       rw[this,Nat.testBit_succ]
       cases p l<;>simp
theorem EN {p q:Nat→Bool}:∀ l,(∀ i,i<l→(p i && q i)=false)→nA (fun i=>p i || q i) l=nA p l+nA q l
 | 0,_=>rfl
 | l+1,h=>by
   have ih:=EN l (fun i hi=>h i (by omega))
   have hl:=h l (by omega)
   show 2 ^ l*(p l || q l).toNat+nA (fun i=>p i || q i) l=(2 ^ l*(p l).toNat+nA p l)+(2 ^ l*(q l).toNat+nA q l)
   rw[ih]
   cases hp:p l<;>cases hq:q l
   · simp; 
   · simp;omega
   · simp;omega
   · rw[hp,hq] at hl;cases hl
theorem uP {p q:Nat→Bool}:∀ l,(∀ i,i<l→p i=q i)→nA p l=nA q l
 | 0,_=>rfl
 | l+1,h=>by
   show 2 ^ l*(p l).toNat+nA p l=2 ^ l*(q l).toNat+nA q l
   rw[uP l (fun i hi=>h i (by omega)),h l (by omega)]
theorem xg {p q:Nat→Bool}:∀ l,(∀ i,i<l→(p i && q i)=false)→cn (fun i=>p i || q i) l=cn p l+cn q l
 | 0,_=>rfl
 | l+1,h=>by
   have ih:=xg l (fun i hi=>h i (by omega))
   have hl:=h l (by omega)
   show cn (fun i=>p i || q i) l+(p l || q l).toNat=(cn p l+(p l).toNat)+(cn q l+(q l).toNat)
   rw[ih]
   cases hp:p l<;>cases hq:q l
   · simp
   · simp;omega
   · simp;omega
   · rw[hp,hq] at hl;cases hl
theorem AY {p:Nat→Bool} {h:Int} (h0:0≤h):∀ l,(∀ j,j<l→p j=true→(cn p (j+1):Int)≤h)→(cn p l:Int)≤h
 | 0,_=>h0
 | l + 1,hp=>by
   have ih:=AY h0 l (fun j hj=>hp j (by omega))
   cases e:p l with
   | true=>exact hp l (by omega) e
   | false =>
     show ((cn p l+(p l).toNat:Nat):Int)≤h
     rw[e];exact ih
section
variable {l k:Nat} {t d:Nat→Int} {h:Int}
theorem CD {e z:Nat→Int} (hf:Fw l t) (hn:∀ T:Nat,(cn (fun c=>decide (z c≤(T:Int))) l:Int)≤h*T) (hr:∀ j,j<l→0≤t j→z j<z (t j).toNat) (he:∀ j,j<l→z j≤e j):bV l t e h=true:=by
 refine (mf l t e h).2 (fun T hT=>?_)
 have:=hn T
 have:jE l t e T≤cn (fun c=>decide (z c≤(T:Int))) l:=ij (fun c hc hp=>by
  have a:nQ l t e c≤T:=by simpa using hp
  have b:z c≤nQ l t e c:=(uG hf hc).2 (fun q hq=>by
   have:=Fu hf hr hc q hq
   have h1:=(np hf hc q hq).1
   have h2:=ia hf.tl (x:=(c:Int)) (by omega) q
   have:=he (bO t q (c:Int)).toNat (by omega)
   omega)
  rw[decide_eq_true_eq];omega)
 omega
theorem Eg (hl:l≤6) (h0:0≤h):∀ (r D:Nat),r≤41→D<2 ^ l→pA l t d h r D=true→∃ z:Nat→Int,(∀ c,c<l→bt D c=false→(41:Int)-r≤z c∧z c≤d c) ∧
 (∀ c i,c<l→i<l→bt D c=false→t i=(c:Int)→bt D i=true∨(bt D i=false∧z i<z c))∧∀ T:Int,(cn (fun c=>!bt D c && decide (z c=T)) l:Int)≤h:=by
 obtain ⟨p1,p2⟩:=uX l (by omega)
 have full:∀ D,D<2 ^ l→D+1=2 ^ l→∃ z:Nat→Int,∀ r:Nat,(∀ c,c<l→bt D c=false→(41:Int)-r≤z c∧z c≤d c) ∧
  (∀ c i,c<l→i<l→bt D c=false→t i=(c:Int)→bt D i=true∨(bt D i=false∧z i<z c))∧∀ T:Int,(cn (fun c=>!bt D c && decide (z c=T)) l:Int)≤h:=fun D hD e=>by
  have hb:=(AX l (by omega) D hD).1 e
  refine ⟨fun _=>0,fun r=>⟨fun c hc hn=>(by rw[hb c hc] at hn;cases hn),fun c i hc _ hn _=>(by rw[hb c hc] at hn;cases hn),fun T=>?_⟩⟩
  rw[kr (fun j hj=>by rw[hb j hj];rfl)]
  exact h0
 intro r
 induction r with
 | zero =>
   intro D _ hD hf
   obtain ⟨z,hz⟩:=full D hD (of_decide_eq_true hf)
   exact ⟨z,hz 0⟩
 | succ r ih =>
   intro D hr hD hf
   have hf:(decide (D+1=2 ^ l) || dC (fun S=>okB l t d h D ((40-r:Nat):Int) S && pA l t d h r (D+S)) (2 ^ l))=true:=hf
   rw[Bool.or_eq_true,decide_eq_true_eq] at hf
   rcases hf with hf | hf
   · obtain ⟨z,hz⟩:=full D hD hf
     exact ⟨z,hz (r+1)⟩
   · obtain ⟨S,hS,hb⟩:=(dY _ _).1 hf
     rw[Bool.and_eq_true] at hb
     obtain ⟨ho,hfe⟩:=hb
     unfold okB at ho
     rw[Bool.and_eq_true,decide_eq_true_eq,Bool.not_eq_true'] at ho
     obtain ⟨hd,hno⟩:=ho
     have hDS:=Ed l (by omega) D hD S hS hd
     obtain ⟨z',a1,a2,a3⟩:=ih (D+S) (by omega) hDS hfe
     have hbit:∀ i,i<l→bt (D+S) i=(bt D i || bt S i)∧(bt D i && bt S i)=false:=fun i hi=>IB D (by omega) S (by omega) hd i (by omega)
     have hS1:∀ j,j<l→bt S j=true→(40:Int)-r≤d j∧(cn (bt S) (j+1):Int)≤h∧∀ i,i<l→t i=(j:Int)→bt D i=true:=fun j hj hb=>by
      have:=gI hno j hj
      unfold Ad at this
      rw[hb,Bool.true_and,Bool.or_eq_false_iff,Bool.or_eq_false_iff,decide_eq_false_iff_not,decide_eq_false_iff_not] at this
      obtain ⟨⟨b1,b2⟩,b3⟩:=this
      refine ⟨by omega,by omega,fun i hi e=>?_⟩
      have:=gI b3 i hi
      unfold FT at this
      rw[decide_eq_true e,Bool.true_and] at this
      simpa using this
     refine ⟨fun c=>if bt S c=true then (40:Int)-r else z' c,fun c hc hn=>?_,fun c i hc hi hn e=>?_,fun T=>?_⟩
     · dsimp only
       by_cases hs:bt S c=true
       · rw[if_pos hs]
         exact ⟨by omega,(hS1 c hc hs).1⟩
       · rw[if_neg hs]
         have hs:bt S c=false:=by simpa using hs
         have:=a1 c hc (by rw[(hbit c hc).1,hn,hs];rfl)
         exact ⟨by omega,this.2⟩
     · dsimp only
       by_cases hs:bt S c=true
       · exact .inl ((hS1 c hc hs).2.2 i hi e)
       · rw[if_neg hs]
         have hs:bt S c=false:=by simpa using hs
         have hcn:bt (D+S) c=false:=by rw[(hbit c hc).1,hn,hs];rfl
         have hz:=(a1 c hc hcn).1
         rcases a2 c i hc hi hcn e with b | ⟨b1,b2⟩
         · rw[(hbit i hi).1,Bool.or_eq_true] at b
           rcases b with b | b
           · exact .inl b
           · refine .inr ⟨?_,?_⟩
             · have:=(hbit i hi).2
               rw[b,Bool.and_true] at this
               exact this
             · rw[if_pos b];omega
         · rw[(hbit i hi).1,Bool.or_eq_false_iff] at b1
           refine .inr ⟨b1.1,?_⟩
           rw[if_neg (by rw[b1.2];decide)]
           exact b2
     · show ((cn (fun c=>!bt D c && decide ((if bt S c=true then (40:Int)-r else z' c)=T)) l:Nat):Int)≤h
       by_cases eT:T=(40:Int)-r
       · have:cn (fun c=>!bt D c && decide ((if bt S c=true then (40:Int)-r else z' c)=T)) l≤cn (bt S) l:=ij (fun c hc hp=>by
          rw[Bool.and_eq_true,Bool.not_eq_true',decide_eq_true_eq] at hp
          by_cases hs:bt S c=true
          · exact hs
          · rw[if_neg hs] at hp
            have hs:bt S c=false:=by simpa using hs
            have:=(a1 c hc (by rw[(hbit c hc).1,hp.1,hs];rfl)).1
            omega)
         have:=AY h0 l (fun j hj hb=>(hS1 j hj hb).2.1)
         omega
       · have:cn (fun c=>!bt D c && decide ((if bt S c=true then (40:Int)-r else z' c)=T)) l≤cn (fun c=>!bt (D+S) c && decide (z' c=T)) l:=ij (fun c hc hp=>by
          rw[Bool.and_eq_true,Bool.not_eq_true',decide_eq_true_eq] at hp ⊢
          by_cases hs:bt S c=true
          · rw[if_pos hs] at hp;omega
          · rw[if_neg hs] at hp
            have hs:bt S c=false:=by simpa using hs
            exact ⟨by rw[(hbit c hc).1,hp.1,hs];rfl,hp.2⟩)
         have:=a3 T
         omega
theorem n7 (i:Nat):bt 0 i=false:=by rw[vw];simp
theorem IW (hs:Sh l t k d) (hl:l≤6) (h0:0≤h) (hf:pA l t d h 40 0=true):bV l t d h=true:=by
 obtain ⟨p1,p2⟩:=uX l (by omega)
 obtain ⟨z,a1,a2,a3⟩:=Eg (d:=d) hl h0 40 0 (by omega) (by omega) hf
 refine CD (z:=z) hs.fw (fun T=>?_) (fun j hj h1=>?_) (fun j hj=>(a1 j hj (n7 j)).2)
 · induction T with
   | zero =>
     rw[kr (fun j hj=>decide_eq_false (by have:=(a1 j hj (n7 j)).1;omega))]
     simp
   | succ T ih =>
     have:=a3 ((T+1:Nat):Int)
     have e:cn (fun c=>decide (z c≤((T+1:Nat):Int))) l=cn (fun c=>decide (z c≤(T:Int))) l+cn (fun c=>decide (z c=((T+1:Nat):Int))) l:=by
      rw[← xg l (fun i hi=>by
       by_cases c:z i≤(T:Int)
       · rw[decide_eq_false (show ¬ z i=((T+1:Nat):Int) by omega),Bool.and_false]
       · rw[decide_eq_false c,Bool.false_and])]
      exact dq (fun i hi=>by
       rw[Bool.eq_iff_iff,Bool.or_eq_true,decide_eq_true_eq,decide_eq_true_eq,decide_eq_true_eq]
       omega)
     have e2:cn (fun c=>decide (z c=((T+1:Nat):Int))) l=cn (fun c=>!bt 0 c && decide (z c=((T+1:Nat):Int))) l:=dq (fun i hi=>by rw[n7];rfl)
     have e3:h*((T+1:Nat):Int)=h*(T:Int)+h:=by rw[Int.natCast_add,Int.mul_add];simp
     rw[e3]
     omega
 · have htl:=hs.tl j hj
   rcases a2 (t j).toNat j (by omega) hj (n7 _) (by omega) with b | ⟨_,b⟩
   · rw[n7] at b;cases b
   · exact b
theorem II (hs:Sh l t k d) (hl:l≤6) (h1:1≤h) (h10:h≤10) (hc:bV l t d h=true):pA l t d h 40 0=true:=by
 obtain ⟨p1,p2⟩:=uX l (by omega)
 obtain ⟨_,T1,T40⟩:=mI hs hc
 have key : ∀ j m,m+j=fR l t d h→pA l t d h (40-m) (nA (dP l k t d h m) l)=true:=by
  intro j
  induction j with
  | zero =>
    intro m hm
    have hall:nA (dP l k t d h m) l+1=2 ^ l:=(AX l (by omega) _ (pV _ l)).2 (fun i hi=>by
     rw[ud,decide_eq_true hi,Bool.true_and]
     obtain ⟨m',a,_,b⟩:=Am hs hc ⟨h1,h10⟩ hi
     exact Bp (by omega) b)
    cases 40-m with
    | zero=>exact decide_eq_true hall
    | succ r =>
      show (decide (_=2 ^ l) || _)=true
      rw[decide_eq_true hall];rfl
  | succ j ih =>
    intro m hm
    have ih:=ih (m+1) (by omega)
    obtain ⟨r,hr⟩:∃ r,40-m=r+1:=⟨39-m,by omega⟩
    rw[hr]
    show (decide (_=2 ^ l) || dC (fun S=>okB l t d h (nA (dP l k t d h m) l) ((40-r:Nat):Int) S && pA l t d h r (nA (dP l k t d h m) l+S)) (2 ^ l))=true
    rw[Bool.or_eq_true]
    right
    have hcell:∀ i ∈ rN l k t d h m,i<l∧dP l k t d h m i=false:=(yK hs m).2
    have hdis:∀ i,i<l→(dP l k t d h m i && decide (i ∈ rN l k t d h m))=false:=fun i hi=>by
     by_cases c:i ∈ rN l k t d h m
     · rw[(hcell i c).2];rfl
     · rw[decide_eq_false c,Bool.and_false]
    have hsum:nA (dP l k t d h (m+1)) l=nA (dP l k t d h m) l+nA (fun i=>decide (i ∈ rN l k t d h m)) l:=by
     rw[← EN l hdis]
     exact uP l (fun i hi=>zS m i)
    have hbS:∀ i,i<l→bt (nA (fun i=>decide (i ∈ rN l k t d h m)) l) i=decide (i ∈ rN l k t d h m):=fun i hi=>by rw[ud,decide_eq_true hi,Bool.true_and]
    have hbD:∀ i,i<l→bt (nA (dP l k t d h m) l) i=dP l k t d h m i:=fun i hi=>by rw[ud,decide_eq_true hi,Bool.true_and]
    refine (dY _ _).2 ⟨nA (fun i=>decide (i ∈ rN l k t d h m)) l,pV _ l,?_⟩
    rw[← hsum,show r=40-(m+1) by omega,ih,Bool.and_true]
    unfold okB
    rw[Bool.and_eq_true,decide_eq_true_eq,Bool.not_eq_true']
    have l1:=pV (dP l k t d h m) l
    have l2:=pV (fun i=>decide (i ∈ rN l k t d h m)) l
    refine ⟨IC _ (by omega) _ (by omega) (fun i hi=>?_),jx (fun i hi=>?_)⟩
    · rw[ud,ud]
      by_cases c:i<l
      · rw[decide_eq_true c,Bool.true_and,Bool.true_and];exact hdis i c
      · rw[decide_eq_false c];rfl
    · unfold Ad
      rw[hbS i hi]
      by_cases c:i ∈ rN l k t d h m
      · rw [decide_eq_true c,Bool.true_and,Bool.or_eq_false_iff,Bool.or_eq_false_iff]
        obtain ⟨m',q1,q2,q3⟩:=Am hs hc ⟨h1,h10⟩ hi
        have em:=JE hs c q3
        subst em
        refine ⟨⟨decide_eq_false (by omega),decide_eq_false ?_⟩,jx (fun y hy=>?_)⟩
        · have a:=ij (p:=bt (nA (fun i=>decide (i ∈ rN l k t d h m)) l)) (q:=fun i=>decide (i ∈ rN l k t d h m)) (n:=i+1) (fun y hy hp=>by rw[hbS y (by omega)] at hp;exact hp)
          have b:cn (fun i=>decide (i ∈ rN l k t d h m)) (i+1)≤cn (fun i=>decide (i ∈ rN l k t d h m)) l:=by
           have:∀ q,cn (fun i=>decide (i ∈ rN l k t d h m)) (i+1)≤cn (fun i=>decide (i ∈ rN l k t d h m)) (i+1+q):=fun q=>by
            induction q with
            | zero=>exact Nat.le_refl _
            | succ q ihq =>
              show _≤cn _ (i+1+q)+_
              omega
           have:=this (l-(i+1))
           rw[show i+1+(l-(i+1))=l by omega] at this
           exact this
          have c2:=vA (yK (h:=h) hs m).1 (fun i hi=>(hcell i hi).1)
          have d2:=(JD hs hc ⟨h1,h10⟩ q1).2
          omega
        · unfold FT
          rw[hbD y hy]
          by_cases e:t y=(i:Int)
          · obtain ⟨my,b1,_,b3⟩:=Am hs hc ⟨h1,h10⟩ hy
            have:=JC hs b3 c e
            rw[Bp this b3];simp
          · rw[decide_eq_false e];rfl
      · rw[decide_eq_false c];rfl
 have:=key (fR l t d h) 0 (by omega)
 have e0:nA (dP l k t d h 0) l=0:=by
  have:∀ q,nA (fun _=>false) q=0:=fun q=>by
   induction q with
   | zero=>rfl
   | succ q ihq=>show 2 ^ q*0+nA (fun _=>false) q=0;rw[ihq,Nat.mul_zero]
  exact this l
 rw[e0] at this
 exact this
theorem IX (hs:Sh l t k d) (hl:l≤6) (h1:1≤h) (h10:h≤10):pA l t d h 40 0=bV l t d h:=by
 rw[Bool.eq_iff_iff]
 exact ⟨IW hs hl (by omega),II hs hl h1 h10⟩
end
end Go.Eng
end
section
namespace Go.Eng
open Go.Proofs
theorem OW (n l k:Nat) (t d:Nat→Int) (h:Int) (b:Bool) (H:aa):bz Try.prog (cd n) 100000 8 Try.f8 (KtL.kt 8) (il (FN (tX aQ 43 [dV l t k d] (.bool b)) 16 L3) n 0) aT aU [(dV l t k d,none),(.int .u8 h,none)] H =
 (fun (Z0:List AV)=>Tr.reqP (Z0=Z0) (Tr.ite (bx b) (Tr.reqP True (Tr.ok ((AV.bool true,none),H))) (Tr.ite (cF (Int.ofNat 6) (Int.ofNat l)) (Tr.reqP True (Tr.ok ((AV.bool true,none),H))) (Tr.req (bx (dX (Int.ofNat 3) (Int.ofNat 0))) (Tr.req (EO (Int.ofNat 2624) (Int.ofNat 2624) 8) Tr.bad))))) [AV.agg (Row.G [AV.slcT none (Row.M [ah.arr .i64 t l]) 1 l false,AV.slcT none (Row.M [ah.arr .i64 d k]) 1 k false])]:=by kernel_rfl
theorem u8 (n l k:Nat) (t d z z2:Nat→Int) (h hv c a1 a2:Int) (b:Bool) (pl:AV) (H:aa):bz Try.prog (cd n) 100000 8 Try.f8 (KtL.kt 8) (il (FN (A5 (tX (tX (tX aQ 43 [dV l t k d] (.bool true)) 27 [dV l t k d,.int .i64 hv] (.tup [pl,.int .i64 c])) 34 [dV l t k d] (.tup [.int .i64 a1,.int .i64 a2])) 44 [dV l t k d,.int .i64 hv,.int .i64 0,.int .i64 1,.slc 0 1 0 0 1 2624 (some 2624)] (iC l t k d z::H) (.ok (.bool b,iC l t k d z2::H))) 16 L3) n 0) aT aU [(dV l t k d,none),(.int .u8 h,none)] H =
 (fun (Z0:Row)=>Tr.reqP ([AV.agg Z0]=[AV.agg Z0]) (Tr.ite (bx true) (Tr.reqP True (Tr.ok ((AV.bool true,none),H))) (Tr.ite (cF (Int.ofNat 6) (Int.ofNat l)) (Tr.reqP True (Tr.ok ((AV.bool true,none),H))) (Tr.req (bx (dX (Int.ofNat 3) (Int.ofNat 0))) (Tr.req (EO (Int.ofNat 2624) (Int.ofNat 2624) 8) (Tr.reqP ([AV.agg Z0,AV.int .i64 (bf .i64 (Int.ofNat 1) (Ao IntKind.i64 (FU IntKind.i64 h) (Int.ofNat 3))),AV.int .i64 (Int.ofNat 0),AV.int .i64 (Int.ofNat 1),AV.slc 0 1 0 0 1 (fa (Int.ofNat 2624)) (some (fa (Int.ofNat 2624)))]=[AV.agg Z0,AV.int .i64 hv,AV.int .i64 (Int.ofNat 0),AV.int .i64 (Int.ofNat 1),AV.slc 0 1 0 0 1 2624 (some 2624)]∧{ lock:=false,bs:=[(0,ak.row Z0),(0,ak.row (Row.M [ah.arr .i64 (fun x=>Int.ofNat 0) (fa (Int.ofNat 2624))]))] } :: H={ lock:=false,bs:=[(0,ak.row Z0),(0,ak.row (Row.M [ah.arr .i64 z 2624]))] } :: H) (Tr.reqP ([AV.agg Z0,AV.int .i64 (bf .i64 (Int.ofNat 1) (Ao IntKind.i64 (FU IntKind.i64 h) (Int.ofNat 3)))]=[AV.agg Z0,AV.int .i64 hv]) (Tr.reqP ([AV.agg Z0]=[AV.agg Z0]) (Tr.ite (Gi (dX c (Int.ofNat 0)) b) (Tr.ite (dX a2 (Int.ofNat 0)) (Tr.ite (Gi b (mU a1 (bf .i64 (Int.ofNat 1) (Ao IntKind.i64 (FU IntKind.i64 h) (Int.ofNat 3))))) (Tr.reqP True (Tr.ok ((AV.bool true,none),H))) (Tr.ok ((AV.bool false,some 1),H))) (Tr.ite (Gi b false) (Tr.reqP True (Tr.ok ((AV.bool true,none),H))) (Tr.ok ((AV.bool false,some 1),H)))) (Tr.ok ((AV.bool false,some 1),H))))))))))) (Row.G [AV.slcT none (Row.M [ah.arr .i64 t l]) 1 l false,AV.slcT none (Row.M [ah.arr .i64 d k]) 1 k false]):=by kernel_rfl
section
variable (n l k:Nat) (t d:Nat→Int) (H:aa)
theorem c8 (h:Int) (hh:0≤h∧h≤255):cd (n+43) (.fn 8) [dV l t k d,.int .u8 h] H=some (.bool true,H):=by
 have h43:∀ H,cd (n+42) (.fn 43) [dV l t k d] H=some (.bool (decide (mP l t k d=0)),H):=fun H=>Pd (n+39) l k t d H
 by_cases hb1:mP l t k d=0
 · by_cases hl6:6<l
   · refine aR (n:=n+42) Try.func8 rfl rfl rfl (OW (n+42) l k t d h _ H) (bj _ (n+42) (Mx (by omega) (cL (aX _) h43))) (af _ _) (ag _ _) ?_
     generalize decide (mP l t k d=0)=B at *
     exact wF
   · rw [decide_eq_true hb1] at h43
     have hs:=za hb1
     have m1:h.tmod 3=h % 3:=Int.tmod_eq_emod_of_nonneg hh.1
     have hh1:1≤1+h % 3:=by omega
     have hh2:1+h % 3≤10:=by omega
     generalize hhv:1+h % 3=hv at *
     have e1:bf .i64 (Int.ofNat 1) (Ao .i64 (FU .i64 h) (Int.ofNat 3))=hv:=by
      rw[J0 (by omega) (by omega),BZ,show Int.ofNat 3=3 from rfl,m1,show Int.ofNat 1=1 from rfl,Cu (by omega) (by omega),hhv]
     have ha:=Iy hs hh1 hh2
     have hfe:=IX hs (by omega) hh1 hh2
     obtain ⟨p1,p2⟩:=uX l (by omega)
     obtain ⟨z',e44,_,_⟩:=Pe l k t d hv (by omega) hs.kl 40 n 0 0 (fun _=>Int.ofNat 0) H (by omega) (by omega) (by omega) (fun _ _ _ _ _=>.inl rfl)
     rw[hfe] at e44
     have h34:∀ H,cd (n+42) (.fn 34) [dV l t k d] H=some (.tup [.int .i64 (Bi l t k d).1,.int .i64 (Bi l t k d).2],H):=fun H=>Pc (n+33) l k t d H
     obtain ⟨pl,hpl⟩:∃ pl,L8 l k t d hv=.tup [pl,.int .i64 (eU l k t d hv)]:=by
      unfold L8
      by_cases e:eU l k t d hv=0
      · rw[if_pos e,e];exact ⟨_,rfl⟩
      · rw[if_neg e];exact ⟨_,rfl⟩
     have h27:∀ H,cd (n+42) (.fn 27) [dV l t k d,.int .i64 hv] H=some (.tup [pl,.int .i64 (eU l k t d hv)],H):=fun H=>by rw[show n+42=(n+30)+12 by omega,Pb,hpl]
     have hhd:Bi l t k d=if jE l t d 0=0 then (Bm l t d 40,0) else (0,13):=by unfold Bi;rw[if_pos hb1]
     have hc:eU l k t d hv=if bV l t d hv=true then 0 else 13:=by unfold eU;rw[if_pos ha]
     have q1:Gi (dX (eU l k t d hv) (Int.ofNat 0)) (bV l t d hv)=true:=by
      rw[hc]
      cases bV l t d hv with
      | true=>rw[if_pos rfl,rS,dB];rfl
      | false=>rw[if_neg (by decide),rS,dB];rfl
     have q2:(Bi l t k d).2=0→Gi (bV l t d hv) (mU (Bi l t k d).1 hv)=true:=fun e=>by
      by_cases c:jE l t d 0=0
      · have:=IJ l t d hv hh1 c
        rw[hhd,if_pos c,rS,kJ]
        cases hx:bV l t d hv with
        | true=>rw[decide_eq_true (this.1 hx)];rfl
        | false=>rw[decide_eq_false (fun x=>by rw[this.2 x] at hx;cases hx)];rfl
      · rw[hhd,if_neg c] at e;cases e
     have q3:(Bi l t k d).2≠0→Gi (bV l t d hv) false=true:=fun e=>by
      by_cases c:jE l t d 0=0
      · rw[hhd,if_pos c] at e;exact absurd rfl e
      · rw[IK l t d hv (by omega),rS];rfl
     refine aR (n:=n+42) Try.func8 rfl rfl rfl (u8 (n+42) l k t d (fun _=>Int.ofNat 0) z' h hv (eU l k t d hv) (Bi l t k d).1 (Bi l t k d).2 (bV l t d hv) pl H) (bj _ (n+42) (Mx (by omega) (iG (cL (cL (cL (aX _) h43) h27) h34) (fun x hy=>by rw[← Tr.ab hy];exact e44)))) (af _ _) (ag _ _) ?_
     clear e44 h43 h27 h34 hhd hc hfe hpl
     have e3:fa (Int.ofNat 2624)=2624:=rn 2624
     have e4:EO (Int.ofNat 2624) (Int.ofNat 2624) 8=true:=by rw[wa,decide_eq_true_eq];unfold room;decide
     simp only[e1,e3,e4,q1]
     generalize eU l k t d hv=C at *
     generalize (Bi l t k d).1=a1 at *
     generalize (Bi l t k d).2=a2 at *
     generalize bV l t d hv=B at *
     by_cases e:a2=0
     · simp only[q2 e]
       exact wF
     · simp only[q3 e]
       exact wF
 · rw[decide_eq_false hb1] at h43
   refine aR (n:=n+42) Try.func8 rfl rfl rfl (OW (n+42) l k t d h _ H) (bj _ (n+42) (Mx (by omega) (cL (aX _) h43))) (af _ _) (ag _ _) ?_
   exact wF
end
end Go.Eng
end
section
namespace Go.Proofs.Ytoomemfhcbajoaa.Known
open Go.Eng Go.Proofs
theorem named:cS Try.prog:=by
 have h:(Try.prog.funcs.toList.all fun fn=>fn.body.isNone || !(fn.name == "runtime.NumGoroutine"))=true:=by kernel_rfl
 intro f fn hf hb
 have:=List.all_eq_true.1 h fn (by simpa using Array.mem_of_getElem? hf)
 rw[hb] at this
 simpa using this
theorem mixed:Try.prog.follows .mixedOrders=true:=by kernel_rfl
theorem GX:∀ e ∈ ([]:List fO),bp Try.prog e:=fun e h=>by cases h
theorem bZ {e:fO} {t:List fO} (h:bp Try.prog e) (k:∀ x ∈ t,bp Try.prog x):∀ x ∈ e::t,bp Try.prog x:=fun x hx=>by
 rcases List.mem_cons.1 hx with rfl | hx
 · exact h
 · exact k x hx
def LH:List fO:=[]
theorem Cc:∀ e ∈ LH,bp Try.prog e:=GX
def cA:List Nat→Code→Code
 | [],c=>c
 | x :: p,c=>match c with
   | .seq a b=>match x with
     | 0=>cA p a
     | _=>cA p b
   | .cond _ a b=>match x with
     | 0=>cA p a
     | _=>cA p b
   | .block _ b=>cA p b
   | .loop b=>cA p b
   | .scope b=>cA p b
   | .rangeFunc _ _ a b=>match x with
     | 0=>cA p a
     | _=>cA p b
   | c=>c
def kQ:Code→Array Oper
 | .region _ ops _=>ops
 | _=>#[]
noncomputable def ey:Code:=Try.f90.body.getD .skip
def I1 (l:List Oper):Oper:=l.headD { dst:=none,op:=.move (.tmp 0),type:=0,pos := "",after:=#[],guard:=none }
noncomputable def cO:cw:={ id0:=3,ops0:=kQ (cA [1,1,1,0,0] ey),pre:=(kQ (cA [1,1,1,0,0] ey)).toList.take 1,ro:=I1 ((kQ (cA [1,1,1,0,0] ey)).toList.drop 1),m:=9,ty:=95 }
noncomputable def bu:bm:={ out:=0,nj:=4,id2:=5,nxt:=1,ops1:=kQ (cA [1,1,1,0,1,0,0,0] ey),ops2:=kQ (cA [1,1,1,0,1,0,0,1,1,0,0] ey),no:=I1 (kQ (cA [1,1,1,0,1,0,0,0] ey)).toList,eo:=I1 (kQ (cA [1,1,1,0,1,0,0,1,1,0,0] ey)).toList,t1:=(kQ (cA [1,1,1,0,1,0,0,0] ey)).toList.tail,t2:=(kQ (cA [1,1,1,0,1,0,0,1,1,0,0] ey)).toList.tail,it:=10,nx:=11,mo:=12,en:=13,rest:=cA [1,1,1,0,1,0,0,1,1,0,1] ey,km:=16775424 }
noncomputable def pick:nR:={ f:=90,pre:=[cA [0] ey,cA [1,0] ey,cA [1,1,0] ey],S:=cO,L:=bu,suf:=cA [1,1,1,1] ey }
theorem Ak:Try.f90.body=some (assemble pick.pre (cO.code bu) pick.suf):=by kernel_rfl
theorem wo:cO.ops0.toList=cO.pre++[cO.ro]:=by kernel_rfl
theorem wv:cO.ro.op=.range cO.ty (.tmp cO.m):=by kernel_rfl
theorem wg:cO.ro.dst=some bu.it:=by kernel_rfl
theorem wj:cO.ro.guard=none:=by kernel_rfl
theorem wq:bu.ops1.toList=bu.no::bu.t1:=by kernel_rfl
theorem wx:bu.no.op=.next (.tmp bu.it) false:=by kernel_rfl
theorem wh:bu.no.dst=some bu.nx:=by kernel_rfl
theorem wk:bu.no.guard=none:=by kernel_rfl
theorem wu:bu.ops2.toList=bu.eo::bu.t2:=by kernel_rfl
theorem wy:bu.eo.op=.entry (.tmp bu.it):=by kernel_rfl
theorem wi:bu.eo.dst=some bu.en:=by kernel_rfl
theorem wm:bu.eo.guard=none:=by kernel_rfl
theorem wz:pick.Ok Try.prog:=⟨⟨Try.f90,Try.func90,Ak⟩,⟨wo,wv,wg,wj,⟨_,_,Try.underlying95⟩⟩,⟨wq,wx,wh,wk,wu,wy,wi,wm⟩⟩
noncomputable def rs:List nR:=[pick]
theorem eJ:∀ r ∈ rs,r.Ok Try.prog:=fun r h=>by
 rcases List.mem_cons.1 h with rfl | h
 · exact wz
 · cases h
end Go.Proofs.Ytoomemfhcbajoaa.Known
end
section
namespace Go.Proofs.Ytoomemfhcbajoaa.Known
open Go.Eng Go.Proofs
noncomputable def E1:fO:=⟨50,[.int .i64 5],.agg (.G [.slcT none (.I .i64 [2,2,6,5,5,6,-1]) 1 7 true,.slcT none (.I .i64 [5,5,5,5,5,5,5]) 1 7 true])⟩
theorem Rh:bp Try.prog E1:=bW named mixed Cc eJ [54,95] KtL.kt 100000 40 (H':=[⟨true,[]⟩]) (by kernel_rfl) (by kernel_rfl)
noncomputable def LI:List fO:=E1::LH
theorem Cd:∀ e ∈ LI,bp Try.prog e:=bZ Rh Cc
noncomputable def E2:fO:=⟨50,[.int .i64 4],.agg (.G [.slcT none (.I .i64 [2,2,6,5,5,6,-1]) 1 7 true,.slcT none (.I .i64 [4,4,4,4,4,4,4]) 1 7 true])⟩
theorem Ri:bp Try.prog E2:=bW named mixed Cd eJ [54,95] KtL.kt 100000 40 (H':=[⟨true,[]⟩]) (by kernel_rfl) (by kernel_rfl)
noncomputable def LJ:List fO:=E2::LI
theorem Ce:∀ e ∈ LJ,bp Try.prog e:=bZ Ri Cd
end Go.Proofs.Ytoomemfhcbajoaa.Known
end
section
namespace Go.Proofs.Ytoomemfhcbajoaa.Known
open Go.Eng Go.Proofs
noncomputable def E3:fO:=⟨50,[.int .i64 3],.agg (.G [.slcT none (.I .i64 [2,2,6,5,5,6,-1]) 1 7 true,.slcT none (.I .i64 [3,3,3,3,3,3,3]) 1 7 true])⟩
theorem Rj:bp Try.prog E3:=bW named mixed Ce eJ [54,95] KtL.kt 100000 40 (H':=[⟨true,[]⟩]) (by kernel_rfl) (by kernel_rfl)
noncomputable def LL:List fO:=E3::LJ
theorem Cf:∀ e ∈ LL,bp Try.prog e:=bZ Rj Ce
noncomputable def E4:fO:=⟨21,[.agg (.G [.slcT none (.I .i64 [2,2,6,5,5,6,-1]) 1 7 true,.slcT none (.I .i64 [5,5,5,5,5,5,5]) 1 7 true])],.int .i64 0⟩
theorem Rk:bp Try.prog E4:=bW named mixed Cf eJ [54,95] KtL.kt 100000 40 (H':=[⟨true,[]⟩]) (by kernel_rfl) (by kernel_rfl)
noncomputable def LM:List fO:=E4::LL
theorem Cg:∀ e ∈ LM,bp Try.prog e:=bZ Rk Cf
end Go.Proofs.Ytoomemfhcbajoaa.Known
end
section
namespace Go.Proofs.Ytoomemfhcbajoaa.Known
open Go.Eng Go.Proofs
noncomputable def E5:fO:=⟨17,[.agg (.G [.slcT none (.I .i64 [2,2,6,5,5,6,-1]) 1 7 true,.slcT none (.I .i64 [5,5,5,5,5,5,5]) 1 7 true])],.tup [.slcT none (.I .i64 [3,3,2,3,3,2,1]) 1 7 false,.int .i64 0]⟩
theorem Rl:bp Try.prog E5:=bW named mixed Cg eJ [54,95] KtL.kt 100000 40 (H':=[⟨true,[]⟩]) (by kernel_rfl) (by kernel_rfl)
noncomputable def LN:List fO:=E5::LM
theorem Ch:∀ e ∈ LN,bp Try.prog e:=bZ Rl Cg
noncomputable def E6:fO:=⟨19,[.agg (.G [.slcT none (.I .i64 [2,2,6,5,5,6,-1]) 1 7 true,.slcT none (.I .i64 [5,5,5,5,5,5,5]) 1 7 true])],.tup [.slcT none (.I .i64 [3,3,4,3,3,4,5]) 1 7 false,.int .i64 0]⟩
theorem Rm:bp Try.prog E6:=bW named mixed Ch eJ [54,95] KtL.kt 100000 40 (H':=[⟨true,[]⟩]) (by kernel_rfl) (by kernel_rfl)
noncomputable def LO:List fO:=E6::LN
theorem Ci:∀ e ∈ LO,bp Try.prog e:=bZ Rm Ch
end Go.Proofs.Ytoomemfhcbajoaa.Known
end
section
namespace Go.Proofs.Ytoomemfhcbajoaa.Known
open Go.Eng Go.Proofs
noncomputable def E7:fO:=⟨21,[.agg (.G [.slcT none (.I .i64 [2,2,6,5,5,6,-1]) 1 7 true,.slcT none (.I .i64 [4,4,4,4,4,4,4]) 1 7 true])],.int .i64 0⟩
theorem Rn:bp Try.prog E7:=bW named mixed Ci eJ [54,95] KtL.kt 100000 40 (H':=[⟨true,[]⟩]) (by kernel_rfl) (by kernel_rfl)
noncomputable def LP:List fO:=E7::LO
theorem Cj:∀ e ∈ LP,bp Try.prog e:=bZ Rn Ci
noncomputable def E8:fO:=⟨21,[.agg (.G [.slcT none (.I .i64 [2,2,6,5,5,6,-1]) 1 7 true,.slcT none (.I .i64 [3,3,3,3,3,3,3]) 1 7 true])],.int .i64 0⟩
theorem Ro:bp Try.prog E8:=bW named mixed Cj eJ [54,95] KtL.kt 100000 40 (H':=[⟨true,[]⟩]) (by kernel_rfl) (by kernel_rfl)
noncomputable def LQ:List fO:=E8::LP
theorem Ck:∀ e ∈ LQ,bp Try.prog e:=bZ Ro Cj
end Go.Proofs.Ytoomemfhcbajoaa.Known
end
section
namespace Go.Proofs.Ytoomemfhcbajoaa.Known
open Go.Eng Go.Proofs
noncomputable def E9:fO:=⟨32,[.agg (.G [.slcT none (.I .i64 [2,2,6,5,5,6,-1]) 1 7 true,.slcT none (.I .i64 [3,3,3,3,3,3,3]) 1 7 true]),.int .i64 2],.tup [.int .i64 1,.int .i64 0]⟩
theorem Rp:bp Try.prog E9:=bW named mixed Ck eJ [54,95] KtL.kt 100000 40 (H':=[⟨true,[]⟩]) (by kernel_rfl) (by kernel_rfl)
noncomputable def LR:List fO:=E9::LQ
theorem Cl:∀ e ∈ LR,bp Try.prog e:=bZ Rp Ck
noncomputable def Ox:fO:=⟨32,[.agg (.G [.slcT none (.I .i64 [2,2,6,5,5,6,-1]) 1 7 true,.slcT none (.I .i64 [4,4,4,4,4,4,4]) 1 7 true]),.int .i64 2],.tup [.int .i64 0,.int .i64 5]⟩
theorem Ny:bp Try.prog Ox:=bW named mixed Cl eJ [54,95] KtL.kt 100000 40 (H':=[⟨true,[]⟩]) (by kernel_rfl) (by kernel_rfl)
noncomputable def Ia:List fO:=Ox::LR
theorem zh:∀ e ∈ Ia,bp Try.prog e:=bZ Ny Cl
end Go.Proofs.Ytoomemfhcbajoaa.Known
end
section
namespace Go.Proofs.Ytoomemfhcbajoaa.Known
open Go.Eng Go.Proofs
noncomputable def Oy:fO:=⟨34,[.agg (.G [.slcT none (.I .i64 [2,2,6,5,5,6,-1]) 1 7 true,.slcT none (.I .i64 [3,3,3,3,3,3,3]) 1 7 true])],.tup [.int .i64 4,.int .i64 0]⟩
theorem Nz:bp Try.prog Oy:=bW named mixed zh eJ [54,95] KtL.kt 100000 40 (H':=[⟨true,[]⟩]) (by kernel_rfl) (by kernel_rfl)
noncomputable def Ib:List fO:=Oy::Ia
theorem zi:∀ e ∈ Ib,bp Try.prog e:=bZ Nz zh
noncomputable def Oz:fO:=⟨36,[.agg (.G [.slcT none (.I .i64 [2,2,6,5,5,6,-1]) 1 7 true,.slcT none (.I .i64 [5,5,5,5,5,5,5]) 1 7 true]),.int .i64 4],.tup [.int .i64 3,.int .i64 0]⟩
theorem NA:bp Try.prog Oz:=bW named mixed zi eJ [54,95] KtL.kt 100000 40 (H':=[⟨true,[]⟩]) (by kernel_rfl) (by kernel_rfl)
noncomputable def Ic:List fO:=Oz::Ib
theorem zj:∀ e ∈ Ic,bp Try.prog e:=bZ NA zi
end Go.Proofs.Ytoomemfhcbajoaa.Known
end
section
namespace Go.Proofs.Ytoomemfhcbajoaa.Known
open Go.Eng Go.Proofs
noncomputable def OA:fO:=⟨39,[.agg (.G [.slcT none (.I .i64 [2,2,6,5,5,6,-1]) 1 7 true,.slcT none (.I .i64 [4,4,4,4,4,4,4]) 1 7 true]),.int .i64 2,.int .i64 5],.tup [.int .i64 3,.int .i64 0]⟩
theorem NB:bp Try.prog OA:=bW named mixed zj eJ [54,95] KtL.kt 100000 40 (H':=[⟨true,[]⟩]) (by kernel_rfl) (by kernel_rfl)
noncomputable def Ie:List fO:=OA::Ic
theorem zk:∀ e ∈ Ie,bp Try.prog e:=bZ NB zj
noncomputable def OB:fO:=⟨41,[.agg (.G [.slcT none (.I .i64 [2,2,6,5,5,6,-1]) 1 7 true,.slcT none (.I .i64 [5,5,5,5,5,5,5]) 1 7 true]),.int .i64 2],.tup [.slcT none (.I .i64 [1,2,3,4,5]) 1 5 false,.int .i64 0]⟩
theorem NC:bp Try.prog OB:=bW named mixed zk eJ [54,95] KtL.kt 100000 40 (H':=[⟨true,[]⟩]) (by kernel_rfl) (by kernel_rfl)
noncomputable def Ig:List fO:=OB::Ie
theorem zl:∀ e ∈ Ig,bp Try.prog e:=bZ NC zk
end Go.Proofs.Ytoomemfhcbajoaa.Known
end
section
namespace Go.Proofs.Ytoomemfhcbajoaa.Known
open Go.Eng Go.Proofs
noncomputable def OC:fO:=⟨37,[.agg (.G [.slcT none (.I .i64 [2,2,6,5,5,6,-1]) 1 7 true,.slcT none (.I .i64 [3,3,3,3,3,3,3]) 1 7 true]),.int .i64 2,.int .i64 1],.int .i64 0⟩
theorem ND:bp Try.prog OC:=bW named mixed zl eJ [54,95] KtL.kt 100000 40 (H':=[⟨true,[]⟩]) (by kernel_rfl) (by kernel_rfl)
noncomputable def Ih:List fO:=OC::Ig
theorem zm:∀ e ∈ Ih,bp Try.prog e:=bZ ND zl
noncomputable def OD:fO:=⟨37,[.agg (.G [.slcT none (.I .i64 [2,2,6,5,5,6,-1]) 1 7 true,.slcT none (.I .i64 [4,4,4,4,4,4,4]) 1 7 true]),.int .i64 2,.int .i64 1],.int .i64 14⟩
theorem NF:bp Try.prog OD:=bW named mixed zm eJ [54,95] KtL.kt 100000 40 (H':=[⟨true,[]⟩]) (by kernel_rfl) (by kernel_rfl)
noncomputable def Ii:List fO:=OD::Ih
theorem zn:∀ e ∈ Ii,bp Try.prog e:=bZ NF zm
end Go.Proofs.Ytoomemfhcbajoaa.Known
end
section
namespace Go.Proofs.Ytoomemfhcbajoaa.Known
open Go.Eng Go.Proofs
noncomputable def OE:fO:=⟨34,[.agg (.G [.slcT none (.I .i64 [2,2,6,5,5,6,-1]) 1 7 true,.slcT none (.I .i64 [5,5,5,5,5,5,5]) 1 7 true])],.tup [.int .i64 2,.int .i64 0]⟩
theorem NG:bp Try.prog OE:=bW named mixed zn eJ [54,95] KtL.kt 100000 40 (H':=[⟨true,[]⟩]) (by kernel_rfl) (by kernel_rfl)
noncomputable def Ij:List fO:=OE::Ii
theorem zo:∀ e ∈ Ij,bp Try.prog e:=bZ NG zn
noncomputable def OF:fO:=⟨34,[.agg (.G [.slcT none (.I .i64 [2,2,6,5,5,6,-1]) 1 7 true,.slcT none (.I .i64 [4,4,4,4,4,4,4]) 1 7 true])],.tup [.int .i64 2,.int .i64 0]⟩
theorem NH:bp Try.prog OF:=bW named mixed zo eJ [54,95] KtL.kt 100000 40 (H':=[⟨true,[]⟩]) (by kernel_rfl) (by kernel_rfl)
noncomputable def Ik:List fO:=OF::Ij
theorem zp:∀ e ∈ Ik,bp Try.prog e:=bZ NH zo
end Go.Proofs.Ytoomemfhcbajoaa.Known
end
section
namespace Go.Proofs.Ytoomemfhcbajoaa.Known
open Go.Eng Go.Proofs
noncomputable def OG:fO:=⟨36,[.agg (.G [.slcT none (.I .i64 [2,2,6,5,5,6,-1]) 1 7 true,.slcT none (.I .i64 [5,5,5,5,5,5,5]) 1 7 true]),.int .i64 2],.tup [.int .i64 4,.int .i64 0]⟩
theorem NI:bp Try.prog OG:=bW named mixed zp eJ [54,95] KtL.kt 100000 40 (H':=[⟨true,[]⟩]) (by kernel_rfl) (by kernel_rfl)
noncomputable def Il:List fO:=OG::Ik
theorem zq:∀ e ∈ Il,bp Try.prog e:=bZ NI zp
noncomputable def OH:fO:=⟨36,[.agg (.G [.slcT none (.I .i64 [2,2,6,5,5,6,-1]) 1 7 true,.slcT none (.I .i64 [5,5,5,5,5,5,5]) 1 7 true]),.int .i64 3],.tup [.int .i64 4,.int .i64 0]⟩
theorem NJ:bp Try.prog OH:=bW named mixed zq eJ [54,95] KtL.kt 100000 40 (H':=[⟨true,[]⟩]) (by kernel_rfl) (by kernel_rfl)
noncomputable def Im:List fO:=OH::Il
theorem zt:∀ e ∈ Im,bp Try.prog e:=bZ NJ zq
end Go.Proofs.Ytoomemfhcbajoaa.Known
end
section
namespace Go.Proofs.Ytoomemfhcbajoaa.Known
open Go.Eng Go.Proofs
noncomputable def OI:fO:=⟨39,[.agg (.G [.slcT none (.I .i64 [2,2,6,5,5,6,-1]) 1 7 true,.slcT none (.I .i64 [5,5,5,5,5,5,5]) 1 7 true]),.int .i64 2,.int .i64 5],.tup [.int .i64 2,.int .i64 0]⟩
theorem NK:bp Try.prog OI:=bW named mixed zt eJ [54,95] KtL.kt 100000 40 (H':=[⟨true,[]⟩]) (by kernel_rfl) (by kernel_rfl)
noncomputable def Io:List fO:=OI::Im
theorem zu:∀ e ∈ Io,bp Try.prog e:=bZ NK zt
noncomputable def OJ:fO:=⟨41,[.agg (.G [.slcT none (.I .i64 [2,2,6,5,5,6,-1]) 1 7 true,.slcT none (.I .i64 [4,4,4,4,4,4,4]) 1 7 true]),.int .i64 2],.tup [.nils,.int .i64 0]⟩
theorem NL:bp Try.prog OJ:=bW named mixed zu eJ [54,95] KtL.kt 100000 40 (H':=[⟨true,[]⟩]) (by kernel_rfl) (by kernel_rfl)
noncomputable def LK:List fO:=OJ::Io
theorem FF:∀ e ∈ LK,bp Try.prog e:=bZ NL zu
end Go.Proofs.Ytoomemfhcbajoaa.Known
end
section
namespace Go.Proofs.Ytoomemfhcbajoaa.Known
open Go.Eng Go.Proofs
noncomputable def EW:fO:=⟨16,[],.bool true⟩
theorem okW:bp Try.prog EW:=bW named mixed FF eJ [54,95] KtL.kt 100000 40 (H':=[⟨true,[]⟩]) (by kernel_rfl) (by kernel_rfl)
end Go.Proofs.Ytoomemfhcbajoaa.Known
end
section
namespace Go.Eng
open Go.Proofs Go.ChangeShapes Go.WideShapes Go.ChangeAt Go.RowKit
theorem Rt {p:aw} {M:Mu} {k:IntKind} {z:Nat→Int} {N sz len:Nat} {full:Bool} {v:Value} (h:ai p M (.slcT none (.F (fun j=>.int k (z j)) N) sz len full) v):ai p M (.slcT none (.M [.arr k z N]) sz len full) v:=by
 cases h with
 | slcN=>exact .slcN
 | slcT vs h0 h1 hv hl hf hx =>
   have e:∀ j,j<(Row.M [ah.arr k z N]).len→j<N:=fun j hj=>by simpa[Row.len,au,aE] using hj
   refine .slcT vs (fun j hj=>h0 j (e j hj)) (fun j hj=>h1 j (e j hj)) (fun j hj=>?_) hl hf hx
   have:=hv j (e j hj)
   simp only[Row.get,getM,if_pos (e j hj)] at this ⊢
   exact this.bw _ _
theorem Ax {P:Program} {w:World} {r:Reach} {base:Nat} {t e:TypeId} {v:Value} (ht:P.underlying t=some (.slice e)) (h:Cell.okWide P w r base t v):∀ a l c,v=.slice (some a) l c→a.spot=none:=by
 rintro a l c rfl
 simp only[Cell.okWide,ht,Cell.ok] at h
 exact h.2.2.2.1
theorem HK:Hz Try.prog 3 1:=Ei Try.underlying3
def AK (t:TypeId) (A:AV→Prop):Prop:=∀ (H:Type) (enc:TypeId×Value→H) (w:World) (r:Reach) (b0 base:Nat) (sp:Nat→Bool) (hsp:∀ b,sp b=true) (held:Bool) (v:Value) (d:DataW H) (ps:List MemPlace),
 Value.okWide Try.prog w r b0 t v→DataW.Trod enc Try.prog w base sp held t v d ps→∃ a,A a∧ai (Pw w) Mu.no a v
def zD:List (AV→Prop)→List AV→Prop
 | [],[]=>True
 | A::As,a::xs=>A a∧zD As xs
 | _,_=>False
theorem tW {A:AV→Prop} {As:List (AV→Prop)} {xs:List AV} (h:zD (A::As) xs):∃ a ys,xs=a::ys∧A a∧zD As ys:=by
 cases xs with
 | nil=>exact h.elim
 | cons a ys=>exact ⟨a,ys,rfl,h.1,h.2⟩
theorem DF {xs:List AV} (h:zD [] xs):xs=[]:=by
 cases xs with
 | nil=>rfl
 | cons a ys=>exact h.elim
def Iq:List TypeId→List (AV→Prop)→Prop
 | [],[]=>True
 | t::ts,A::As=>AK t A∧Iq ts As
 | _,_=>False
theorem AS {H:Type} {enc:TypeId×Value→H} {w:World} {r:Reach} {b0 base:Nat} {sp:Nat→Bool} (hsp:∀ b,sp b=true) {held:Bool}:∀ (ts:List TypeId) (As:List (AV→Prop)) (vs:List Value) (ds:List (DataW H)) (ps:List MemPlace),Iq ts As →
 (∀ (j:Nat) t v,ts[j]?=some t→vs[j]?=some v→Value.okWide Try.prog w r b0 t v)→DataW.TrodAll enc Try.prog w base sp held ts vs ds ps→∃ xs,zD As xs∧vs.length=xs.length∧∀ j,j<xs.length→ai (Pw w) Mu.no (xs.getD j .undef) (vs.getD j undef)
 | [],[],vs,ds,ps,_,_,h=>by
   obtain ⟨rfl,rfl,rfl⟩:=trodAll_nil h
   exact ⟨[],trivial,rfl,fun j hj=>by simp at hj⟩
 | t::ts,A::As,vs,ds,ps,hT,hv,h=>by
   obtain ⟨v,vs',d,ds',p,q,rfl,rfl,rfl,h1,h2⟩:=trodAll_cons h
   obtain ⟨a,ha,hr⟩:=hT.1 H enc w r b0 base sp hsp held v d p (hv 0 t v rfl rfl) h1
   obtain ⟨xs,hA,hl,hR⟩:=AS hsp ts As vs' ds' q hT.2 (fun j t' v' e1 e2=>hv (j+1) t' v' (by simpa using e1) (by simpa using e2)) h2
   refine ⟨a::xs,⟨ha,hA⟩,by simp[hl],fun j hj=>?_⟩
   cases j with
   | zero=>exact hr
   | succ j=>simpa using hR j (by simpa using hj)
 | [],_::_,_,_,_,hT,_,_=>hT.elim
 | _::_,[],_,_,_,hT,_,_=>hT.elim
theorem vk {H:Type} {enc:TypeId×Value→H} {W W':World} {base:Nat} {sp':Nat→Bool} (hl:laidOutB Try.prog=true):∀ (ts:List TypeId) (vs:List Value) (ds:List (DataW H)) (ps:List MemPlace),(∀ t ∈ ts,Try.prog.readableRec t=true∧t<Try.prog.types.size) →
 DataW.TrodAll enc Try.prog W base (fun _=>true) true ts vs ds ps→(∀ p ∈ ps,W.sameAt W' p)→(∀ p ∈ ps,sp' p.block=true)→DataW.TrodAll enc Try.prog W' base sp' true ts vs ds ps
 | [],vs,ds,ps,_,h,_,_=>by
   obtain ⟨rfl,rfl,rfl⟩:=trodAll_nil h
   exact trodAll_mk0
 | t::ts,vs,ds,ps,ht,h,hs,hp=>by
   obtain ⟨v,vs',d,ds',p,q,rfl,rfl,rfl,h1,h2⟩:=trodAll_cons h
   obtain ⟨r1,r2⟩:=ht t (by simp)
   refine ⟨p,q,?_,vk hl ts vs' ds' q (fun t' h'=>ht t' (List.mem_cons_of_mem _ h')) h2 (fun x hx=>hs x (List.mem_append_right _ hx)) (fun x hx=>hp x (List.mem_append_right _ hx)),rfl⟩
   exact WideElems.Trod_stays hl r1 r2 h1 (fun x hx=>hs x (List.mem_append_left _ hx)) (fun x hx=>hp x (List.mem_append_left _ hx))
theorem Ks (hN:cS Try.prog) (hm:Try.prog.follows .mixedOrders=true) (hW:bp Try.prog ⟨16,[],.bool true⟩) (n:Nat):bY Try.prog (cd n) :=
 pk hN (vF hN hm) (G0 hN (vF hN hm) hW) KtL.kt 100000 n
theorem CZ {f:FuncId} {ts:List TypeId} {As:List (AV→Prop)} (hT:Iq ts As) {n:Nat} (hlaw:∀ xs,zD As xs→∃ H',cd n (.fn f) xs [⟨true,[]⟩]=some (.bool true,H')) {H:Type} {enc:TypeId×Value→H} {w:World} {r:Reach} {b0 base:Nat} {sp:Nat→Bool} {held:Bool} {args:Array Value} {ds:List (DataW H)} {ps:List MemPlace} (hsp:∀ b,sp b=true)
 (hv:∀ (j:Nat) t v,ts[j]?=some t→args[j]?=some v→Value.okWide Try.prog w r b0 t v) (h:DataW.TrodAll enc Try.prog w base sp held ts args.toList ds ps) :
 Calls Try.prog f args w (fun e w'=>e=.returned (.bool true)∧Go.RowKit.Below w.heap.size w w'):=by
 obtain ⟨xs,hA,hl,hR⟩:=AS hsp ts As args.toList ds ps hT (fun j t v e1 e2=>hv j t v e1 (by simpa using e2)) h
 obtain ⟨H',hc⟩:=hlaw xs hA
 refine CC (Ks Ytoomemfhcbajoaa.Known.named Ytoomemfhcbajoaa.Known.mixed Ytoomemfhcbajoaa.Known.okW n) hc ⟨by simpa using hl,fun j hj=>?_⟩
 have:=hR j hj
 have e:args.toList.getD j undef=args.getD j undef:=by
  rw[Array.getD_eq_getD_getElem?,List.getD_eq_getElem?_getD,Array.getElem?_toList]
 rwa [e] at this
theorem F2 {t:TypeId} {k:IntKind} (ht:Try.prog.underlying t=some (.int k)):AK t (fun a=>∃ n:Int,a=.int k n∧(Lit.int k n).wf=true):=fun H enc w r b0 base sp hsp held v d ps hv h=>by
 obtain ⟨fuel,hf⟩:=h
 obtain ⟨n,e,_,hw⟩:=DataW.trod_int ht hf
 obtain ⟨s,rfl⟩:=WideShapes.okWide_int ht hv
 have:s=n:=by simpa[Value.cells] using e
 subst this
 exact ⟨_,⟨s,rfl,hw⟩,.int _ _⟩
def Mc (a:AV):Prop:=∃ n:Int,a=.int .u8 n∧0≤n∧n≤255
theorem Ka:AK 5 Mc:=fun H enc w r b0 base sp hsp held v d ps hv h=>by
 obtain ⟨a,⟨n,rfl,hw⟩,hr⟩:=F2 Try.underlying5 H enc w r b0 base sp hsp held v d ps hv h
 simp[Lit.wf,IntKind.min,IntKind.max,IntKind.signed,IntKind.bits] at hw
 exact ⟨_,⟨n,rfl,by omega,by omega⟩,hr⟩
theorem own:ownKnob Try.prog.godebug=none:=by kernel_rfl
theorem laidOut:laidOutB Try.prog=true:=by kernel_rfl
theorem vi {t e n:Nat} (ht:Try.prog.underlying t=some (.slice e)) (he:Hz Try.prog e n) (hn:0<n) (hc:Try.prog.cellsOf e=n) {H:Type} {enc:TypeId×Value→H} {w:World} {r:Reach} {b0 base:Nat} {sp:Nat→Bool} {held:Bool} {fuel:Nat} {v:Value} {x:DataW H×List MemPlace}
 (hv:Cell.okWide Try.prog w r b0 t v) (h:DataW.trod enc Try.prog w base sp held fuel t [v]=some x):∃ len z,ai (Pw w) Mu.no (L9 n len z) v∧v.oneCell'=true:=by
 rcases Aw ht he hn hc (Ax ht hv) h with rfl | ⟨zs,len,h1,h2⟩
 · exact ⟨0,fun _=>0,.slcN,rfl⟩
 · refine ⟨len,zs,?_,?_⟩
   · unfold L9
     rw[b5]
     exact Rt h1
   · cases h1<;>rfl
def zC (a:AV):Prop:=∃ (l:Nat) (t:Nat→Int) (k:Nat) (d:Nat→Int),a=dV l t k d
theorem Lq (l:Nat) (z:Nat→Int):L9 1 l z=dc l z false:=by unfold L9 dc;rw[b5,Nat.mul_one]
theorem DM:AK 24 zC:=fun H enc w r b0 base sp hsp held v d ps hv h=>by
 have hts:Try.prog.cellTypes Try.prog.depth 24=some [22,22]:=by kernel_rfl
 have hc24:Try.prog.cellsOf 24=2:=by kernel_rfl
 have hc22:Try.prog.cellsOf 22=1:=by kernel_rfl
 have hc3:Try.prog.cellsOf 3=1:=by kernel_rfl
 simp only[Value.okWide,Try.underlying24] at hv
 obtain ⟨cs,rfl,hsz,ts,ht,_,hcell⟩:=hv
 rw[hts] at ht
 obtain rfl:=Option.some.inj ht
 rw[hc24] at hsz
 obtain ⟨fuel,hf⟩:=h
 obtain ⟨xs,n,_,_,_,hxl,hfield⟩:=DataW.trod_struct Try.underlying24 hf
 have e3:∃ c0 c1,cs=#[c0,c1]:=by
  refine ⟨cs[0],cs[1],?_⟩
  apply Array.ext
  · simpa using hsz
  · intro i h1 h2
    simp at h2
    match i,h2 with
    | 0,_=>rfl
    | 1,_=>rfl
 obtain ⟨c0,c1,rfl⟩:=e3
 have some_of:∀ i,i<2→∃ y,xs[i]?=some y:=fun i hi=>by
  have:i<xs.length:=by rw[hxl];simpa using hi
  exact ⟨xs[i],List.getElem?_eq_getElem this⟩
 obtain ⟨y0,hy0⟩:=some_of 0 (by omega)
 obtain ⟨y1,hy1⟩:=some_of 1 (by omega)
 have f0:=hfield 0 _ rfl
 have f1:=hfield 1 _ rfl
 rw[hy0] at f0
 rw[hy1] at f1
 simp only[Value.cells] at f0 f1
 have g0:DataW.trod enc Try.prog w base sp held n 22 [c0]=some y0:=by simpa[hc22] using f0
 have g1:DataW.trod enc Try.prog w base sp held n 22 [c1]=some y1:=by simpa[hc22] using f1
 obtain ⟨u0,hu0,k0⟩:=hcell 0 c0 rfl
 obtain ⟨u1,hu1,k1⟩:=hcell 1 c1 rfl
 simp at hu0 hu1
 subst hu0;subst hu1
 obtain ⟨l,z0,r0,o0⟩:=vi Try.underlying22 HK (by omega) hc3 k0 g0
 obtain ⟨k,z1,r1,o1⟩:=vi Try.underlying22 HK (by omega) hc3 k1 g1
 rw[Lq] at r0 r1
 refine ⟨_,⟨l,z0,k,z1,rfl⟩,?_⟩
 refine .agg rfl (fun j hj=>?_) (fun j hj=>?_)
 · have hj':j<2:=hj
   match j,hj' with
   | 0,_=>exact o0
   | 1,_=>exact o1
 · have hj':j<2:=hj
   match j,hj' with
   | 0,_=>exact r0
   | 1,_=>exact r1
end Go.Eng
end
