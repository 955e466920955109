/- Lay: plain law of the least number of hands, and of turns. -/
import Derived.Test.YtoomemfhcbajoaaV7Lb13x3
set_option linter.unusedVariables false
set_option linter.unusedSimpArgs false
set_option maxRecDepth 100000
section
namespace Go.Eng
theorem LM {p:Nat→Bool} {N m:Nat} (h1:m<N) (h2:p m=true) (h3:∀ i,i<m→p i=false):fN p N 0=m:=by
 obtain ⟨_,b,c,d⟩:=kR p N 0
 have c:=fun i hi=>c i (Nat.zero_le i) hi
 have:fN p N 0<N:=Classical.byContradiction fun hn=>by
  have:=c m (by omega)
  rw[h2] at this;cases this
 have d:=d (by omega)
 rcases Nat.lt_trichotomy (fN p N 0) m with e | e | e
 · have:=h3 _ e;rw[d] at this;cases this
 · exact e
 · have:=c m e;rw[h2] at this;cases this
theorem vK {t e e':Nat→Int} {i l:Nat} (he:∀ j,j<l→e j=e' j) (ht:∀ j,j<l→t j<l) (hi:i<l):∀ m,(∀ q,q<m→0≤bE t q (i:Int))→uJ t e i m=uJ t e' i m
 | 0,_=>he i hi
 | m+1,hp=>by
   have h1:=hp m (by omega)
   have h2:=gA ht (show (i:Int)<l by omega) m
   show min (uJ t e i m) _=min (uJ t e' i m) _
   rw[vK he ht hi m (fun q hq=>hp q (by omega)),he _ (by omega)]
theorem yW {l:Nat} {t e e':Nat→Int} (h:Fw l t) (he:∀ j,j<l→e j=e' j) {i:Nat} (hi:i<l):gv l t e i=gv l t e' i :=
 vK he h.tl hi _ (l5 h.cyc i hi).2.1
theorem ET {l:Nat} {t e e':Nat→Int} (h:Fw l t) (he:∀ j,j<l→e j=e' j) (T:Int):AK l t e T=AK l t e' T :=
 dD (fun i hi=>by rw[yW h he hi])
theorem Dr {l:Nat} {t e e':Nat→Int} (h:Fw l t) (he:∀ j,j<l→e j=e' j) (hh T:Int):rM l t e hh T=rM l t e' hh T:=by
 unfold rM;rw[ET h he]
theorem vh {l:Nat} {t e e':Nat→Int} (h:Fw l t) (he:∀ j,j<l→e j=e' j) (hh:Int):ct l t e hh=ct l t e' hh:=by
 unfold ct;rw[j6 (fun T _=>Dr h he hh T)]
theorem oI (l:Nat) (t e:Nat→Int) (h:Int):ct l t e h=true↔∀ T:Nat,T≤40→(AK l t e T:Int)≤h*T:=by
 unfold ct
 rw[Bool.not_eq_true']
 constructor
 · intro hx T hT
   have:=dN hx T (by omega)
   unfold rM at this
   rw[decide_eq_false_iff_not] at this;omega
 · intro hx
   refine jN (fun T hT=>?_)
   have:=hx T (by omega)
   unfold rM
   rw[decide_eq_false_iff_not];omega
theorem DK {p q:Nat→Bool} (h:∀ T,1≤T→T<40→p T=q T):pb p=pb q:=by
 unfold pb
 have e:bV (fun j=>p (j+1)) 39=bV (fun j=>q (j+1)) 39:=j6 (fun j hj=>h _ (by omega) (by omega))
 rw[e]
 by_cases c:bV (fun j=>q (j+1)) 39=true
 · rw[if_pos c,if_pos c]
   obtain ⟨_,b,c1,d⟩:=kR (fun j=>q (j+1)) 39 0
   have hl:=ig c
   rw[LM (p:=fun j=>p (j+1)) hl (by rw[h _ (by omega) (by omega)];exact d (by omega)) (fun i hi=>by rw[h _ (by omega) (by omega)];exact c1 i (by omega) hi)]
 · rw[if_neg c,if_neg c]
end Go.Eng
end
section
namespace Go.Eng
open Go.Proofs
theorem TV (n l k:Nat) (t d:Nat→Int) (H:aa) (c:Int):aX Try.prog (cd n) 100000 59 Try.f59 (KtL.kt 59) (il aD n 0) aK aL [(bR l t k d,none),(.int .i64 c,none)] H =
 Tr.ite (lM (Int.ofNat 0) c) (Tr.ok ((AV.bool (bQ c (Int.ofNat l)),none),H)) (Tr.ok ((AV.bool false,some 1),H)):=by kernel_rfl
def c8 (l:Nat) (t:Nat→Int) (d:Nat→Int) (h:Int):Nat:=pb (fun T=>ct l t (fun i=>min (d i) (T:Nat)) h)
section
variable (n l k:Nat) (t d:Nat→Int) (H:aa) (h:Int)
theorem NY (e:gH l k t d h=0):cd (n+11) (.fn 61) [bR l t k d,.int .i64 h,.int .i64 0] H=some (.tup [KV 0 l t k d,.int .i64 0],H):=by
 obtain ⟨e1,e2⟩:=Cv e
 rw[QI n l k t d H h 0 e1,if_pos rfl,if_pos e2]
theorem NX (e:gH l k t d h≠0):cd (n+11) (.fn 61) [bR l t k d,.int .i64 h,.int .i64 0] H=some (.tup [.nilp,.int .i64 (gH l k t d h)],H):=by
 by_cases c:cX l t k d h=0
 · rw[QI n l k t d H h 0 c,if_pos rfl]
   have:gH l k t d h=if ct l t d h=true then 0 else 13:=by unfold gH;rw[if_pos c]
   rw[this] at e ⊢
   by_cases c2:ct l t d h=true
   · rw[if_pos c2] at e;exact absurd rfl e
   · rw[if_neg c2,if_neg c2]
 · rw[NW n l k t d H h 0 c]
   have:gH l k t d h=cX l t k d h:=by unfold gH;rw[if_neg c]
   rw[this]
theorem EB {l:Nat} {d:Nat→Int} (hb:Bd l d) (T:Int) (hT:0≤T):Bd l (fun i=>min (d i) T):=fun j hj=>by
 have:=hb j hj
 show -900≤min (d j) T∧min (d j) T≤900
 omega
theorem IG {l k:Nat} {z:Nat→Int} (hk:k=l) (hb:Bd l z):Bd l (aA (iA z k)):=fun j hj=>by
 subst hk;rw[wL _ hj];exact hb j hj
theorem JI {l k:Nat} {t z:Nat→Int} (h:Fw l t) (hk:k=l) (hh:Int):ct l t (aA (iA z k)) hh=ct l t z hh :=
 vh h (fun j hj=>by subst hk;exact wL z hj) hh
theorem QH (c:Int):cd (n+1) (.fn 59) [bR l t k d,.int .i64 c] H=some (.bool (decide (0≤c) && decide (c<l)),H):=by
 refine aC (n:=n) Try.func59 rfl rfl rfl (TV n l k t d H c) (ar _) (af _ _) (ag _ _) ?_
 rw[dg]
 by_cases e:0≤c
 · rw[decide_eq_true e,Bool.true_and]
   exact wF
 · rw[decide_eq_false e,Bool.false_and]
   exact wF
end
end Go.Eng
end
section
namespace Go.Eng
theorem kN {p q:Nat→Bool}:∀ {n:Nat},(∀ j,j<n→p j=true→q j=true)→cn p n≤cn q n
 | 0,_=>Nat.le_refl _
 | n+1,h=>by
   have ih:=kN (n:=n) (fun j hj=>h j (by omega))
   have hn:=h n (by omega)
   show cn p n+(p n).toNat≤cn q n+(q n).toNat
   cases hp:p n with
   | false=>simp;omega
   | true=>rw[hn hp];omega
end Go.Eng
end
section
namespace Go.Eng
theorem w7 {l:Nat} {t:Nat→Int} (h:Fw l t) {i:Nat} (hi:i<l):1≤iX l t i∧iX l t i≤l:=by
 obtain ⟨a,b,c⟩:=l5 h.cyc i hi
 refine ⟨?_,a⟩
 apply Classical.byContradiction
 intro hc
 rw[show iX l t i=0 by omega] at c
 have:bE t 0 (i:Int)=i:=rfl
 omega
theorem nU {l:Nat} {t:Nat→Int} (h:Fw l t) {i:Nat} (hi:i<l):∀ m,m<iX l t i→0≤bE t m (i:Int)∧iX l t (bE t m (i:Int)).toNat=iX l t i-m:=by
 intro m hm
 obtain ⟨a,b,c⟩:=l5 h.cyc i hi
 have h0:=b m hm
 have hlt:=gA h.tl (show (i:Int)<l by omega) m
 refine ⟨h0,?_⟩
 have hx:(bE t m (i:Int)).toNat<l:=by omega
 obtain ⟨a2,b2,c2⟩:=l5 h.cyc _ hx
 have comp:∀ q,bE t q ((bE t m (i:Int)).toNat:Int)=bE t (m+q) (i:Int):=by
  intro q
  induction q with
  | zero=>show (((bE t m (i:Int)).toNat:Nat):Int)=bE t m (i:Int);omega
  | succ q ih =>
    show (if 0≤bE t q ((bE t m (i:Int)).toNat:Int) then t (bE t q ((bE t m (i:Int)).toNat:Int)).toNat else bE t q ((bE t m (i:Int)).toNat:Int))=(if 0≤bE t (m+q) (i:Int) then t (bE t (m+q) (i:Int)).toNat else bE t (m+q) (i:Int))
    rw[ih]
 generalize iX l t (bE t m (i:Int)).toNat=N at *
 rcases Nat.lt_trichotomy N (iX l t i-m) with e | e | e
 · rw[comp] at c2
   have:=b (m+N) (by omega)
   omega
 · exact e
 · have:=b2 (iX l t i-m) e
   rw[comp,show m+(iX l t i-m)=iX l t i by omega] at this
   omega
end Go.Eng
end
section
namespace Go.Eng
def kD (z:Nat→Int) (w:Nat→Bool):Nat→Option Nat
 | 0=>none
 | j+1=>match kD z w j with
   | none=>if w j=true then some j else none
   | some i=>if w j=true∧z j<z i then some j else some i
theorem kj (z:Nat→Int) (w:Nat→Bool):∀ l,(match kD z w l with | none=>∀ j,j<l→w j=false | some i=>i<l∧w i=true∧∀ j,j<l→w j=true→z i<z j∨(z i=z j∧i≤j))
 | 0=>fun j hj=>by omega
 | l + 1 => by
   have ih:=kj z w l
   unfold kD
   cases hm:kD z w l with
   | none =>
     rw[hm] at ih
     dsimp only at ih ⊢
     by_cases c:w l=true
     · rw[if_pos c]
       refine ⟨by omega,c,fun j hj hw=>?_⟩
       by_cases e:j=l
       · subst e;exact .inr ⟨rfl,Nat.le_refl _⟩
       · have:=ih j (by omega);rw[this] at hw;cases hw
     · rw[if_neg c]
       intro j hj
       by_cases e:j=l
       · subst e
         cases h:w j with
         | true=>exact absurd h c
         | false=>rfl
       · exact ih j (by omega)
   | some i =>
     rw[hm] at ih
     dsimp only at ih ⊢
     obtain ⟨h1,h2,h3⟩:=ih
     by_cases c:w l=true∧z l<z i
     · rw[if_pos c]
       refine ⟨by omega,c.1,fun j hj hw=>?_⟩
       by_cases e:j=l
       · subst e;exact .inr ⟨rfl,Nat.le_refl _⟩
       · have:=h3 j (by omega) hw
         exact .inl (by omega)
     · rw[if_neg c]
       refine ⟨by omega,h2,fun j hj hw=>?_⟩
       by_cases e:j=l
       · subst e
         have:¬ z j<z i:=fun hx=>c ⟨hw,hx⟩
         by_cases e2:z i=z j
         · exact .inr ⟨e2,by omega⟩
         · exact .inl (by omega)
       · exact h3 j (by omega) hw
def nq (w:Nat→Bool) (i:Nat):Nat→Bool:=fun j=>if j=i then false else w j
def jt (w:Nat→Bool) (i:Nat):Nat→Bool:=fun j=>if j=i then true else w j
def rT (t:Nat→Int) (s:(Nat→Int)×(Nat→Bool)) (c:Nat):(Nat→Int)×(Nat→Bool) :=
 if t c<0 then s else
  (uI s.1 (t c).toNat (s.1 (t c).toNat-1),if s.1 (t c).toNat-1=0 then jt s.2 (t c).toNat else s.2)
end Go.Eng
end
section
namespace Go.Eng
open Go.Proofs
section
variable (n l k:Nat) (t d:Nat→Int) (H:aa) (h:Int)
end
end Go.Eng
end
section
namespace Go.Eng
open Go.Proofs
section
variable (n l k:Nat) (t d:Nat→Int) (H:aa) (h c:Int)
end
end Go.Eng
end
section
namespace Go.Eng
open Go.Proofs
theorem TE (n l k:Nat) (t d:Nat→Int) (H:aa):aX Try.prog (cd n) 100000 15 Try.f15 (KtL.kt 15) (il aD n 0) aK aL [(bR l t k d,none)] H =
 Tr.ite (bQ (Int.ofNat 40) (Int.ofNat l)) (Tr.ok ((AV.bool true,some 1),H)) (Tr.ok ((AV.bool (bQ (Int.ofNat 40) (Int.ofNat k)),none),H)):=by kernel_rfl
theorem TN (n l k:Nat) (t d:Nat→Int) (b:Bool) (e:Int) (H:aa):aX Try.prog (cd n) 100000 43 Try.f43 (KtL.kt 43) (il (tX (tX aD 15 [bR l t k d] (.bool b)) 22 [bR l t k d] (.int .i64 e)) n 0) aK aL [(bR l t k d,none)] H =
 (fun (Z0:List AV)=>Tr.reqP (Z0=Z0) (Tr.ite (aY b) (Tr.reqP (Z0=Z0) (Tr.ok ((AV.bool (cI e (Int.ofNat 0)),none),H))) (Tr.ok ((AV.bool false,some 1),H)))) [AV.agg (Row.G [AV.slcT none (Row.M [ah.arr .i64 t l]) 1 l false,AV.slcT none (Row.M [ah.arr .i64 d k]) 1 k false])]:=by kernel_rfl
section
variable (n l k:Nat) (t d:Nat→Int) (H:aa)
theorem Q2:cd (n+1) (.fn 15) [bR l t k d] H=some (.bool (decide (40<l) || decide (40<k)),H):=by
 refine aC (n:=n) Try.func15 rfl rfl rfl (TE n l k t d H) (ar _) (af _ _) (ag _ _) ?_
 have e:bQ (Int.ofNat 40) (Int.ofNat k)=decide (40<k):=by rw[dg,decide_eq_decide];show (40:Int)<(k:Int)↔_;omega
 rw[e]
 by_cases c:40<l
 · rw[decide_eq_true c,Bool.true_or]
   exact wF
 · rw[decide_eq_false c,Bool.false_or]
   exact wF
theorem Rb:cd (n+3) (.fn 43) [bR l t k d] H=some (.bool (decide (oi l t k d=0)),H):=by
 refine aC (n:=n+2) Try.func43 rfl rfl rfl (TN (n+2) l k t d (decide (40<l) || decide (40<k)) (oi l t k d) H) (aQ _ (n+2) (bo (bo (aB _) (fun H=>Q2 (n+1) l k t d H)) (fun H=>QD n l k t d H))) (af _ _) (ag _ _) ?_
 by_cases c:40<l∨40<k
 · have hb:(decide (40<l) || decide (40<k))=true:=by simpa using c
   have he:oi l t k d≠0:=fun h=>by
    have hs:=CL h
    have:=hs.l30
    have:=hs.kl
    omega
   rw[hb,decide_eq_false he]
   exact wF
 · have hb:(decide (40<l) || decide (40<k))=false:=by simpa using c
   rw[hb,iC]
   exact wF
end
end Go.Eng
end
section
namespace Go.Eng
open Go.Proofs
noncomputable def dK (m:Nat) (f:Nat→Nat→Int) (g:Nat→Nat):AV:=.slcT none (.F (fun j=>cA (g j) (f j) false) m) 1 m false
noncomputable def oW (m:Nat) (f:Nat→Nat→Int) (g:Nat→Nat) (s j:Int):ao:=[(0,dK m f g),(3,.int .i64 s),(9,dK m f g),(10,.int .i64 (Int.ofNat m)),(11,.int .i64 j)]
noncomputable def j9 (m:Nat) (f:Nat→Nat→Int) (g:Nat→Nat) (o:AV) (j:Int):ao:=[(6,o),(25,dK m f g),(26,.int .i64 (Int.ofNat m)),(27,.int .i64 j)]
theorem t95 (n:Nat) (k:Int) (l1:aV) (H:aa):aM (bp n 95 27) (il aD n 0) aK aL (bn Try.f95) (hints [(0,.nils),(1,.int .i64 k)]) (aw::l1::H) =
 Tr.ite (bQ k (Int.ofNat 0)) Tr.bad (Tr.ite (bQ (Int.ofNat 0) (bC .i64 k (bC .i64 (Int.ofNat 0) (Int.ofNat 0)))) (Tr.req (ng (Int.ofNat 0) 0) (Tr.req (DN (bC .i64 k (bC .i64 (Int.ofNat 0) (Int.ofNat 0))) (bC .i64 k (bC .i64 (Int.ofNat 0) (Int.ofNat 0))) 8) (Tr.ite (cI (bC .i64 k (bC .i64 (Int.ofNat 0) (Int.ofNat 0))) (Int.ofNat 0)) (Tr.req (ng (Int.ofNat 0) 0) (Tr.ok (Ex.ret,[(4,AV.nils,none)],aw::l1::H))) (Tr.req (ng (Int.ofNat 0) (dw (bC .i64 k (bC .i64 (Int.ofNat 0) (Int.ofNat 0))))) (Tr.ok (Ex.ret,[(4,AV.slc 0 0 0 0 1 (dw (Int.ofNat 0)) none,none)],{ lock:=false,bs:=[(0,aj.row (Row.M [ah.arr .i64 (aA []) 0]))] } :: l1::H)))))) (Tr.ok (Ex.ret,[(4,AV.nils,none)],aw::l1::H))):=by kernel_rfl
theorem Uh (n:Nat) (H:aa):aX Try.prog (cd n) 100000 95 Try.f95 (KtL.kt 95) (il aD n 0) aK aL [(.nils,none),(.int .i64 0,some 0)] H =
 Tr.ite (bQ (Int.ofNat 0) (bC .i64 (Int.ofNat 0) (bC .i64 (Int.ofNat 0) (Int.ofNat 0)))) (Tr.req (ng (Int.ofNat 0) 0) (Tr.req (DN (bC .i64 (Int.ofNat 0) (bC .i64 (Int.ofNat 0) (Int.ofNat 0))) (bC .i64 (Int.ofNat 0) (bC .i64 (Int.ofNat 0) (Int.ofNat 0))) 8) (Tr.ite (cI (bC .i64 (Int.ofNat 0) (bC .i64 (Int.ofNat 0) (Int.ofNat 0))) (Int.ofNat 0)) (Tr.req (ng (Int.ofNat 0) 0) (Tr.ok ((AV.nils,none),H))) (Tr.req (ng (Int.ofNat 0) (dw (bC .i64 (Int.ofNat 0) (bC .i64 (Int.ofNat 0) (Int.ofNat 0))))) (Tr.req (cL 0 0) (Tr.req (gF 0 (dw (Int.ofNat 0)) 0 0) (Tr.ok ((AV.slcT none (Row.M [ah.arr .i64 (dW (aA []) 0) (dw (Int.ofNat 0))]) 1 (dw (Int.ofNat 0)) false,none),H)))))))) (Tr.ok ((AV.nils,none),H)):=by kernel_rfl
theorem MV (n m:Nat) (f:Nat→Nat→Int) (g:Nat→Nat) (s j:Int) (H:aa):aM (bp n 84 36) (il aD n 0) aK aL (part Try.f84 [1,1,0,1,0,0]) (hints (oW m f g s j)) (aw::H) =
 (fun (Z0:Row)=>Tr.ite (bQ j (Int.ofNat m)) (Tr.req (cN j m) (Tr.req (cw (au 0 j 1) m) (Tr.ite (bQ (bG .i64 s (Int.ofNat (g (au 0 j 1)))) (Int.ofNat 0)) Tr.bad (Tr.ok (Ex.normal,[(0,AV.slcT none Z0 1 m false,none),(3,AV.int .i64 (bG .i64 s (Int.ofNat (g (au 0 j 1)))),none),(9,AV.slcT none Z0 1 m false,none),(10,AV.int .i64 (Int.ofNat m),none),(11,AV.int .i64 (bG .i64 j (Int.ofNat 1)),none)],aw::H))))) (Tr.ok (Ex.exit 0,[(0,AV.slcT none Z0 1 m false,none),(3,AV.int .i64 s,none),(9,AV.slcT none Z0 1 m false,none),(10,AV.int .i64 (Int.ofNat m),none),(11,AV.int .i64 j,none),(12,AV.bool false,some 1)],aw::H))) (Row.F (fun j=>AV.slcT none (Row.M [ah.arr .i64 (f j) (g j)]) 1 (g j) false) m):=by kernel_rfl
theorem MX (n m:Nat) (f:Nat→Nat→Int) (g:Nat→Nat) (j:Int) (H:aa):aM (bp n 84 36) (il aD n 0) aK aL (part Try.f84 [1,1,1,1,0,1,0,0]) (hints (j9 m f g .nils j)) (aw::H) =
 (fun (Z0:Nat×AV×Option Nat)=>Tr.ite (bQ j (Int.ofNat m)) (Tr.req (cN j m) (Tr.req (cw (au 0 j 1) m) (Tr.ite (cL (g (au 0 j 1)) 0) (Tr.ok (Ex.normal,[(6,AV.nils,none),Z0,(26,AV.int .i64 (Int.ofNat m),none),(27,AV.int .i64 (bG .i64 j (Int.ofNat 1)),none)],aw::H)) (Tr.req (iv 0 (g (au 0 j 1)) 8) (Tr.req (iO (g (au 0 j 1)) (g (au 0 j 1))) (Tr.req (iO (b9 0 (g (au 0 j 1))) (g (au 0 j 1))) (Tr.ok (Ex.normal,[(6,AV.slc 0 0 0 0 1 (g (au 0 j 1)) none,none),Z0,(26,AV.int .i64 (Int.ofNat m),none),(27,AV.int .i64 (bG .i64 j (Int.ofNat 1)),none)],{ lock:=false,bs:=[(0,aj.row (Row.M [ah.arr .i64 (f (au 0 j 1)) (g (au 0 j 1))]))] } :: H)))))))) (Tr.ok (Ex.exit 2,[(6,AV.nils,none),Z0,(26,AV.int .i64 (Int.ofNat m),none),(27,AV.int .i64 j,none),(28,AV.bool false,some 1)],aw::H))) (25,AV.slcT none (Row.F (fun j=>AV.slcT none (Row.M [ah.arr .i64 (f j) (g j)]) 1 (g j) false) m) 1 m false,none):=by kernel_rfl
theorem MW (n m:Nat) (f:Nat→Nat→Int) (g:Nat→Nat) (v q:Nat) (y:Nat→Int) (j:Int) (H:aa):aM (bp n 84 36) (il aD n 0) aK aL (part Try.f84 [1,1,1,1,0,1,0,0]) (hints (j9 m f g (.slc 0 0 v 0 1 q none) j)) (ze v q y::H) =
 (fun (Z0:Nat×AV×Option Nat)=>Tr.ite (bQ j (Int.ofNat m)) (Tr.req (cN j m) (Tr.req (cw (au 0 j 1) m) (Tr.ite (cL (g (au 0 j 1)) 0) (Tr.ok (Ex.normal,[(6,AV.slc 0 0 v 0 1 q none,none),Z0,(26,AV.int .i64 (Int.ofNat m),none),(27,AV.int .i64 (bG .i64 j (Int.ofNat 1)),none)],{ lock:=false,bs:=[(v,aj.row (Row.M [ah.arr .i64 y q]))] } :: H)) (Tr.req (iv q (g (au 0 j 1)) 8) (Tr.req (iO (g (au 0 j 1)) (g (au 0 j 1))) (Tr.req (iO (b9 0 (g (au 0 j 1))) (g (au 0 j 1))) (Tr.req (cL v v) (Tr.req (cL (b9 0 q) q) (Tr.ok (Ex.normal,[(6,AV.slc 0 0 (Nat.succ v) 0 1 (b9 q (g (au 0 j 1))) none,none),Z0,(26,AV.int .i64 (Int.ofNat m),none),(27,AV.int .i64 (bG .i64 j (Int.ofNat 1)),none)],{ lock:=false,bs:=[(Nat.succ v,aj.row (Row.M [ah.arr .i64 (oD (dW y 0) q (f (au 0 j 1))) (b9 q (g (au 0 j 1)))]))] } :: H)))))))))) (Tr.ok (Ex.exit 2,[(6,AV.slc 0 0 v 0 1 q none,none),Z0,(26,AV.int .i64 (Int.ofNat m),none),(27,AV.int .i64 j,none),(28,AV.bool false,some 1)],{ lock:=false,bs:=[(v,aj.row (Row.M [ah.arr .i64 y q]))] } :: H))) (25,AV.slcT none (Row.F (fun j=>AV.slcT none (Row.M [ah.arr .i64 (f j) (g j)]) 1 (g j) false) m) 1 m false,none):=by kernel_rfl
theorem Qg (n m:Nat) (f:Nat→Nat→Int) (g:Nat→Nat) (H:aa):aX Try.prog (cd n) 100000 84 Try.f84 (KtL.kt 84) (il (ye aD 95 [.nils,.int .i64 0] (aw::H) (.ok (.nils,aw::H))) n 0) (bX (bX aK 2 (j9 m f g .nils 0) (aw::H) (.ok (.normal,hints (j9 m f g .nils (Int.ofNat m)++[(28,.bool false)]),aw::H))) 0 (oW m f g 0 0) (aw::H) (.ok (.normal,hints (oW m f g 0 (Int.ofNat m)++[(12,.bool false)]),aw::H))) aL [(dK m f g,none)] H =
 (fun (Z0:Row)=>((fun (Z1:ao)=>((fun (Z2:ao)=>Tr.reqP (Z1=Z1∧aw::H=aw::H) (Tr.reqP ([AV.nils,AV.int .i64 (Int.ofNat 0)]=[AV.nils,AV.int .i64 (Int.ofNat 0)]∧aw::H=aw::H) (Tr.reqP (Z2=Z2∧aw::H=aw::H) (Tr.ok ((AV.nils,none),H))))) [(6,AV.nils),(25,AV.slcT none Z0 1 m false),(26,AV.int .i64 (Int.ofNat m)),(27,AV.int .i64 (Int.ofNat 0))])) [(0,AV.slcT none Z0 1 m false),(3,AV.int .i64 (Int.ofNat 0)),(9,AV.slcT none Z0 1 m false),(10,AV.int .i64 (Int.ofNat m)),(11,AV.int .i64 (Int.ofNat 0))])) (Row.F (fun j=>AV.slcT none (Row.M [ah.arr .i64 (f j) (g j)]) 1 (g j) false) m):=by kernel_rfl
theorem T9 (n m:Nat) (f:Nat→Nat→Int) (g:Nat→Nat) (s:Int) (v q:Nat) (y:Nat→Int) (H:aa):aX Try.prog (cd n) 100000 84 Try.f84 (KtL.kt 84) (il (ye aD 95 [.nils,.int .i64 s] (aw::H) (.ok (.slc 0 0 0 0 1 0 none,ze 0 0 (aA [])::H))) n 0) (bX (bX aK 2 (j9 m f g (.slc 0 0 0 0 1 0 none) 0) (ze 0 0 (aA [])::H) (.ok (.normal,hints (j9 m f g (.slc 0 0 v 0 1 q none) (Int.ofNat m)++[(28,.bool false)]),ze v q y::H))) 0 (oW m f g 0 0) (aw::H) (.ok (.normal,hints (oW m f g s (Int.ofNat m)++[(12,.bool false)]),aw::H))) aL [(dK m f g,none)] H =
 (fun (Z0:Row)=>((fun (Z1:ao)=>((fun (Z2:ao)=>Tr.reqP (Z1=Z1∧aw::H=aw::H) (Tr.reqP ([AV.nils,AV.int .i64 s]=[AV.nils,AV.int .i64 s]∧aw::H=aw::H) (Tr.reqP (Z2=Z2∧{ lock:=false,bs:=[(0,aj.row (Row.M [ah.arr .i64 (aA []) 0]))] } :: H={ lock:=false,bs:=[(0,aj.row (Row.M [ah.arr .i64 (aA []) 0]))] } :: H) (Tr.req (cL v v) (Tr.req (gF 0 q 0 q) (Tr.ok ((AV.slcT none (Row.M [ah.arr .i64 (dW y 0) q]) 1 q false,none),H))))))) [(6,AV.slc 0 0 0 0 1 0 none),(25,AV.slcT none Z0 1 m false),(26,AV.int .i64 (Int.ofNat m)),(27,AV.int .i64 (Int.ofNat 0))])) [(0,AV.slcT none Z0 1 m false),(3,AV.int .i64 (Int.ofNat 0)),(9,AV.slcT none Z0 1 m false),(10,AV.int .i64 (Int.ofNat m)),(11,AV.int .i64 (Int.ofNat 0))])) (Row.F (fun j=>AV.slcT none (Row.M [ah.arr .i64 (f j) (g j)]) 1 (g j) false) m):=by kernel_rfl
theorem t24 (n m:Nat) (f:Nat→Nat→Int) (g:Nat→Nat) (j:Int) (H:aa):aM (bp n 24 19) (il aD n 0) aK aL (part Try.f24 [1,1,0,1,0,0]) (hints [(0,dK m f g),(3,.int .i64 j)]) (aw::H) =
 (fun (Z0:Nat×AV×Option Nat)=>Tr.ite (bQ j (Int.ofNat m)) (Tr.req (cN j m) (Tr.req (cw (au 0 j 1) m) (Tr.ite (bQ (Int.ofNat 40) (Int.ofNat (g (au 0 j 1)))) (Tr.ok (Ex.ret,[(2,AV.bool true,some 1)],aw::H)) (Tr.ok (Ex.normal,[Z0,(3,AV.int .i64 (bG .i64 j (Int.ofNat 1)),none)],aw::H))))) (Tr.ok (Ex.exit 0,[Z0,(3,AV.int .i64 j,none),(10,AV.bool false,some 1)],aw::H))) (0,AV.slcT none (Row.F (fun j=>AV.slcT none (Row.M [ah.arr .i64 (f j) (g j)]) 1 (g j) false) m) 1 m false,none):=by kernel_rfl
theorem TH (n m:Nat) (f:Nat→Nat→Int) (g:Nat→Nat) (b:Bool) (H:aa):aX Try.prog (cd n) 100000 24 Try.f24 (KtL.kt 24) (il aD n 0) (bX aK 0 [(0,dK m f g),(3,.int .i64 0)] (aw::H) (.ite b (.ok (.ret,[(2,.bool true,some 1)],aw::H)) (.ok (.normal,hints [(0,dK m f g),(3,.int .i64 (Int.ofNat m)),(10,.bool false)],aw::H)))) aL [(dK m f g,none)] H =
 (fun (Z0:ao)=>Tr.ite (bQ (Int.ofNat 50) (Int.ofNat m)) (Tr.ok ((AV.bool true,some 1),H)) (Tr.reqP (Z0=Z0∧aw::H=aw::H) (Tr.ite b (Tr.ok ((AV.bool true,some 1),H)) (Tr.ok ((AV.bool false,some 1),H))))) [(0,AV.slcT none (Row.F (fun j=>AV.slcT none (Row.M [ah.arr .i64 (f j) (g j)]) 1 (g j) false) m) 1 m false),(3,AV.int .i64 (Int.ofNat 0))]:=by kernel_rfl
theorem PW (n m:Nat) (f:Nat→Nat→Int) (g:Nat→Nat) (H:aa):aX Try.prog (cd n) 100000 24 Try.f24 (KtL.kt 24) (il aD n 0) (nB aK 0) aL [(dK m f g,none)] H =
 Tr.ite (bQ (Int.ofNat 50) (Int.ofNat m)) (Tr.ok ((AV.bool true,some 1),H)) Tr.bad:=by kernel_rfl
theorem QQ:∀ b,(0,b) ∈ aJ (bn Try.f24)→b=.loop (part Try.f24 [1,1,0,1,0,0]):=eJ (by kernel_rfl)
theorem Lk:∀ b,(0,b) ∈ aJ (bn Try.f84)→b=.loop (part Try.f84 [1,1,0,1,0,0]):=eJ (by kernel_rfl)
theorem Ll:∀ b,(2,b) ∈ aJ (bn Try.f84)→b=.loop (part Try.f84 [1,1,1,1,0,1,0,0]):=eJ (by kernel_rfl)
def bu (g:Nat→Nat):Nat→Nat
 | 0=>0
 | j+1=>bu g j+g j
noncomputable def lX (f:Nat→Nat→Int) (g:Nat→Nat):Nat→(Nat→Int)
 | 0=>aA []
 | j+1=>if g j=0 then lX f g j else oD (lX f g j) (bu g j) (f j)
def Am (g:Nat→Nat):Nat→Nat
 | 0=>0
 | j+1=>if g j=0 then Am g j else Am g j+1
theorem pH {g:Nat→Nat} {B:Nat}:∀ m,(∀ j,j<m→g j≤B)→bu g m≤m*B
 | 0,_=>by show 0≤_;omega
 | m+1,h=>by
   have h1:=pH m (fun j hj=>h j (by omega))
   have h2:=h m (by omega)
   show bu g m+g m≤(m+1)*B
   rw[Nat.add_mul,Nat.one_mul];omega
theorem Ed (g:Nat→Nat) {a b:Nat} (h:a≤b):bu g a≤bu g b:=by
 induction b with
 | zero =>
   have e:a=0:=Nat.le_zero.1 h
   rw[e];exact Nat.le_refl _
 | succ b ih =>
   by_cases c:a=b+1
   · subst c;exact Nat.le_refl _
   · have:=ih (by omega)
     show _≤bu g b+g b
     omega
theorem wx (f:Nat→Nat→Int) (g:Nat→Nat) (p:Int→Prop):∀ m,(∀ i,i<bu g m→p (lX f g m i))↔∀ j,j<m→∀ i,i<g j→p (f j i)
 | 0=>⟨fun _ j hj=>by omega,fun _ i hi=>by exact absurd hi (by show ¬ i<0;omega)⟩
 | m + 1 => by
   have ih:=wx f g p m
   have et:bu g (m+1)=bu g m+g m:=rfl
   by_cases c:g m=0
   · have ez:lX f g (m+1)=lX f g m:=by show (if g m=0 then _ else _)=_;rw[if_pos c]
     rw[ez,et,c,Nat.add_zero,ih]
     constructor
     · intro h j hj i hi
       by_cases e:j=m
       · subst e;omega
       · exact h j (by omega) i hi
     · intro h j hj i hi;exact h j (by omega) i hi
   · have ez:lX f g (m+1)=oD (lX f g m) (bu g m) (f m):=by show (if g m=0 then _ else _)=_;rw[if_neg c]
     have ea:∀ i,lX f g (m+1) i=if i<bu g m then lX f g m i else f m (i-bu g m):=fun i=>by rw[ez,rJ]
     rw[et]
     constructor
     · intro h j hj i hi
       by_cases e:j=m
       · subst e
         have:=h (bu g j+i) (by omega)
         rw[ea,if_neg (by omega),show bu g j+i-bu g j=i by omega] at this
         exact this
       · refine ih.1 (fun q hq=>?_) j (by omega) i hi
         have:=h q (by omega)
         rw[ea,if_pos hq] at this;exact this
     · intro h i hi
       rw[ea]
       by_cases e:i<bu g m
       · rw[if_pos e]
         exact ih.2 (fun j hj=>h j (by omega)) i e
       · rw[if_neg e]
         exact h m (by omega) _ (by omega)
section
variable (n m:Nat) (f:Nat→Nat→Int) (g:Nat→Nat) (H:aa)
theorem Q4:cd (n+1) (.fn 24) [dK m f g] H=some (.bool (decide (50<m) || bV (fun j=>decide (40<g j)) m),H):=by
 by_cases c:50<m
 · rw[decide_eq_true c,Bool.true_or]
   refine aC (n:=n) Try.func24 rfl rfl rfl (PW n m f g H) (ar _) (eV (af _ _) 0) (ag _ _) ?_
   exact wF
 · rw [decide_eq_false c,Bool.false_or]
   have hx:=iG (n:=n) (f:=24) (nt:=19) (c:=part Try.f24 [1,1,0,1,0,0]) 0 (fun j=>[(0,dK m f g),(3,.int .i64 (j:Nat))]) (fun _=>aw::H) m (fun j=>decide (40<g j)) (fun j=>([(2,.bool true)],aw::H)) ([(0,dK m f g),(3,.int .i64 (Int.ofNat m)),(10,.bool false)],aw::H) (by omega) (fun j hj=>?_) ?_
   · refine aC (n:=n) Try.func24 rfl rfl rfl (TH n m f g (bV (fun j=>decide (40<g j)) m) H) (ar _) (aF (af _ _) QQ (fun x hy=>dz hy hx)) (ag _ _) ?_
     generalize bV (fun j=>decide (40<g j)) m=B at *
     cases B
     all_goals
      exact wF
   · refine aH (t24 n m f g (j:Nat) H) (ar n) (af _ _) (ag _ _) ?_
     show Tr.all _ (fun r=>if decide (40<g j)=true then _ else _)
     rw[db (j:=j) (by omega)]
     simp only[jB]
     by_cases e:40<g j
     · simp only[e,decide_true,if_true]
       exact wF
     · simp only[e,decide_false,Bool.false_eq_true,if_false]
       exact wF
   · exact dc (t24 n m f g (Int.ofNat m) H) (ar n) (af _ _) (ag _ _) (by first | (simp (disch:=omega) only[nV,nW];done) | (simp (disch:=omega) only[nV,nW];omega))
theorem O0 (hm:m≤1000) (hg:∀ j,j<m→g j≤1000):exec (bp n 84 36) (.block 0 (.loop (part Try.f84 [1,1,0,1,0,0]))) (oW m f g 0 0) (aw::H)=some (.normal,oW m f g (bu g m:Nat) (Int.ofNat m)++[(12,.bool false)],aw::H):=by
 refine j8 (n:=n) (f:=84) (nt:=36) (c:=part Try.f84 [1,1,0,1,0,0]) 0 (fun j=>oW m f g (bu g j:Nat) (j:Nat)) (fun _=>aw::H) m _ (by omega) (fun j hj=>?_) ?_
 · have h1:=pH (g:=g) (B:=1000) j (fun i hi=>hg i (by omega))
   have h2:=hg j hj
   have h3:j*1000≤1000*1000:=Nat.mul_le_mul_right 1000 (by omega)
   have e1:bG .i64 (bu g j:Nat) (Int.ofNat (g j))=((bu g j+g j:Nat):Int):=by rw[GL (by show _≤(bu g j:Int)+(g j:Int);omega) (by show (bu g j:Int)+(g j:Int)≤_;omega)];show (bu g j:Int)+(g j:Int)=_;omega
   refine aH (MV n m f g (bu g j:Nat) (j:Nat) H) (ar n) (af _ _) (ag _ _) ?_
   show Tr.all _ (fun r=>_∧tidy _ _ _=(oW m f g ((bu g j+g j:Nat):Int) ((j+1:Nat):Int),_))
   rw[db (j:=j) (by omega)]
   simp only[jB,e1]
   generalize bu g j+g j=S at *
   generalize bu g j=S0 at *
   exact wF
 · exact dc (MV n m f g (bu g m:Nat) (Int.ofNat m) H) (ar n) (af _ _) (ag _ _) (by first | (simp (disch:=omega) only[nV,nW];done) | (simp (disch:=omega) only[nV,nW];omega))
theorem O1 (hm:m≤1000) (hg:∀ j,j<m→g j≤1000):exec (bp n 84 36) (.block 2 (.loop (part Try.f84 [1,1,1,1,0,1,0,0]))) (j9 m f g (.slc 0 0 0 0 1 0 none) 0) (ze 0 0 (aA [])::H)=some (.normal,j9 m f g (.slc 0 0 (Am g m) 0 1 (bu g m) none) (Int.ofNat m)++[(28,.bool false)],ze (Am g m) (bu g m) (lX f g m)::H):=by
 refine j8 (n:=n) (f:=84) (nt:=36) (c:=part Try.f84 [1,1,1,1,0,1,0,0]) 2 (fun j=>j9 m f g (.slc 0 0 (Am g j) 0 1 (bu g j) none) (j:Nat)) (fun j=>ze (Am g j) (bu g j) (lX f g j)::H) m _ (by omega) (fun j hj=>?_) ?_
 · have h1:=pH (g:=g) (B:=1000) j (fun i hi=>hg i (by omega))
   have h2:=hg j hj
   have h3:j*1000≤1000*1000:=Nat.mul_le_mul_right 1000 (by omega)
   refine aH (MW n m f g (Am g j) (bu g j) (lX f g j) (j:Nat) H) (ar n) (af _ _) (ag _ _) ?_
   have ez:lX f g (j+1)=if g j=0 then lX f g j else oD (lX f g j) (bu g j) (f j):=rfl
   have ev:Am g (j+1)=if g j=0 then Am g j else Am g j+1:=rfl
   show Tr.all _ (fun r=>_∧tidy _ _ _=(j9 m f g (.slc 0 0 (Am g (j+1)) 0 1 (bu g j+g j) none) ((j+1:Nat):Int),ze (Am g (j+1)) (bu g j+g j) (lX f g (j+1))::H))
   have ea:b9 (bu g j) (g j)=bu g j+g j:=bJ _ _
   rw[ez,ev,db (j:=j) (by omega),dF]
   simp only[jB,ea]
   by_cases c:g j=0
   · rw[if_pos c,if_pos c,c,Nat.add_zero]
     generalize lX f g j=Z at *
     generalize bu g j=S at *
     generalize Am g j=V at *
     exact wF
   · rw[if_neg c,if_neg c]
     generalize oD (lX f g j) (bu g j) (f j)=Z2 at *
     generalize lX f g j=Z at *
     generalize bu g j=S at *
     generalize Am g j=V at *
     generalize g j=G at *
     exact wF
 · exact dc (MW n m f g (Am g m) (bu g m) (lX f g m) (Int.ofNat m) H) (ar n) (af _ _) (ag _ _) (by first | (simp (disch:=omega) only[nV,nW];done) | (simp (disch:=omega) only[nV,nW];omega))
theorem O2 (hm:m≤1000) (hg:∀ j,j<m→g j=0):exec (bp n 84 36) (.block 2 (.loop (part Try.f84 [1,1,1,1,0,1,0,0]))) (j9 m f g .nils 0) (aw::H)=some (.normal,j9 m f g .nils (Int.ofNat m)++[(28,.bool false)],aw::H):=by
 refine j8 (n:=n) (f:=84) (nt:=36) (c:=part Try.f84 [1,1,1,1,0,1,0,0]) 2 (fun j=>j9 m f g .nils (j:Nat)) (fun j=>aw::H) m _ (by omega) (fun j hj=>?_) ?_
 · have h2:=hg j hj
   refine aH (MX n m f g (j:Nat) H) (ar n) (af _ _) (ag _ _) ?_
   rw[db (j:=j) (by omega)]
   simp only[jB,h2]
   exact wF
 · exact dc (MX n m f g (Int.ofNat m) H) (ar n) (af _ _) (ag _ _) (by first | (simp (disch:=omega) only[nV,nW];done) | (simp (disch:=omega) only[nV,nW];omega))
theorem I2 (args:List AV):nm (cd n) 95 args H=rh Try.prog KtL.kt 100000 95 (cd n) args H:=rfl
theorem Un (k:Int) (hk:0<k) (hk2:k≤1000000) (l1:aV):exec (bp n 95 27) (bn Try.f95) [(0,.nils),(1,.int .i64 k)] (aw::l1::H)=some (.ret,[(4,.slc 0 0 0 0 1 0 none)],(⟨false,[(0,.row (.M [.arr .i64 (aA []) 0]))]⟩:aV)::l1::H):=by
 obtain ⟨x,hx,rfl⟩:=aH (Q:=fun x=>x=(.ret,[(4,.slc 0 0 0 0 1 0 none)],(⟨false,[(0,.row (.M [.arr .i64 (aA []) 0]))]⟩:aV)::l1::H)) (t95 n k l1 H) (ar n) (af _ _) (ag _ _) (by
  have e1:bC .i64 (Int.ofNat 0) (Int.ofNat 0)=0:=rH (by decide) (by decide)
  have e2:bC .i64 k 0=k:=by rw[rH (by omega) (by omega),Int.sub_zero]
  have e3:dw (Int.ofNat 0)=0:=by rw[mJ];rfl
  have e4:dw k=k.toNat:=mJ k
  have e5:DN k k 8=true:=by rw[w9,decide_eq_true_eq];unfold room;omega
  simp only[e1,e2,e3,e4,e5]
  exact wF)
 exact hx
theorem Rz (k:Int) (hk:0<k) (hk2:k≤1000000) (bs:List (Nat×aj)):cd (n+1) (.fn 95) [.nils,.int .i64 k] (⟨false,bs⟩::H)=some (.slc 0 bs.length 0 0 1 0 none,⟨false,bs++[(0,.row (.M [.arr .i64 (aA []) 0]))]⟩::H):=by
 have hx:=Un n H k hk hk2 ⟨false,bs⟩
 have e8:Try.f95.ntmps=27:=by kernel_rfl
 have eb:Try.f95.body=some (bn Try.f95):=by kernel_rfl
 have er:Try.f95.results.toList=[.tmp 4]:=by kernel_rfl
 have:nm (cd n) 95 [.nils,.int .i64 k] (⟨false,bs⟩::H)=some (.slc 0 bs.length 0 0 1 0 none,⟨false,bs++[(0,.row (.M [.arr .i64 (aA []) 0]))]⟩::H):=by
  rw[I2]
  unfold rh
  rw[Try.func95];dsimp only
  rw[eb];dsimp only
  rw[if_pos (by rw[e8];rfl),cS,e8]
  rw[show exec (⟨Try.prog,cd n,100000,95,27,KtL.kt 95,none⟩:Cx) (bn Try.f95) (fj 0 [.nils,.int .i64 k]) (⟨false,[]⟩::⟨false,bs⟩::H)=_ from hx]
  dsimp only
  rw[er];rfl
 unfold cd
 rw[show cR Try.prog nm KtL.kt 100000 (n+1) (.fn 95) [.nils,.int .i64 k] (⟨false,bs⟩::H)=(match nm (cd n) 95 [.nils,.int .i64 k] (⟨false,bs⟩::H) with
  | some r=>some r
  | none=>_) from rfl,this]
theorem N4 (bs:List (Nat×aj)):cd (n+1) (.fn 95) [.nils,.int .i64 0] (⟨false,bs⟩::H)=some (.nils,⟨false,bs⟩::H):=by
 have e8:Try.f95.ntmps=27:=by kernel_rfl
 have eb:Try.f95.body=some (bn Try.f95):=by kernel_rfl
 have er:Try.f95.results.toList=[.tmp 4]:=by kernel_rfl
 have hx:exec (bp n 95 27) (bn Try.f95) [(0,.nils),(1,.int .i64 0)] (aw::⟨false,bs⟩::H)=some (.ret,[(4,.nils)],aw::⟨false,bs⟩::H):=by
  obtain ⟨x,hx,rfl⟩:=aH (Q:=fun x=>x=(.ret,[(4,.nils)],aw::(⟨false,bs⟩:aV)::H)) (t95 n 0 ⟨false,bs⟩ H) (ar n) (af _ _) (ag _ _) (by
   have e1:bC .i64 (Int.ofNat 0) (Int.ofNat 0)=0:=rH (by decide) (by decide)
   have e2:bC .i64 0 0=0:=rH (by decide) (by decide)
   simp only[e1,e2]
   exact wF)
  exact hx
 have ho:nm (cd n) 95 (pR [(.nils,none),(.int .i64 0,some 0)]) (⟨false,bs⟩::H)=none:=by
  rw[I2]
  unfold rh
  rw[Try.func95];dsimp only
  rw[eb];dsimp only
  rw[if_pos (by rw[e8];rfl),cS,e8]
  rw[show exec (⟨Try.prog,cd n,100000,95,27,KtL.kt 95,none⟩:Cx) (bn Try.f95) (fj 0 (pR [(.nils,none),(.int .i64 0,some 0)])) (⟨false,[]⟩::⟨false,bs⟩::H)=_ from hx]
  dsimp only
  rw[er];rfl
 obtain ⟨y,h1,h2,h3⟩:Tr.all (aX Try.prog (cd n) 100000 95 Try.f95 (KtL.kt 95) (il aD n 0) aK aL [(.nils,none),(.int .i64 0,some 0)] (⟨false,bs⟩::H)) (fun y=>y.1.1=.nils∧y.2=⟨false,bs⟩::H):=by
  rw[Uh]
  exact wF
 have:=sk (f:=95) Try.func95 rfl ho rfl (ar n) (af _ _) (ag _ _) h1
 rw[h2,h3] at this
 exact this
noncomputable def JH (m:Nat) (f:Nat→Nat→Int) (g:Nat→Nat):AV:=if bu g m=0 then .nils else cA (bu g m) (lX f g m) false
theorem Ee {g:Nat→Nat} {m:Nat} (h:bu g m=0):∀ j,j<m→g j=0:=fun j hj=>by
 have:=Ed g (show j+1≤m by omega)
 have e:bu g (j+1)=bu g j+g j:=rfl
 omega
theorem Ro (hm:m≤100) (hg:∀ j,j<m→g j≤1000):cd (n+2) (.fn 84) [dK m f g] H=some (JH m f g,H):=by
 have hxa:=O0 (n+1) m f g H (by omega) hg
 have ht:=pH (g:=g) (B:=1000) m hg
 unfold JH
 by_cases c:bu g m=0
 · rw[if_pos c]
   rw[c] at hxa
   have hxb:=O2 (n+1) m f g H (by omega) (Ee c)
   refine aC (n:=n+1) Try.func84 rfl rfl rfl (Qg (n+1) m f g H) (aQ _ (n+1) (fG (aB _) (fun x hy=>by rw[← Tr.ab hy];exact N4 n H []))) (aF (aF (af _ _) Ll (fun x hy=>bY hy hxb)) Lk (fun x hy=>bY hy hxa)) (ag _ _) ?_
   exact wF
 · rw[if_neg c]
   have hxb:=O1 (n+1) m f g H (by omega) hg
   refine aC (n:=n+1) Try.func84 rfl rfl rfl (T9 (n+1) m f g (bu g m:Nat) (Am g m) (bu g m) (lX f g m) H) (aQ _ (n+1) (fG (aB _) (fun x hy=>by rw[← Tr.ab hy];exact Rz n H _ (by omega) (by omega) []))) (aF (aF (af _ _) Ll (fun x hy=>bY hy hxb)) Lk (fun x hy=>bY hy hxa)) (ag _ _) ?_
   rw[dF]
   generalize lX f g m=Z at *
   generalize bu g m=S at *
   generalize Am g m=V at *
   exact wF
end
end Go.Eng
end
