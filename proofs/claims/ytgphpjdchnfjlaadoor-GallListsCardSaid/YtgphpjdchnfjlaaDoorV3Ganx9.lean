/- Gall: open with a colour; Spread, Window and Bounds, the program's. -/
import Derived.Test.YtgphpjdchnfjlaaDoorV3Gajx3
import Derived.Test.YtgphpjdchnfjlaaDoorV3Gp2x6
import Derived.Test.YtgphpjdchnfjlaaDoorRows
import Derived.Test.YtgphpjdchnfjlaaDoorChecked
import Derived.Test.YtgphpjdchnfjlaaDoorTie
import Derived.Test.YtgphpjdchnfjlaaDoorCards
import Derived.ProofKit
import Derived.Lib.LaidIn
import Derived.Lib.LaidTab
import Derived.FnData
import Derived.Handed
import Derived.SevenTiedAt
import Derived.Test.YtgphpjdchnfjlaaDoorV3GaKx6
set_option linter.unusedVariables false
set_option linter.unusedSimpArgs false
set_option maxRecDepth 100000
section
namespace Go.Eng
open Go.Proofs Go.Eng.Gall
theorem P2:∀ b,(0,b) ∈ aP (bw Tryd.f89)→b=.loop (part Tryd.f89 [1,0,1,0,0]):=fJ (by kernel_rfl)
def hJ (dr:Int) (lc:Nat) (zc:Nat→Int) (lb:Nat) (zb:Nat→Int) (c:Int):Int:=if gh dr lc zc lb zb=0 then (if c<0∨(lc:Int)≤c then 2 else 0) else gh dr lc zc lb zb
noncomputable def rT (x y e:Int):AV:=.tup [JX x y,.int .i64 e]
theorem y9 {dr:Int} {lc:Nat} {zc:Nat→Int} {lb:Nat} {zb:Nat→Int} (h:gh dr lc zc lb zb=0):(1≤lc∧lc≤10)∧lb≤40∧(1≤dr∧dr≤100)∧qb lc zc∧fi lc lb zb∧kK lc (fun c=>eu zb c lb)=false:=by
 unfold gh at h
 split at h
 · cases h
 · rename_i h1
   split at h
   · cases h
   · rename_i h2
     split at h
     · cases h
     · rename_i h3
       split at h
       · cases h
       · rename_i h4
         exact ⟨by omega,by omega,by omega,uY (by simpa using fun q=>h2 (.inr (.inr q))),oD (by simpa using h3),by simpa using h4⟩
theorem zk {dr:Int} {lc:Nat} {zc:Nat→Int} {lb:Nat} {zb:Nat→Int} {c:Int} (h:hJ dr lc zc lb zb c=0):gh dr lc zc lb zb=0∧0≤c∧c<lc:=by
 unfold hJ at h
 split at h
 · rename_i h1
   split at h
   · cases h
   · exact ⟨h1,by omega,by omega⟩
 · rename_i h1;exact absurd h h1
section
variable (n:Nat) (dr:Int) (lc:Nat) (zc:Nat→Int) (lb:Nat) (zb:Nat→Int) (H:aa)
theorem Mi (b0 b1:Nat×av) (c:Int) (hl:lc≤1000):cd (n+3) (.fn 67) [v8 1,uZ 0] (iN dr lc zc lb zb::lB b0 b1 c::H)=some (.bool (decide (c<0) || decide ((lc:Int)≤c)),iN dr lc zc lb zb::lB b0 b1 c::H):=by
 have i0:aE 0 (Int.ofNat 0) 1=0:=by rw[bO];rfl
 have l0:bC [c] 0=c:=by rw[ga];rfl
 have s1:bz .i64 (Int.ofNat 0) (Int.ofNat 1)=Int.ofNat 1:=gN (j:=0) (by omega)
 have hp:∀ e,(decide (c<0) || decide ((lc:Int)≤c))=e→exec (cI (n+1) 89 19) (.block 0 (.loop (part Tryd.f89 [1,0,1,0,0]))) (vg (Int.ofNat 0)) (aR::aR::iN dr lc zc lb zb::lB b0 b1 c::H)=some (cond e (.ret,[(4,.int .i64 (Int.ofNat 0))],aR::aR::iN dr lc zc lb zb::lB b0 b1 c::H) (.normal,vg (Int.ofNat 1)++[(9,.bool false)],aR::aR::iN dr lc zc lb zb::lB b0 b1 c::H)):=by
  intro e he
  have hx:=kZ (n:=n+1) (f:=89) (nt:=19) (c:=part Tryd.f89 [1,0,1,0,0]) 0 (fun j=>vg (j:Int)) (fun _=>aR::aR::iN dr lc zc lb zb::lB b0 b1 c::H) 1 (fun _=>e) (fun _=>([(4,.int .i64 (Int.ofNat 0))],aR::aR::iN dr lc zc lb zb::lB b0 b1 c::H)) (vg (Int.ofNat 1)++[(9,.bool false)],aR::aR::iN dr lc zc lb zb::lB b0 b1 c::H) (by omega) (fun j hj=>?_) ?_
  · have ee:eV (fun _=>e) 1=e:=by
     cases e with
     | true=>exact (dG _ _).2 ⟨0,by omega,rfl⟩
     | false=>exact IH (fun _ _=>rfl)
    rw[ee] at hx
    cases e with
    | true=>exact hx
    | false=>exact hx
  · have:j=0:=by omega
    subst this
    have T:=t89 n dr lc zc lb zb H b0 b1 c
    rw[i0,l0,s1] at T
    refine aY T (gI n 1) (ak _ _) (al _ _) ?_
    refine Tr.ag (fun h0=>?_) (fun h0=>by simp (disch:=omega) only[nV,nW] at h0;omega)
    refine Tr.af (by simp (disch:=omega) only[nV,nW];omega) (Tr.af (by simp (disch:=omega) only[nV,nW]) (Tr.af (by simp (disch:=omega) only[nV,nW];rw[A5];exact Nat.zero_lt_one) (Tr.ag (fun q=>Tr.ah ?_) (fun q=>Tr.ag (fun r=>Tr.ah ?_) (fun r=>Tr.ah ?_)))))
    · rw[br] at q
      have q:decide (c<0)=true:=q
      rw[if_pos (by rw[← he,q];rfl)];rfl
    · rw[bt] at r
      have r:decide ((lc:Int)≤c)=true:=r
      rw[if_pos (by rw[← he,r];simp)];rfl
    · rw[br] at q
      rw[bt] at r
      have q:decide (c<0)=false:=q
      have r:decide ((lc:Int)≤c)=false:=r
      rw[if_neg (by rw[← he,q,r];decide)];exact ⟨rfl,rfl⟩
  · obtain ⟨x,h1,rfl⟩:=aY (Q:=fun x=>x=(.exit 0,vg (Int.ofNat 1)++[(9,.bool false)],aR::aR::iN dr lc zc lb zb::lB b0 b1 c::H)) (OA n dr lc zc lb zb H b0 b1 c) (gI n 1) (ak _ _) (al _ _) (by
     refine Tr.ag (fun h0=>by simp (disch:=omega) only[nV,nW] at h0;omega) (fun h0=>Tr.ah rfl))
    exact h1
 have h89:cd (n+2) (.fn 89) [v8 2,uZ 1] (aR::iN dr lc zc lb zb::lB b0 b1 c::H)=some (.int .i64 (cond (decide (c<0) || decide ((lc:Int)≤c)) 0 (-1)),aR::iN dr lc zc lb zb::lB b0 b1 c::H):=by
  refine bN (n:=n+1) Tryd.func89 rfl rfl rfl (SW (n+1) (decide (c<0) || decide ((lc:Int)≤c)) (aR::iN dr lc zc lb zb::lB b0 b1 c::H)) (aV _) (bu (ak _ _) P2 (fun x h=>fm h (hp _ rfl))) (al _ _) ?_
  refine Tr.an ⟨rfl,rfl⟩ (Tr.ag (fun q=>Tr.ah ⟨?_,rfl⟩) (fun q=>Tr.ah ⟨?_,rfl⟩))
  · rw[q];rfl
  · rw[q];rfl
 refine bN (n:=n+2) Tryd.func67 rfl rfl rfl (SN (n+2) (cond (decide (c<0) || decide ((lc:Int)≤c)) 0 (-1)) (iN dr lc zc lb zb::lB b0 b1 c::H)) (cK _ _ (ji (bG _) (fun x hy=>by rw[← Tr.ab hy];exact h89))) (ak _ _) (al _ _) ?_
 refine Tr.an ⟨rfl,rfl⟩ (Tr.ah ⟨?_,rfl⟩)
 rw[bt]
 cases (decide (c<0) || decide ((lc:Int)≤c))<;>rfl
noncomputable def xw (c:Int):AV:=if hJ dr lc zc lb zb c=0 then .tup [J6 dr lc zc lb zb,.int .i64 0] else .tup [.nilp,.int .i64 (hJ dr lc zc lb zb c)]
theorem Mh (b0 b1:Nat×av) (c:Int) (hl:lc≤1000) (hb:lb≤1000):cd (n+12) (.fn 49) [df dr lc zc lb zb,v8 0] (lB b0 b1 c::H)=some (xw dr lc zc lb zb c,lB b0 b1 c::H):=by
 have h22:=fun H=>PA n dr lc zc lb zb H hl hb
 have h67:cd (n+11) (.fn 67) [v8 1,uZ 0] (iN dr lc zc lb zb::lB b0 b1 c::H)=_:=Mi (n+8) dr lc zc lb zb H b0 b1 c hl
 have ht:(B6 (mr (tX aX 22 [df dr lc zc lb zb] (.int .i64 (gh dr lc zc lb zb))) 62 (fun x=>some (x=[df dr lc zc lb zb]∧gh dr lc zc lb zb=0,shV dr lc zc lb zb (cE dr lc zc) (qO lb zb)))) 67 [v8 1,uZ 0] (iN dr lc zc lb zb::lB b0 b1 c::H) (.ok (.bool (decide (c<0) || decide ((lc:Int)≤c)),iN dr lc zc lb zb::lB b0 b1 c::H))).Ok (cd (n+11)) :=
  ji (DN (jc (bG _) h22) (fun A H hA=>by
   obtain ⟨rfl,h0⟩:=hA
   obtain ⟨h1,h2,h3,h4,h5,_⟩:=y9 h0
   exact PD (n+4) dr lc zc lb zb H h1.2 hb h3 h4 h5)) (fun x hy=>by rw[← Tr.ab hy];exact h67)
 refine bN (n:=n+11) Tryd.func49 rfl rfl rfl (SE (n+11) dr lc zc lb zb (cE dr lc zc) (qO lb zb) (lB b0 b1 c::H) (gh dr lc zc lb zb) (decide (c<0) || decide ((lc:Int)≤c)) (fun x=>x=[df dr lc zc lb zb]∧gh dr lc zc lb zb=0)) (cK _ _ ht) (ak _ _) (al _ _) ?_
 refine Tr.an rfl (Tr.ag (fun q=>Tr.ah ⟨?_,rfl⟩) (fun q=>Tr.an ⟨rfl,rfl⟩ (Tr.ag (fun r=>Tr.ah ⟨?_,rfl⟩) (fun r=>Tr.an ⟨rfl,?_⟩ (Tr.ah ⟨?_,rfl⟩)))))
 · rw[aS,bh] at q
   have h:¬ gh dr lc zc lb zb=0:=by simpa using q
   have e:hJ dr lc zc lb zb c=gh dr lc zc lb zb:=by unfold hJ;rw[if_neg h]
   unfold xw;rw[e,if_neg h]
 all_goals rw[aS,bh] at q
 all_goals have h:gh dr lc zc lb zb=0:=by simpa using q
 · rw[Bool.or_eq_true,decide_eq_true_iff,decide_eq_true_iff] at r
   have e:hJ dr lc zc lb zb c=2:=by unfold hJ;rw[if_pos h,if_pos r]
   unfold xw;rw[e];rfl
 · exact h
 · rw[Bool.or_eq_false_iff,decide_eq_false_iff_not,decide_eq_false_iff_not] at r
   have e:hJ dr lc zc lb zb c=0:=by unfold hJ;rw[if_pos h,if_neg (by omega)]
   unfold xw;rw[e,if_pos rfl];rfl
def CM (c p:Int):Int×Int×Int:=if hJ dr lc zc lb zb c=0 then (if p<0∨(lc:Int)≤p then (0,0,3) else (zc (c.toNat*4)-p*dr,zc (c.toNat*4+1)-p*dr,0)) else (0,0,hJ dr lc zc lb zb c)
def CR (c:Int):Int×Int×Int:=if hJ dr lc zc lb zb c=0 then (if cE dr lc zc (2*c.toNat+1)<cE dr lc zc (2*c.toNat) then (0,0,21) else (cE dr lc zc (2*c.toNat),cE dr lc zc (2*c.toNat+1),0)) else (0,0,hJ dr lc zc lb zb c)
def BW (c:Int):Int×Int×Int:=if hJ dr lc zc lb zb c=0 then (if qc lc (fun c=>eu zb c lb) (cE dr lc zc) (2*c.toNat+1)<qc lc (fun c=>eu zb c lb) (cE dr lc zc) (2*c.toNat) then (0,0,21) else (qc lc (fun c=>eu zb c lb) (cE dr lc zc) (2*c.toNat),qc lc (fun c=>eu zb c lb) (cE dr lc zc) (2*c.toNat+1),0)) else (0,0,hJ dr lc zc lb zb c)
noncomputable def rX (x:Int×Int×Int):AV:=rT x.1 x.2.1 x.2.2
theorem J1 {k:Nat} (hk:12≤k) (b0 b1:Nat×av) (c:Int) (hl:lc≤1000) (hb:lb≤1000):cd k (.fn 49) [df dr lc zc lb zb,v8 0] (lB b0 b1 c::H)=some (xw dr lc zc lb zb c,lB b0 b1 c::H):=by
 obtain ⟨m,rfl⟩:∃ m,k=m+12:=⟨k-12,by omega⟩
 exact Mh m dr lc zc lb zb H b0 b1 c hl hb
theorem P6 (c p:Int) (hl:lc≤1000) (hb:lb≤1000) (hp:-9223372036854775808≤p∧p≤9223372036854775807):cd (n+14) (.fn 16) [df dr lc zc lb zb,.int .i64 c,.int .i64 p] H=some (rX (CM dr lc zc lb zb c p),H):=by
 by_cases h0:hJ dr lc zc lb zb c=0
 · obtain ⟨h1,h2,h3⟩:=zk h0
   obtain ⟨k1,k2,k3,k4,k5,_⟩:=y9 h1
   obtain ⟨v1,v2,v3,v4,v5,v6⟩:=EV k4 (show c.toNat<lc by omega)
   have e:CM dr lc zc lb zb c p=if p<0∨(lc:Int)≤p then (0,0,3) else (zc (c.toNat*4)-p*dr,zc (c.toNat*4+1)-p*dr,0):=by unfold CM;rw[if_pos h0]
   rw[e]
   have eo:xw dr lc zc lb zb c=.tup [shV dr lc zc lb zb (cE dr lc zc) (qO lb zb),.int .i64 (Int.ofNat 0)]:=by unfold xw;rw[if_pos h0];rfl
   have ei:aE 0 c 4=c.toNat*4:=by rw[bO];omega
   refine bN (n:=n+13) Tryd.func16 rfl rfl rfl (u16 (n+12) dr lc zc lb zb H c p (cE dr lc zc) (qO lb zb)) (gJ _ (n+12) 1 (fun q=>ji (bG _) (fun x hy=>by rw[← Tr.ab hy,← eo];exact J1 dr lc zc lb zb H (by omega) _ _ c hl hb))) (ak _ _) (al _ _) ?_
   refine Tr.an ⟨rfl,rfl⟩ (Tr.ag (fun q=>by simp[aS,bh] at q) (fun q=>Tr.ag (fun r=>Tr.ah ⟨?_,rfl⟩) (fun r=>Tr.ag (fun s=>Tr.ah ⟨?_,rfl⟩) (fun s=>?_))))
   · rw[br,decide_eq_true_iff] at r
     rw[if_pos (.inl r)];rfl
   · rw[bt,decide_eq_true_iff] at s
     rw[if_pos (.inr s)];rfl
   · rw[br,decide_eq_false_iff_not] at r
     rw[bt,decide_eq_false_iff_not] at s
     have r:¬ p<0:=r
     have s:¬ (lc:Int)≤p:=s
     have hm0:0≤p*dr:=Int.mul_nonneg (by omega) (by omega)
     have hm1:p*dr≤10*100:=Int.mul_le_mul (by omega) (by omega) (by omega) (by omega)
     have em:qi .i64 p dr=p*dr:=by rw[kg];exact fH (by omega) (by omega)
     rw[if_neg (by omega),ei,aJ,em,tw (by omega) (by omega),tw (by omega) (by omega)]
     exact Tr.af (by simp (disch:=omega) only[nV,nW];omega) (Tr.af (by simp (disch:=omega) only[nV,nW];omega) (Tr.af (by simp (disch:=omega) only[nV,nW];omega) (Tr.af (by simp (disch:=omega) only[nV,nW];omega) (Tr.ah ⟨rfl,rfl⟩))))
 · have e:CM dr lc zc lb zb c p=(0,0,hJ dr lc zc lb zb c):=by unfold CM;rw[if_neg h0]
   rw[e]
   have eo:xw dr lc zc lb zb c=.tup [.nilp,.int .i64 (hJ dr lc zc lb zb c)]:=by unfold xw;rw[if_neg h0]
   refine bN (n:=n+13) Tryd.func16 rfl rfl rfl (OC (n+12) dr lc zc lb zb H c p (hJ dr lc zc lb zb c)) (gJ _ (n+12) 1 (fun q=>ji (bG _) (fun x hy=>by rw[← Tr.ab hy,← eo];exact J1 dr lc zc lb zb H (by omega) _ _ c hl hb))) (ak _ _) (al _ _) ?_
   refine Tr.an ⟨rfl,rfl⟩ (Tr.ag (fun q=>Tr.ah ⟨rfl,rfl⟩) (fun q=>?_))
   rw[aS,bh] at q
   exact absurd (by simpa using q) h0
theorem P8 (c:Int) (hl:lc≤1000) (hb:lb≤1000):cd (n+14) (.fn 18) [df dr lc zc lb zb,.int .i64 c] H=some (rX (CR dr lc zc lb zb c),H):=by
 by_cases h0:hJ dr lc zc lb zb c=0
 · obtain ⟨h1,h2,h3⟩:=zk h0
   obtain ⟨k1,k2,k3,k4,k5,_⟩:=y9 h1
   have e:CR dr lc zc lb zb c=if cE dr lc zc (2*c.toNat+1)<cE dr lc zc (2*c.toNat) then (0,0,21) else (cE dr lc zc (2*c.toNat),cE dr lc zc (2*c.toNat+1),0):=by unfold CR;rw[if_pos h0]
   rw[e]
   have eo:xw dr lc zc lb zb c=.tup [shV dr lc zc lb zb (cE dr lc zc) (qO lb zb),.int .i64 (Int.ofNat 0)]:=by unfold xw;rw[if_pos h0];rfl
   have es:fG (aE 3 c 2) 3=2*c.toNat:=by rw[bO,eI];omega
   have es1:fG (aG (aE 3 c 2) 1) 3=2*c.toNat+1:=by rw[bO,aJ,eI];omega
   refine bN (n:=n+13) Tryd.func18 rfl rfl rfl (Sx (n+12) dr lc zc lb zb H c (cE dr lc zc) (qO lb zb)) (gJ _ (n+12) 1 (fun q=>ji (bG _) (fun x hy=>by rw[← Tr.ab hy,← eo];exact J1 dr lc zc lb zb H (by omega) _ _ c hl hb))) (ak _ _) (al _ _) ?_
   rw[es,es1]
   refine Tr.an ⟨rfl,rfl⟩ (Tr.ag (fun q=>by simp[aS,bh] at q) (fun q=>Tr.af (by simp (disch:=omega) only[nV,nW];omega) (Tr.af (by simp (disch:=omega) only[nV,nW];omega) (Tr.af (by simp (disch:=omega) only[nV,nW];omega) (Tr.ag (fun r=>Tr.ah ⟨?_,rfl⟩) (fun r=>Tr.ah ⟨?_,rfl⟩))))))
   · rw[br,decide_eq_true_iff] at r
     rw[if_pos r];rfl
   · rw[br,decide_eq_false_iff_not] at r
     rw[if_neg r];rfl
 · have e:CR dr lc zc lb zb c=(0,0,hJ dr lc zc lb zb c):=by unfold CR;rw[if_neg h0]
   rw[e]
   have eo:xw dr lc zc lb zb c=.tup [.nilp,.int .i64 (hJ dr lc zc lb zb c)]:=by unfold xw;rw[if_neg h0]
   refine bN (n:=n+13) Tryd.func18 rfl rfl rfl (OD (n+12) dr lc zc lb zb H c (hJ dr lc zc lb zb c)) (gJ _ (n+12) 1 (fun q=>ji (bG _) (fun x hy=>by rw[← Tr.ab hy,← eo];exact J1 dr lc zc lb zb H (by omega) _ _ c hl hb))) (ak _ _) (al _ _) ?_
   refine Tr.an ⟨rfl,rfl⟩ (Tr.ag (fun q=>Tr.ah ⟨rfl,rfl⟩) (fun q=>?_))
   rw[aS,bh] at q
   exact absurd (by simpa using q) h0
theorem Qa (c:Int) (hl:lc≤1000) (hb:lb≤1000):cd (n+14) (.fn 20) [df dr lc zc lb zb,.int .i64 c] H=some (rX (BW dr lc zc lb zb c),H):=by
 by_cases h0:hJ dr lc zc lb zb c=0
 · obtain ⟨h1,h2,h3⟩:=zk h0
   obtain ⟨k1,k2,k3,k4,k5,k6⟩:=y9 h1
   have hS:=Lo dr lc zc lb zb k1.2 k3 k4 k5 k6
   have e:BW dr lc zc lb zb c=if qc lc (fun c=>eu zb c lb) (cE dr lc zc) (2*c.toNat+1)<qc lc (fun c=>eu zb c lb) (cE dr lc zc) (2*c.toNat) then (0,0,21) else (qc lc (fun c=>eu zb c lb) (cE dr lc zc) (2*c.toNat),qc lc (fun c=>eu zb c lb) (cE dr lc zc) (2*c.toNat+1),0):=by unfold BW;rw[if_pos h0]
   rw[e]
   have eo:xw dr lc zc lb zb c=.tup [shV dr lc zc lb zb (cE dr lc zc) (qO lb zb),.int .i64 (Int.ofNat 0)]:=by unfold xw;rw[if_pos h0];rfl
   have es:aE 0 c 2=2*c.toNat:=by rw[bO];omega
   refine bN (n:=n+13) Tryd.func20 rfl rfl rfl (Sz (n+12) dr lc zc lb zb H c (cE dr lc zc) (qO lb zb) (qc lc (fun c=>eu zb c lb) (cE dr lc zc))) (gJ _ (n+12) 1 (fun q=>ji (jc (bG _) (fun H=>by
    rw[show n+12+q=n+10+q+2 by omega]
    exact Qd (n+10+q) dr lc zc lb zb (cE dr lc zc) (fun c=>eu zb c lb) H hS)) (fun x hy=>by rw[← Tr.ab hy,← eo];exact J1 dr lc zc lb zb H (by omega) _ _ c hl hb))) (ak _ _) (al _ _) ?_
   rw[es,aJ]
   refine Tr.an ⟨rfl,rfl⟩ (Tr.ag (fun q=>by simp[aS,bh] at q) (fun q=>Tr.an rfl (Tr.af (by simp (disch:=omega) only[nV,nW];omega) (Tr.af (by simp (disch:=omega) only[nV,nW];omega) (Tr.af (by simp (disch:=omega) only[nV,nW];omega) (Tr.ag (fun r=>Tr.ah ⟨?_,rfl⟩) (fun r=>Tr.ah ⟨?_,rfl⟩)))))))
   · rw[br,decide_eq_true_iff] at r
     rw[if_pos r];rfl
   · rw[br,decide_eq_false_iff_not] at r
     rw[if_neg r];rfl
 · have e:BW dr lc zc lb zb c=(0,0,hJ dr lc zc lb zb c):=by unfold BW;rw[if_neg h0]
   rw[e]
   have eo:xw dr lc zc lb zb c=.tup [.nilp,.int .i64 (hJ dr lc zc lb zb c)]:=by unfold xw;rw[if_neg h0]
   refine bN (n:=n+13) Tryd.func20 rfl rfl rfl (OE (n+12) dr lc zc lb zb H c (hJ dr lc zc lb zb c)) (gJ _ (n+12) 1 (fun q=>ji (bG _) (fun x hy=>by rw[← Tr.ab hy,← eo];exact J1 dr lc zc lb zb H (by omega) _ _ c hl hb))) (ak _ _) (al _ _) ?_
   refine Tr.an ⟨rfl,rfl⟩ (Tr.ag (fun q=>Tr.ah ⟨rfl,rfl⟩) (fun q=>?_))
   rw[aS,bh] at q
   exact absurd (by simpa using q) h0
end
end Go.Eng
end
section
namespace Go.Eng
open Go.Proofs Go.Eng.Gall
noncomputable def IU (C:List AV→Prop) (V:AV):List AV→Option (Prop×AV):=fun x=>some (C x,V)
theorem SF (n:Nat) (dr:Int) (lc:Nat) (zc:Nat→Int) (lb:Nat) (zb:Nat→Int) (H:aa) (c e:Int):bA Tryd.prog (cd (n+1)) 100000 51 Tryd.f51 (KtG.kt 51) (il (tX aX 23 [df dr lc zc lb zb] (.int .i64 e)) n 1) bo bp [(df dr lc zc lb zb,none),(.int .i64 c,none)] H =
 (fun (Z0:List AV)=>Tr.reqP (Z0=Z0) (Tr.ite (cH (dC e (Int.ofNat 0))) (Tr.reqP (Z0=Z0) (Tr.ok ((AV.int .i64 e,none),H))) (Tr.ite (er (Int.ofNat 0) c) (Tr.ite (cH (da c (Int.ofNat lc))) (Tr.ok ((AV.int .i64 (Int.ofNat 2),some 1),H)) (Tr.ok ((AV.int .i64 (Int.ofNat 0),some 1),H))) (Tr.ok ((AV.int .i64 (Int.ofNat 2),some 1),H))))) [AV.agg (Row.G [AV.int .i64 dr,AV.slcT none (Row.M [aw.arr .i64 zc (aq lc 4)]) 4 lc false,AV.slcT none (Row.M [aw.arr .i64 zb (aq lb 2)]) 2 lb false])]:=by kernel_rfl
theorem Sw (n:Nat) (dr:Int) (lc:Nat) (zc:Nat→Int) (lb:Nat) (zb:Nat→Int) (H:aa) (c p e:Int):bA Tryd.prog (cd (n+1)) 100000 17 Tryd.f17 (KtG.kt 17) (il (tX aX 51 [df dr lc zc lb zb,.int .i64 c] (.int .i64 e)) n 1) bo bp [(df dr lc zc lb zb,none),(.int .i64 c,none),(.int .i64 p,none)] H =
 (fun (Z0:List AV)=>Tr.reqP (Z0=Z0) (Tr.ite (cH (dC e (Int.ofNat 0))) (Tr.reqP (Z0=Z0) (Tr.ok ((AV.tup [AV.agg (Row.I .i64 [Int.ofNat 0,Int.ofNat 0]),AV.int .i64 e],none),H))) (Tr.ite (er (Int.ofNat 0) p) (Tr.ite (cH (da p (Int.ofNat lc))) (Tr.ok ((AV.tup [AV.agg (Row.I .i64 [Int.ofNat 0,Int.ofNat 0]),AV.int .i64 (Int.ofNat 3)],none),H)) (Tr.req (dk c lc) (Tr.req (cW (aE 0 c 4) (aq lc 4)) (Tr.req (cW (aG (aE 0 c 4) 1) (aq lc 4)) (Tr.ok ((AV.tup [AV.agg (Row.I .i64 [bW .i64 (zc (aE 0 c 4)) (qi .i64 p dr),bW .i64 (zc (aG (aE 0 c 4) 1)) (qi .i64 p dr)]),AV.int .i64 (Int.ofNat 0)],none),H)))))) (Tr.ok ((AV.tup [AV.agg (Row.I .i64 [Int.ofNat 0,Int.ofNat 0]),AV.int .i64 (Int.ofNat 3)],none),H))))) [AV.agg (Row.G [AV.int .i64 dr,AV.slcT none (Row.M [aw.arr .i64 zc (aq lc 4)]) 4 lc false,AV.slcT none (Row.M [aw.arr .i64 zb (aq lb 2)]) 2 lb false]),AV.int .i64 c]:=by kernel_rfl
theorem Sy (n:Nat) (dr:Int) (lc:Nat) (zc:Nat→Int) (lb:Nat) (zb:Nat→Int) (H:aa) (c e x y:Int) (C:List AV→Prop):bA Tryd.prog (cd n) 100000 19 Tryd.f19 (KtG.kt 19) (il (mr (tX aX 51 [df dr lc zc lb zb,.int .i64 c] (.int .i64 e)) 55 (IU C (JX x y))) n 0) bo bp [(df dr lc zc lb zb,none),(.int .i64 c,none)] H =
 (fun (Z0:List AV)=>Tr.reqP (Z0=Z0) (Tr.ite (cH (dC e (Int.ofNat 0))) (Tr.reqP (Z0=Z0) (Tr.ok ((AV.tup [AV.agg (Row.I .i64 [Int.ofNat 0,Int.ofNat 0]),AV.int .i64 e],none),H))) (Tr.reqP (C Z0) (Tr.ite (da y x) (Tr.ok ((AV.tup [AV.agg (Row.I .i64 [Int.ofNat 0,Int.ofNat 0]),AV.int .i64 (Int.ofNat 21)],none),H)) (Tr.ok ((AV.tup [AV.agg (Row.I .i64 [x,y]),AV.int .i64 (Int.ofNat 0)],none),H)))))) [AV.agg (Row.G [AV.int .i64 dr,AV.slcT none (Row.M [aw.arr .i64 zc (aq lc 4)]) 4 lc false,AV.slcT none (Row.M [aw.arr .i64 zb (aq lb 2)]) 2 lb false]),AV.int .i64 c]:=by kernel_rfl
theorem SA (n:Nat) (dr:Int) (lc:Nat) (zc:Nat→Int) (lb:Nat) (zb:Nat→Int) (H:aa) (c e:Int) (r:Nat→Int) (C:List AV→Prop):bA Tryd.prog (cd n) 100000 21 Tryd.f21 (KtG.kt 21) (il (mr (tX aX 51 [df dr lc zc lb zb,.int .i64 c] (.int .i64 e)) 57 (IU C (Pz lc r))) n 0) bo bp [(df dr lc zc lb zb,none),(.int .i64 c,none)] H =
 (fun (Z0:Row)=>Tr.reqP ([AV.agg Z0,AV.int .i64 c]=[AV.agg Z0,AV.int .i64 c]) (Tr.ite (cH (dC e (Int.ofNat 0))) (Tr.reqP ([AV.agg Z0,AV.int .i64 c]=[AV.agg Z0,AV.int .i64 c]) (Tr.ok ((AV.tup [AV.agg (Row.I .i64 [Int.ofNat 0,Int.ofNat 0]),AV.int .i64 e],none),H))) (Tr.reqP (C [AV.agg Z0]) (Tr.req (dk c lc) (Tr.req (cW (aE 0 c 2) (aq lc 2)) (Tr.req (cW (aG (aE 0 c 2) 1) (aq lc 2)) (Tr.ite (da (r (aG (aE 0 c 2) 1)) (r (aE 0 c 2))) (Tr.ok ((AV.tup [AV.agg (Row.I .i64 [Int.ofNat 0,Int.ofNat 0]),AV.int .i64 (Int.ofNat 21)],none),H)) (Tr.ok ((AV.tup [AV.agg (Row.I .i64 [r (aE 0 c 2),r (aG (aE 0 c 2) 1)]),AV.int .i64 (Int.ofNat 0)],none),H))))))))) (Row.G [AV.int .i64 dr,AV.slcT none (Row.M [aw.arr .i64 zc (aq lc 4)]) 4 lc false,AV.slcT none (Row.M [aw.arr .i64 zb (aq lb 2)]) 2 lb false]):=by kernel_rfl
end Go.Eng
end
section
namespace Go.Eng
open Go.Proofs Go.Eng.Gall
theorem AP {c f:Nat} {t:nr} {V:AV} {C:List AV→Prop} (ht:t.Ok (cd c)) (h:∀ A H,C A→cd c (.fn f) A H=some (V,H)):(mr t f (IU C V)).Ok (cd c):=DN ht h
theorem u3 (n:Nat) (dr:Int) (lc:Nat) (zc:Nat→Int) (lb:Nat) (zb:Nat→Int) (H:aa) (c p e a1 a2 a3 b1 b2 b3 d1 d2 d3:Int):bA Tryd.prog (cd (n+1)) 100000 3 Tryd.f3 (KtG.kt 3) (il (mr (tX (tX (tX (tX (tX (tX (tX (tX aX 16 [df dr lc zc lb zb,.int .i64 c,.int .i64 p] (rT a1 a2 a3)) 17 [df dr lc zc lb zb,.int .i64 c,.int .i64 p] (rT a1 a2 a3)) 18 [df dr lc zc lb zb,.int .i64 c] (rT b1 b2 b3)) 19 [df dr lc zc lb zb,.int .i64 c] (rT b1 b2 b3)) 20 [df dr lc zc lb zb,.int .i64 c] (rT d1 d2 d3)) 21 [df dr lc zc lb zb,.int .i64 c] (rT d1 d2 d3)) 22 [df dr lc zc lb zb] (.int .i64 e)) 23 [df dr lc zc lb zb] (.int .i64 e)) 15 L4) n 1) bo bp [(df dr lc zc lb zb,none),(.int .i64 c,none),(.int .i64 p,none)] H =
 (fun (Z0:Row)=>((fun (Z1:List AV)=>Tr.ite (da (Int.ofNat 15) (Int.ofNat lc)) (Tr.reqP True (Tr.ok ((AV.bool true,none),H))) (Tr.ite (da (Int.ofNat 60) (Int.ofNat lb)) (Tr.reqP True (Tr.ok ((AV.bool true,none),H))) (Tr.reqP (Z1=Z1) (Tr.reqP (Z1=Z1) (Tr.reqP ([AV.agg Z0,AV.int .i64 c]=[AV.agg Z0,AV.int .i64 c]) (Tr.reqP ([AV.agg Z0,AV.int .i64 c]=[AV.agg Z0,AV.int .i64 c]) (Tr.reqP ([AV.agg Z0,AV.int .i64 c]=[AV.agg Z0,AV.int .i64 c]) (Tr.reqP ([AV.agg Z0,AV.int .i64 c]=[AV.agg Z0,AV.int .i64 c]) (Tr.reqP ([AV.agg Z0]=[AV.agg Z0]) (Tr.reqP ([AV.agg Z0]=[AV.agg Z0]) (Tr.ite (dC e e) (Tr.ite (bY (dC a1 a1) (dC a2 a2)) (Tr.ite (dC a3 a3) (Tr.ite (bY (dC b1 b1) (dC b2 b2)) (Tr.ite (dC b3 b3) (Tr.ite (bY (dC d1 d1) (dC d2 d2)) (Tr.ite (dC d3 d3) (Tr.reqP True (Tr.ok ((AV.bool true,none),H))) (Tr.ok ((AV.bool false,some 1),H))) (Tr.ok ((AV.bool false,some 1),H))) (Tr.ok ((AV.bool false,some 1),H))) (Tr.ok ((AV.bool false,some 1),H))) (Tr.ok ((AV.bool false,some 1),H))) (Tr.ok ((AV.bool false,some 1),H))) (Tr.ok ((AV.bool false,some 1),H))))))))))))) [AV.agg Z0,AV.int .i64 c,AV.int .i64 p])) (Row.G [AV.int .i64 dr,AV.slcT none (Row.M [aw.arr .i64 zc (aq lc 4)]) 4 lc false,AV.slcT none (Row.M [aw.arr .i64 zb (aq lb 2)]) 2 lb false]):=by kernel_rfl
section
variable (n:Nat) (dr:Int) (lc:Nat) (zc:Nat→Int) (lb:Nat) (zb:Nat→Int) (H:aa)
theorem Qc (c:Int) (hl:lc≤1000) (hb:lb≤1000):cd (n+5) (.fn 51) [df dr lc zc lb zb,.int .i64 c] H=some (.int .i64 (hJ dr lc zc lb zb c),H):=by
 have h:=fun q H=>PB (n+q) dr lc zc lb zb H hl hb
 refine bN (n:=n+4) Tryd.func51 rfl rfl rfl (SF (n+3) dr lc zc lb zb H c (gh dr lc zc lb zb)) (gJ _ (n+3) 1 (fun q=>jc (bG _) (fun H=>by rw[show n+3+q=n+q+3 by omega];exact h q H))) (ak _ _) (al _ _) ?_
 refine Tr.an rfl (Tr.ag (fun q=>Tr.an rfl (Tr.ah ⟨?_,rfl⟩)) (fun q=>Tr.ag (fun r=>Tr.ag (fun s=>Tr.ah ⟨?_,rfl⟩) (fun s=>Tr.ah ⟨?_,rfl⟩)) (fun r=>Tr.ah ⟨?_,rfl⟩)))
 · rw[aS,bh] at q
   have h:¬ gh dr lc zc lb zb=0:=by simpa using q
   unfold hJ;rw[if_neg h]
 all_goals rw[aS,bh] at q
 all_goals have h0:gh dr lc zc lb zb=0:=by simpa using q
 · rw[aS,br] at s
   have s:¬ c<(lc:Int):=by simpa using s
   unfold hJ;rw[if_pos h0,if_pos (.inr (by omega))];rfl
 · rw[aS,br] at s
   have s:c<(lc:Int):=by simpa using s
   rw[bt,decide_eq_true_iff] at r
   have r:0≤c:=r
   unfold hJ;rw[if_pos h0,if_neg (by omega)];rfl
 · rw[bt,decide_eq_false_iff_not] at r
   have r:¬ 0≤c:=r
   unfold hJ;rw[if_pos h0,if_pos (.inl (by omega))];rfl
theorem Mr {k:Nat} (hk:5≤k) (c:Int) (hl:lc≤1000) (hb:lb≤1000):(tX aX 51 [df dr lc zc lb zb,.int .i64 c] (.int .i64 (hJ dr lc zc lb zb c))).Ok (cd k):=by
 obtain ⟨m,rfl⟩:∃ m,k=m+5:=⟨k-5,by omega⟩
 exact jc (bG _) (fun H=>Qc m dr lc zc lb zb H c hl hb)
theorem P7 (c p:Int) (hl:lc≤1000) (hb:lb≤1000) (hp:-9223372036854775808≤p∧p≤9223372036854775807):cd (n+7) (.fn 17) [df dr lc zc lb zb,.int .i64 c,.int .i64 p] H=some (rX (CM dr lc zc lb zb c p),H):=by
 refine bN (n:=n+6) Tryd.func17 rfl rfl rfl (Sw (n+5) dr lc zc lb zb H c p (hJ dr lc zc lb zb c)) (gJ _ (n+5) 1 (fun q=>Mr dr lc zc lb zb (by omega) c hl hb)) (ak _ _) (al _ _) ?_
 refine Tr.an rfl (Tr.ag (fun q=>Tr.an rfl (Tr.ah ⟨?_,rfl⟩)) (fun q=>?_))
 · rw[aS,bh] at q
   have h0:¬ hJ dr lc zc lb zb c=0:=by simpa using q
   have e:CM dr lc zc lb zb c p=(0,0,hJ dr lc zc lb zb c):=by unfold CM;rw[if_neg h0]
   rw[e];rfl
 · rw[aS,bh] at q
   have h0:hJ dr lc zc lb zb c=0:=by simpa using q
   obtain ⟨h1,h2,h3⟩:=zk h0
   obtain ⟨k1,k2,k3,k4,k5,_⟩:=y9 h1
   obtain ⟨v1,v2,v3,v4,v5,v6⟩:=EV k4 (show c.toNat<lc by omega)
   have e:CM dr lc zc lb zb c p=if p<0∨(lc:Int)≤p then (0,0,3) else (zc (c.toNat*4)-p*dr,zc (c.toNat*4+1)-p*dr,0):=by unfold CM;rw[if_pos h0]
   have ei:aE 0 c 4=c.toNat*4:=by rw[bO];omega
   rw[e]
   refine Tr.ag (fun r=>Tr.ag (fun s=>Tr.ah ⟨?_,rfl⟩) (fun s=>?_)) (fun r=>Tr.ah ⟨?_,rfl⟩)
   · rw[aS,br] at s
     have s:¬ p<(lc:Int):=by simpa using s
     rw[if_pos (.inr (by omega))];rfl
   · rw[aS,br] at s
     have s:p<(lc:Int):=by simpa using s
     rw[bt,decide_eq_true_iff] at r
     have r:0≤p:=r
     have hm0:0≤p*dr:=Int.mul_nonneg (by omega) (by omega)
     have hm1:p*dr≤10*100:=Int.mul_le_mul (by omega) (by omega) (by omega) (by omega)
     have em:qi .i64 p dr=p*dr:=by rw[kg];exact fH (by omega) (by omega)
     rw[if_neg (by omega),ei,aJ,em,tw (by omega) (by omega),tw (by omega) (by omega)]
     exact Tr.af (by simp (disch:=omega) only[nV,nW];omega) (Tr.af (by simp (disch:=omega) only[nV,nW];omega) (Tr.af (by simp (disch:=omega) only[nV,nW];omega) (Tr.ah ⟨rfl,rfl⟩)))
   · rw[bt,decide_eq_false_iff_not] at r
     have r:¬ 0≤p:=r
     rw[if_pos (.inl (by omega))];rfl
theorem P9 (c:Int) (hl:lc≤1000) (hb:lb≤1000):cd (n+7) (.fn 19) [df dr lc zc lb zb,.int .i64 c] H=some (rX (CR dr lc zc lb zb c),H):=by
 refine bN (n:=n+6) Tryd.func19 rfl rfl rfl (Sy (n+6) dr lc zc lb zb H c (hJ dr lc zc lb zb c) (cE dr lc zc (2*c.toNat)) (cE dr lc zc (2*c.toNat+1)) (fun A=>A=[df dr lc zc lb zb,.int .i64 c]∧hJ dr lc zc lb zb c=0)) (cK _ (n+6) (AP (Mr dr lc zc lb zb (by omega) c hl hb) (fun A H hA=>by
  obtain ⟨rfl,h0⟩:=hA
  obtain ⟨h1,h2,h3⟩:=zk h0
  obtain ⟨k1,k2,k3,k4,k5,_⟩:=y9 h1
  have:=PC (n+4) dr lc zc lb zb H hl k3 k4 c.toNat (by omega)
  rw[Int.toNat_of_nonneg h2] at this
  exact this))) (ak _ _) (al _ _) ?_
 refine Tr.an rfl (Tr.ag (fun q=>Tr.an rfl (Tr.ah ⟨?_,rfl⟩)) (fun q=>?_))
 · rw[aS,bh] at q
   have h0:¬ hJ dr lc zc lb zb c=0:=by simpa using q
   have e:CR dr lc zc lb zb c=(0,0,hJ dr lc zc lb zb c):=by unfold CR;rw[if_neg h0]
   rw[e];rfl
 · rw[aS,bh] at q
   have h0:hJ dr lc zc lb zb c=0:=by simpa using q
   have e:CR dr lc zc lb zb c=if cE dr lc zc (2*c.toNat+1)<cE dr lc zc (2*c.toNat) then (0,0,21) else (cE dr lc zc (2*c.toNat),cE dr lc zc (2*c.toNat+1),0):=by unfold CR;rw[if_pos h0]
   rw[e]
   refine Tr.an ⟨rfl,h0⟩ (Tr.ag (fun r=>Tr.ah ⟨?_,rfl⟩) (fun r=>Tr.ah ⟨?_,rfl⟩))
   · rw[br,decide_eq_true_iff] at r
     rw[if_pos r];rfl
   · rw[br,decide_eq_false_iff_not] at r
     rw[if_neg r];rfl
theorem Qb (c:Int) (hl:lc≤1000) (hb:lb≤1000):cd (n+7) (.fn 21) [df dr lc zc lb zb,.int .i64 c] H=some (rX (BW dr lc zc lb zb c),H):=by
 refine bN (n:=n+6) Tryd.func21 rfl rfl rfl (SA (n+6) dr lc zc lb zb H c (hJ dr lc zc lb zb c) (qc lc (fun c=>eu zb c lb) (cE dr lc zc)) (fun A=>A=[df dr lc zc lb zb]∧hJ dr lc zc lb zb c=0)) (cK _ (n+6) (AP (Mr dr lc zc lb zb (by omega) c hl hb) (fun A H hA=>by
  obtain ⟨rfl,h0⟩:=hA
  obtain ⟨h1,h2,h3⟩:=zk h0
  obtain ⟨k1,k2,k3,k4,k5,k6⟩:=y9 h1
  exact Qe dr lc zc lb zb (n+3) H k1.1 k1.2 hb k3 k4 k5 k6))) (ak _ _) (al _ _) ?_
 refine Tr.an rfl (Tr.ag (fun q=>Tr.an rfl (Tr.ah ⟨?_,rfl⟩)) (fun q=>?_))
 · rw[aS,bh] at q
   have h0:¬ hJ dr lc zc lb zb c=0:=by simpa using q
   have e:BW dr lc zc lb zb c=(0,0,hJ dr lc zc lb zb c):=by unfold BW;rw[if_neg h0]
   rw[e];rfl
 · rw[aS,bh] at q
   have h0:hJ dr lc zc lb zb c=0:=by simpa using q
   obtain ⟨h1,h2,h3⟩:=zk h0
   have e:BW dr lc zc lb zb c=if qc lc (fun c=>eu zb c lb) (cE dr lc zc) (2*c.toNat+1)<qc lc (fun c=>eu zb c lb) (cE dr lc zc) (2*c.toNat) then (0,0,21) else (qc lc (fun c=>eu zb c lb) (cE dr lc zc) (2*c.toNat),qc lc (fun c=>eu zb c lb) (cE dr lc zc) (2*c.toNat+1),0):=by unfold BW;rw[if_pos h0]
   have ei:aE 0 c 2=2*c.toNat:=by rw[bO];omega
   rw[e,ei,aJ]
   refine Tr.an ⟨rfl,h0⟩ (Tr.af (by simp (disch:=omega) only[nV,nW];omega) (Tr.af (by simp (disch:=omega) only[nV,nW];omega) (Tr.af (by simp (disch:=omega) only[nV,nW];omega) (Tr.ag (fun r=>Tr.ah ⟨?_,rfl⟩) (fun r=>Tr.ah ⟨?_,rfl⟩)))))
   · rw[br,decide_eq_true_iff] at r
     rw[if_pos r];rfl
   · rw[br,decide_eq_false_iff_not] at r
     rw[if_neg r];rfl
end
end Go.Eng
end
section
namespace Go.Eng
open Go.Proofs Go.Eng.Gall
theorem SD (n:Nat) (dr:Int) (lc:Nat) (zc:Nat→Int) (lb:Nat) (zb:Nat→Int) (H:aa) (c p:Int):bA Tryd.prog (cd (n+1)) 100000 3 Tryd.f3 (KtG.kt 3) (il (mr (tN (tN (tN (tN (tN (tN (tN (tN aX 16) 17) 18) 19) 20) 21) 22) 23) 15 L4) n 1) bo bp [(df dr lc zc lb zb,none),(.int .i64 c,none),(.int .i64 p,none)] H =
 Tr.ite (da (Int.ofNat 15) (Int.ofNat lc)) (Tr.reqP True (Tr.ok ((AV.bool true,none),H))) (Tr.ite (da (Int.ofNat 60) (Int.ofNat lb)) (Tr.reqP True (Tr.ok ((AV.bool true,none),H))) Tr.bad):=by kernel_rfl
theorem DB (x:Int):dC x x=true:=by rw[bh];exact beq_self_eq_true x
theorem c3 (n:Nat) (dr:Int) (lc:Nat) (zc:Nat→Int) (lb:Nat) (zb:Nat→Int) (H:aa) (c p:Int) (hp:-9223372036854775808≤p∧p≤9223372036854775807):cd (n+17) (.fn 3) [df dr lc zc lb zb,.int .i64 c,.int .i64 p] H=some (.bool true,H):=by
 by_cases hg:lc≤15∧lb≤60
 · obtain ⟨g1,g2⟩:=hg
   have hl:lc≤1000:=by omega
   have hb:lb≤1000:=by omega
   refine bN (n:=n+16) Tryd.func3 rfl rfl rfl (u3 (n+15) dr lc zc lb zb H c p (gh dr lc zc lb zb) (CM dr lc zc lb zb c p).1 (CM dr lc zc lb zb c p).2.1 (CM dr lc zc lb zb c p).2.2 (CR dr lc zc lb zb c).1 (CR dr lc zc lb zb c).2.1 (CR dr lc zc lb zb c).2.2 (BW dr lc zc lb zb c).1 (BW dr lc zc lb zb c).2.1 (BW dr lc zc lb zb c).2.2) (gJ _ (n+15) 1 (fun q=>PG (by omega) (jc (jc (jc (jc (jc (jc (jc (jc (bG _)
    (fun H=>by rw[show n+15+q=n+1+q+14 by omega];exact P6 _ dr lc zc lb zb H c p hl hb hp))
    (fun H=>by rw[show n+15+q=n+8+q+7 by omega];exact P7 _ dr lc zc lb zb H c p hl hb hp))
    (fun H=>by rw[show n+15+q=n+1+q+14 by omega];exact P8 _ dr lc zc lb zb H c hl hb))
    (fun H=>by rw[show n+15+q=n+8+q+7 by omega];exact P9 _ dr lc zc lb zb H c hl hb))
    (fun H=>by rw[show n+15+q=n+1+q+14 by omega];exact Qa _ dr lc zc lb zb H c hl hb))
    (fun H=>by rw[show n+15+q=n+8+q+7 by omega];exact Qb _ dr lc zc lb zb H c hl hb))
    (fun H=>by rw[show n+15+q=n+4+q+11 by omega];exact PA _ dr lc zc lb zb H hl hb))
    (fun H=>by rw[show n+15+q=n+12+q+3 by omega];exact PB _ dr lc zc lb zb H hl hb)))) (ak _ _) (al _ _) ?_
   simp only[DB,bP,Bool.and_self]
   refine Tr.ag (fun q=>by simp (disch:=omega) only[nV,nW] at q;omega) (fun _=>Tr.ag (fun q=>by simp (disch:=omega) only[nV,nW] at q;omega) (fun _=>?_))
   refine Tr.an trivial (Tr.an trivial (Tr.an trivial (Tr.an trivial (Tr.an trivial (Tr.an trivial (Tr.an trivial (Tr.an trivial ?_)))))))
   refine Tr.ag (fun _=>Tr.ag (fun _=>Tr.ag (fun _=>Tr.ag (fun _=>Tr.ag (fun _=>Tr.ag (fun _=>Tr.ag (fun _=>Tr.an trivial (Tr.ah ⟨rfl,rfl⟩)) ?_) ?_) ?_) ?_) ?_) ?_) ?_
   all_goals intro h;cases h
 · refine bN (n:=n+16) Tryd.func3 rfl rfl rfl (SD (n+15) dr lc zc lb zb H c p) (gJ _ (n+15) 1 (fun q=>PG (by omega) (p9 (p9 (p9 (p9 (p9 (p9 (p9 (p9 (bG _))))))))))) (ak _ _) (al _ _) ?_
   refine Tr.ag (fun _=>Tr.an trivial (Tr.ah ⟨rfl,rfl⟩)) (fun q=>Tr.ag (fun _=>Tr.an trivial (Tr.ah ⟨rfl,rfl⟩)) (fun q2=>?_))
   exfalso
   simp (disch:=omega) only[nV,nW] at q
   simp (disch:=omega) only[nV,nW] at q2
   omega
end Go.Eng
end
section
namespace Go.Proofs.YtgphpjdchnfjlaaDoor
open Go.ChangeShapes Go.WideShapes Go.ChangeAt Go.RowKit
theorem Tryd.own:ownKnob Tryd.prog.godebug=none:=by kernel_rfl
def Ad:List (String×DataW Unit):=[("math/bits.deBruijn32tab",Rows.laid_math_bits_deBruijn32tab),("math/bits.deBruijn64tab",Rows.laid_math_bits_deBruijn64tab)]
def t32:List Int:=Go.Lib.deBruijn32tab.map fun n:Nat=>(n:Int)
def t64:List Int:=Go.Lib.deBruijn64tab.map fun n:Nat=>(n:Int)
theorem LQ:(Rows.laid_math_bits_deBruijn64tab:DataW Unit)=Lib.tabData .u8 t64:=by kernel_rfl
set_option maxRecDepth 100000 in
theorem DP {W:World} (h:laidMetH Tryd.prog Ad W):Eng.kQ W:=by
 have h':laidMet Tryd.prog Ad W:=h
 obtain ⟨ps,hv,_⟩:=h'
 obtain ⟨_,_,_,_,_,_,_,_,_,_,hv,_⟩:=hv
 obtain ⟨g,t,cs,fuel,p,q,h1,h2,h3,h4,_⟩:=hv
 obtain rfl:1=g:=Option.some.inj ((show Tryd.prog.globalNamed "math/bits.deBruijn64tab" = some 1 by kernel_rfl).symm.trans h1)
 obtain rfl:139=t:=Option.some.inj ((show (Tryd.prog.globals[1]?).map (·.type)=some 139 by kernel_rfl).symm.trans h2)
 rw[LQ] at h4
 have hcs:=Lib.cells_of_tab Tryd.underlying139 Tryd.underlying5 (by kernel_rfl) (by kernel_rfl) h4
 intro b o v hg
 unfold Eng.nS at hg
 split at hg
 · rename_i hbo
   obtain ⟨rfl,ho⟩:=hbo
   simp only[Option.some.injEq] at hg
   subst hg
   rw[World.var?_cell h1 h3 o,← Array.getElem?_toList,hcs,List.getElem?_map]
   have hl:Go.Lib.deBruijn64tab.length=64:=by decide
   rw[t64,List.getElem?_map,List.getElem?_eq_getElem (by omega)]
   simp only[Option.map_some,List.getD_eq_getElem?_getD,List.getElem?_eq_getElem (show o<Go.Lib.deBruijn64tab.length by omega),Option.getD_some]
 · cases hg
noncomputable def pd (os:Os):World :=
 let w0:=World.holding Tryd.prog os ⟨#[],#[],[]⟩
 let put (h:Array Obj) (g:Nat) (cs:Array Value):Array Obj:=h.modify g fun
  | .cells _ t frozen=>.cells cs t frozen
  | o=>o
 { w0 with heap:=put (put w0.heap 0 (t32.map fun z=>Value.int .u8 z).toArray) 1 (t64.map fun z=>Value.int .u8 z).toArray }
theorem FY (os:Os) (args:Array Value):LaidIn Tryd.prog ((pd os).forCall (fun _ _=>0) ⟨#[],args,[]⟩).memory Ad [0,1] :=
 LaidIn.of_run [0,1] 8 (by kernel_rfl) (by kernel_rfl) (by kernel_rfl) (by kernel_rfl)
theorem D1 (os:Os) (args:Array Value):laidMetH Tryd.prog Ad ((pd os).forCall (fun _ _=>0) ⟨#[],args,[]⟩).memory:=(FY os args).met
end Go.Proofs.YtgphpjdchnfjlaaDoor
end
section
namespace Go.Eng.Gall
open Go.Proofs
def LH:List bV:=[]
theorem BC:∀ e ∈ LH,ay Tryd.prog e:=Gh
noncomputable def E1:bV:=⟨46,[],.agg (.G [.int .i64 10,.slcT none (.I .i64 [100,110,60,110,90,95,75,100,120,125,80,110,80,80,70,200]) 4 4 true,.slcT none (.I .i64 [3,1]) 2 1 true])⟩
theorem Sc:ay Tryd.prog E1:=aO BC (H':=[⟨true,[]⟩]) (by kernel_rfl) (by kernel_rfl)
noncomputable def LI:List bV:=E1::LH
theorem BD:∀ e ∈ LI,ay Tryd.prog e:=aM Sc BC
noncomputable def E2:bV:=⟨47,[],.agg (.G [.int .i64 10,.slcT none (.I .i64 [100,110,90,110,90,95,75,100,120,125,80,110,80,80,70,200]) 4 4 true,.slcT none (.I .i64 [3,1]) 2 1 true])⟩
theorem Sd:ay Tryd.prog E2:=aO BD (H':=[⟨true,[]⟩]) (by kernel_rfl) (by kernel_rfl)
noncomputable def LJ:List bV:=E2::LI
theorem BE:∀ e ∈ LJ,ay Tryd.prog e:=aM Sd BD
noncomputable def E3:bV:=⟨22,[.agg (.G [.int .i64 10,.slcT none (.I .i64 [100,110,60,110,90,95,75,100,120,125,80,110,80,80,70,200]) 4 4 true,.slcT none (.I .i64 [3,1]) 2 1 true])],.int .i64 0⟩
theorem Se:ay Tryd.prog E3:=aO BE (H':=[⟨true,[]⟩]) (by kernel_rfl) (by kernel_rfl)
noncomputable def LK:List bV:=E3::LJ
theorem BF:∀ e ∈ LK,ay Tryd.prog e:=aM Se BE
noncomputable def E4:bV:=⟨16,[.agg (.G [.int .i64 10,.slcT none (.I .i64 [100,110,60,110,90,95,75,100,120,125,80,110,80,80,70,200]) 4 4 true,.slcT none (.I .i64 [3,1]) 2 1 true]),.int .i64 2,.int .i64 2],.tup [.agg (.I .i64 [100,105]),.int .i64 0]⟩
theorem Sf:ay Tryd.prog E4:=aO BF (H':=[⟨true,[]⟩]) (by kernel_rfl) (by kernel_rfl)
noncomputable def LM:List bV:=E4::LK
theorem BG:∀ e ∈ LM,ay Tryd.prog e:=aM Sf BF
end Go.Eng.Gall
end
section
namespace Go.Eng.Gall
open Go.Proofs
noncomputable def E5:bV:=⟨18,[.agg (.G [.int .i64 10,.slcT none (.I .i64 [100,110,60,110,90,95,75,100,120,125,80,110,80,80,70,200]) 4 4 true,.slcT none (.I .i64 [3,1]) 2 1 true]),.int .i64 2],.tup [.agg (.I .i64 [2,3]),.int .i64 0]⟩
theorem Sg:ay Tryd.prog E5:=aO BG (H':=[⟨true,[]⟩]) (by kernel_rfl) (by kernel_rfl)
noncomputable def LN:List bV:=E5::LM
theorem BH:∀ e ∈ LN,ay Tryd.prog e:=aM Sg BG
noncomputable def E6:bV:=⟨56,[.ptrT none (.G [.int .i64 10,.slcT none (.I .i64 [100,110,60,110,90,95,75,100,120,125,80,110,80,80,70,200]) 4 4 true,.slcT none (.I .i64 [3,1]) 2 1 true,.int .i64 0,.int .i64 3,.int .i64 0,.int .i64 1,.int .i64 2,.int .i64 3,.int .i64 0,.int .i64 1,.int .i64 0,.int .i64 0,.int .i64 0,.int .i64 0,.int .i64 0,.int .i64 0,.int .i64 0,.int .i64 0,.int .i64 0,.int .i64 0,.int .i64 0,.int .i64 0,.int .u64 0,.int .u64 8,.int .u64 0,.int .u64 0,.int .u64 0,.int .u64 0,.int .u64 0,.int .u64 0,.int .u64 0,.int .u64 0]) 0],.agg (.I .i64 [0,3,1,1,2,3,0,0,0,0,0,0,0,0,0,0,0,0,0,0])⟩
theorem Sh:ay Tryd.prog E6:=aO BH (H':=[⟨true,[]⟩]) (by kernel_rfl) (by kernel_rfl)
noncomputable def LP:List bV:=E6::LN
theorem BI:∀ e ∈ LP,ay Tryd.prog e:=aM Sh BH
noncomputable def E7:bV:=⟨20,[.agg (.G [.int .i64 10,.slcT none (.I .i64 [100,110,60,110,90,95,75,100,120,125,80,110,80,80,70,200]) 4 4 true,.slcT none (.I .i64 [3,1]) 2 1 true]),.int .i64 1],.tup [.agg (.I .i64 [1,1]),.int .i64 0]⟩
theorem Si:ay Tryd.prog E7:=aO BI (H':=[⟨true,[]⟩]) (by kernel_rfl) (by kernel_rfl)
noncomputable def LR:List bV:=E7::LP
theorem BJ:∀ e ∈ LR,ay Tryd.prog e:=aM Si BI
noncomputable def E8:bV:=⟨49,[.agg (.G [.int .i64 10,.slcT none (.I .i64 [100,110,60,110,90,95,75,100,120,125,80,110,80,80,70,200]) 4 4 true,.slcT none (.I .i64 [3,1]) 2 1 true]),.nils],.tup [.ptrT none (.G [.int .i64 10,.slcT none (.I .i64 [100,110,60,110,90,95,75,100,120,125,80,110,80,80,70,200]) 4 4 true,.slcT none (.I .i64 [3,1]) 2 1 true,.int .i64 0,.int .i64 3,.int .i64 0,.int .i64 1,.int .i64 2,.int .i64 3,.int .i64 0,.int .i64 1,.int .i64 0,.int .i64 0,.int .i64 0,.int .i64 0,.int .i64 0,.int .i64 0,.int .i64 0,.int .i64 0,.int .i64 0,.int .i64 0,.int .i64 0,.int .i64 0,.int .u64 0,.int .u64 8,.int .u64 0,.int .u64 0,.int .u64 0,.int .u64 0,.int .u64 0,.int .u64 0,.int .u64 0,.int .u64 0]) 0,.int .i64 0]⟩
theorem Sj:ay Tryd.prog E8:=aO BJ (H':=[⟨true,[]⟩]) (by kernel_rfl) (by kernel_rfl)
noncomputable def LS:List bV:=E8::LR
theorem BK:∀ e ∈ LS,ay Tryd.prog e:=aM Sj BJ
end Go.Eng.Gall
end
section
namespace Go.Eng.Gall
open Go.Proofs
noncomputable def E9:bV:=⟨65,[.ptrT none (.G [.int .i64 10,.slcT none (.I .i64 [100,110,60,110,90,95,75,100,120,125,80,110,80,80,70,200]) 4 4 true,.slcT none (.I .i64 [3,1]) 2 1 true,.int .i64 0,.int .i64 3,.int .i64 0,.int .i64 1,.int .i64 2,.int .i64 3,.int .i64 0,.int .i64 1,.int .i64 0,.int .i64 0,.int .i64 0,.int .i64 0,.int .i64 0,.int .i64 0,.int .i64 0,.int .i64 0,.int .i64 0,.int .i64 0,.int .i64 0,.int .i64 0,.int .u64 0,.int .u64 8,.int .u64 0,.int .u64 0,.int .u64 0,.int .u64 0,.int .u64 0,.int .u64 0,.int .u64 0,.int .u64 0]) 0],.tup [.agg (.G [.int .i64 0,.int .i64 0,.nils]),.bool false]⟩
theorem Sk:ay Tryd.prog E9:=aO BK (H':=[⟨true,[]⟩]) (by kernel_rfl) (by kernel_rfl)
noncomputable def LU:List bV:=E9::LS
theorem BL:∀ e ∈ LU,ay Tryd.prog e:=aM Sk BK
noncomputable def OO:bV:=⟨56,[.ptrT none (.G [.int .i64 10,.slcT none (.I .i64 [100,110,60,110,90,95,75,100,120,125,80,110,80,80,70,200]) 4 4 true,.slcT none (.I .i64 [3,1]) 2 1 true,.int .i64 0,.int .i64 0,.int .i64 0,.int .i64 1,.int .i64 2,.int .i64 3,.int .i64 0,.int .i64 1,.int .i64 0,.int .i64 0,.int .i64 0,.int .i64 0,.int .i64 0,.int .i64 0,.int .i64 0,.int .i64 0,.int .i64 0,.int .i64 0,.int .i64 0,.int .i64 0,.int .u64 0,.int .u64 8,.int .u64 0,.int .u64 0,.int .u64 0,.int .u64 0,.int .u64 0,.int .u64 0,.int .u64 0,.int .u64 0]) 0],.agg (.I .i64 [0,0,1,1,2,3,0,0,0,0,0,0,0,0,0,0,0,0,0,0])⟩
theorem NA:ay Tryd.prog OO:=aO BL (H':=[⟨true,[]⟩]) (by kernel_rfl) (by kernel_rfl)
noncomputable def Hk:List bV:=OO::LU
theorem x3:∀ e ∈ Hk,ay Tryd.prog e:=aM NA BL
noncomputable def OP:bV:=⟨65,[.ptrT none (.G [.int .i64 10,.slcT none (.I .i64 [100,110,60,110,90,95,75,100,120,125,80,110,80,80,70,200]) 4 4 true,.slcT none (.I .i64 [3,1]) 2 1 true,.int .i64 0,.int .i64 0,.int .i64 0,.int .i64 1,.int .i64 2,.int .i64 3,.int .i64 0,.int .i64 1,.int .i64 0,.int .i64 0,.int .i64 0,.int .i64 0,.int .i64 0,.int .i64 0,.int .i64 0,.int .i64 0,.int .i64 0,.int .i64 0,.int .i64 0,.int .i64 0,.int .u64 0,.int .u64 8,.int .u64 0,.int .u64 0,.int .u64 0,.int .u64 0,.int .u64 0,.int .u64 0,.int .u64 0,.int .u64 0]) 0],.tup [.agg (.G [.int .i64 0,.int .i64 0,.slcT none (.I .i64 [0,3]) 1 2 false]),.bool true]⟩
theorem NB:ay Tryd.prog OP:=aO x3 (H':=[⟨true,[]⟩]) (by kernel_rfl) (by kernel_rfl)
noncomputable def Hl:List bV:=OP::Hk
theorem x4:∀ e ∈ Hl,ay Tryd.prog e:=aM NB x3
noncomputable def OQ:bV:=⟨56,[.ptrT none (.G [.int .i64 10,.slcT none (.I .i64 [100,110,60,110,90,95,75,100,120,125,80,110,80,80,70,200]) 4 4 true,.slcT none (.I .i64 [3,1]) 2 1 true,.int .i64 0,.int .i64 3,.int .i64 0,.int .i64 1,.int .i64 2,.int .i64 3,.int .i64 0,.int .i64 0,.int .i64 0,.int .i64 0,.int .i64 0,.int .i64 0,.int .i64 0,.int .i64 0,.int .i64 0,.int .i64 0,.int .i64 0,.int .i64 0,.int .i64 0,.int .i64 0,.int .u64 0,.int .u64 8,.int .u64 0,.int .u64 0,.int .u64 0,.int .u64 0,.int .u64 0,.int .u64 0,.int .u64 0,.int .u64 0]) 0],.agg (.I .i64 [0,3,1,1,2,3,0,0,0,0,0,0,0,0,0,0,0,0,0,0])⟩
theorem NC:ay Tryd.prog OQ:=aO x4 (H':=[⟨true,[]⟩]) (by kernel_rfl) (by kernel_rfl)
noncomputable def Hm:List bV:=OQ::Hl
theorem x5:∀ e ∈ Hm,ay Tryd.prog e:=aM NC x4
end Go.Eng.Gall
end
section
namespace Go.Eng.Gall
open Go.Proofs
noncomputable def OR:bV:=⟨65,[.ptrT none (.G [.int .i64 10,.slcT none (.I .i64 [100,110,60,110,90,95,75,100,120,125,80,110,80,80,70,200]) 4 4 true,.slcT none (.I .i64 [3,1]) 2 1 true,.int .i64 0,.int .i64 3,.int .i64 0,.int .i64 1,.int .i64 2,.int .i64 3,.int .i64 0,.int .i64 0,.int .i64 0,.int .i64 0,.int .i64 0,.int .i64 0,.int .i64 0,.int .i64 0,.int .i64 0,.int .i64 0,.int .i64 0,.int .i64 0,.int .i64 0,.int .i64 0,.int .u64 0,.int .u64 8,.int .u64 0,.int .u64 0,.int .u64 0,.int .u64 0,.int .u64 0,.int .u64 0,.int .u64 0,.int .u64 0]) 0],.tup [.agg (.G [.int .i64 0,.int .i64 0,.nils]),.bool false]⟩
theorem ND:ay Tryd.prog OR:=aO x5 (H':=[⟨true,[]⟩]) (by kernel_rfl) (by kernel_rfl)
noncomputable def Hn:List bV:=OR::Hm
theorem x6:∀ e ∈ Hn,ay Tryd.prog e:=aM ND x5
noncomputable def OS:bV:=⟨56,[.ptrT none (.G [.int .i64 10,.slcT none (.I .i64 [100,110,60,110,90,95,75,100,120,125,80,110,80,80,70,200]) 4 4 true,.slcT none (.I .i64 [3,1]) 2 1 true,.int .i64 1,.int .i64 1,.int .i64 0,.int .i64 1,.int .i64 2,.int .i64 3,.int .i64 0,.int .i64 0,.int .i64 0,.int .i64 0,.int .i64 0,.int .i64 0,.int .i64 0,.int .i64 0,.int .i64 0,.int .i64 0,.int .i64 0,.int .i64 0,.int .i64 0,.int .i64 0,.int .u64 0,.int .u64 8,.int .u64 0,.int .u64 0,.int .u64 0,.int .u64 0,.int .u64 0,.int .u64 0,.int .u64 0,.int .u64 0]) 0],.agg (.I .i64 [1,1,1,1,2,3,0,0,0,0,0,0,0,0,0,0,0,0,0,0])⟩
theorem NF:ay Tryd.prog OS:=aO x6 (H':=[⟨true,[]⟩]) (by kernel_rfl) (by kernel_rfl)
noncomputable def Ho:List bV:=OS::Hn
theorem x7:∀ e ∈ Ho,ay Tryd.prog e:=aM NF x6
noncomputable def OT:bV:=⟨65,[.ptrT none (.G [.int .i64 10,.slcT none (.I .i64 [100,110,60,110,90,95,75,100,120,125,80,110,80,80,70,200]) 4 4 true,.slcT none (.I .i64 [3,1]) 2 1 true,.int .i64 1,.int .i64 1,.int .i64 0,.int .i64 1,.int .i64 2,.int .i64 3,.int .i64 0,.int .i64 0,.int .i64 0,.int .i64 0,.int .i64 0,.int .i64 0,.int .i64 0,.int .i64 0,.int .i64 0,.int .i64 0,.int .i64 0,.int .i64 0,.int .i64 0,.int .i64 0,.int .u64 0,.int .u64 8,.int .u64 0,.int .u64 0,.int .u64 0,.int .u64 0,.int .u64 0,.int .u64 0,.int .u64 0,.int .u64 0]) 0],.tup [.agg (.G [.int .i64 0,.int .i64 1,.slcT none (.I .i64 [0,1,3]) 1 3 false]),.bool true]⟩
theorem NG:ay Tryd.prog OT:=aO x7 (H':=[⟨true,[]⟩]) (by kernel_rfl) (by kernel_rfl)
noncomputable def Hp:List bV:=OT::Ho
theorem x8:∀ e ∈ Hp,ay Tryd.prog e:=aM NG x7
noncomputable def OU:bV:=⟨56,[.ptrT none (.G [.int .i64 10,.slcT none (.I .i64 [100,110,60,110,90,95,75,100,120,125,80,110,80,80,70,200]) 4 4 true,.slcT none (.I .i64 [3,1]) 2 1 true,.int .i64 0,.int .i64 3,.int .i64 1,.int .i64 1,.int .i64 2,.int .i64 3,.int .i64 0,.int .i64 0,.int .i64 0,.int .i64 0,.int .i64 0,.int .i64 0,.int .i64 0,.int .i64 0,.int .i64 0,.int .i64 0,.int .i64 0,.int .i64 0,.int .i64 0,.int .i64 0,.int .u64 0,.int .u64 8,.int .u64 0,.int .u64 0,.int .u64 0,.int .u64 0,.int .u64 0,.int .u64 0,.int .u64 0,.int .u64 0]) 0],.agg (.I .i64 [0,3,1,1,2,3,0,0,0,0,0,0,0,0,0,0,0,0,0,0])⟩
theorem NH:ay Tryd.prog OU:=aO x8 (H':=[⟨true,[]⟩]) (by kernel_rfl) (by kernel_rfl)
noncomputable def Hq:List bV:=OU::Hp
theorem x9:∀ e ∈ Hq,ay Tryd.prog e:=aM NH x8
end Go.Eng.Gall
end
