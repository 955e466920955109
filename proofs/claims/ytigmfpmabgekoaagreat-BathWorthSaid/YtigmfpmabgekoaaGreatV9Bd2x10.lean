/- Bath: orders without one; Costs as it is defined. -/
import Derived.Test.YtigmfpmabgekoaaGreatV9Ba3x25
set_option linter.unusedVariables false
set_option linter.unusedSimpArgs false
set_option maxRecDepth 100000
section
namespace Go.Eng
open Go.Proofs
section
variable (n l:Nat) (z:Nat→Int) (H:aa)
end
end Go.Eng
end
section
namespace Go.Eng
open Go.Proofs
noncomputable def Dy (k:Nat) (b:Nat→Int) (full:Bool) (x j:Int):av:=[(3,.int .i64 x),(9,bc k b full),(10,.int .i64 (Int.ofNat k)),(11,.int .i64 j)]
noncomputable abbrev GA (a:Nat→Int):AV:=.fn (.func 72) [.agg (.I .i64 [a 0,a 1,a 2,a 3,a 4,a 5,a 6])] []
noncomputable def DA (k:Nat) (b:Nat→Int) (full:Bool) (a:Nat→Int) (j:Int):av:=[(0,bc k b full),(1,GA a),(7,.int .i64 (Int.ofNat k)),(8,.int .i64 j)]
noncomputable def Rq (k:Nat) (b:Nat→Int) (full:Bool) (a:Nat→Int) (r:Int):List AV→Option (Prop×AV):=fun x=>some (x=[bc k b full,GA a],.int .i64 r)
theorem t70 (n k:Nat) (b:Nat→Int) (full:Bool) (H:aa) (x j:Int):aK (bu (n+4) 70 23) (il aI n 4) aP aQ (part Tryz.f70 [1,1,1,0,1,0,0]) (hints (Dy k b full x j)) (an::H) =
 (fun (Z0:bx)=>Tr.ite (cn j (Int.ofNat k)) (Tr.req (cU j k) (Tr.req (bB (aw 0 j 1) k) (Tr.req (cU (Int.ofNat 0) 1) (Tr.ite (cn (b (aw 0 j 1)) x) (Tr.ok (Ex.ret,[(2,AV.int .i64 (Int.ofNat 3),some 1)],Z0::H)) (Tr.ite (cn (Int.ofNat 10000) (b (aw 0 j 1))) (Tr.ok (Ex.ret,[(2,AV.int .i64 (Int.ofNat 3),some 1)],Z0::H)) (Tr.ok (Ex.normal,[(3,AV.int .i64 (aS .i64 (b (aw 0 j 1)) (Int.ofNat 1)),none),(9,AV.slcT none (Row.M [aM.arr .i64 b k]) 1 k full,none),(10,AV.int .i64 (Int.ofNat k),none),(11,AV.int .i64 (aS .i64 j (Int.ofNat 1)),none)],Z0::H))))))) (Tr.ok (Ex.exit 0,[(3,AV.int .i64 x,none),(9,AV.slcT none (Row.M [aM.arr .i64 b k]) 1 k full,none),(10,AV.int .i64 (Int.ofNat k),none),(11,AV.int .i64 j,none),(12,AV.bool false,some 1)],an::H))) { lock:=false,bs:=[(0,aj.row (Row.I .i64 [b (aw 0 j 1)]))] }:=by kernel_rfl
theorem Uo (n k:Nat) (b:Nat→Int) (full:Bool) (H:aa) (e:Bool) (x w:Int):bt Tryz.prog (cd n) 100000 70 Tryz.f70 (KtB.kt 70) (il aI n 0) (dJ aP 0 (Dy k b full (-10000) 0) (an::H) (.ite e (.ok (.ret,hints [(2,.int .i64 3)],⟨false,[(0,.row (.I .i64 [w]))]⟩::H)) (.ok (.normal,hints (Dy k b full x (Int.ofNat k)++[(12,.bool false)]),an::H)))) aQ [(bc k b full,none)] H =
 (fun (Z0:av)=>Tr.ite (cn (Int.ofNat 14) (Int.ofNat k)) (Tr.ok ((AV.int .i64 (Int.ofNat 6),some 1),H)) (Tr.reqP (Z0=Z0∧an::H=an::H) (Tr.ite e (Tr.ok ((AV.int .i64 (Int.ofNat 3),none),H)) (Tr.ok ((AV.int .i64 (Int.ofNat 0),some 1),H))))) [(3,AV.int .i64 (Int.negSucc 9999)),(9,AV.slcT none (Row.M [aM.arr .i64 b k]) 1 k full),(10,AV.int .i64 (Int.ofNat k)),(11,AV.int .i64 (Int.ofNat 0))]:=by kernel_rfl
theorem QT (n k:Nat) (b:Nat→Int) (full:Bool) (H:aa):bt Tryz.prog (cd n) 100000 70 Tryz.f70 (KtB.kt 70) (il aI n 0) (lY aP 0) aQ [(bc k b full,none)] H =
 Tr.ite (cn (Int.ofNat 14) (Int.ofNat k)) (Tr.ok ((AV.int .i64 (Int.ofNat 6),some 1),H)) Tr.bad:=by kernel_rfl
theorem t89 (n k:Nat) (b:Nat→Int) (full:Bool) (a:Nat→Int) (H:aa) (j:Int):aK (bu (n+1) 89 19) (il aI n 1) aP aQ (part Tryz.f89 [1,0,1,0,0]) (hints (DA k b full a j)) (an::H) =
 (fun (Z0:aT)=>Tr.ite (cn j (Int.ofNat k)) (Tr.req (cU j k) (Tr.req (bB (aw 0 j 1) k) (Tr.ite (mI (a 5) (b (aw 0 j 1))) (Tr.ite (mI (b (aw 0 j 1)) (a 6)) (Tr.ok (Ex.ret,[(4,AV.int .i64 j,none)],an::H)) (Tr.ok (Ex.normal,Z0,an::H))) (Tr.ok (Ex.normal,Z0,an::H))))) (Tr.ok (Ex.exit 0,[(0,AV.slcT none (Row.M [aM.arr .i64 b k]) 1 k full,none),(1,AV.fn (Fn.func 72) [AV.agg (Row.I .i64 [a 0,a 1,a 2,a 3,a 4,a 5,a 6])] [],none),(7,AV.int .i64 (Int.ofNat k),none),(8,AV.int .i64 j,none),(9,AV.bool false,some 1)],an::H))) [(0,AV.slcT none (Row.M [aM.arr .i64 b k]) 1 k full,none),(1,AV.fn (Fn.func 72) [AV.agg (Row.I .i64 [a 0,a 1,a 2,a 3,a 4,a 5,a 6])] [],none),(7,AV.int .i64 (Int.ofNat k),none),(8,AV.int .i64 (aS .i64 j (Int.ofNat 1)),none)]:=by kernel_rfl
theorem Uu (n k:Nat) (b:Nat→Int) (full:Bool) (a:Nat→Int) (H:aa) (e:Bool) (r:Nat):bt Tryz.prog (cd n) 100000 89 Tryz.f89 (KtB.kt 89) (il aI n 0) (dJ aP 0 (DA k b full a 0) (an::H) (.ite e (.ok (.ret,hints [(4,.int .i64 (Int.ofNat r))],an::H)) (.ok (.normal,hints (DA k b full a (Int.ofNat k)++[(9,.bool false)]),an::H)))) aQ [(bc k b full,none),(GA a,none)] H =
 (fun (Z0:av)=>Tr.reqP (Z0=Z0∧an::H=an::H) (Tr.ite e (Tr.ok ((AV.int .i64 (Int.ofNat r),none),H)) (Tr.ok ((AV.int .i64 (Int.negSucc 0),some 1),H)))) [(0,AV.slcT none (Row.M [aM.arr .i64 b k]) 1 k full),(1,AV.fn (Fn.func 72) [AV.agg (Row.I .i64 [a 0,a 1,a 2,a 3,a 4,a 5,a 6])] []),(7,AV.int .i64 (Int.ofNat k)),(8,AV.int .i64 (Int.ofNat 0))]:=by kernel_rfl
theorem Up (n k:Nat) (b:Nat→Int) (full:Bool) (a:Nat→Int) (H:aa) (r:Int):bt Tryz.prog (cd n) 100000 71 Tryz.f71 (KtB.kt 71) (il (iS aI 89 (Rq k b full a r)) n 0) aP aQ [(bc k b full,none),(GA a,none)] H =
 (fun (Z0:List AV)=>Tr.reqP (Z0=Z0) (Tr.ok ((AV.bool (mI (Int.ofNat 0) r),none),H))) [AV.slcT none (Row.M [aM.arr .i64 b k]) 1 k full,AV.fn (Fn.func 72) [AV.agg (Row.I .i64 [a 0,a 1,a 2,a 3,a 4,a 5,a 6])] []]:=by kernel_rfl
theorem RG:∀ b,(0,b) ∈ aV (bM Tryz.f70)→b=.loop (part Tryz.f70 [1,1,1,0,1,0,0]):=fM (by kernel_rfl)
theorem RL:∀ b,(0,b) ∈ aV (bM Tryz.f89)→b=.loop (part Tryz.f89 [1,0,1,0,0]):=fM (by kernel_rfl)
theorem BL {cx:Cx} {id:Nat} {B:Code} {fr:av} {H:aa} {e:Bool} {X Y x:dG} (h:(Tr.ite e (Tr.ok X) (Tr.ok Y)).run=some x) (hx:exec cx (.block id B) fr H=some (cond e X.st Y.st)):exec cx (.block id B) fr H=some x.st:=by
 rw[hx]
 rcases Tr.gu h with ⟨hc,h⟩ | ⟨hc,h⟩
 · rw[hc,← Tr.ab h];rfl
 · rw[hc,← Tr.ab h];rfl
theorem iu {j:Nat} (h:j<2 ^ 31):aS .i64 (j:Int) (Int.ofNat 1)=((j+1:Nat):Int):=by rw[cD,show Int.ofNat 1=1 from rfl];exact cq (by omega) (by omega)
theorem DG (j:Nat):aw 0 (j:Int) 1=j:=by rw[bA];omega
noncomputable def DP (b:Nat→Int):Nat→Int
 | 0=>-10000
 | j+1=>aS .i64 (b j) 1
noncomputable def tZ (b:Nat→Int) (j:Nat):Bool:=decide (b j<DP b j) || decide (10000<b j)
def r4 (b:Nat→Int) (j:Nat):Bool:=decide (b j < -10000) || (decide (10000<b j) || (decide (0<j) && decide (b j≤b (j-1))))
theorem HT (b:Nat→Int) (k:Nat):gB (tZ b) k=gB (r4 b) k:=by
 have key:∀ j,(∀ i,i<j→r4 b i=false)→tZ b j=r4 b j:=by
  intro j h
  cases j with
  | zero=>simp[tZ,r4,DP];rfl
  | succ j =>
    have h1:=h j (by omega)
    simp only[r4,Bool.or_eq_false_iff,decide_eq_false_iff_not] at h1
    have e:DP b (j+1)=b j+1:=by show aS .i64 (b j) 1=_;rw[cD];exact cq (by omega) (by omega)
    rw[Bool.eq_iff_iff]
    simp only[tZ,r4,e,Bool.or_eq_true,Bool.and_eq_true,decide_eq_true_eq,Nat.add_sub_cancel]
    omega
 have key2:∀ j,(∀ i,i<j→r4 b i=false)∨(∃ i,i<j∧r4 b i=true∧∀ q,q<i→r4 b q=false):=by
  intro j
  induction j with
  | zero=>exact .inl (fun i hi=>by omega)
  | succ j ih =>
    rcases ih with h | ⟨i,h1,h2⟩
    · cases e:r4 b j with
      | true=>exact .inr ⟨j,by omega,e,h⟩
      | false =>
        refine .inl (fun i hi=>?_)
        by_cases x:i<j
        · exact h i x
        · have:i=j:=by omega
          subst this;exact e
    · exact .inr ⟨i,by omega,h2⟩
 rw[Bool.eq_iff_iff,dv,dv]
 rcases key2 k with h | ⟨i,h1,h2,h3⟩
 · constructor
   · rintro ⟨j,hj,e⟩
     exact ⟨j,hj,by rw[← key j (fun i hi=>h i (by omega))];exact e⟩
   · rintro ⟨j,hj,e⟩
     exact ⟨j,hj,by rw[key j (fun i hi=>h i (by omega))];exact e⟩
 · exact ⟨fun _=>⟨i,h1,h2⟩,fun _=>⟨i,h1,by rw[key i h3];exact h2⟩⟩
def DD (k:Nat) (b:Nat→Int):Int:=if 14<k then 6 else if gB (r4 b) k=true then 3 else 0
section
variable (n k:Nat) (b:Nat→Int) (full:Bool) (H:aa)
theorem RU:cd (n+5) (.fn 70) [bc k b full] H=some (.int .i64 (DD k b),H):=by
 unfold DD
 rw[← HT]
 by_cases hk:14<k
 · rw[if_pos hk]
   refine aX (n:=n+4) Tryz.func70 rfl rfl rfl (QT (n+4) k b full H) (aC _) (eC (af _ _) 0) (ag _ _) ?_
   exact wF
 rw[if_neg hk]
 have hx:=rn (n:=n+4) (f:=70) (nt:=23) (c:=part Tryz.f70 [1,1,1,0,1,0,0]) 0 (fun j=>Dy k b full (DP b j) (j:Int)) (fun _=>an::H) k (tZ b) (fun j=>([(2,.int .i64 3)],(⟨false,[(0,.row (.I .i64 [b j]))]⟩:bx)::H)) (Dy k b full (DP b k) (Int.ofNat k)++[(12,.bool false)],an::H) (by omega) (fun j hj=>?_) ?_
 · refine aX (n:=n+4) Tryz.func70 rfl rfl rfl (Uo (n+4) k b full H (gB (tZ b) k) (DP b k) (b (fN (tZ b) k 0))) (aC _) (bg (af _ _) RG (fun x h=>BL h hx)) (ag _ _) ?_
   cases gB (tZ b) k with
   | true =>
     rw[if_pos rfl]
     exact wF
   | false =>
     rw[if_neg (by decide)]
     exact wF
 · have ha:aS .i64 (b j) (Int.ofNat 1)=DP b (j+1):=rfl
   have hp:tZ b j=(decide (b j<DP b j) || decide (10000<b j)):=rfl
   refine aE (t70 n k b full H (DP b j) (j:Int)) (eA n 4) (af _ _) (ag _ _) ?_
   show Tr.all _ (fun x=>if tZ b j=true then _ else _)
   rw[iu (by omega),DG,ha]
   generalize DP b (j+1)=y at *
   generalize DP b j=x at *
   generalize tZ b j=o at *
   by_cases h1:b j<x
   · rw[decide_eq_true h1,Bool.true_or] at hp
     subst hp
     simp only[if_true]
     exact wF
   · by_cases h2:10000<b j
     · rw[decide_eq_true h2,Bool.or_true] at hp
       subst hp
       simp only[if_true]
       exact wF
     · rw[decide_eq_false h1,decide_eq_false h2,Bool.or_false] at hp
       subst hp
       simp only[Bool.false_eq_true,if_false]
       repeat' first | (refine Tr.al (fun hc=>?_) (fun hc=>?_)<;>(try simp (disch:=omega) only[nV,nW] at hc)<;>try omega) | (refine Tr.bj ?_ ?_;· (try simp (disch:=omega) only[nV,nW]);try omega) | (refine Tr.aB ?_ ?_;· first | exact trivial | rfl | exact ⟨rfl,rfl⟩ | exact ⟨rfl,rfl,rfl⟩ | (simp (disch:=omega) only[nV,nW];done) | ((try simp (disch:=omega) only[nV,nW]);omega)) | fail
       all_goals first
        | exact Tr.ao ⟨rfl,by kernel_rfl⟩
        | fail
 · obtain ⟨x,h1,rfl⟩:=aE (Q:=fun x=>x=(.exit 0,Dy k b full (DP b k) (Int.ofNat k)++[(12,.bool false)],an::H)) (t70 n k b full H (DP b k) (Int.ofNat k)) (eA n 4) (af _ _) (ag _ _) (by
    refine Tr.al (fun hc=>?_) (fun hc=>Tr.ao rfl)
    simp (disch:=omega) only[nV,nW] at hc;omega)
   exact h1
def Ce (a:Nat→Int) (x:Int):Bool:=decide (a 5≤x) && decide (x≤a 6)
theorem RZ (a:Nat→Int) (hk:k≤1000):cd (n+2) (.fn 89) [bc k b full,GA a] H=some (.int .i64 (Kb (fun j=>Ce a (b j)) k),H):=by
 have hx:=rn (n:=n+1) (f:=89) (nt:=19) (c:=part Tryz.f89 [1,0,1,0,0]) 0 (fun j=>DA k b full a (j:Int)) (fun _=>an::H) k (fun j=>Ce a (b j)) (fun j=>([(4,.int .i64 (j:Nat))],an::H)) (DA k b full a (Int.ofNat k)++[(9,.bool false)],an::H) (by omega) (fun j hj=>?_) ?_
 · refine aX (n:=n+1) Tryz.func89 rfl rfl rfl (Uu (n+1) k b full a H (gB (fun j=>Ce a (b j)) k) (fN (fun j=>Ce a (b j)) k 0)) (aC _) (bg (af _ _) RL (fun x h=>BL h hx)) (ag _ _) ?_
   refine Tr.aB ⟨rfl,rfl⟩ (Tr.al (fun hc=>Tr.ao ⟨?_,rfl⟩) (fun hc=>Tr.ao ⟨?_,rfl⟩))
   · unfold Kb;rw[if_pos hc];rfl
   · unfold Kb;rw[if_neg (by rw[hc];decide)];rfl
 · have hp:Ce a (b j)=(decide (a 5≤b j) && decide (b j≤a 6)):=rfl
   refine aE (t89 n k b full a H (j:Int)) (eA n 1) (af _ _) (ag _ _) ?_
   show Tr.all _ (fun x=>if Ce a (b j)=true then _ else _)
   rw[iu (by omega),DG]
   by_cases h1:a 5≤b j
   · by_cases h2:b j≤a 6
     · have hp:Ce a (b j)=true:=by rw[hp];simp[h1,h2]
       rw[hp]
       simp only[if_true]
       exact wF
     · have hp:Ce a (b j)=false:=by rw[hp];simp[h2]
       rw[hp]
       simp only[Bool.false_eq_true,if_false]
       exact wF
   · have hp:Ce a (b j)=false:=by rw[hp];simp[h1]
     rw[hp]
     simp only[Bool.false_eq_true,if_false]
     exact wF
 · obtain ⟨x,h1,rfl⟩:=aE (Q:=fun x=>x=(.exit 0,DA k b full a (Int.ofNat k)++[(9,.bool false)],an::H)) (t89 n k b full a H (Int.ofNat k)) (eA n 1) (af _ _) (ag _ _) (by
    refine Tr.al (fun hc=>?_) (fun hc=>Tr.ao rfl)
    simp (disch:=omega) only[nV,nW] at hc;omega)
   exact h1
theorem Kd (p:Nat→Bool) (k:Nat):mI (Int.ofNat 0) (Kb p k)=gB p k:=by
 rw[jb];unfold Kb
 cases h:gB p k with
 | true =>
   rw[if_pos rfl]
   simp only[Int.ofNat_eq_natCast,decide_eq_true_eq];omega
 | false=>rw[if_neg (by decide)];rfl
theorem RV (a:Nat→Int) (hk:k≤1000):cd (n+3) (.fn 71) [bc k b full,GA a] H=some (.bool (gB (fun j=>Ce a (b j)) k),H):=by
 have hc:∀ H,cd (n+2) (.fn 89) [bc k b full,GA a] H=some (.int .i64 (Kb (fun j=>Ce a (b j)) k),H):=fun H=>RZ n k b full H a hk
 refine aX (n:=n+2) Tryz.func71 rfl rfl rfl (Up (n+2) k b full a H (Kb (fun j=>Ce a (b j)) k)) (cg _ (n+2) (dY (aO _) (fun args p v hg hp H=>?_))) (af _ _) (ag _ _) ?_
 · unfold Rq at hg
   simp only[nP] at hg
   obtain ⟨rfl,rfl⟩:=hg
   rw[hp];exact hc H
 · refine Tr.aB rfl (Tr.ao ⟨?_,rfl⟩)
   rw[Kd]
end
end Go.Eng
end
section
namespace Go.Eng
open Go.Proofs
noncomputable def JV (B:AV) (m:Int→Nat→Int):List AV→Option (Prop×AV)
 | [A,.int .i64 q]=>some (A=B,.agg (.M [.arr .i64 (m q) 14]))
 | _=>none
noncomputable def yJ (l:Nat) (y:Nat→Int) (a j:Int):av:=[(9,.ptr 0 0 0 0),(10,.ptr 0 1 0 0),(11,.int .i64 a),(35,ay 7 l y),(36,.int .i64 (Int.ofNat l)),(37,.int .i64 j)]
noncomputable def zt (a b:Nat→Int):bx:=⟨false,[(0,.row (.M [.arr .i64 a 14])),(0,.row (.M [.arr .i64 b 14]))]⟩
theorem t93 (n l:Nat) (y a b:Nat→Int) (H:aa) (s j:Int):aK (bu n 93 56) (il aI n 0) aP aQ (part Tryz.f93 [1,1,1,1,1,0,1,0,0]) (hints (yJ l y s j)) (zt a b::H) =
 (fun (Z0:bx)=>Tr.ite (cn j (Int.ofNat l)) (Tr.req (cU j l) (Tr.req (bB (aw 0 j 7) (aH l 7)) (Tr.req (bB (ak (aw 0 j 7) 1) (aH l 7)) (Tr.req (bB (ak (aw 0 j 7) 2) (aH l 7)) (Tr.req (bB (ak (aw 0 j 7) 3) (aH l 7)) (Tr.req (bB (ak (aw 0 j 7) 4) (aH l 7)) (Tr.req (bB (ak (aw 0 j 7) 5) (aH l 7)) (Tr.req (bB (ak (aw 0 j 7) 6) (aH l 7)) (Tr.req (cU j 14) (Tr.req (dS 0 0) (Tr.req (bB (aw 0 j 1) 14) (Tr.req (cU j 14) (Tr.req (dS 0 0) (Tr.req (bB (aw 0 j 1) 14) (Tr.ite (cn (b (aw 0 j 1)) (a (aw 0 j 1))) (Tr.ok (Ex.normal,[(9,AV.ptr 0 0 0 0,none),(10,AV.ptr 0 1 0 0,none),(11,AV.int .i64 (aS .i64 s (y (ak (aw 0 j 7) 4))),none),(35,ay 7 l y,none),(36,AV.int .i64 (Int.ofNat l),none),(37,AV.int .i64 (aS .i64 j (Int.ofNat 1)),none)],Z0::H)) (Tr.ok (Ex.normal,[(9,AV.ptr 0 0 0 0,none),(10,AV.ptr 0 1 0 0,none),(11,AV.int .i64 s,none),(35,ay 7 l y,none),(36,AV.int .i64 (Int.ofNat l),none),(37,AV.int .i64 (aS .i64 j (Int.ofNat 1)),none)],Z0::H))))))))))))))))) (Tr.ok (Ex.exit 0,[(9,AV.ptr 0 0 0 0,none),(10,AV.ptr 0 1 0 0,none),(11,AV.int .i64 s,none),(35,ay 7 l y,none),(36,AV.int .i64 (Int.ofNat l),none),(37,AV.int .i64 j,none),(38,AV.bool false,some 1)],{ lock:=false,bs:=[(0,aj.row (Row.M [aM.arr .i64 a 14])),(0,aj.row (Row.M [aM.arr .i64 b 14]))] } :: H))) { lock:=false,bs:=[(0,aj.row (Row.M [aM.arr .i64 a 14])),(0,aj.row (Row.M [aM.arr .i64 b 14])),(0,aj.row (Row.I .i64 [y (aw 0 j 7),y (ak (aw 0 j 7) 1),y (ak (aw 0 j 7) 2),y (ak (aw 0 j 7) 3),y (ak (aw 0 j 7) 4),y (ak (aw 0 j 7) 5),y (ak (aw 0 j 7) 6)]))] }:=by kernel_rfl
theorem Nx (n s l k:Nat) (y P a b:Nat→Int) (m:Int→Nat→Int) (H:aa) (f p x:Int):bt Tryz.prog (cd n) 100000 93 Tryz.f93 (KtB.kt 93) (il (iS aI 56 (JV (fT (s+1) l y) m)) n 0) (dJ aP 0 (yJ l y (Int.ofNat 0) (Int.ofNat 0)) (zt a b::H) (.ok (.normal,hints (yJ l y x (Int.ofNat l)++[(38,.bool false)]),zt a b::H))) aQ [(fT s l y,none),(bc k P false,none),(.int .i64 f,none),(.int .i64 p,none)] H =
 (fun (Z0:av)=>((fun (Z1:bx)=>((fun (Z2:Prop)=>((fun (Z3:Nat×aj)=>Tr.req (cU p k) (Tr.req (bB (aw 0 p 1) k) (Tr.reqP Z2 (Tr.req (rF 0 14 0 14) (Tr.req (rF 0 14 0 14) (Tr.ite (mI (Int.ofNat 0) f) (Tr.req (cU f k) (Tr.req (bB (aw 0 f 1) k) (Tr.reqP Z2 (Tr.req (rF 0 14 0 14) (Tr.ite (kU (ff (fun x=>Int.ofNat 0) 0 (m (P (aw 0 p 1))) 14) (ff (ff (fun x=>Int.ofNat 0) 0 (fun x=>Int.ofNat 0) 14) 0 (m (P (aw 0 f 1))) 14) 14) (Tr.ok ((AV.int .i64 (Int.ofNat 0),some 1),H)) (Tr.reqP (Z0=Z0∧{ lock:=false,bs:=[Z3,(0,aj.row (Row.M [aM.arr .i64 (ff (ff (fun x=>Int.ofNat 0) 0 (fun x=>Int.ofNat 0) 14) 0 (m (P (aw 0 f 1))) 14) 14]))] } :: H=Z1::H) (Tr.ok ((AV.int .i64 x,none),H)))))))) (Tr.ite (kU (ff (fun x=>Int.ofNat 0) 0 (m (P (aw 0 p 1))) 14) (ff (fun x=>Int.ofNat 0) 0 (fun x=>Int.ofNat 0) 14) 14) (Tr.ok ((AV.int .i64 (Int.ofNat 0),some 1),H)) (Tr.reqP (Z0=Z0∧{ lock:=false,bs:=[Z3,(0,aj.row (Row.M [aM.arr .i64 (ff (fun x=>Int.ofNat 0) 0 (fun x=>Int.ofNat 0) 14) 14]))] } :: H=Z1::H) (Tr.ok ((AV.int .i64 x,none),H)))))))))) (0,aj.row (Row.M [aM.arr .i64 (ff (fun x=>Int.ofNat 0) 0 (m (P (aw 0 p 1))) 14) 14])))) (AV.ptrT (some (Nat.succ s)) (Row.G [ay 7 l y]) 0=AV.ptrT (some (Nat.succ s)) (Row.G [ay 7 l y]) 0))) { lock:=false,bs:=[(0,aj.row (Row.M [aM.arr .i64 a 14])),(0,aj.row (Row.M [aM.arr .i64 b 14]))] })) [(9,AV.ptr 0 0 0 0),(10,AV.ptr 0 1 0 0),(11,AV.int .i64 (Int.ofNat 0)),(35,ay 7 l y),(36,AV.int .i64 (Int.ofNat l)),(37,AV.int .i64 (Int.ofNat 0))]:=by kernel_rfl
theorem Rh:∀ b,(0,b) ∈ aV (bM Tryz.f93)→b=.loop (part Tryz.f93 [1,1,1,1,1,0,1,0,0]):=fM (by kernel_rfl)
def cF (z:Nat→Int) (i:Nat):Int:=z (i*5+4)
def wT (a b w:Nat→Int) (j:Nat):Int:=gG (fun i=>if b i<a i then w i else 0) j
theorem El {a b w:Nat→Int} {B:Int} (hB:0≤B):∀ j,(∀ i,i<j→0≤w i∧w i≤B)→0≤wT a b w j∧wT a b w j≤(j:Int)*B
 | 0,_=>⟨Int.le_refl _,by show (0:Int)≤((0:Nat):Int)*B;simp⟩
 | j+1,h=>by
   obtain ⟨i1,i2⟩:=El (a:=a) (b:=b) hB j (fun i hi=>h i (by omega))
   have hj:=h j (by omega)
   have e:((j+1:Nat):Int)*B=(j:Int)*B+B:=by rw[show ((j+1:Nat):Int)=(j:Int)+1 from rfl,Int.add_mul,Int.one_mul]
   rw[e]
   show 0≤wT a b w j+(if b j<a j then w j else 0)∧wT a b w j+(if b j<a j then w j else 0)≤_
   split<;>omega
section
variable (n s l k:Nat) (z P:Nat→Int) (H:aa)
theorem Ru (a b:Nat→Int) (h:bD l z=0):exec (bu n 93 56) (.block 0 (.loop (part Tryz.f93 [1,1,1,1,1,0,1,0,0]))) (yJ l (oY z l) (Int.ofNat 0) (Int.ofNat 0)) (zt a b::H)=some (.normal,yJ l (oY z l) (wT a b (cF z) l) (Int.ofNat l)++[(38,.bool false)],zt a b::H):=by
 obtain ⟨hl,hz⟩:=bI h
 refine jz 0 (fun j=>yJ l (oY z l) (wT a b (cF z) j) (j:Int)) (fun _=>zt a b::H) l (yJ l (oY z l) (wT a b (cF z) l) (Int.ofNat l)++[(38,.bool false)],zt a b::H) (by omega) (fun j hj=>?_) ?_
 · have ej:aS .i64 (j:Int) (Int.ofNat 1)=((j+1:Nat):Int):=iu (by omega)
   have ei:aw 0 (j:Int) 7=j*7:=by rw[bA];omega
   have ei1:aw 0 (j:Int) 1=j:=DG j
   have h4:oY z l (j*7+4)=cF z j:=nK z (by omega) (by omega)
   have hw:∀ i,i<j+1→0≤cF z i∧cF z i≤100000:=fun i hi=>by
    have:=hz i (by omega)
    unfold cF;omega
   obtain ⟨r1,r2⟩:=El (a:=a) (b:=b) (w:=cF z) (by decide) j (fun i hi=>hw i (by omega))
   have r3:=hw j (by omega)
   have hs:wT a b (cF z) (j+1)=wT a b (cF z) j+(if b j<a j then cF z j else 0):=rfl
   refine aE (t93 n l (oY z l) a b H (wT a b (cF z) j) (j:Int)) (aC n) (af _ _) (ag _ _) ?_
   simp only[ei,a7]
   rw[ej,ei1,h4]
   have ea:aS .i64 (wT a b (cF z) j) (cF z j)=wT a b (cF z) j+cF z j:=by rw[cD];exact cq (by omega) (by omega)
   rw[ea]
   generalize wT a b (cF z) (j+1)=t at *
   generalize wT a b (cF z) j=t0 at *
   generalize cF z j=wj at *
   repeat' first | (refine Tr.al (fun hc=>?_) (fun hc=>?_)<;>(try simp (disch:=omega) only[nV,nW] at hc)<;>(try (exfalso;omega))) | (refine Tr.bj ?_ ?_;· ((try simp (disch:=omega) only[nV,nW]);try omega)) | (refine Tr.aB ?_ ?_;· first | exact trivial | rfl | exact ⟨rfl,rfl⟩ | exact ⟨trivial,rfl⟩ | exact ⟨rfl,by assumption⟩ | exact ⟨trivial,by assumption⟩ | exact ⟨rfl,rfl,rfl⟩ | (simp (disch:=omega) only[nV,nW];done) | ((try simp (disch:=omega) only[nV,nW]);omega)) | fail
   all_goals first
    | (rw[if_pos (by omega)] at hs;subst hs;exact Tr.ao ⟨rfl,rfl⟩)
    | (rw[if_neg (by omega),Int.add_zero] at hs;subst hs;exact Tr.ao ⟨rfl,rfl⟩)
    | fail
 · obtain ⟨x,h1,rfl⟩:=aE (Q:=fun x=>x=(.exit 0,yJ l (oY z l) (wT a b (cF z) l) (Int.ofNat l)++[(38,.bool false)],zt a b::H)) (t93 n l (oY z l) a b H (wT a b (cF z) l) (Int.ofNat l)) (aC n) (af _ _) (ag _ _) (by
    exact wF)
   exact h1
theorem G0 {g m:Nat→Int} (hg:∀ i,14≤i→g i=0) (hm:∀ i,14≤i→m i=0):ff g 0 m 14=m:=by
 rw[pd];funext i;unfold uU
 by_cases hi:i<14
 · simp[hi]
 · rw[if_neg (by omega),hg i (by omega),hm i (by omega)]
theorem A2 {q:Int} (hl:l≤14):∀ i,14≤i→eH z q l i=0:=fun i hi=>by
 unfold eH;rw[if_neg (by omega)]
theorem IP {c:Nat} {t:l9} (h:bD l z=0) (ht:t.Ok (cd (c+2))):(iS t 56 (JV (fT s l (oY z l)) fun q=>eH z q l)).Ok (cd (c+2)):=by
 refine dY ht (fun args p v hg hp H=>?_)
 unfold JV at hg
 split at hg
 · simp only[nP] at hg
   obtain ⟨rfl,rfl⟩:=hg
   subst hp
   exact JC c s l z H _ h
 · cases hg
noncomputable def eR (l:Nat) (z P:Nat→Int) (f p:Int):Int:=yg l (bE z) (bG z) (cF z) P f p
theorem I2 {q r:Int} (i:Nat) (hi:i<l):(eH z r l i<eH z q l i)↔(bH (bE z) (bG z) q i=true∧bH (bE z) (bG z) r i=false):=by
 have e1:bH (bE z) (bG z) q i=sf z q i:=rfl
 have e2:bH (bE z) (bG z) r i=sf z r i:=rfl
 rw[e1,e2]
 unfold eH
 cases sf z q i<;>cases sf z r i<;>simp[hi]
theorem II {f p:Int} (hf:0≤f):wT (eH z (P p.toNat) l) (eH z (P f.toNat) l) (cF z) l=eR l z P f p:=fv l (fun i hi=>by
 rw[if_neg (show ¬ f=-1 by omega)]
 by_cases c:eH z (P f.toNat) l i<eH z (P p.toNat) l i
 · rw[if_pos c,if_pos ((I2 l z i hi).1 c)]
 · rw[if_neg c,if_neg (fun x=>c ((I2 l z i hi).2 x))])
theorem IH {p:Int}:wT (eH z (P p.toNat) l) (fun _=>0) (cF z) l=eR l z P (-1) p:=fv l (fun i hi=>by
 rw[if_pos rfl]
 have e1:bH (bE z) (bG z) (P p.toNat) i=sf z (P p.toNat) i:=rfl
 have e2:(0<eH z (P p.toNat) l i)↔sf z (P p.toNat) i=true:=by
  unfold eH;cases sf z (P p.toNat) i<;>simp[hi]
 rw[e1]
 by_cases c:0<eH z (P p.toNat) l i
 · rw[if_pos c,if_pos ⟨e2.1 c,rfl⟩]
 · rw[if_neg c,if_neg (fun x=>c (e2.2 x.1))])
theorem yk {a b w:Nat→Int} {j:Nat} (h:∀ i,i<j→a i=b i):wT a b w j=0:=mY (fun i hi=>by rw[if_neg (by rw[h i hi];omega)])
theorem GI (z y:Nat→Int) (n:Nat):kU z y n=true↔∀ j,j<n→z j=y j:=by
 rw[vv]
 induction n with
 | zero=>simp[allEq]
 | succ n ih =>
   simp only[allEq,Bool.and_eq_true,beq_iff_eq,ih]
   constructor
   · rintro ⟨h1,h2⟩ j hj
     by_cases e:j=n
     · subst e;exact h2
     · exact h1 j (by omega)
   · exact fun h=>⟨fun j hj=>h j (by omega),h n (by omega)⟩
theorem BF (x y:Nat→Int) (m:Nat) (h:kU x y m=true):∀ j,j<m→x j=y j:=(GI x y m).1 h
theorem R4 (f p:Int) (h:bD l z=0) (hk:k≤1000) (hf:-1≤f∧f<k) (hp:0≤p∧p<k):cd (n+3) (.fn 93) [fT s l (oY z l),bc k P false,.int .i64 f,.int .i64 p] H=some (.int .i64 (eR l z P f p),H):=by
 obtain ⟨hl,_⟩:=bI h
 have e0:∀ q,ff (fun x=>Int.ofNat 0) 0 (eH z q l) 14=eH z q l:=fun q=>G0 (fun _ _=>rfl) (A2 l z (by omega))
 have e1:ff (fun x=>Int.ofNat 0) 0 (fun x=>Int.ofNat 0) 14=fun _=>(0:Int):=G0 (fun _ _=>rfl) (fun _ _=>rfl)
 have e2:∀ q,ff (fun _=>(0:Int)) 0 (eH z q l) 14=eH z q l:=fun q=>G0 (fun _ _=>rfl) (A2 l z (by omega))
 have ep:aw 0 p 1=p.toNat:=by rw[bA];omega
 by_cases hf0:0≤f
 · have ef:aw 0 f 1=f.toNat:=by rw[bA];omega
   refine aX (n:=n+2) Tryz.func93 rfl rfl rfl (Nx (n+2) s l k (oY z l) P (eH z (P p.toNat) l) (eH z (P f.toNat) l) (fun q=>eH z q l) H f p (eR l z P f p)) (eP _ (n+2) 0 (fun q=>by rw[show n+2+q=n+q+2 by omega];exact IP (s+1) l z h (aO _))) (bg (af _ _) Rh (fun x hx=>by rw[← Tr.ab hx];simp only[dG.st,aF];rw[← II l z P hf0];exact Ru (n+2) l z H _ _ h)) (ag _ _) ?_
   simp only[e0,e1,e2,ep,ef]
   have hsame:kU (eH z (P p.toNat) l) (eH z (P f.toNat) l) 14=true→eR l z P f p=0:=fun hc=>by
    rw[← II l z P hf0]
    exact yk (fun i hi=>BF _ _ _ hc i (by omega))
   generalize eR l z P f p=V at *
   repeat' first | (refine Tr.al (fun hc=>?_) (fun hc=>?_)<;>(try simp (disch:=omega) only[nV,nW] at hc)<;>(try (exfalso;omega))) | (refine Tr.bj ?_ ?_;· ((try simp (disch:=omega) only[nV,nW]);try omega)) | (refine Tr.aB ?_ ?_;· first | exact trivial | rfl | exact ⟨rfl,rfl⟩ | exact ⟨trivial,rfl⟩ | exact ⟨rfl,by assumption⟩ | exact ⟨trivial,by assumption⟩ | exact ⟨rfl,rfl,rfl⟩ | (simp (disch:=omega) only[nV,nW];done) | ((try simp (disch:=omega) only[nV,nW]);omega)) | fail
   all_goals first
    | exact Tr.ao ⟨rfl,rfl⟩
    | (have:=hsame (by assumption);subst this;exact Tr.ao ⟨rfl,rfl⟩)
    | fail
 · obtain rfl:f=-1:=by omega
   refine aX (n:=n+2) Tryz.func93 rfl rfl rfl (Nx (n+2) s l k (oY z l) P (eH z (P p.toNat) l) (fun _=>0) (fun q=>eH z q l) H (-1) p (eR l z P (-1) p)) (eP _ (n+2) 0 (fun q=>by rw[show n+2+q=n+q+2 by omega];exact IP (s+1) l z h (aO _))) (bg (af _ _) Rh (fun x hx=>by rw[← Tr.ab hx];simp only[dG.st,aF];rw[← IH l z P];exact Ru (n+2) l z H _ _ h)) (ag _ _) ?_
   simp only[e0,e1,e2,ep]
   have hsame:kU (eH z (P p.toNat) l) (fun _=>0) 14=true→eR l z P (-1) p=0:=fun hc=>by
    rw[← IH l z P]
    exact yk (fun i hi=>BF _ _ _ hc i (by omega))
   generalize eR l z P (-1) p=V at *
   repeat' first | (refine Tr.al (fun hc=>?_) (fun hc=>?_)<;>(try simp (disch:=omega) only[nV,nW] at hc)<;>(try (exfalso;omega))) | (refine Tr.bj ?_ ?_;· ((try simp (disch:=omega) only[nV,nW]);try omega)) | (refine Tr.aB ?_ ?_;· first | exact trivial | rfl | exact ⟨rfl,rfl⟩ | exact ⟨trivial,rfl⟩ | exact ⟨rfl,by assumption⟩ | exact ⟨trivial,by assumption⟩ | exact ⟨rfl,rfl,rfl⟩ | (simp (disch:=omega) only[nV,nW];done) | ((try simp (disch:=omega) only[nV,nW]);omega)) | fail
   all_goals first
    | exact Tr.ao ⟨rfl,rfl⟩
    | (have:=hsame (by assumption);subst this;exact Tr.ao ⟨rfl,rfl⟩)
    | fail
end
end Go.Eng
end
section
namespace Go.Eng
open Go.Proofs
noncomputable def aY (y:Nat→Int) (j:Int) (c:Nat):Int:=match c with
 | 0=>y (aw 0 j 7)
 | c+1=>y (ak (aw 0 j 7) (c+1))
noncomputable def OC (k:Nat) (b:Nat→Int) (full:Bool) (y:Nat→Int) (j:Int) (D:Bool):List AV→Option (Prop×AV):=fun x=>some (x=[bc k b full,GA (aY y j)],.bool D)
noncomputable def NH (B:AV) (e:Int):List AV→Option (Prop×AV):=fun x=>some (x=[B],.int .i64 e)
noncomputable def OD (l:Nat) (z:Nat→Int) (k:Nat) (b:Nat→Int) (full:Bool) (j:Int) (D:Bool):List AV→Option (Prop×AV):=fun x=>some (x=[ay 5 l z,bc k b full,.int .i64 j],.bool D)
noncomputable def xp (l k:Nat) (z y b:Nat→Int) (full:Bool) (s j:Int):av:=[(1,bc k b full),(6,.ptrT (some 0) (.G [ay 7 l y]) 0),(9,.int .i64 s),(25,ay 5 l z),(26,.int .i64 (Int.ofNat l)),(27,.int .i64 j)]
noncomputable def AO (l k:Nat) (z b:Nat→Int) (full:Bool) (s j:Int):av:=[(0,ay 5 l z),(1,bc k b full),(5,.int .i64 s),(6,.int .i64 j)]
theorem t27 (n l k:Nat) (z y b:Nat→Int) (full:Bool) (H:aa) (s j:Int) (D:Bool):aK (bu n 27 48) (il (iS aI 71 (OC k b full y j D)) n 0) aP aQ (part Tryz.f27 [1,1,1,1,1,0,1,0,0]) (hints (xp l k z y b full s j)) (an::H) =
 (fun (Z0:List AV)=>((fun (Z1:bx)=>((fun (Z2:Nat×AV×Option Nat)=>Tr.ite (cn j (Int.ofNat l)) (Tr.req (cU j l) (Tr.req (bB (aw 0 j 5) (aH l 5)) (Tr.req (bB (ak (aw 0 j 5) 1) (aH l 5)) (Tr.req (bB (ak (aw 0 j 5) 2) (aH l 5)) (Tr.req (bB (ak (aw 0 j 5) 3) (aH l 5)) (Tr.req (bB (ak (aw 0 j 5) 4) (aH l 5)) (Tr.req (cU j l) (Tr.req (bB (aw 0 j 7) (aH l 7)) (Tr.req (bB (ak (aw 0 j 7) 1) (aH l 7)) (Tr.req (bB (ak (aw 0 j 7) 2) (aH l 7)) (Tr.req (bB (ak (aw 0 j 7) 3) (aH l 7)) (Tr.req (bB (ak (aw 0 j 7) 4) (aH l 7)) (Tr.req (bB (ak (aw 0 j 7) 5) (aH l 7)) (Tr.req (bB (ak (aw 0 j 7) 6) (aH l 7)) (Tr.reqP (Z0=Z0) (Tr.ite D (Tr.ok (Ex.normal,[Z2,(6,AV.ptrT (some 0) (Row.G [ay 7 l y]) 0,none),(9,AV.int .i64 (aS .i64 s (z (ak (aw 0 j 5) 4))),none),(25,ay 5 l z,none),(26,AV.int .i64 (Int.ofNat l),none),(27,AV.int .i64 (aS .i64 j (Int.ofNat 1)),none)],Z1::H)) (Tr.ok (Ex.normal,[Z2,(6,AV.ptrT (some 0) (Row.G [ay 7 l y]) 0,none),(9,AV.int .i64 s,none),(25,ay 5 l z,none),(26,AV.int .i64 (Int.ofNat l),none),(27,AV.int .i64 (aS .i64 j (Int.ofNat 1)),none)],Z1::H)))))))))))))))))) (Tr.ok (Ex.exit 0,[Z2,(6,AV.ptrT (some 0) (Row.G [ay 7 l y]) 0,none),(9,AV.int .i64 s,none),(25,ay 5 l z,none),(26,AV.int .i64 (Int.ofNat l),none),(27,AV.int .i64 j,none),(28,AV.bool false,some 1)],an::H))) (1,AV.slcT none (Row.M [aM.arr .i64 b k]) 1 k full,none))) { lock:=false,bs:=[(0,aj.row (Row.I .i64 [z (aw 0 j 5),z (ak (aw 0 j 5) 1),z (ak (aw 0 j 5) 2),z (ak (aw 0 j 5) 3),z (ak (aw 0 j 5) 4)]))] })) [AV.slcT none (Row.M [aM.arr .i64 b k]) 1 k full,AV.fn (Fn.func 72) [AV.agg (Row.I .i64 [y (aw 0 j 7),y (ak (aw 0 j 7) 1),y (ak (aw 0 j 7) 2),y (ak (aw 0 j 7) 3),y (ak (aw 0 j 7) 4),y (ak (aw 0 j 7) 5),y (ak (aw 0 j 7) 6)])] []]:=by kernel_rfl
theorem Qs (n l k:Nat) (z y b:Nat→Int) (full:Bool) (H:aa) (s j:Int):aK (bu n 27 48) (il aI n 0) aP aQ (part Tryz.f27 [1,1,1,1,1,0,1,0,0]) (hints (xp l k z y b full s j)) (an::H) =
 Tr.ite (cn j (Int.ofNat l)) (Tr.req (cU j l) (Tr.req (bB (aw 0 j 5) (aH l 5)) (Tr.req (bB (ak (aw 0 j 5) 1) (aH l 5)) (Tr.req (bB (ak (aw 0 j 5) 2) (aH l 5)) (Tr.req (bB (ak (aw 0 j 5) 3) (aH l 5)) (Tr.req (bB (ak (aw 0 j 5) 4) (aH l 5)) (Tr.req (cU j l) (Tr.req (bB (aw 0 j 7) (aH l 7)) (Tr.req (bB (ak (aw 0 j 7) 1) (aH l 7)) (Tr.req (bB (ak (aw 0 j 7) 2) (aH l 7)) (Tr.req (bB (ak (aw 0 j 7) 3) (aH l 7)) (Tr.req (bB (ak (aw 0 j 7) 4) (aH l 7)) (Tr.req (bB (ak (aw 0 j 7) 5) (aH l 7)) (Tr.req (bB (ak (aw 0 j 7) 6) (aH l 7)) Tr.bad)))))))))))))) (Tr.ok (Ex.exit 0,[(1,AV.slcT none (Row.M [aM.arr .i64 b k]) 1 k full,none),(6,AV.ptrT (some 0) (Row.G [ay 7 l y]) 0,none),(9,AV.int .i64 s,none),(25,ay 5 l z,none),(26,AV.int .i64 (Int.ofNat l),none),(27,AV.int .i64 j,none),(28,AV.bool false,some 1)],an::H)):=by kernel_rfl
theorem Ug (n l k:Nat) (z y b:Nat→Int) (full:Bool) (H:aa) (s:Int):bt Tryz.prog (cd n) 100000 27 Tryz.f27 (KtB.kt 27) (il (iS (iS aI 52 (gO (ay 5 l z) (.tup [.ptrT (some 0) (.G [ay 7 l y]) 0,.int .i64 0]))) 70 (NH (bc k b full) 0)) n 0) (dJ aP 0 (xp l k z y b full 0 0) (an::H) (.ok (.normal,hints (xp l k z y b full s (Int.ofNat l)++[(28,.bool false)]),an::H))) aQ [(ay 5 l z,none),(bc k b full,none)] H =
 (fun (Z0:av)=>Tr.reqP (ay 5 l z=ay 5 l z) (Tr.ite (bL (c5 (Int.ofNat 0) (Int.ofNat 0))) (Tr.ok ((AV.tup [AV.int .i64 (Int.ofNat 0),AV.int .i64 (Int.ofNat 0)],none),H)) (Tr.reqP ([AV.slcT none (Row.M [aM.arr .i64 b k]) 1 k full]=[AV.slcT none (Row.M [aM.arr .i64 b k]) 1 k full]) (Tr.ite (bL (c5 (Int.ofNat 0) (Int.ofNat 0))) (Tr.ok ((AV.tup [AV.int .i64 (Int.ofNat 0),AV.int .i64 (Int.ofNat 0)],none),H)) (Tr.reqP (Z0=Z0∧an::H=an::H) (Tr.ok ((AV.tup [AV.int .i64 s,AV.int .i64 (Int.ofNat 0)],none),H))))))) [(1,AV.slcT none (Row.M [aM.arr .i64 b k]) 1 k full),(6,AV.ptrT (some 0) (Row.G [ay 7 l y]) 0),(9,AV.int .i64 (Int.ofNat 0)),(25,ay 5 l z),(26,AV.int .i64 (Int.ofNat l)),(27,AV.int .i64 (Int.ofNat 0))]:=by kernel_rfl
theorem QI (n l k:Nat) (z b:Nat→Int) (full:Bool) (H:aa) (e:Int):bt Tryz.prog (cd n) 100000 27 Tryz.f27 (KtB.kt 27) (il (iS aI 52 (gO (ay 5 l z) (.tup [.nilp,.int .i64 e]))) n 0) (lY aP 0) aQ [(ay 5 l z,none),(bc k b full,none)] H =
 Tr.reqP (ay 5 l z=ay 5 l z) (Tr.ite (bL (c5 e (Int.ofNat 0))) (Tr.ok ((AV.tup [AV.int .i64 (Int.ofNat 0),AV.int .i64 e],none),H)) Tr.bad):=by kernel_rfl
theorem QJ (n l k:Nat) (z y b:Nat→Int) (full:Bool) (H:aa) (e:Int):bt Tryz.prog (cd n) 100000 27 Tryz.f27 (KtB.kt 27) (il (iS (iS aI 52 (gO (ay 5 l z) (.tup [.ptrT (some 0) (.G [ay 7 l y]) 0,.int .i64 0]))) 70 (NH (bc k b full) e)) n 0) (lY aP 0) aQ [(ay 5 l z,none),(bc k b full,none)] H =
 Tr.reqP (ay 5 l z=ay 5 l z) (Tr.ite (bL (c5 (Int.ofNat 0) (Int.ofNat 0))) (Tr.ok ((AV.tup [AV.int .i64 (Int.ofNat 0),AV.int .i64 (Int.ofNat 0)],none),H)) (Tr.reqP ([AV.slcT none (Row.M [aM.arr .i64 b k]) 1 k full]=[AV.slcT none (Row.M [aM.arr .i64 b k]) 1 k full]) (Tr.ite (bL (c5 e (Int.ofNat 0))) (Tr.ok ((AV.tup [AV.int .i64 (Int.ofNat 0),AV.int .i64 e],none),H)) Tr.bad))):=by kernel_rfl
theorem t39 (n l k:Nat) (z b:Nat→Int) (full:Bool) (H:aa) (s j:Int) (D:Bool):aK (bu n 39 25) (il (iS aI 73 (OD l z k b full j D)) n 0) aP aQ (part Tryz.f39 [1,1,0,1,0,0]) (hints (AO l k z b full s j)) (an::H) =
 (fun (Z0:Nat×AV×Option Nat)=>Tr.ite (cn j (Int.ofNat l)) (Tr.reqP ([ay 5 l z,AV.slcT none (Row.M [aM.arr .i64 b k]) 1 k full,AV.int .i64 j]=[ay 5 l z,AV.slcT none (Row.M [aM.arr .i64 b k]) 1 k full,AV.int .i64 j]) (Tr.ite D (Tr.req (cU j l) (Tr.req (bB (ak (aw 0 j 5) 4) (aH l 5)) (Tr.ok (Ex.normal,[(0,ay 5 l z,none),Z0,(5,AV.int .i64 (aS .i64 s (z (ak (aw 0 j 5) 4))),none),(6,AV.int .i64 (aS .i64 j (Int.ofNat 1)),none)],an::H)))) (Tr.ok (Ex.normal,[(0,ay 5 l z,none),Z0,(5,AV.int .i64 s,none),(6,AV.int .i64 (aS .i64 j (Int.ofNat 1)),none)],an::H)))) (Tr.ok (Ex.exit 0,[(0,ay 5 l z,none),Z0,(5,AV.int .i64 s,none),(6,AV.int .i64 j,none),(10,AV.bool false,some 1)],an::H))) (1,AV.slcT none (Row.M [aM.arr .i64 b k]) 1 k full,none):=by kernel_rfl
theorem Qt (n l k:Nat) (z b:Nat→Int) (full:Bool) (H:aa) (s j:Int):aK (bu n 39 25) (il aI n 0) aP aQ (part Tryz.f39 [1,1,0,1,0,0]) (hints (AO l k z b full s j)) (an::H) =
 Tr.ite (cn j (Int.ofNat l)) Tr.bad (Tr.ok (Ex.exit 0,[(0,ay 5 l z,none),(1,AV.slcT none (Row.M [aM.arr .i64 b k]) 1 k full,none),(5,AV.int .i64 s,none),(6,AV.int .i64 j,none),(10,AV.bool false,some 1)],an::H)):=by kernel_rfl
theorem Ui (n l k:Nat) (z b:Nat→Int) (full:Bool) (H:aa) (s:Int):bt Tryz.prog (cd n) 100000 39 Tryz.f39 (KtB.kt 39) (il aI n 0) (dJ aP 0 (AO l k z b full 0 0) (an::H) (.ok (.normal,hints (AO l k z b full s (Int.ofNat l)++[(10,.bool false)]),an::H))) aQ [(ay 5 l z,none),(bc k b full,none)] H =
 (fun (Z0:av)=>Tr.reqP (Z0=Z0∧an::H=an::H) (Tr.ok ((AV.int .i64 s,none),H))) [(0,ay 5 l z),(1,AV.slcT none (Row.M [aM.arr .i64 b k]) 1 k full),(5,AV.int .i64 (Int.ofNat 0)),(6,AV.int .i64 (Int.ofNat 0))]:=by kernel_rfl
theorem RC:∀ b,(0,b) ∈ aV (bM Tryz.f27)→b=.loop (part Tryz.f27 [1,1,1,1,1,0,1,0,0]):=fM (by kernel_rfl)
theorem RD:∀ b,(0,b) ∈ aV (bM Tryz.f39)→b=.loop (part Tryz.f39 [1,1,0,1,0,0]):=fM (by kernel_rfl)
end Go.Eng
end
section
namespace Go.Eng
open Go.Proofs
theorem Oq {c k:Nat} {t:l9} {b y:Nat→Int} {full D:Bool} {j:Int} (ht:t.Ok (cd c)) (h:∀ H,cd c (.fn 71) [bc k b full,GA (aY y j)] H=some (.bool D,H)):(iS t 71 (OC k b full y j D)).Ok (cd c):=by
 refine dY ht (fun args p v hg hp H=>?_)
 unfold OC at hg
 simp only[nP] at hg
 obtain ⟨rfl,rfl⟩:=hg
 rw[hp];exact h H
theorem Lp {c f:Nat} {t:l9} {B:AV} {e:Int} (ht:t.Ok (cd c)) (h:∀ H,cd c (.fn f) [B] H=some (.int .i64 e,H)):(iS t f (NH B e)).Ok (cd c):=by
 refine dY ht (fun args p v hg hp H=>?_)
 unfold NH at hg
 simp only[nP] at hg
 obtain ⟨rfl,rfl⟩:=hg
 rw[hp];exact h H
theorem Ot {c l k:Nat} {t:l9} {z b:Nat→Int} {full D:Bool} {j:Int} (ht:t.Ok (cd c)) (h:∀ H,cd c (.fn 73) [ay 5 l z,bc k b full,.int .i64 j] H=some (.bool D,H)):(iS t 73 (OD l z k b full j D)).Ok (cd c):=by
 refine dY ht (fun args p v hg hp H=>?_)
 unfold OD at hg
 simp only[nP] at hg
 obtain ⟨rfl,rfl⟩:=hg
 rw[hp];exact h H
noncomputable def l8 (z:Nat→Int) (k:Nat) (b:Nat→Int):Nat→Int
 | 0=>0
 | j+1=>if vG z b k j=true then l8 z k b j+z (j*5+4) else l8 z k b j
noncomputable def NM (l:Nat) (z:Nat→Int) (k:Nat) (b:Nat→Int):AV:=if bD l z≠0 then .tup [.int .i64 0,.int .i64 (bD l z)] else if DD k b≠0 then .tup [.int .i64 0,.int .i64 (DD k b)] else .tup [.int .i64 (l8 z k b l),.int .i64 0]
theorem Bx {l:Nat} {z:Nat→Int} (h:bD l z=0) (k:Nat) (b:Nat→Int):∀ j,j≤l→0≤l8 z k b j∧l8 z k b j≤j*100000
 | 0,_=>by simp[l8]
 | j+1,hj=>by
   obtain ⟨hl,hb⟩:=bI h
   have:=hb j (by omega)
   have ih:=Bx h k b j (by omega)
   unfold l8
   split<;>omega
theorem OI {k:Nat} {b:Nat→Int} (h:DD k b=0):k≤14:=by
 unfold DD at h
 by_cases hk:14<k
 · rw[if_pos hk] at h;cases h
 · omega
section
variable (n l k:Nat) (z b:Nat→Int) (full:Bool) (H:aa)
theorem Ls {l:Nat} (hl:l≤14) (z b:Nat→Int) (k j:Nat) (hj:j<l):gB (fun q=>Ce (aY (oY z l) (j:Int)) (b q)) k=vG z b k j:=by
 have e7:aw 0 (j:Int) 7=j*7:=by rw[bA];omega
 have h5:aY (oY z l) (j:Int) 5=bE z j:=by show oY z l (ak (aw 0 (j:Int) 7) 5)=_;rw[a7,e7];exact nK z (by omega) (by omega)
 have h6:aY (oY z l) (j:Int) 6=bG z j:=by show oY z l (ak (aw 0 (j:Int) 7) 6)=_;rw[a7,e7];exact nK z (by omega) (by omega)
 unfold vG Ce sf
 rw[h5,h6]
theorem Kt {l:Nat} {z:Nat→Int} (h:bD l z=0):qV l z=.tup [.ptrT (some 0) (.G [ay 7 l (oY z l)]) 0,.int .i64 0]:=by unfold qV;rw[if_pos h];rfl
theorem Ks {l:Nat} {z:Nat→Int} (h:¬ bD l z=0):qV l z=.tup [.nilp,.int .i64 (bD l z)]:=by unfold qV;rw[if_neg h]
theorem TK (h:bD l z=0) (hk:k≤1000):exec (bu (n+3) 27 48) (.block 0 (.loop (part Tryz.f27 [1,1,1,1,1,0,1,0,0]))) (xp l k z (oY z l) b full 0 0) (an::H)=some (.normal,xp l k z (oY z l) b full (l8 z k b l) (Int.ofNat l)++[(28,.bool false)],an::H):=by
 obtain ⟨hl,hb⟩:=bI h
 refine jz 0 (fun j=>xp l k z (oY z l) b full (l8 z k b j) (j:Int)) (fun _=>an::H) l (xp l k z (oY z l) b full (l8 z k b l) (Int.ofNat l)++[(28,.bool false)],an::H) (by omega) (fun j hj=>?_) ?_
 · have hc:∀ H,cd (n+3) (.fn 71) [bc k b full,GA (aY (oY z l) (j:Int))] H=some (.bool (vG z b k j),H):=fun H=>by rw[← Ls hl.2 z b k j hj];exact RV n k b full H _ hk
   have hw:=Bx h k b j (by omega)
   have hz:=hb j hj
   have hs:l8 z k b (j+1)=if vG z b k j=true then l8 z k b j+z (j*5+4) else l8 z k b j:=rfl
   refine aE (t27 (n+3) l k z (oY z l) b full H (l8 z k b j) (j:Int) (vG z b k j)) (cg _ _ (Oq (aO _) hc)) (af _ _) (ag _ _) ?_
   have e7:aw 0 (j:Int) 7=j*7:=by rw[bA];omega
   have e5:aw 0 (j:Int) 5=j*5:=by rw[bA];omega
   have e4:ak (j*5) 4=j*5+4:=by rw[a7]
   have ea:aS .i64 (l8 z k b j) (z (j*5+4))=l8 z k b j+z (j*5+4):=by rw[cD];exact cq (by omega) (by omega)
   rw[iu (by omega),e7,e5,e4,ea,hs]
   cases vG z b k j with
   | true =>
     rw[if_pos rfl]
     repeat' first | (refine Tr.al (fun hc=>?_) (fun hc=>?_)<;>(try simp (disch:=omega) only[nV,nW] at hc)<;>try omega) | (refine Tr.bj ?_ ?_;· (try simp (disch:=omega) only[nV,nW]);try omega) | (refine Tr.aB ?_ ?_;· first | exact trivial | rfl | exact ⟨rfl,rfl⟩ | exact ⟨rfl,rfl,rfl⟩ | (simp (disch:=omega) only[nV,nW];done) | ((try simp (disch:=omega) only[nV,nW]);omega)) | fail
     all_goals first
      | exact Tr.ao ⟨rfl,by kernel_rfl⟩
      | fail
   | false =>
     rw[if_neg (by decide)]
     repeat' first | (refine Tr.al (fun hc=>?_) (fun hc=>?_)<;>(try simp (disch:=omega) only[nV,nW] at hc)<;>try omega) | (refine Tr.bj ?_ ?_;· (try simp (disch:=omega) only[nV,nW]);try omega) | (refine Tr.aB ?_ ?_;· first | exact trivial | rfl | exact ⟨rfl,rfl⟩ | exact ⟨rfl,rfl,rfl⟩ | (simp (disch:=omega) only[nV,nW];done) | ((try simp (disch:=omega) only[nV,nW]);omega)) | fail
     all_goals first
      | exact Tr.ao ⟨rfl,by kernel_rfl⟩
      | fail
 · obtain ⟨x,h1,rfl⟩:=aE (Q:=fun x=>x=(.exit 0,xp l k z (oY z l) b full (l8 z k b l) (Int.ofNat l)++[(28,.bool false)],an::H)) (Qs (n+3) l k z (oY z l) b full H (l8 z k b l) (Int.ofNat l)) (aC _) (af _ _) (ag _ _) (by
    refine Tr.al (fun hc=>?_) (fun hc=>Tr.ao rfl)
    simp (disch:=omega) only[nV,nW] at hc;omega)
   exact h1
theorem Rl:cd (n+11) (.fn 27) [ay 5 l z,bc k b full] H=some (NM l z k b,H):=by
 have hc:∀ k H,cd (n+10+k) (.fn 52) [ay 5 l z] H=some (qV l z,H):=fun k H=>by rw[show n+10+k=n+k+10 by omega];exact Ob _ l z H
 have h70:∀ q H,cd (n+10+q) (.fn 70) [bc k b full] H=some (.int .i64 (DD k b),H):=fun q H=>by rw[show n+10+q=n+5+q+5 by omega];exact RU _ k b full H
 unfold NM
 by_cases h:bD l z=0
 · rw[Kt h] at hc
   rw[if_neg (fun x=>x h)]
   by_cases h2:DD k b=0
   · rw[if_neg (fun x=>x h2)]
     rw[h2] at h70
     have hx:=TK (n+7) l k z b full H h (by have:=OI h2;omega)
     refine aX (n:=n+10) Tryz.func27 rfl rfl rfl (Ug (n+10) l k z (oY z l) b full H (l8 z k b l)) (eP _ (n+10) 0 (fun k=>Lp (Dj (aO _) (hc k)) (h70 k))) (bg (af _ _) RC (fun x hy=>by rw[← Tr.ab hy];simp only[dG.st,aF];exact hx)) (ag _ _) ?_
     exact wF
   · rw[if_pos h2]
     refine aX (n:=n+10) Tryz.func27 rfl rfl rfl (QJ (n+10) l k z (oY z l) b full H (DD k b)) (eP _ (n+10) 0 (fun k=>Lp (Dj (aO _) (hc k)) (h70 k))) (eC (af _ _) 0) (ag _ _) ?_
     exact wF
 · rw[Ks h] at hc
   rw[if_pos h]
   refine aX (n:=n+10) Tryz.func27 rfl rfl rfl (QI (n+10) l k z b full H (bD l z)) (eP _ (n+10) 0 (fun k=>Dj (aO _) (hc k))) (eC (af _ _) 0) (ag _ _) ?_
   exact wF
end
end Go.Eng
end
section
namespace Go.Eng
open Go.Proofs
section
variable (n l k:Nat) (z b:Nat→Int) (full:Bool) (H:aa)
theorem RQ (h:bD l z=0) (hk:k≤1000):cd (n+5) (.fn 39) [ay 5 l z,bc k b full] H=some (.int .i64 (l8 z k b l),H):=by
 obtain ⟨hl,hb⟩:=bI h
 have hx:=jz (n:=n+4) (f:=39) (nt:=25) (c:=part Tryz.f39 [1,1,0,1,0,0]) 0 (fun j=>AO l k z b full (l8 z k b j) (j:Int)) (fun _=>an::H) l (AO l k z b full (l8 z k b l) (Int.ofNat l)++[(10,.bool false)],an::H) (by omega) (fun j hj=>?_) ?_
 · refine aX (n:=n+4) Tryz.func39 rfl rfl rfl (Ui (n+4) l k z b full H (l8 z k b l)) (aC _) (bg (af _ _) RD (fun x hy=>by rw[← Tr.ab hy];simp only[dG.st,aF];exact hx)) (ag _ _) ?_
   exact wF
 · have hc:∀ H,cd (n+4) (.fn 73) [ay 5 l z,bc k b full,.int .i64 (j:Int)] H=some (.bool (vG z b k j),H):=fun H=>Oh n l k z b H j full h hj hk
   have hw:=Bx h k b j (by omega)
   have hz:=hb j hj
   have hs:l8 z k b (j+1)=if vG z b k j=true then l8 z k b j+z (j*5+4) else l8 z k b j:=rfl
   refine aE (t39 (n+4) l k z b full H (l8 z k b j) (j:Int) (vG z b k j)) (cg _ _ (Ot (aO _) hc)) (af _ _) (ag _ _) ?_
   have e5:aw 0 (j:Int) 5=j*5:=by rw[bA];omega
   have e4:ak (j*5) 4=j*5+4:=by rw[a7]
   have ea:aS .i64 (l8 z k b j) (z (j*5+4))=l8 z k b j+z (j*5+4):=by rw[cD];exact cq (by omega) (by omega)
   rw[iu (by omega),e5,e4,ea,hs]
   cases vG z b k j with
   | true =>
     rw[if_pos rfl]
     exact wF
   | false =>
     rw[if_neg (by decide)]
     exact wF
 · obtain ⟨x,h1,rfl⟩:=aE (Q:=fun x=>x=(.exit 0,AO l k z b full (l8 z k b l) (Int.ofNat l)++[(10,.bool false)],an::H)) (Qt (n+4) l k z b full H (l8 z k b l) (Int.ofNat l)) (aC _) (af _ _) (ag _ _) (by
    refine Tr.al (fun hc=>?_) (fun hc=>Tr.ao rfl)
    simp (disch:=omega) only[nV,nW] at hc;omega)
   exact h1
end
end Go.Eng
end
section
namespace Go.Eng
open Go.Proofs
noncomputable def gX (A:List AV) (V:AV):List AV→Option (Prop×AV):=fun x=>some (x=A,V)
noncomputable def tX (t:l9) (f:FuncId) (A:List AV) (V:AV):l9:=iS t f (gX A V)
theorem bZ {c f:Nat} {t:l9} {A:List AV} {V:AV} (ht:t.Ok (cd c)) (h:∀ H,cd c (.fn f) A H=some (V,H)):(tX t f A V).Ok (cd c):=by
 refine dY ht (fun args p v hg hp H=>?_)
 unfold gX at hg
 simp only[nP] at hg
 obtain ⟨rfl,rfl⟩:=hg
 rw[hp];exact h H
theorem Ou {c:Nat} {t:l9} (h:0<c) (ht:t.Ok (cd c)):(iS t 15 LJ).Ok (cd c):=by
 obtain ⟨m,rfl⟩:∃ m,c=m+1:=⟨c-1,by omega⟩
 exact Ov ht
section
variable (n l k:Nat) (z b:Nat→Int) (full:Bool) (H:aa)
end
end Go.Eng
end
section
namespace Go.Eng
open Go.Proofs
end Go.Eng
end
section
namespace Go.Eng
open Go.Proofs
theorem Hp (A:List Int):((List.range A.length).map fun q=>bn A (0+q))=A:=by
 apply List.ext_getElem (by simp)
 intro i h1 h2
 simp only[List.getElem_map,List.getElem_range,Nat.zero_add,tJ,List.getD_eq_getElem?_getD,List.getElem?_eq_getElem h2,Option.getD_some]
theorem KF (A:List Int):Ei jr (bn A) 0 A.length=bn (jr A):=by
 funext x
 have hl:(jr A).length=A.length:=List.length_mergeSort A
 unfold Ei
 rw[Hp,tJ,tJ]
 by_cases h:x<A.length
 · rw[if_pos (by omega),Nat.sub_zero]
 · rw[if_neg (by omega),List.getD_eq_getElem?_getD,List.getD_eq_getElem?_getD,List.getElem?_eq_none (by omega),List.getElem?_eq_none (by omega)]
theorem Iu (L:List Int):(jr L).length=L.length:=List.length_mergeSort L
end Go.Eng
end
section
namespace Go.Eng
open Go.Proofs
section
variable (n l k:Nat) (z b:Nat→Int) (H:aa)
end
end Go.Eng
end
