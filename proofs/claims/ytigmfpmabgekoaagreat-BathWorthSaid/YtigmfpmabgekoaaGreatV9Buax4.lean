/- Bath: prices: their contract. -/
import Derived.Test.YtigmfpmabgekoaaGreatV9Bu4x9
import Derived.Test.YtigmfpmabgekoaaGreatV9Bp1x7
set_option linter.unusedVariables false
set_option linter.unusedSimpArgs false
set_option maxRecDepth 100000
section
namespace Go.Eng
open Go.Proofs
structure NP (l:Nat) (z:Nat→Int) (lam:Int) (p:Nat→Int):Prop where
 rg:∀ i,i<l→0≤p i∧p i≤cF z i
 sum:∀ x,fG l (bE z) (bG z) p x≤lam
 dual:∃ b,oS l (bE z) (bG z) (cF z) lam p b
theorem BT {N:Nat} {lo hi w p:Nat→Int} {lam:Int} (h:∀ i,i<N→p i=w i) (b:Int):oS N lo hi w lam p b:=fun Z _=>⟨[],List.nodup_nil,fun x h=>(List.not_mem_nil h).elim,fun x h=>(List.not_mem_nil h).elim,fun i hi h2=>by have:=h i hi;omega,fun i _ _ _ x h=>(List.not_mem_nil h).elim⟩
theorem qb {l:Nat} {lo hi p:Nat→Int} {lam:Int} (hl:0≤lam) (hp:∀ i,i<l→0≤p i) (h:∀ i,i<l→lo i≤hi i→fG l lo hi p (lo i)≤lam) (x:Int):fG l lo hi p x≤lam:=by
 by_cases hc:∃ i,i<l∧bH lo hi x i=true
 · obtain ⟨i0,a,b⟩:=hc
   obtain ⟨i,i1,i2,i3⟩:=tG (fun i=>bH lo hi x i=true) (fun i=>- lo i) (List.range l) ⟨i0,by simpa using a,b⟩
   have i1:i<l:=by simpa using i1
   have e:=gr.1 i2
   refine Int.le_trans (kd l (fun k hk=>?_)) (h i i1 (by omega))
   by_cases c:bH lo hi x k=true
   · have c2:=gr.1 c
     have c3:- lo i≤- lo k:=i3 k (by simpa using hk) c
     rw[if_pos c,if_pos (gr.2 (by omega))]
     exact Int.le_refl _
   · rw[if_neg c]
     split
     · exact hp k hk
     · exact Int.le_refl _
 · have:fG l lo hi p x=0:=mY (fun i hi=>if_neg (fun h=>hc ⟨i,hi,h⟩))
   omega
theorem I4 {l:Nat} {z P:Nat→Int} {lam:Int} (h:bD l z=0) (hne:dl (fw z) l≠[]) (hl:0≤lam) (j:Nat):∀ d i,i<l→yi l z lam P (j+d) i≤yi l z lam P j i
 | 0,i,_=>Int.le_refl _
 | d+1,i,hi=>by
   have ih:=I4 h hne hl (P:=P) j d i hi
   have:=(s6 (y:=P (j+d)) h hne hl (fun i hi=>(CC h hne hl (P:=P) (j+d) i hi).1)).le i hi
   show w7 l z lam (P (j+d)) (yi l z lam P (j+d)) i≤_
   omega
theorem Mj {l:Nat} {z P:Nat→Int} {lam:Int} (h:bD l z=0) (hl:0≤lam) (hP:∀ i,i<(bS l z).length→P i=(bS l z).getD i 0):NP l z lam (yi l z lam P (bS l z).length)∧((bS l z).length≠0→dl (fw z) l≠[]):=by
 obtain ⟨P1,P2,P3⟩:=ue hP
 have hne:(bS l z).length≠0→dl (fw z) l≠[]:=fun hm e=>by
  obtain ⟨i,i1,i2,_⟩:=P3 0 (by omega)
  have:(i:Int) ∈ dl (fw z) l:=(qt _ _ _).2 ⟨i,rfl,i1,by unfold fw;rw[if_pos i2]⟩
  rw[e] at this;cases this
 refine ⟨?_,hne⟩
 generalize (bS l z).length=m at *
 rcases Nat.eq_zero_or_pos m with hm | hm
 · subst hm
   have hp:∀ i,i<l→yi l z lam P 0 i=cF z i:=fun i hi=>if_pos hi
   refine ⟨fun i hi=>by rw[hp i hi];exact ⟨uG h i hi,Int.le_refl _⟩,qb hl (fun i hi=>by rw[hp i hi];exact uG h i hi) (fun i hi hc=>?_),⟨0,BT hp 0⟩⟩
   obtain ⟨j,hj,_⟩:=P2 i hi hc
   omega
 · have hn:=hne (by omega)
   have rg:=fun j=>CC h hn hl (P:=P) j
   refine ⟨rg m,qb hl (fun i hi=>(rg m i hi).1) (fun i hi hc=>?_),?_⟩
   · obtain ⟨j,hj,e⟩:=P2 i hi hc
     rw[← e]
     have c:=(s6 (y:=P j) h hn hl (fun i hi=>(rg j i hi).1)).sum
     refine Int.le_trans (kd l (fun k hk=>?_)) c
     have:=I4 h hn hl (P:=P) (j+1) (m-(j+1)) k hk
     rw[show j+1+(m-(j+1))=m by omega] at this
     have:yi l z lam P m k≤w7 l z lam (P j) (yi l z lam P j) k:=this
     split
     · exact this
     · exact Int.le_refl _
   · have go:∀ j,j<m→oS l (bE z) (bG z) (cF z) lam (yi l z lam P (j+1)) (P j+1):=by
      intro j
      induction j with
      | zero=>intro _;exact vH (BT (fun i hi=>if_pos hi) (P 0)) (s6 (y:=P 0) h hn hl (fun i hi=>(rg 0 i hi).1))
      | succ j ih =>
        intro hj
        have h1:=ih (by omega)
        have h2:=P1 j (j+1) (by omega) hj
        exact vH (Dp h1 (by omega)) (s6 (y:=P (j+1)) h hn hl (fun i hi=>(rg (j+1) i hi).1))
     have:=go (m-1) (by omega)
     rw[show m-1+1=m by omega] at this
     exact ⟨_,this⟩
theorem RW {l:Nat} {z:Nat→Int} {lam:Int} (h:bD l z=0) (hl0:0≤lam) (hlam:lam≤2000000):∃ p:Nat→Int,NP l z lam p∧∀ n s H,cd (n+9) (.fn 80) [fT s l (oY z l),.int .i64 lam] H=some (bc l p (dS l l),H):=by
 obtain ⟨hl,hz⟩:=bI h
 obtain ⟨P,hP,h81⟩:=Lk l z h
 obtain ⟨hok,hne⟩:=Mj (lam:=lam) h hl0 hP
 have hm:=xK h
 refine ⟨_,hok,fun n s H=>?_⟩
 have hN:fc (Int.ofNat l)=l:=by rw[iA];rfl
 have ha:=PK (n+8) s l z lam H h
 by_cases hm0:(bS l z).length=0
 · rw[if_pos hm0] at h81
   rw[hm0]
   have e0:yi l z lam P 0=sC z l:=rfl
   rw[e0]
   have hx:exec (bu (n+8) 80 91) (.rangeFunc (.tmp 42) #[43] vY zh) qz (ke s l (oY z l) lam l (sC z l) [oP s l (oY z l)]::H)=some (.normal,qz,ke s l (oY z l) lam l (sC z l) [oP s l (oY z l),(0,.dead)]::H) :=
    jj (cx:=bu (n+8) 80 91) (l:=KC) (f:=.tmp 42) (ps:=#[43]) (fr:=qz) (H:=ke s l (oY z l) lam l (sC z l) [oP s l (oY z l)]::H) (g:=112) (a:=[]) (b:=[.ptrT (some 0) (.G [.nils]) 0]) rfl rfl rfl (JB (n+7) 0 _) rfl rfl rfl
   generalize sC z l=o at *
   refine aX (n:=n+8) Tryz.func80 rfl rfl rfl (QX (n+8) s l (oY z l) o lam H) (cg _ _ (bZ (aO _) (fun H=>h81 n (s+1) H))) (bg (af _ _) Lg (fun x hx2=>by rw[← Tr.ab hx2];simp only[dG.st,aF];rw[hN];exact ha)) (oG (ag _ _) (fun f ps a b _ hm x hx2=>by
    rw[Ry] at hm
    simp only[List.mem_cons,Prod.mk.injEq,List.not_mem_nil,or_false] at hm
    obtain ⟨rfl,rfl,rfl,rfl⟩:=hm
    rw[← Tr.ab hx2];simp only[dG.st,aF];rw[hN];exact hx)) ?_
   rw[hN]
   simp only[ij]
   exact wF
 · rw[if_neg hm0] at h81
   have hn:=hne hm0
   have hf:gB (fun _=>false) (bS l z).length=false:=by
    cases e:gB (fun _=>false) (bS l z).length with
    | false=>rfl
    | true=>obtain ⟨i,_,h2⟩:=(dv _ _).1 e;cases h2
   have hc:=Lj (n+7) 0 (bS l z).length P (fun j=>ke s l (oY z l) lam l (yi l z lam P j) [oP s l (oY z l),(0,.loop (lW (bS l z).length P))]::H) (fun _=>false) (by omega) (fun j hj=>Qg (n+2) s l (bS l z).length z P lam H (yi l z lam P j) (P j) h hn hl0 hlam (fun i hi=>CC h hn hl0 (P:=P) j i hi))
   rw[hf,if_neg (by simp)] at hc
   generalize (bS l z).length=m at *
   have hx:exec (bu (n+8) 80 91) (.rangeFunc (.tmp 42) #[43] vY zh) (vP m P) (ke s l (oY z l) lam l (sC z l) [oP s l (oY z l)]::H)=some (.normal,vP m P,ke s l (oY z l) lam l (yi l z lam P m) [oP s l (oY z l),(0,.dead)]::H) :=
    jj (cx:=bu (n+8) 80 91) (l:=lW m P) (f:=.tmp 42) (ps:=#[43]) (fr:=vP m P) (H:=ke s l (oY z l) lam l (sC z l) [oP s l (oY z l)]::H) (g:=112) (a:=[]) (b:=[.ptrT (some 0) (.G [bc m P false]) 0]) rfl rfl rfl hc rfl rfl rfl
   generalize yi l z lam P m=o2 at *
   generalize sC z l=o at *
   refine aX (n:=n+8) Tryz.func80 rfl rfl rfl (Ur (n+8) s l m (oY z l) o o2 lam P H) (cg _ _ (bZ (aO _) (fun H=>h81 n (s+1) H))) (bg (af _ _) Lg (fun x hx2=>by rw[← Tr.ab hx2];simp only[dG.st,aF];rw[hN];exact ha)) (oG (ag _ _) (fun f ps a b _ hm x hx2=>by
    rw[Ry] at hm
    simp only[List.mem_cons,Prod.mk.injEq,List.not_mem_nil,or_false] at hm
    obtain ⟨rfl,rfl,rfl,rfl⟩:=hm
    rw[← Tr.ab hx2];simp only[dG.st,aF];rw[hN];exact hx)) ?_
   rw[hN]
   simp only[ij]
   exact wF
end Go.Eng
end
section
namespace Go.Eng
open Go.Proofs
noncomputable def LH (l:Nat) (z:Nat→Int) (a:Int):av:=[(0,ay 5 l z),(6,.ptr 0 0 0 0),(7,.ptr 0 1 0 0),(8,.ptr 0 2 0 0),(9,.ptr 0 3 0 0),(10,.ptr 0 4 0 0),(12,.int .i64 a)]
noncomputable def jX (l k:Nat) (y p:Nat→Int) (fl:Bool) (lam e:Int):bx:=⟨false,[(0,.row (.I .i64 [lam])),(0,.row (.G [bc k p fl])),(0,.row (.I .i64 [0])),(0,.row (.I .i64 [e])),(0,.row (.G [oO l y])),(0,.row (.I .i64 [lam]))]⟩
noncomputable def iV (l k:Nat) (z p:Nat→Int) (fl:Bool) (a j:Int):av:=LH l z a++[(43,bc k p fl),(44,.int .i64 (Int.ofNat k)),(45,.int .i64 j)]
noncomputable def IQ (m:Nat) (P:Nat→Int) (a x:Int):av:=[(6,.ptr 2 0 0 0),(7,.ptr 2 1 0 0),(8,.ptr 2 2 0 0),(9,.ptr 2 3 0 0),(10,.ptr 2 4 0 0),(12,.int .i64 a),(70,qi 2 (bc m P false)),(71,.int .i64 x)]
noncomputable def IS (x:Int):av:=[(6,.ptr 2 0 0 0),(7,.ptr 2 1 0 0),(8,.ptr 2 2 0 0),(9,.ptr 2 3 0 0),(10,.ptr 2 4 0 0),(15,.int .i64 x)]
noncomputable def dy (l k:Nat) (y p:Nat→Int) (fl:Bool) (lam v e:Int) (b:Nat×aj):bx:=⟨false,[(0,.row (.I .i64 [lam])),(0,.row (.G [bc k p fl])),(0,.row (.I .i64 [v])),(0,.row (.I .i64 [e])),(0,.row (.G [oO l y])),(0,.row (.I .i64 [lam])),b]⟩
noncomputable def tm (m:Nat→Int) (a i:Int):av:=[(6,.ptr 2 0 0 0),(7,.ptr 2 1 0 0),(8,.ptr 2 2 0 0),(9,.ptr 2 3 0 0),(16,.int .i64 a),(74,.agg (.M [.arr .i64 m 14])),(75,.int .i64 i)]
noncomputable def nG (m:Nat) (P:Nat→Int) (a:Int):av:=[(6,.ptr 0 0 0 0),(7,.ptr 0 1 0 0),(8,.ptr 0 2 0 0),(9,.ptr 0 3 0 0),(10,.ptr 0 4 0 0),(12,.int .i64 a),(70,qi 0 (bc m P false))]
noncomputable def xt (a:Int):av:=[(6,.ptr 0 0 0 0),(7,.ptr 0 1 0 0),(8,.ptr 0 2 0 0),(9,.ptr 0 3 0 0),(10,.ptr 0 4 0 0),(12,.int .i64 a),(70,qi 0 .nils)]
theorem MJ (n l k:Nat) (z y p:Nat→Int) (fl:Bool) (lam a j:Int) (H:aa):aK (bu (n+4) 44 92) (il aI n 4) aP aQ (part Tryz.f44 [1,1,1,1,0,1,0,0]) (hints (iV l k z p fl a j)) (jX l k y p fl lam 0::H) =
 (fun (Z0:bx)=>((fun (Z1:Nat×aj)=>Tr.ite (cn j (Int.ofNat k)) (Tr.req (cU j k) (Tr.req (bB (aw 0 j 1) k) (Tr.req (cU j l) (Tr.req (bB (ak (aw 0 j 5) 4) (aH l 5)) (Tr.req (cU (Int.ofNat 0) 1) (Tr.ite (cn (p (aw 0 j 1)) (Int.ofNat 0)) (Tr.ok (Ex.ret,[(8,AV.ptr 0 2 0 0,none),(9,AV.ptr 0 3 0 0,none)],Z0::H)) (Tr.ite (cn (z (ak (aw 0 j 5) 4)) (p (aw 0 j 1))) (Tr.ok (Ex.ret,[(8,AV.ptr 0 2 0 0,none),(9,AV.ptr 0 3 0 0,none)],Z0::H)) (Tr.req (cU j l) (Tr.req (bB (ak (aw 0 j 5) 4) (aH l 5)) (Tr.ok (Ex.normal,[(0,ay 5 l z,none),(6,AV.ptr 0 0 0 0,none),(7,AV.ptr 0 1 0 0,none),(8,AV.ptr 0 2 0 0,none),(9,AV.ptr 0 3 0 0,none),(10,AV.ptr 0 4 0 0,none),(12,AV.int .i64 (aS .i64 a (bQ .i64 (z (ak (aw 0 j 5) 4)) (p (aw 0 j 1)))),none),(43,AV.slcT none (Row.M [aM.arr .i64 p k]) 1 k fl,none),(44,AV.int .i64 (Int.ofNat k),none),(45,AV.int .i64 (aS .i64 j (Int.ofNat 1)),none)],{ lock:=false,bs:=[(0,aj.row (Row.I .i64 [lam])),(0,aj.row (Row.G [AV.slcT none (Row.M [aM.arr .i64 p k]) 1 k fl])),Z1,Z1,(0,aj.row (Row.G [AV.ptrT (some 0) (Row.G [ay 7 l y]) 0])),(0,aj.row (Row.I .i64 [lam])),(0,aj.row (Row.I .i64 [p (aw 0 j 1)]))] } :: H))))))))))) (Tr.ok (Ex.exit 1,[(0,ay 5 l z,none),(6,AV.ptr 0 0 0 0,none),(7,AV.ptr 0 1 0 0,none),(8,AV.ptr 0 2 0 0,none),(9,AV.ptr 0 3 0 0,none),(10,AV.ptr 0 4 0 0,none),(12,AV.int .i64 a,none),(43,AV.slcT none (Row.M [aM.arr .i64 p k]) 1 k fl,none),(44,AV.int .i64 (Int.ofNat k),none),(45,AV.int .i64 j,none),(46,AV.bool false,some 1)],{ lock:=false,bs:=[(0,aj.row (Row.I .i64 [lam])),(0,aj.row (Row.G [AV.slcT none (Row.M [aM.arr .i64 p k]) 1 k fl])),Z1,Z1,(0,aj.row (Row.G [AV.ptrT (some 0) (Row.G [ay 7 l y]) 0])),(0,aj.row (Row.I .i64 [lam]))] } :: H))) (0,aj.row (Row.I .i64 [Int.ofNat 0])))) { lock:=false,bs:=[(0,aj.row (Row.I .i64 [lam])),(0,aj.row (Row.G [AV.slcT none (Row.M [aM.arr .i64 p k]) 1 k fl])),(0,aj.row (Row.I .i64 [Int.ofNat 0])),(0,aj.row (Row.I .i64 [Int.ofNat 3])),(0,aj.row (Row.G [AV.ptrT (some 0) (Row.G [ay 7 l y]) 0])),(0,aj.row (Row.I .i64 [lam])),(0,aj.row (Row.I .i64 [p (aw 0 j 1)]))] }:=by kernel_rfl
theorem Qu (n m:Nat) (P:Nat→Int) (a x:Int) (H:aa):aK (jy n 44 92 2 6) (il aI n 0) aP aQ (part Tryz.f44 [1,1,1,1,1,0,1,0,0]) (hints (IQ m P a x)) (an::an::H) =
 Tr.ok (Ex.normal,[(6,AV.ptr 2 0 0 0,none),(7,AV.ptr 2 1 0 0,none),(8,AV.ptr 2 2 0 0,none),(9,AV.ptr 2 3 0 0,none),(10,AV.ptr 2 4 0 0,none),(15,AV.int .i64 x,none)],an::an::H):=by kernel_rfl
theorem ML (n l k:Nat) (z y p m:Nat→Int) (fl:Bool) (lam a i:Int) (L:dF) (H:aa):aK (jy n 44 92 2 6) (il aI n 0) aP aQ (part Tryz.f44 [1,1,1,1,1,0,1,0,1,0,1,0,1,0,0]) (hints (tm m a i)) (an::an::dy l k y p fl lam 0 0 (0,.loop L)::H) =
 (fun (Z0:bx)=>Tr.ite (cn i (Int.ofNat 14)) (Tr.req (cU i 14) (Tr.req (bB (aw 0 i 1) 14) (Tr.ite (c5 (m (aw 0 i 1)) (Int.ofNat 1)) (Tr.req (cU i k) (Tr.req (bB (aw 0 i 1) k) (Tr.ok (Ex.normal,[(6,AV.ptr 2 0 0 0,none),(7,AV.ptr 2 1 0 0,none),(8,AV.ptr 2 2 0 0,none),(9,AV.ptr 2 3 0 0,none),(16,AV.int .i64 (aS .i64 a (p (aw 0 i 1))),none),(74,AV.agg (Row.M [aM.arr .i64 m 14]),none),(75,AV.int .i64 (aS .i64 i (Int.ofNat 1)),none)],an::an::Z0::H)))) (Tr.ok (Ex.normal,[(6,AV.ptr 2 0 0 0,none),(7,AV.ptr 2 1 0 0,none),(8,AV.ptr 2 2 0 0,none),(9,AV.ptr 2 3 0 0,none),(16,AV.int .i64 a,none),(74,AV.agg (Row.M [aM.arr .i64 m 14]),none),(75,AV.int .i64 (aS .i64 i (Int.ofNat 1)),none)],an::an::Z0::H))))) (Tr.ok (Ex.exit 5,[(6,AV.ptr 2 0 0 0,none),(7,AV.ptr 2 1 0 0,none),(8,AV.ptr 2 2 0 0,none),(9,AV.ptr 2 3 0 0,none),(16,AV.int .i64 a,none),(74,AV.agg (Row.M [aM.arr .i64 m 14]),none),(75,AV.int .i64 i,none),(76,AV.bool false,some 1)],an::an::Z0::H))) { lock:=false,bs:=[(0,aj.row (Row.I .i64 [lam])),(0,aj.row (Row.G [AV.slcT none (Row.M [aM.arr .i64 p k]) 1 k fl])),(0,aj.row (Row.I .i64 [Int.ofNat 0])),(0,aj.row (Row.I .i64 [Int.ofNat 0])),(0,aj.row (Row.G [AV.ptrT (some 0) (Row.G [ay 7 l y]) 0])),(0,aj.row (Row.I .i64 [lam])),(0,aj.loop L)] }:=by kernel_rfl
theorem MM (n l k:Nat) (z y p m:Nat→Int) (fl:Bool) (lam a x:Int) (L:dF) (H:aa):aK (jy n 44 92 2 6) (il (tX aI 56 [fT 2 l y,.int .i64 x] (.agg (.M [.arr .i64 m 14]))) n 0) (dJ aP 5 (tm m (Int.ofNat 0) (Int.ofNat 0)) (an::an::dy l k y p fl lam 0 0 (0,.loop L)::H) (.ok (.normal,hints (tm m a (Int.ofNat 14)++[(76,.bool false)]),an::an::dy l k y p fl lam 0 0 (0,.loop L)::H))) aQ (part Tryz.f44 [1,1,1,1,1,0,1,0,1]) (hints (IS x)) (an::an::dy l k y p fl lam 0 0 (0,.loop L)::H) =
 (fun (Z0:bx)=>((fun (Z1:av)=>Tr.reqP ([AV.ptrT (some 2) (Row.G [ay 7 l y]) 0,AV.int .i64 x]=[AV.ptrT (some 2) (Row.G [ay 7 l y]) 0,AV.int .i64 x]) (Tr.reqP (Z1=Z1∧an::an::Z0::H=an::an::Z0::H) (Tr.ite (cn lam a) (Tr.ok (Ex.ret,[],an::an::{ lock:=false,bs:=[(0,aj.row (Row.I .i64 [lam])),(0,aj.row (Row.G [AV.slcT none (Row.M [aM.arr .i64 p k]) 1 k fl])),(0,aj.row (Row.I .i64 [Int.ofNat 0])),(0,aj.row (Row.I .i64 [Int.ofNat 14])),(0,aj.row (Row.G [AV.ptrT (some 0) (Row.G [ay 7 l y]) 0])),(0,aj.row (Row.I .i64 [lam])),(0,aj.loop L)] } :: H)) (Tr.ok (Ex.normal,[(8,AV.ptr 2 2 0 0,none),(9,AV.ptr 2 3 0 0,none),(90,AV.bool false,some 1)],an::an::Z0::H))))) [(6,AV.ptr 2 0 0 0),(7,AV.ptr 2 1 0 0),(8,AV.ptr 2 2 0 0),(9,AV.ptr 2 3 0 0),(16,AV.int .i64 (Int.ofNat 0)),(74,AV.agg (Row.M [aM.arr .i64 m 14])),(75,AV.int .i64 (Int.ofNat 0))])) { lock:=false,bs:=[(0,aj.row (Row.I .i64 [lam])),(0,aj.row (Row.G [AV.slcT none (Row.M [aM.arr .i64 p k]) 1 k fl])),(0,aj.row (Row.I .i64 [Int.ofNat 0])),(0,aj.row (Row.I .i64 [Int.ofNat 0])),(0,aj.row (Row.G [AV.ptrT (some 0) (Row.G [ay 7 l y]) 0])),(0,aj.row (Row.I .i64 [lam])),(0,aj.loop L)] }:=by kernel_rfl
theorem RA (n l k m:Nat) (z y p P:Nat→Int) (fl b1 b2:Bool) (q lam a x e2:Int) (H:aa):bt Tryz.prog (cd (n+4)) 100000 44 Tryz.f44 (KtB.kt 44) (il (tX (tX aI 78 [ay 5 l z,.int .i64 q] (.tup [oO l y,.int .i64 0])) 81 [oO l y] (qi 0 (bc m P false))) n 4) (dJ aP 1 (iV l k z p fl (nD .i64 q lam) (Int.ofNat 0)) (jX l k y p fl lam 0::H) (.ite b1 (.ok (.ret,hints [(8,.ptr 0 2 0 0),(9,.ptr 0 3 0 0)],dy l k y p fl lam 0 3 (0,.row (.I .i64 [x]))::H)) (.ok (.normal,hints (iV l k z p fl a (Int.ofNat k)++[(46,.bool false)]),jX l k y p fl lam 0::H)))) (I6 aQ (fun _=>true) (nG m P a) (jX l k y p fl lam 0::H) (.ite b2 (.ok (.ret,hints (nG m P a),dy l k y p fl lam 0 14 (0,.dead)::H)) (.ok (.normal,hints (nG m P a),dy l k y p fl lam 0 0 (0,.dead)::H)))) [(ay 5 l z,none),(.int .i64 q,none),(.int .i64 lam,none),(bc k p fl,none)] H =
 (fun (Z0:bx)=>((fun (Z1:av)=>((fun (Z2:av)=>((fun (Z3:AV×Option Nat)=>Tr.reqP ([ay 5 l z,AV.int .i64 q]=[ay 5 l z,AV.int .i64 q]) (Tr.ite (bL (c5 (Int.ofNat 0) (Int.ofNat 0))) (Tr.ok ((AV.tup [AV.int .i64 (Int.ofNat 0),AV.int .i64 (Int.ofNat 0)],none),H)) (Tr.ite (bL (c5 (Int.ofNat k) (Int.ofNat l))) (Tr.ok ((AV.tup [AV.int .i64 (Int.ofNat 0),AV.int .i64 (Int.ofNat 15)],none),H)) (Tr.req (cU (Int.ofNat 0) 1) (Tr.ite (cn lam (Int.ofNat 0)) (Tr.ok (Z3,H)) (Tr.ite (cn (Int.ofNat 2000000) lam) (Tr.ok (Z3,H)) (Tr.reqP (Z1=Z1∧Z0::H=Z0::H) (Tr.ite b1 (Tr.ok (Z3,H)) (Tr.reqP ([AV.ptrT (some 0) (Row.G [ay 7 l y]) 0]=[AV.ptrT (some 0) (Row.G [ay 7 l y]) 0]) (Tr.reqP (Z2=Z2∧Z0::H=Z0::H) (Tr.ite b2 (Tr.ok ((AV.tup [AV.int .i64 (Int.ofNat 0),AV.int .i64 (Int.ofNat 14)],none),H)) (Tr.ok ((AV.tup [AV.int .i64 a,AV.int .i64 (Int.ofNat 0)],none),H))))))))))))) (AV.tup [AV.int .i64 (Int.ofNat 0),AV.int .i64 (Int.ofNat 3)],none))) [(6,AV.ptr 0 0 0 0),(7,AV.ptr 0 1 0 0),(8,AV.ptr 0 2 0 0),(9,AV.ptr 0 3 0 0),(10,AV.ptr 0 4 0 0),(12,AV.int .i64 a),(70,AV.fn (Fn.func 112) [] [AV.ptrT (some 0) (Row.G [AV.slcT none (Row.M [aM.arr .i64 P m]) 1 m false]) 0])])) [(0,ay 5 l z),(6,AV.ptr 0 0 0 0),(7,AV.ptr 0 1 0 0),(8,AV.ptr 0 2 0 0),(9,AV.ptr 0 3 0 0),(10,AV.ptr 0 4 0 0),(12,AV.int .i64 (nD .i64 q lam)),(43,AV.slcT none (Row.M [aM.arr .i64 p k]) 1 k fl),(44,AV.int .i64 (Int.ofNat k)),(45,AV.int .i64 (Int.ofNat 0))])) { lock:=false,bs:=[(0,aj.row (Row.I .i64 [lam])),(0,aj.row (Row.G [AV.slcT none (Row.M [aM.arr .i64 p k]) 1 k fl])),(0,aj.row (Row.I .i64 [Int.ofNat 0])),(0,aj.row (Row.I .i64 [Int.ofNat 0])),(0,aj.row (Row.G [AV.ptrT (some 0) (Row.G [ay 7 l y]) 0])),(0,aj.row (Row.I .i64 [lam]))] }:=by kernel_rfl
theorem QN (n l k:Nat) (z y p:Nat→Int) (fl b1:Bool) (q lam a x:Int) (H:aa):bt Tryz.prog (cd (n+4)) 100000 44 Tryz.f44 (KtB.kt 44) (il (tX (tX aI 78 [ay 5 l z,.int .i64 q] (.tup [oO l y,.int .i64 0])) 81 [oO l y] (qi 0 .nils)) n 4) (dJ aP 1 (iV l k z p fl (nD .i64 q lam) (Int.ofNat 0)) (jX l k y p fl lam 0::H) (.ite b1 (.ok (.ret,hints [(8,.ptr 0 2 0 0),(9,.ptr 0 3 0 0)],dy l k y p fl lam 0 3 (0,.row (.I .i64 [x]))::H)) (.ok (.normal,hints (iV l k z p fl a (Int.ofNat k)++[(46,.bool false)]),jX l k y p fl lam 0::H)))) (I6 aQ (fun _=>true) (xt a) (jX l k y p fl lam 0::H) (.ok (.normal,hints (xt a),dy l k y p fl lam 0 0 (0,.dead)::H))) [(ay 5 l z,none),(.int .i64 q,none),(.int .i64 lam,none),(bc k p fl,none)] H =
 (fun (Z0:bx)=>((fun (Z1:av)=>((fun (Z2:av)=>((fun (Z3:AV×Option Nat)=>Tr.reqP ([ay 5 l z,AV.int .i64 q]=[ay 5 l z,AV.int .i64 q]) (Tr.ite (bL (c5 (Int.ofNat 0) (Int.ofNat 0))) (Tr.ok ((AV.tup [AV.int .i64 (Int.ofNat 0),AV.int .i64 (Int.ofNat 0)],none),H)) (Tr.ite (bL (c5 (Int.ofNat k) (Int.ofNat l))) (Tr.ok ((AV.tup [AV.int .i64 (Int.ofNat 0),AV.int .i64 (Int.ofNat 15)],none),H)) (Tr.req (cU (Int.ofNat 0) 1) (Tr.ite (cn lam (Int.ofNat 0)) (Tr.ok (Z3,H)) (Tr.ite (cn (Int.ofNat 2000000) lam) (Tr.ok (Z3,H)) (Tr.reqP (Z1=Z1∧Z0::H=Z0::H) (Tr.ite b1 (Tr.ok (Z3,H)) (Tr.reqP ([AV.ptrT (some 0) (Row.G [ay 7 l y]) 0]=[AV.ptrT (some 0) (Row.G [ay 7 l y]) 0]) (Tr.reqP (Z2=Z2∧Z0::H=Z0::H) (Tr.ok ((AV.tup [AV.int .i64 a,AV.int .i64 (Int.ofNat 0)],none),H)))))))))))) (AV.tup [AV.int .i64 (Int.ofNat 0),AV.int .i64 (Int.ofNat 3)],none))) [(6,AV.ptr 0 0 0 0),(7,AV.ptr 0 1 0 0),(8,AV.ptr 0 2 0 0),(9,AV.ptr 0 3 0 0),(10,AV.ptr 0 4 0 0),(12,AV.int .i64 a),(70,AV.fn (Fn.func 112) [] [AV.ptrT (some 0) (Row.G [AV.nils]) 0])])) [(0,ay 5 l z),(6,AV.ptr 0 0 0 0),(7,AV.ptr 0 1 0 0),(8,AV.ptr 0 2 0 0),(9,AV.ptr 0 3 0 0),(10,AV.ptr 0 4 0 0),(12,AV.int .i64 (nD .i64 q lam)),(43,AV.slcT none (Row.M [aM.arr .i64 p k]) 1 k fl),(44,AV.int .i64 (Int.ofNat k)),(45,AV.int .i64 (Int.ofNat 0))])) { lock:=false,bs:=[(0,aj.row (Row.I .i64 [lam])),(0,aj.row (Row.G [AV.slcT none (Row.M [aM.arr .i64 p k]) 1 k fl])),(0,aj.row (Row.I .i64 [Int.ofNat 0])),(0,aj.row (Row.I .i64 [Int.ofNat 0])),(0,aj.row (Row.G [AV.ptrT (some 0) (Row.G [ay 7 l y]) 0])),(0,aj.row (Row.I .i64 [lam]))] }:=by kernel_rfl
theorem QO (n l k:Nat) (z y p:Nat→Int) (fl b1:Bool) (A:AV) (q lam a x:Int) (H:aa):bt Tryz.prog (cd (n+4)) 100000 44 Tryz.f44 (KtB.kt 44) (il (tX (tX aI 78 [ay 5 l z,.int .i64 q] (.tup [oO l y,.int .i64 0])) 81 [oO l y] (qi 0 A)) n 4) (dJ aP 1 (iV l k z p fl (nD .i64 q lam) (Int.ofNat 0)) (jX l k y p fl lam 0::H) (.ite b1 (.ok (.ret,hints [(8,.ptr 0 2 0 0),(9,.ptr 0 3 0 0)],dy l k y p fl lam 0 3 (0,.row (.I .i64 [x]))::H)) (.ok (.normal,hints (iV l k z p fl a (Int.ofNat k)++[(46,.bool false)]),jX l k y p fl lam 0::H)))) aQ [(ay 5 l z,none),(.int .i64 q,none),(.int .i64 lam,none),(bc k p fl,none)] H =
 (fun (Z0:bx)=>((fun (Z1:av)=>((fun (Z2:AV×Option Nat)=>Tr.reqP ([ay 5 l z,AV.int .i64 q]=[ay 5 l z,AV.int .i64 q]) (Tr.ite (bL (c5 (Int.ofNat 0) (Int.ofNat 0))) (Tr.ok ((AV.tup [AV.int .i64 (Int.ofNat 0),AV.int .i64 (Int.ofNat 0)],none),H)) (Tr.ite (bL (c5 (Int.ofNat k) (Int.ofNat l))) (Tr.ok ((AV.tup [AV.int .i64 (Int.ofNat 0),AV.int .i64 (Int.ofNat 15)],none),H)) (Tr.req (cU (Int.ofNat 0) 1) (Tr.ite (cn lam (Int.ofNat 0)) (Tr.ok (Z2,H)) (Tr.ite (cn (Int.ofNat 2000000) lam) (Tr.ok (Z2,H)) (Tr.reqP (Z1=Z1∧Z0::H=Z0::H) (Tr.ite b1 (Tr.ok (Z2,H)) (Tr.reqP ([AV.ptrT (some 0) (Row.G [ay 7 l y]) 0]=[AV.ptrT (some 0) (Row.G [ay 7 l y]) 0]) Tr.bad))))))))) (AV.tup [AV.int .i64 (Int.ofNat 0),AV.int .i64 (Int.ofNat 3)],none))) [(0,ay 5 l z),(6,AV.ptr 0 0 0 0),(7,AV.ptr 0 1 0 0),(8,AV.ptr 0 2 0 0),(9,AV.ptr 0 3 0 0),(10,AV.ptr 0 4 0 0),(12,AV.int .i64 (nD .i64 q lam)),(43,AV.slcT none (Row.M [aM.arr .i64 p k]) 1 k fl),(44,AV.int .i64 (Int.ofNat k)),(45,AV.int .i64 (Int.ofNat 0))])) { lock:=false,bs:=[(0,aj.row (Row.I .i64 [lam])),(0,aj.row (Row.G [AV.slcT none (Row.M [aM.arr .i64 p k]) 1 k fl])),(0,aj.row (Row.I .i64 [Int.ofNat 0])),(0,aj.row (Row.I .i64 [Int.ofNat 0])),(0,aj.row (Row.G [AV.ptrT (some 0) (Row.G [ay 7 l y]) 0])),(0,aj.row (Row.I .i64 [lam]))] }:=by kernel_rfl
theorem Nu (n l k:Nat) (z y p:Nat→Int) (fl:Bool) (q lam:Int) (H:aa):bt Tryz.prog (cd (n+4)) 100000 44 Tryz.f44 (KtB.kt 44) (il (tX aI 78 [ay 5 l z,.int .i64 q] (.tup [oO l y,.int .i64 0])) n 4) (lY aP 1) aQ [(ay 5 l z,none),(.int .i64 q,none),(.int .i64 lam,none),(bc k p fl,none)] H =
 Tr.reqP ([ay 5 l z,AV.int .i64 q]=[ay 5 l z,AV.int .i64 q]) (Tr.ite (bL (c5 (Int.ofNat 0) (Int.ofNat 0))) (Tr.ok ((AV.tup [AV.int .i64 (Int.ofNat 0),AV.int .i64 (Int.ofNat 0)],none),H)) (Tr.ite (bL (c5 (Int.ofNat k) (Int.ofNat l))) (Tr.ok ((AV.tup [AV.int .i64 (Int.ofNat 0),AV.int .i64 (Int.ofNat 15)],none),H)) (Tr.req (cU (Int.ofNat 0) 1) (Tr.ite (cn lam (Int.ofNat 0)) (Tr.ok ((AV.tup [AV.int .i64 (Int.ofNat 0),AV.int .i64 (Int.ofNat 3)],none),H)) (Tr.ite (cn (Int.ofNat 2000000) lam) (Tr.ok ((AV.tup [AV.int .i64 (Int.ofNat 0),AV.int .i64 (Int.ofNat 3)],none),H)) Tr.bad))))):=by kernel_rfl
end Go.Eng
end
section
namespace Go.Eng
open Go.Proofs
noncomputable def iT (k:Nat) (P:Nat→Int) (j:Int):av:=[(0,.yld 1 6),(5,bc k P false),(6,.int .i64 (Int.ofNat k)),(7,.int .i64 j)]
theorem ME (n k:Nat) (P:Nat→Int) (b:Bool) (G G':aa) (j x:Int):aK (bu n 112 16) (Mw (il aI n 0) 1 6 [.int .i64 x] (an::G) (.ok (.bool b,an::G'))) aP aQ (part Tryz.f112 [1,0,0]) (hints (iT k P j)) (an::G) =
 (fun (Z0:Nat×AV×Option Nat)=>Tr.ite (cn j (Int.ofNat k)) (Tr.req (cU j k) (Tr.req (bB (aw 0 j 1) k) (Tr.reqP ([AV.int .i64 (P (aw 0 j 1))]=[AV.int .i64 x]∧an::G=an::G) (Tr.ite (bL b) (Tr.ok (Ex.ret,[(0,AV.yld 1 6,none),Z0,(6,AV.int .i64 (Int.ofNat k),none),(7,AV.int .i64 j,none),(14,AV.bool true,some 1)],an::G')) (Tr.ok (Ex.normal,[(0,AV.yld 1 6,none),Z0,(6,AV.int .i64 (Int.ofNat k),none),(7,AV.int .i64 (aS .i64 j (Int.ofNat 1)),none)],an::G')))))) (Tr.ok (Ex.exit 0,[(0,AV.yld 1 6,none),Z0,(6,AV.int .i64 (Int.ofNat k),none),(7,AV.int .i64 j,none),(8,AV.bool false,some 1)],an::G))) (5,AV.slcT none (Row.M [aM.arr .i64 P k]) 1 k false,none):=by kernel_rfl
theorem KV (n k:Nat) (P:Nat→Int) (G:aa) (j:Int):aK (bu n 112 16) (il aI n 0) aP aQ (part Tryz.f112 [1,0,0]) (hints (iT k P j)) (an::G) =
 Tr.ite (cn j (Int.ofNat k)) (Tr.req (cU j k) (Tr.req (bB (aw 0 j 1) k) Tr.bad)) (Tr.ok (Ex.exit 0,[(0,AV.yld 1 6,none),(5,AV.slcT none (Row.M [aM.arr .i64 P k]) 1 k false,none),(6,AV.int .i64 (Int.ofNat k),none),(7,AV.int .i64 j,none),(8,AV.bool false,some 1)],an::G)):=by kernel_rfl
theorem Jf (n s k:Nat) (P:Nat→Int) (b:Bool) (x:Int) (G G':aa):bt Tryz.prog (cd n) 100000 112 Tryz.f112 (KtB.kt 112) (il aI n 0) (dJ aP 0 (iT k P (Int.ofNat 0)) (an::G) (.ite b (.ok (.ret,hints (iT k P x++[(14,.bool true)]),an::G')) (.ok (.normal,hints (iT k P (Int.ofNat k)++[(8,.bool false)]),an::G')))) aQ [(.yld 0 6,none),(.ptrT (some s) (.G [bc k P false]) 0,none)] G =
 (fun (Z0:av)=>Tr.reqP (Z0=Z0∧an::G=an::G) (Tr.ite b (Tr.ok ((AV.tup [],none),G')) (Tr.ok ((AV.tup [],none),G')))) [(0,AV.yld 1 6),(5,AV.slcT none (Row.M [aM.arr .i64 P k]) 1 k false),(6,AV.int .i64 (Int.ofNat k)),(7,AV.int .i64 (Int.ofNat 0))]:=by kernel_rfl
theorem K0 (n s:Nat) (G:aa):bt Tryz.prog (cd n) 100000 112 Tryz.f112 (KtB.kt 112) (il aI n 0) aP aQ [(.yld 0 6,none),(.ptrT (some s) (.G [.nils]) 0,none)] G =
 Tr.ok ((AV.tup [],none),G):=by kernel_rfl
section
variable (n s k:Nat) (P:Nat→Int)
theorem Li (St:Nat→aa) (p:Nat→Bool) (hk:k≤1000) (hr:∀ j,j<k→(∀ i,i<j→p i=false)→cd n (.round 1 6) [.int .i64 (P j)] (an::St j)=some (.bool (!p j),an::St (j+1))) :
 cd (n+1) (.fn 112) [.yld 0 6,.ptrT (some s) (.G [bc k P false]) 0] (St 0)=some (.tup [],St (if gB p k=true then fN p k 0+1 else k)):=by
 have hx:=EU (n:=n) (f:=112) (nt:=16) (c:=part Tryz.f112 [1,0,0]) 0 (fun j=>iT k P (j:Int)) (fun j=>an::St j) k p (fun j=>(iT k P (j:Int)++[(14,.bool true)],an::St (j+1))) (iT k P (Int.ofNat k)++[(8,.bool false)],an::St k) (by omega) (fun j hj hb=>?_) ?_
 · cases c:gB p k with
   | true =>
     rw[c] at hx
     rw[if_pos rfl]
     refine aX (n:=n) Tryz.func112 rfl rfl rfl (Jf n s k P true ((fN p k 0:Nat):Int) (St 0) (St (fN p k 0+1))) (aC _) (bg (af _ _) Eu (fun x h=>by
      have h:(Tr.ok (Ex.ret,hints (iT k P ((fN p k 0:Nat):Int)++[(14,.bool true)]),an::St (fN p k 0+1)):Tr dG).run=some x:=h
      rw[← Tr.ab h];simp only[dG.st,aF];exact hx)) (ag _ _) ?_
     exact Tr.aB ⟨rfl,rfl⟩ (Tr.ao ⟨rfl,rfl⟩)
   | false =>
     rw[c] at hx
     rw[if_neg (by simp)]
     refine aX (n:=n) Tryz.func112 rfl rfl rfl (Jf n s k P false 0 (St 0) (St k)) (aC _) (bg (af _ _) Eu (fun x h=>by
      have h:(Tr.ok (Ex.normal,hints (iT k P (Int.ofNat k)++[(8,.bool false)]),an::St k):Tr dG).run=some x:=h
      rw[← Tr.ab h];simp only[dG.st,aF];exact hx)) (ag _ _) ?_
     exact Tr.aB ⟨rfl,rfl⟩ (Tr.ao ⟨rfl,rfl⟩)
 · refine aE (ME n k P (!p j) (St j) (St (j+1)) (j:Int) (P j)) (Bf (aC n) (fun x hy=>by rw[← Tr.ab hy];exact hr j hj hb)) (af _ _) (ag _ _) ?_
   rw[DG,iu (by omega)]
   generalize St (j+1)=G' at *
   generalize St j=G at *
   cases p j with
   | true =>
     simp only[if_true,Bool.not_true]
     exact wF
   | false =>
     simp only[Bool.false_eq_true,if_false,Bool.not_false]
     exact wF
 · obtain ⟨x,h1,rfl⟩:=aE (Q:=fun x=>x=(.exit 0,iT k P (Int.ofNat k)++[(8,.bool false)],an::St k)) (KV n k P (St k) (Int.ofNat k)) (aC n) (af _ _) (ag _ _) (by
    refine Tr.al (fun hc=>?_) (fun hc=>Tr.ao rfl)
    simp (disch:=omega) only[nV,nW] at hc;omega)
   exact h1
theorem JA (H:aa):cd (n+1) (.fn 112) [.yld 0 6,.ptrT (some s) (.G [.nils]) 0] H=some (.tup [],H):=by
 refine aX (n:=n) Tryz.func112 rfl rfl rfl (K0 n s H) (aC _) (af _ _) (ag _ _) ?_
 exact wF
end
end Go.Eng
end
section
namespace Go.Eng
open Go.Proofs
theorem GO:∀ b,(1,b) ∈ aV (bM Tryz.f44)→b=.loop (part Tryz.f44 [1,1,1,1,0,1,0,0]):=fM (by kernel_rfl)
theorem Le:∀ b,(5,b) ∈ aV (part Tryz.f44 [1,1,1,1,1,0,1,0,1])→b=.loop (part Tryz.f44 [1,1,1,1,1,0,1,0,1,0,1,0,1,0,0]):=fM (by kernel_rfl)
def GB (z p:Nat→Int) (j:Nat):Bool:=decide (p j<0) || decide (cF z j<p j)
noncomputable def uM (z p:Nat→Int) (a:Int):Nat→Int
 | 0=>a
 | j+1=>aS .i64 (uM z p a j) (bQ .i64 (cF z j) (p j))
theorem AG {l:Nat} {z p:Nat→Int} {a:Int} (h:bD l z=0) (ha:0≤a∧a≤28000000) (hp:∀ i,i<l→0≤p i∧p i≤cF z i):∀ j,j≤l→uM z p a j=a+me j (cF z) p∧0≤me j (cF z) p∧me j (cF z) p≤(j:Int)*100000
 | 0,_=>⟨by show a=a+0;omega,Int.le_refl _,by show (0:Int)≤((0:Nat):Int)*100000;omega⟩
 | j+1,hj=>by
   obtain ⟨i1,i2,i3⟩:=AG h ha hp j (by omega)
   obtain ⟨hl,hz⟩:=bI h
   have hw:=hz j (by omega)
   have hpj:=hp j (by omega)
   have e:me (j+1) (cF z) p=me j (cF z) p+(cF z j-p j):=rfl
   have hwj:cF z j=z (j*5+4):=rfl
   have e1:bQ .i64 (cF z j) (p j)=cF z j-p j:=by rw[cG,cq (by omega) (by omega)]
   refine ⟨?_,by omega,by omega⟩
   show aS .i64 (uM z p a j) (bQ .i64 (cF z j) (p j))=_
   rw[e1,i1,cD,cq (by omega) (by omega)]
   omega
section
variable (n l:Nat) (z p:Nat→Int) (fl:Bool) (lam:Int) (H:aa)
theorem LS (a:Int) (hl:l≤14):exec (bu (n+4) 44 92) (.block 1 (.loop (part Tryz.f44 [1,1,1,1,0,1,0,0]))) (iV l l z p fl a (Int.ofNat 0)) (jX l l (oY z l) p fl lam 0::H)=some (cond (gB (GB z p) l) (.ret,[(8,.ptr 0 2 0 0),(9,.ptr 0 3 0 0)],dy l l (oY z l) p fl lam 0 3 (0,.row (.I .i64 [p (fN (GB z p) l 0)]))::H) (.normal,iV l l z p fl (uM z p a l) (Int.ofNat l)++[(46,.bool false)],jX l l (oY z l) p fl lam 0::H)):=by
 refine rn 1 (fun j=>iV l l z p fl (uM z p a j) (j:Nat)) (fun _=>jX l l (oY z l) p fl lam 0::H) l (GB z p) (fun j=>([(8,.ptr 0 2 0 0),(9,.ptr 0 3 0 0)],dy l l (oY z l) p fl lam 0 3 (0,.row (.I .i64 [p j]))::H)) (iV l l z p fl (uM z p a l) (Int.ofNat l)++[(46,.bool false)],jX l l (oY z l) p fl lam 0::H) (by omega) (fun j hj=>?_) ?_
 · have ej:aS .i64 (j:Int) (Int.ofNat 1)=((j+1:Nat):Int):=iu (by omega)
   have e1:aw 0 (j:Int) 1=j:=by rw[bA];omega
   have e5:aw 0 (j:Int) 5=j*5:=by rw[bA];omega
   have ew:z (j*5+4)=cF z j:=rfl
   have hb:uM z p a (j+1)=aS .i64 (uM z p a j) (bQ .i64 (cF z j) (p j)):=rfl
   refine aE (MJ n l l z (oY z l) p fl lam (uM z p a j) (j:Nat) H) (eA n 4) (af _ _) (ag _ _) ?_
   rw[ej,e1,e5]
   simp only[a7]
   rw[ew,hb]
   clear hb ew e1 e5 ej
   have ho:GB z p j=(decide (p j<0) || decide (cF z j<p j)):=rfl
   rw[ho]
   generalize hpj:p j=pj at *
   generalize cF z j=wj at *
   generalize aS .i64 (uM z p a j) (bQ .i64 wj pj)=b2
   by_cases c1:pj<0
   · simp only[decide_eq_true c1,Bool.true_or,if_true]
     repeat' first | (refine Tr.al (fun hc=>?_) (fun hc=>?_)<;>(try simp (disch:=omega) only[nV,nW] at hc)<;>(try (exfalso;omega))) | (refine Tr.bj ?_ ?_;· ((try simp (disch:=omega) only[nV,nW]);try omega)) | (refine Tr.aB ?_ ?_;· first | exact trivial | rfl | exact ⟨rfl,rfl⟩ | exact ⟨trivial,rfl⟩ | exact ⟨rfl,by assumption⟩ | exact ⟨trivial,by assumption⟩ | exact ⟨rfl,rfl,rfl⟩ | (simp (disch:=omega) only[nV,nW];done) | ((try simp (disch:=omega) only[nV,nW]);omega)) | fail
     all_goals first
      | (refine Tr.ao ?_;first | rfl | (subst hpj;rfl))
      | fail
   · by_cases c2:wj<pj
     · simp only[decide_eq_true c2,Bool.or_true,if_true]
       repeat' first | (refine Tr.al (fun hc=>?_) (fun hc=>?_)<;>(try simp (disch:=omega) only[nV,nW] at hc)<;>(try (exfalso;omega))) | (refine Tr.bj ?_ ?_;· ((try simp (disch:=omega) only[nV,nW]);try omega)) | (refine Tr.aB ?_ ?_;· first | exact trivial | rfl | exact ⟨rfl,rfl⟩ | exact ⟨trivial,rfl⟩ | exact ⟨rfl,by assumption⟩ | exact ⟨trivial,by assumption⟩ | exact ⟨rfl,rfl,rfl⟩ | (simp (disch:=omega) only[nV,nW];done) | ((try simp (disch:=omega) only[nV,nW]);omega)) | fail
       all_goals first
        | (refine Tr.ao ?_;first | rfl | (subst hpj;rfl))
        | fail
     · simp only[decide_eq_false c1,decide_eq_false c2,Bool.or_false,Bool.false_eq_true,if_false]
       exact wF
 · obtain ⟨x,h1,rfl⟩:=aE (Q:=fun x=>x=(.exit 1,iV l l z p fl (uM z p a l) (Int.ofNat l)++[(46,.bool false)],jX l l (oY z l) p fl lam 0::H)) (MJ n l l z (oY z l) p fl lam (uM z p a l) (Int.ofNat l) H) (eA n 4) (af _ _) (ag _ _) (by
    refine Tr.al (fun hc=>?_) (fun hc=>Tr.ao rfl)
    simp (disch:=omega) only[nV,nW] at hc;omega)
   exact h1
theorem PB (m:Nat→Int) (L:dF) (hm:∀ i,m i=1→i<l) (ho:∀ i,i<l→0≤p i∧p i≤100000) (hl:l≤14):exec (jy n 44 92 2 6) (.block 5 (.loop (part Tryz.f44 [1,1,1,1,1,0,1,0,1,0,1,0,1,0,0]))) (tm m (Int.ofNat 0) (Int.ofNat 0)) (an::an::dy l l (oY z l) p fl lam 0 0 (0,.loop L)::H)=some (.normal,tm m (nR m p 14) (Int.ofNat 14)++[(76,.bool false)],an::an::dy l l (oY z l) p fl lam 0 0 (0,.loop L)::H):=by
 refine Fb 5 (fun j=>tm m (nR m p j) (j:Nat)) (fun _=>an::an::dy l l (oY z l) p fl lam 0 0 (0,.loop L)::H) 14 (tm m (nR m p 14) (Int.ofNat 14)++[(76,.bool false)],an::an::dy l l (oY z l) p fl lam 0 0 (0,.loop L)::H) (by omega) (fun j hj=>?_) ?_
 · have ej:aS .i64 (j:Int) (Int.ofNat 1)=((j+1:Nat):Int):=iu (by omega)
   have e1:aw 0 (j:Int) 1=j:=by rw[bA];omega
   have hs:nR m p (j+1)=if m j=1 then nR m p j+p j else nR m p j:=rfl
   have hr:=x7 hm ho j
   refine lg (ML n l l z (oY z l) p m fl lam (nR m p j) (j:Nat) L H) (aC n) (af _ _) (ag _ _) ?_
   rw[ej,e1,hs]
   by_cases c:m j=1
   · have hjl:=hm j c
     have hoj:=ho j hjl
     have ea:aS .i64 (nR m p j) (p j)=nR m p j+p j:=by rw[cD,cq (by omega) (by omega)]
     rw[if_pos c,c,ea]
     exact wF
   · rw[if_neg c]
     have c2:c5 (m j) (Int.ofNat 1)=false:=by rw[b8];exact beq_eq_false_iff_ne.2 c
     rw[c2]
     exact wF
 · exact ml (ML n l l z (oY z l) p m fl lam (nR m p 14) (Int.ofNat 14) L H) (aC n) (af _ _) (ag _ _) (by
    refine Tr.al (fun hc=>?_) (fun hc=>Tr.ao rfl)
    simp (disch:=omega) only[nV,nW] at hc;omega)
end
end Go.Eng
end
