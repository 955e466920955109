/- Lay: plan: a turn's cells are picked. -/
import Derived.Test.YtoomemfhcbajoaaV7Lb23x4
set_option linter.unusedVariables false
set_option linter.unusedSimpArgs false
set_option maxRecDepth 100000
section
namespace Go.Eng
open Go.Proofs
noncomputable def eI (s l:Nat) (t:Nat→Int) (k:Nat) (d g:Nat→Int) (T:Int) (z f:Nat→Int) (hs:List Int→Bool) (gs:List Int→Int) (c:Nat) (b:Nat×aj):aV:=⟨false,[(0,.row (.G [f74 s l t k d g])),G4 T,(0,.row (.M [.arr .i64 z 30])),(0,.row (.M [.arr .i64 f 30])),(0,.fmap (.str 2) hs gs c),b]⟩
noncomputable def gx (s l:Nat) (t:Nat→Int) (k:Nat) (d g:Nat→Int) (T:Int) (z f:Nat→Int) (hs:List Int→Bool) (gs:List Int→Int) (c:Nat) (b b2:Nat×aj):aV:=⟨false,[(0,.row (.G [f74 s l t k d g])),G4 T,(0,.row (.M [.arr .i64 z 30])),(0,.row (.M [.arr .i64 f 30])),(0,.fmap (.str 2) hs gs c),b,b2]⟩
noncomputable def eG (y s l:Nat) (t:Nat→Int) (k:Nat) (d g:Nat→Int) (h:Int) (o:AV):ao:=[(0,.yld 1 y),(1,.ptrT (some 1) (.G [eA s l t k d g]) 0),(2,.ptrT none (.I .i64 [h]) 0),(6,.ptr 0 2 0 0),(7,.ptr 0 3 0 0),(8,.map 0 4),(10,.fn (.func 89) [] []),(11,o)]
noncomputable def K7 (P:(List Int→Bool)→(List Int→Int)→Nat→Prop) (a b:Int) (x:Bool) (args:List AV) (H:aa):Tr (AV×aa) :=
 match args with
 | [.map 0 4,.fn (.func 89) [] []]=>match H with
   | ⟨lk,b0::b1::b2::b3::(0,.fmap (.str 2) hs gs c)::bs⟩::r=>.reqP (P hs gs c) (.ok (.tup [.agg (.I .i64 [a,b]),.bool x],H))
   | _=>.bad
 | _=>.bad
theorem MZ (n y s l k:Nat) (t d g z f:Nat→Int) (hs:List Int→Bool) (gs:List Int→Int) (c:Nat) (h T:Int) (P:(List Int→Bool)→(List Int→Int)→Nat→Prop) (a b:Int) (x:Bool) (G:aa):aM (bp n 85 118) (il (jb aD 90 (K7 P a b x)) n 0) aK aL (part Try.f85 [1,1,1,1,1,1,1,0,0,1,0,1,0,0,0]) (hints (eG y s l t k d g h .nils)) (bS (s+1) l t k d g T z f hs gs c::G) =
 (fun (Z0:Row)=>((fun (Z1:Nat×aj)=>((fun (Z2:Nat×AV×Option Nat)=>Tr.ite (bQ (Int.ofNat 0) h) (Tr.reqP (P hs gs c) (Tr.ite (aY x) (Tr.ok (Ex.exit 4,[(0,AV.yld 1 y,none),Z2,(2,AV.ptrT none (Row.I .i64 [h]) 0,none),(6,AV.ptr 0 2 0 0,none),(7,AV.ptr 0 3 0 0,none),(8,AV.map 0 4,none),(10,AV.fn (Fn.func 89) [] [],none),(11,AV.nils,none),(12,AV.ptr 0 5 0 0,none),(68,AV.bool true,some 1)],{ lock:=false,bs:=[Z1,(0,aj.row (Row.I .i64 [T])),(0,aj.row (Row.M [ah.arr .i64 z 30])),(0,aj.row (Row.M [ah.arr .i64 f 30])),(0,aj.fmap (KK.str 2) hs gs c),(0,aj.row (Row.I .i64 [a,b]))] } :: G)) (Tr.req (iv 0 1 8) (Tr.req (cL 0 0) (Tr.req (iO 1 1) (Tr.ok (Ex.normal,[(0,AV.yld 1 y,none),Z2,(2,AV.ptrT none (Row.I .i64 [h]) 0,none),(6,AV.ptr 0 2 0 0,none),(7,AV.ptr 0 3 0 0,none),(8,AV.map 0 4,none),(10,AV.fn (Fn.func 89) [] [],none),(11,AV.slc 0 7 0 0 1 1 none,none)],{ lock:=false,bs:=[Z1,(0,aj.row (Row.I .i64 [T])),(0,aj.row (Row.M [ah.arr .i64 z 30])),(0,aj.row (Row.M [ah.arr .i64 f 30])),(0,aj.fmap (KK.str 2) (mF hs [a,b] false) (mH gs [a,b] (Int.ofNat 0)) (vl (hs [a,b]) c)),(0,aj.row (Row.I .i64 [a,b])),(0,aj.row (Row.I .i64 [b])),(0,aj.row (Row.M [ah.arr .i64 (aA [b]) 1]))] } :: G))))))) (Tr.ok (Ex.exit 4,[(0,AV.yld 1 y,none),Z2,(2,AV.ptrT none (Row.I .i64 [h]) 0,none),(6,AV.ptr 0 2 0 0,none),(7,AV.ptr 0 3 0 0,none),(8,AV.map 0 4,none),(10,AV.fn (Fn.func 89) [] [],none),(11,AV.nils,none),(60,AV.bool false,some 1)],{ lock:=false,bs:=[Z1,(0,aj.row (Row.I .i64 [T])),(0,aj.row (Row.M [ah.arr .i64 z 30])),(0,aj.row (Row.M [ah.arr .i64 f 30])),(0,aj.fmap (KK.str 2) hs gs c)] } :: G))) (1,AV.ptrT (some 1) (Row.G [AV.ptrT (some s) Z0 0]) 0,none))) (0,aj.row (Row.G [AV.fn (Fn.func 74) [AV.ptrT (some (Nat.succ s)) Z0 0] []])))) (Row.M [ah.one (AV.slcT none (Row.M [ah.arr .i64 t l]) 1 l false),ah.one (AV.slcT none (Row.M [ah.arr .i64 d k]) 1 k false),ah.arr .i64 g 30]):=by kernel_rfl
theorem Gp (n y s l k:Nat) (t d g z f:Nat→Int) (hs:List Int→Bool) (gs:List Int→Int) (c:Nat) (h T:Int) (P:(List Int→Bool)→(List Int→Int)→Nat→Prop) (a b:Int) (x:Bool) (v m:Nat) (o:Nat→Int) (G:aa):aM (bp n 85 118) (il (jb aD 90 (K7 P a b x)) n 0) aK aL (part Try.f85 [1,1,1,1,1,1,1,0,0,1,0,1,0,0,0]) (hints (eG y s l t k d g h (.slc 0 5 v 0 1 m none))) (eI (s+1) l t k d g T z f hs gs c (v,.row (.M [.arr .i64 o m]))::G) =
 (fun (Z0:Row)=>((fun (Z1:Nat×aj)=>((fun (Z2:Nat×AV×Option Nat)=>Tr.ite (bQ (Int.ofNat m) h) (Tr.reqP (P hs gs c) (Tr.ite (aY x) (Tr.ok (Ex.exit 4,[(0,AV.yld 1 y,none),Z2,(2,AV.ptrT none (Row.I .i64 [h]) 0,none),(6,AV.ptr 0 2 0 0,none),(7,AV.ptr 0 3 0 0,none),(8,AV.map 0 4,none),(10,AV.fn (Fn.func 89) [] [],none),(11,AV.slc 0 5 v 0 1 m none,none),(12,AV.ptr 0 6 0 0,none),(68,AV.bool true,some 1)],{ lock:=false,bs:=[Z1,(0,aj.row (Row.I .i64 [T])),(0,aj.row (Row.M [ah.arr .i64 z 30])),(0,aj.row (Row.M [ah.arr .i64 f 30])),(0,aj.fmap (KK.str 2) hs gs c),(v,aj.row (Row.M [ah.arr .i64 o m])),(0,aj.row (Row.I .i64 [a,b]))] } :: G)) (Tr.req (iv m 1 8) (Tr.req (cL 0 0) (Tr.req (iO 1 1) (Tr.req (cL v v) (Tr.req (cL (b9 0 m) m) (Tr.ok (Ex.normal,[(0,AV.yld 1 y,none),Z2,(2,AV.ptrT none (Row.I .i64 [h]) 0,none),(6,AV.ptr 0 2 0 0,none),(7,AV.ptr 0 3 0 0,none),(8,AV.map 0 4,none),(10,AV.fn (Fn.func 89) [] [],none),(11,AV.slc 0 5 (Nat.succ v) 0 1 (b9 m 1) none,none)],{ lock:=false,bs:=[Z1,(0,aj.row (Row.I .i64 [T])),(0,aj.row (Row.M [ah.arr .i64 z 30])),(0,aj.row (Row.M [ah.arr .i64 f 30])),(0,aj.fmap (KK.str 2) (mF hs [a,b] false) (mH gs [a,b] (Int.ofNat 0)) (vl (hs [a,b]) c)),(Nat.succ v,aj.row (Row.M [ah.arr .i64 (oD (dW o 0) m (aA [b])) (b9 m 1)])),(0,aj.row (Row.I .i64 [a,b])),(0,aj.row (Row.I .i64 [b]))] } :: G))))))))) (Tr.ok (Ex.exit 4,[(0,AV.yld 1 y,none),Z2,(2,AV.ptrT none (Row.I .i64 [h]) 0,none),(6,AV.ptr 0 2 0 0,none),(7,AV.ptr 0 3 0 0,none),(8,AV.map 0 4,none),(10,AV.fn (Fn.func 89) [] [],none),(11,AV.slc 0 5 v 0 1 m none,none),(60,AV.bool false,some 1)],{ lock:=false,bs:=[Z1,(0,aj.row (Row.I .i64 [T])),(0,aj.row (Row.M [ah.arr .i64 z 30])),(0,aj.row (Row.M [ah.arr .i64 f 30])),(0,aj.fmap (KK.str 2) hs gs c),(v,aj.row (Row.M [ah.arr .i64 o m]))] } :: G))) (1,AV.ptrT (some 1) (Row.G [AV.ptrT (some s) Z0 0]) 0,none))) (0,aj.row (Row.G [AV.fn (Fn.func 74) [AV.ptrT (some (Nat.succ s)) Z0 0] []])))) (Row.M [ah.one (AV.slcT none (Row.M [ah.arr .i64 t l]) 1 l false),ah.one (AV.slcT none (Row.M [ah.arr .i64 d k]) 1 k false),ah.arr .i64 g 30]):=by kernel_rfl
def bw (l:Nat) (z:Nat→Int) (w:Nat→Bool):Nat→List Nat×(Nat→Bool)
 | 0=>([],w)
 | m+1=>match kD z (bw l z w m).2 l with
   | none=>bw l z w m
   | some i=>((bw l z w m).1++[i],nq (bw l z w m).2 i)
def fh (l:Nat) (z:Nat→Int) (w:Nat→Bool) (m:Nat):List Int:=(bw l z w m).1.map fun (i:Nat)=>(i:Int)
section
variable {l:Nat} {z:Nat→Int} {w:Nat→Bool}
theorem fy {m i:Nat} (h:kD z (bw l z w m).2 l=some i):bw l z w (m+1)=((bw l z w m).1++[i],nq (bw l z w m).2 i):=by
 show (match kD z (bw l z w m).2 l with | none=>_ | some i=>_)=_
 rw[h]
theorem pr {m:Nat} (h:kD z (bw l z w m).2 l=none):bw l z w (m+1)=bw l z w m:=by
 show (match kD z (bw l z w m).2 l with | none=>_ | some i=>_)=_
 rw[h]
theorem mB:∀ H,∃ r,r≤H∧(∀ j,j<r→∃ i,kD z (bw l z w j).2 l=some i)∧bw l z w H=bw l z w r∧(r=H∨kD z (bw l z w r).2 l=none)
 | 0=>⟨0,Nat.le_refl _,fun j hj=>by omega,rfl,.inl rfl⟩
 | H + 1=>by
   obtain ⟨r,h1,h2,h3,h4⟩:=mB H
   cases hm:kD z (bw l z w H).2 l with
   | none =>
     refine ⟨r,by omega,h2,by rw[pr hm,h3],.inr ?_⟩
     rw[← h3];exact hm
   | some i =>
     rcases h4 with rfl | h4
     · refine ⟨r+1,by omega,fun j hj=>?_,rfl,.inl rfl⟩
       by_cases e:j=r
       · subst e;exact ⟨i,hm⟩
       · exact h2 j (by omega)
     · rw[← h3,hm] at h4;cases h4
theorem tB:∀ m,(∀ j,j<m→∃ i,kD z (bw l z w j).2 l=some i)→(fh l z w m).length=m
 | 0,_=>rfl
 | m+1,h=>by
   obtain ⟨i,hi⟩:=h m (by omega)
   have ih:=tB m (fun j hj=>h j (by omega))
   unfold fh at ih ⊢
   rw[List.length_map] at ih
   rw[fy hi,List.length_map,List.length_append,ih]
   rfl
theorem zB {m i:Nat} (h:kD z (bw l z w m).2 l=some i):fh l z w (m+1)=fh l z w m++[(i:Int)]:=by
 unfold fh
 rw[fy h,List.map_append]
 rfl
theorem mY {w:Nat→Bool} {i:Nat} (h:kD z w l=some i):i<l∧w i=true:=by
 have:=kj z w l
 rw[h] at this
 exact ⟨this.1,this.2.1⟩
end
def GJ (l:Nat) (z:Nat→Int) (w:Nat→Bool):(List Int→Bool)→(List Int→Int)→Nat→Prop:=fun hs gs c=>hs=hW l z w∧gs=gW l z w∧c=cn w l
theorem AQ {n:Nat} {l:Nat} {z:Nat→Int} {w:Nat→Bool} {a b:Int} {x:Bool} (h:Pu ((kD z w l).map fun i=>(z i,(i:Int)))=.tup [.agg (.I .i64 [a,b]),.bool x]):(jb aD 90 (K7 (GJ l z w) a b x)).Ok (cd (n+2)):=by
 refine jU (aB _) (fun args H x hx=>?_)
 unfold K7 at hx
 split at hx
 · split at hx
   · obtain ⟨⟨rfl,rfl,rfl⟩,h2⟩:=Tr.di hx
     rw[← Tr.ab h2,← h]
     obtain ⟨es,hE⟩:=RC l z w
     exact Rv n 4 _ rfl hE (Kc l z w)
   · exact (Tr.ae hx).elim
 · exact (Tr.ae hx).elim
noncomputable def NC:Nat→AV
 | 0=>.nils
 | q+1=>.slc 0 5 q 0 1 (q+1) none
noncomputable def s7 (s l:Nat) (t:Nat→Int) (k:Nat) (d g:Nat→Int) (T:Int) (z f:Nat→Int) (w:Nat→Bool):Nat→aV
 | 0=>bS s l t k d g T z f (hW l z w) (gW l z w) (cn w l)
 | q+1=>eI s l t k d g T z f (hW l z (bw l z w (q+1)).2) (gW l z (bw l z w (q+1)).2) (cn (bw l z w (q+1)).2 l) (q,.row (.M [.arr .i64 (aA (fh l z w (q+1))) (q+1)]))
section
variable (n y s l k:Nat) (t d g z f:Nat→Int) (h T:Int) (w:Nat→Bool) (G:aa)
theorem Po (i:Nat) (hi:kD z w l=some i) (hh:0<h):∃ x,exec (bp (n+2) 85 118) (part Try.f85 [1,1,1,1,1,1,1,0,0,1,0,1,0,0,0]) (eG y s l t k d g h .nils) (bS (s+1) l t k d g T z f (hW l z w) (gW l z w) (cn w l)::G)=some x∧(x.1=.normal∧tidy (al (bS (s+1) l t k d g T z f (hW l z w) (gW l z w) (cn w l)::G)) x.2.1 x.2.2=(eG y s l t k d g h (.slc 0 5 0 0 1 1 none),eI (s+1) l t k d g T z f (hW l z (nq w i)) (gW l z (nq w i)) (cn (nq w i) l) (0,.row (.M [.arr .i64 (aA [(i:Int)]) 1]))::G)):=by
 obtain ⟨hl,hw⟩:=mY hi
 refine aH (MZ (n+2) y s l k t d g z f (hW l z w) (gW l z w) (cn w l) h T (GJ l z w) (z i) (i:Int) true G) (aQ _ (n+2) (AQ (by rw[hi];rfl))) (af _ _) (ag _ _) ?_
 rw[← AS,← Fp,← EG (z:=z) hl hw]
 have hp:GJ l z w (hW l z w) (gW l z w) (cn w l):=⟨rfl,rfl,rfl⟩
 generalize GJ l z w=P at *
 generalize hW l z w=A at *
 generalize gW l z w=B at *
 generalize cn w l=C at *
 repeat' first | (refine Tr.bh (fun hc=>?_) (fun hc=>?_)<;>(try simp (disch:=omega) only[nV,nW,hp] at hc)<;>try omega) | (refine Tr.cj ?_ ?_;· (try simp (disch:=omega) only[nV,nW,hp]);try omega) | (refine Tr.bf ?_ ?_;· first | exact trivial | rfl | exact ⟨rfl,rfl⟩ | exact ⟨rfl,rfl,rfl⟩ | (simp (disch:=omega) only[nV,nW,hp];done) | ((try simp (disch:=omega) only[nV,nW,hp]);omega)) | fail
 all_goals first
  | exact Tr.ba ⟨rfl,rfl⟩
  | fail
theorem Pp (i q:Nat) (o:List Int) (ho:o.length=q+1) (hi:kD z w l=some i) (hh:(q+1:Nat)<h) (hq:q<1000):∃ x,exec (bp (n+2) 85 118) (part Try.f85 [1,1,1,1,1,1,1,0,0,1,0,1,0,0,0]) (eG y s l t k d g h (.slc 0 5 q 0 1 (q+1) none)) (eI (s+1) l t k d g T z f (hW l z w) (gW l z w) (cn w l) (q,.row (.M [.arr .i64 (aA o) (q+1)]))::G)=some x∧(x.1=.normal∧tidy (al (bS (s+1) l t k d g T z f (hW l z w) (gW l z w) (cn w l)::G)) x.2.1 x.2.2=(eG y s l t k d g h (.slc 0 5 (q+1) 0 1 (q+1+1) none),eI (s+1) l t k d g T z f (hW l z (nq w i)) (gW l z (nq w i)) (cn (nq w i) l) (q+1,.row (.M [.arr .i64 (aA (o++[(i:Int)])) (q+1+1)]))::G)):=by
 obtain ⟨hl,hw⟩:=mY hi
 refine aH (Gp (n+2) y s l k t d g z f (hW l z w) (gW l z w) (cn w l) h T (GJ l z w) (z i) (i:Int) true q (q+1) (aA o) G) (aQ _ (n+2) (AQ (by rw[hi];rfl))) (af _ _) (ag _ _) ?_
 have hap:=Ck o (i:Int)
 rw[ho] at hap
 have ea:b9 (q+1) 1=q+1+1:=bJ _ _
 rw[← AS,← Fp,← EG (z:=z) hl hw]
 simp only[hap,ea]
 have hp:GJ l z w (hW l z w) (gW l z w) (cn w l):=⟨rfl,rfl,rfl⟩
 generalize GJ l z w=P at *
 generalize hW l z w=A at *
 generalize gW l z w=B at *
 generalize cn w l=C at *
 generalize aA (o++[(i:Int)])=Y2 at *
 generalize aA o=Y at *
 repeat' first | (refine Tr.bh (fun hc=>?_) (fun hc=>?_)<;>(try simp (disch:=omega) only[nV,nW,hp] at hc)<;>try omega) | (refine Tr.cj ?_ ?_;· (try simp (disch:=omega) only[nV,nW,hp]);try omega) | (refine Tr.bf ?_ ?_;· first | exact trivial | rfl | exact ⟨rfl,rfl⟩ | exact ⟨rfl,rfl,rfl⟩ | (simp (disch:=omega) only[nV,nW,hp];done) | ((try simp (disch:=omega) only[nV,nW,hp]);omega)) | fail
 all_goals first
  | exact Tr.ba ⟨rfl,rfl⟩
  | fail
end
end Go.Eng
end
section
namespace Go.Eng
open Go.Proofs
noncomputable def fS (y s l:Nat) (t:Nat→Int) (k:Nat) (d g:Nat→Int) (h:Int) (m:Nat) (o:Nat→Int) (j:Int):ao:=[(0,.yld 1 y),(1,.ptrT (some 1) (.G [eA s l t k d g]) 0),(2,.ptrT none (.I .i64 [h]) 0),(6,.ptr 0 2 0 0),(7,.ptr 0 3 0 0),(8,.map 0 4),(10,.fn (.func 89) [] []),(11,cA m o false),(76,cA m o false),(77,.int .i64 (Int.ofNat m)),(78,.int .i64 j)]
theorem Jd (n y s l k:Nat) (t d g z f:Nat→Int) (hs:List Int→Bool) (gs:List Int→Int) (c:Nat) (h T j:Int) (v m:Nat) (o:Nat→Int) (G:aa):aM (bp n 85 118) (il aD n 0) aK aL (part Try.f85 [1,1,1,1,1,1,1,0,0,1,0,1,1,0,1,0,0]) (hints (fS y s l t k d g h m o j)) (eI (s+1) l t k d g T z f hs gs c (v,.dead)::G) =
 (fun (Z0:aN)=>((fun (Z1:Nat×aj)=>((fun (Z2:aV)=>((fun (Z3:aV)=>Tr.ite (bQ j (Int.ofNat m)) (Tr.req (cN j m) (Tr.req (cw (au 0 j 1) m) (Tr.req (cN (o (au 0 j 1)) l) (Tr.req (cw (au 0 (o (au 0 j 1)) 1) l) (Tr.ite (bQ (t (au 0 (o (au 0 j 1)) 1)) (Int.ofNat 0)) (Tr.ok (Ex.normal,Z0,Z3::G)) (Tr.req (cN (t (au 0 (o (au 0 j 1)) 1)) 30) (Tr.req (cL 0 0) (Tr.req (cw (au 0 (t (au 0 (o (au 0 j 1)) 1)) 1) 30) (Tr.req (cN (t (au 0 (o (au 0 j 1)) 1)) 30) (Tr.req (cL 0 0) (Tr.req (cw (au 0 (t (au 0 (o (au 0 j 1)) 1)) 1) 30) (Tr.req (cN (t (au 0 (o (au 0 j 1)) 1)) 30) (Tr.req (cL 0 0) (Tr.req (cw (au 0 (t (au 0 (o (au 0 j 1)) 1)) 1) 30) (Tr.req (cN (t (au 0 (o (au 0 j 1)) 1)) 30) (Tr.req (cL 0 0) (Tr.req (cw (au 0 (t (au 0 (o (au 0 j 1)) 1)) 1) 30) (Tr.ite (cI (fO f (au 0 (t (au 0 (o (au 0 j 1)) 1)) 1) (bC .i64 (f (au 0 (t (au 0 (o (au 0 j 1)) 1)) 1)) (Int.ofNat 1)) (au 0 (t (au 0 (o (au 0 j 1)) 1)) 1)) (Int.ofNat 0)) (Tr.ite (aY (jW (cI (z (au 0 (t (au 0 (o (au 0 j 1)) 1)) 1)) (Int.ofNat 0)) (cI (t (au 0 (o (au 0 j 1)) 1)) (Int.ofNat 0)))) (Tr.ok (Ex.normal,Z0,{ lock:=false,bs:=[Z1,(0,aj.row (Row.I .i64 [T])),(0,aj.row (Row.M [ah.arr .i64 z 30])),(0,aj.row (Row.M [ah.arr .i64 (fO f (au 0 (t (au 0 (o (au 0 j 1)) 1)) 1) (bC .i64 (f (au 0 (t (au 0 (o (au 0 j 1)) 1)) 1)) (Int.ofNat 1))) 30])),(0,aj.fmap (KK.str 2) (mF hs [z (au 0 (t (au 0 (o (au 0 j 1)) 1)) 1),t (au 0 (o (au 0 j 1)) 1)] true) (mH gs [z (au 0 (t (au 0 (o (au 0 j 1)) 1)) 1),t (au 0 (o (au 0 j 1)) 1)] (Int.ofNat 1)) (su (hs [z (au 0 (t (au 0 (o (au 0 j 1)) 1)) 1),t (au 0 (o (au 0 j 1)) 1)]) c)),(v,aj.dead),(0,aj.row (Row.I .i64 [z (au 0 (t (au 0 (o (au 0 j 1)) 1)) 1),t (au 0 (o (au 0 j 1)) 1)]))] } :: G)) (Tr.ok (Ex.normal,Z0,Z2::G))) (Tr.ok (Ex.normal,Z0,Z2::G)))))))))))))))))))) (Tr.ok (Ex.exit 6,[(0,AV.yld 1 y,none),(1,AV.ptrT (some 1) (Row.G [AV.ptrT (some s) (Row.M [ah.one (AV.slcT none (Row.M [ah.arr .i64 t l]) 1 l false),ah.one (AV.slcT none (Row.M [ah.arr .i64 d k]) 1 k false),ah.arr .i64 g 30]) 0]) 0,none),(2,AV.ptrT none (Row.I .i64 [h]) 0,none),(6,AV.ptr 0 2 0 0,none),(7,AV.ptr 0 3 0 0,none),(8,AV.map 0 4,none),(10,AV.fn (Fn.func 89) [] [],none),(11,AV.slcT none (Row.M [ah.arr .i64 o m]) 1 m false,none),(76,AV.slcT none (Row.M [ah.arr .i64 o m]) 1 m false,none),(77,AV.int .i64 (Int.ofNat m),none),(78,AV.int .i64 j,none),(79,AV.bool false,some 1)],Z3::G))) { lock:=false,bs:=[Z1,(0,aj.row (Row.I .i64 [T])),(0,aj.row (Row.M [ah.arr .i64 z 30])),(0,aj.row (Row.M [ah.arr .i64 f 30])),(0,aj.fmap (KK.str 2) hs gs c),(v,aj.dead)] })) { lock:=false,bs:=[Z1,(0,aj.row (Row.I .i64 [T])),(0,aj.row (Row.M [ah.arr .i64 z 30])),(0,aj.row (Row.M [ah.arr .i64 (fO f (au 0 (t (au 0 (o (au 0 j 1)) 1)) 1) (bC .i64 (f (au 0 (t (au 0 (o (au 0 j 1)) 1)) 1)) (Int.ofNat 1))) 30])),(0,aj.fmap (KK.str 2) hs gs c),(v,aj.dead),(0,aj.row (Row.I .i64 [z (au 0 (t (au 0 (o (au 0 j 1)) 1)) 1),t (au 0 (o (au 0 j 1)) 1)]))] })) (0,aj.row (Row.G [AV.fn (Fn.func 74) [AV.ptrT (some (Nat.succ s)) (Row.M [ah.one (AV.slcT none (Row.M [ah.arr .i64 t l]) 1 l false),ah.one (AV.slcT none (Row.M [ah.arr .i64 d k]) 1 k false),ah.arr .i64 g 30]) 0] []])))) [(0,AV.yld 1 y,none),(1,AV.ptrT (some 1) (Row.G [AV.ptrT (some s) (Row.M [ah.one (AV.slcT none (Row.M [ah.arr .i64 t l]) 1 l false),ah.one (AV.slcT none (Row.M [ah.arr .i64 d k]) 1 k false),ah.arr .i64 g 30]) 0]) 0,none),(2,AV.ptrT none (Row.I .i64 [h]) 0,none),(6,AV.ptr 0 2 0 0,none),(7,AV.ptr 0 3 0 0,none),(8,AV.map 0 4,none),(10,AV.fn (Fn.func 89) [] [],none),(11,AV.slcT none (Row.M [ah.arr .i64 o m]) 1 m false,none),(76,AV.slcT none (Row.M [ah.arr .i64 o m]) 1 m false,none),(77,AV.int .i64 (Int.ofNat m),none),(78,AV.int .i64 (bG .i64 j (Int.ofNat 1)),none)]:=by kernel_rfl
theorem Je (n y s l k:Nat) (t d g z f:Nat→Int) (hs:List Int→Bool) (gs:List Int→Int) (c:Nat) (h T j:Int) (v m:Nat) (o:Nat→Int) (G:aa):aM (bp n 85 118) (il aD n 0) aK aL (part Try.f85 [1,1,1,1,1,1,1,0,0,1,0,1,1,0,1,0,0]) (hints (fS y s l t k d g h m o j)) (gx (s+1) l t k d g T z f hs gs c (v,.dead) (0,.row (.I .i64 [0,0]))::G) =
 (fun (Z0:aN)=>((fun (Z1:Nat×aj)=>((fun (Z2:aV)=>((fun (Z3:aV)=>Tr.ite (bQ j (Int.ofNat m)) (Tr.req (cN j m) (Tr.req (cw (au 0 j 1) m) (Tr.req (cN (o (au 0 j 1)) l) (Tr.req (cw (au 0 (o (au 0 j 1)) 1) l) (Tr.ite (bQ (t (au 0 (o (au 0 j 1)) 1)) (Int.ofNat 0)) (Tr.ok (Ex.normal,Z0,Z3::G)) (Tr.req (cN (t (au 0 (o (au 0 j 1)) 1)) 30) (Tr.req (cL 0 0) (Tr.req (cw (au 0 (t (au 0 (o (au 0 j 1)) 1)) 1) 30) (Tr.req (cN (t (au 0 (o (au 0 j 1)) 1)) 30) (Tr.req (cL 0 0) (Tr.req (cw (au 0 (t (au 0 (o (au 0 j 1)) 1)) 1) 30) (Tr.req (cN (t (au 0 (o (au 0 j 1)) 1)) 30) (Tr.req (cL 0 0) (Tr.req (cw (au 0 (t (au 0 (o (au 0 j 1)) 1)) 1) 30) (Tr.req (cN (t (au 0 (o (au 0 j 1)) 1)) 30) (Tr.req (cL 0 0) (Tr.req (cw (au 0 (t (au 0 (o (au 0 j 1)) 1)) 1) 30) (Tr.ite (cI (fO f (au 0 (t (au 0 (o (au 0 j 1)) 1)) 1) (bC .i64 (f (au 0 (t (au 0 (o (au 0 j 1)) 1)) 1)) (Int.ofNat 1)) (au 0 (t (au 0 (o (au 0 j 1)) 1)) 1)) (Int.ofNat 0)) (Tr.ite (aY (jW (cI (z (au 0 (t (au 0 (o (au 0 j 1)) 1)) 1)) (Int.ofNat 0)) (cI (t (au 0 (o (au 0 j 1)) 1)) (Int.ofNat 0)))) (Tr.ok (Ex.normal,Z0,{ lock:=false,bs:=[Z1,(0,aj.row (Row.I .i64 [T])),(0,aj.row (Row.M [ah.arr .i64 z 30])),(0,aj.row (Row.M [ah.arr .i64 (fO f (au 0 (t (au 0 (o (au 0 j 1)) 1)) 1) (bC .i64 (f (au 0 (t (au 0 (o (au 0 j 1)) 1)) 1)) (Int.ofNat 1))) 30])),(0,aj.fmap (KK.str 2) (mF hs [z (au 0 (t (au 0 (o (au 0 j 1)) 1)) 1),t (au 0 (o (au 0 j 1)) 1)] true) (mH gs [z (au 0 (t (au 0 (o (au 0 j 1)) 1)) 1),t (au 0 (o (au 0 j 1)) 1)] (Int.ofNat 1)) (su (hs [z (au 0 (t (au 0 (o (au 0 j 1)) 1)) 1),t (au 0 (o (au 0 j 1)) 1)]) c)),(v,aj.dead),(0,aj.row (Row.I .i64 [Int.ofNat 0,Int.ofNat 0])),(0,aj.row (Row.I .i64 [z (au 0 (t (au 0 (o (au 0 j 1)) 1)) 1),t (au 0 (o (au 0 j 1)) 1)]))] } :: G)) (Tr.ok (Ex.normal,Z0,Z2::G))) (Tr.ok (Ex.normal,Z0,Z2::G)))))))))))))))))))) (Tr.ok (Ex.exit 6,[(0,AV.yld 1 y,none),(1,AV.ptrT (some 1) (Row.G [AV.ptrT (some s) (Row.M [ah.one (AV.slcT none (Row.M [ah.arr .i64 t l]) 1 l false),ah.one (AV.slcT none (Row.M [ah.arr .i64 d k]) 1 k false),ah.arr .i64 g 30]) 0]) 0,none),(2,AV.ptrT none (Row.I .i64 [h]) 0,none),(6,AV.ptr 0 2 0 0,none),(7,AV.ptr 0 3 0 0,none),(8,AV.map 0 4,none),(10,AV.fn (Fn.func 89) [] [],none),(11,AV.slcT none (Row.M [ah.arr .i64 o m]) 1 m false,none),(76,AV.slcT none (Row.M [ah.arr .i64 o m]) 1 m false,none),(77,AV.int .i64 (Int.ofNat m),none),(78,AV.int .i64 j,none),(79,AV.bool false,some 1)],Z3::G))) { lock:=false,bs:=[Z1,(0,aj.row (Row.I .i64 [T])),(0,aj.row (Row.M [ah.arr .i64 z 30])),(0,aj.row (Row.M [ah.arr .i64 f 30])),(0,aj.fmap (KK.str 2) hs gs c),(v,aj.dead),(0,aj.row (Row.I .i64 [Int.ofNat 0,Int.ofNat 0]))] })) { lock:=false,bs:=[Z1,(0,aj.row (Row.I .i64 [T])),(0,aj.row (Row.M [ah.arr .i64 z 30])),(0,aj.row (Row.M [ah.arr .i64 (fO f (au 0 (t (au 0 (o (au 0 j 1)) 1)) 1) (bC .i64 (f (au 0 (t (au 0 (o (au 0 j 1)) 1)) 1)) (Int.ofNat 1))) 30])),(0,aj.fmap (KK.str 2) hs gs c),(v,aj.dead),(0,aj.row (Row.I .i64 [Int.ofNat 0,Int.ofNat 0])),(0,aj.row (Row.I .i64 [z (au 0 (t (au 0 (o (au 0 j 1)) 1)) 1),t (au 0 (o (au 0 j 1)) 1)]))] })) (0,aj.row (Row.G [AV.fn (Fn.func 74) [AV.ptrT (some (Nat.succ s)) (Row.M [ah.one (AV.slcT none (Row.M [ah.arr .i64 t l]) 1 l false),ah.one (AV.slcT none (Row.M [ah.arr .i64 d k]) 1 k false),ah.arr .i64 g 30]) 0] []])))) [(0,AV.yld 1 y,none),(1,AV.ptrT (some 1) (Row.G [AV.ptrT (some s) (Row.M [ah.one (AV.slcT none (Row.M [ah.arr .i64 t l]) 1 l false),ah.one (AV.slcT none (Row.M [ah.arr .i64 d k]) 1 k false),ah.arr .i64 g 30]) 0]) 0,none),(2,AV.ptrT none (Row.I .i64 [h]) 0,none),(6,AV.ptr 0 2 0 0,none),(7,AV.ptr 0 3 0 0,none),(8,AV.map 0 4,none),(10,AV.fn (Fn.func 89) [] [],none),(11,AV.slcT none (Row.M [ah.arr .i64 o m]) 1 m false,none),(76,AV.slcT none (Row.M [ah.arr .i64 o m]) 1 m false,none),(77,AV.int .i64 (Int.ofNat m),none),(78,AV.int .i64 (bG .i64 j (Int.ofNat 1)),none)]:=by kernel_rfl
theorem JW (n:Nat):(jb aD 90 (K7 (fun _ _ _=>False) 0 0 false)).Ok (cd n):=by
 refine jU (aB _) (fun args H x hx=>?_)
 unfold K7 at hx
 split at hx
 · split at hx
   · exact (Tr.di hx).1.elim
   · exact (Tr.ae hx).elim
 · exact (Tr.ae hx).elim
theorem Js (f:Nat→Int) (i:Nat) (x:Int):uI f i x i=x:=by unfold uI;rw[if_pos rfl]
section
variable (n y s l k:Nat) (t d g z f:Nat→Int) (h T:Int) (w:Nat→Bool) (G:aa)
theorem MC (q:Nat) (hq:q<1000) (hh:(q:Int)<h) (hr:∀ j,j<q+1→∃ i,kD z (bw l z w j).2 l=some i) (j:Nat) (hj:j<q+1):∃ x,exec (bp (n+2) 85 118) (part Try.f85 [1,1,1,1,1,1,1,0,0,1,0,1,0,0,0]) (eG y s l t k d g h (NC j)) (s7 (s+1) l t k d g T z f w j::G)=some x∧(x.1=.normal∧tidy (al (s7 (s+1) l t k d g T z f w 0::G)) x.2.1 x.2.2=(eG y s l t k d g h (NC (j+1)),s7 (s+1) l t k d g T z f w (j+1)::G)):=by
 obtain ⟨i,hi⟩:=hr j hj
 cases j with
 | zero =>
   have:=Po n y s l k t d g z f h T w G i hi (by omega)
   show ∃ x,_=some x∧(_∧_=(_,eI (s+1) l t k d g T z f (hW l z (bw l z w (0+1)).2) (gW l z (bw l z w (0+1)).2) (cn (bw l z w (0+1)).2 l) (0,.row (.M [.arr .i64 (aA (fh l z w (0+1))) (0+1)]))::G))
   rw[fy hi,zB hi]
   exact this
 | succ j =>
   have hlen:=tB (l:=l) (z:=z) (w:=w) (j+1) (fun i hi=>hr i (by omega))
   have:=Pp n y s l k t d g z f h T (bw l z w (j+1)).2 G i j (fh l z w (j+1)) hlen hi (by omega) (by omega)
   show ∃ x,_=some x∧(_∧_=(_,eI (s+1) l t k d g T z f (hW l z (bw l z w (j+1+1)).2) (gW l z (bw l z w (j+1+1)).2) (cn (bw l z w (j+1+1)).2 l) (j+1,.row (.M [.arr .i64 (aA (fh l z w (j+1+1))) (j+1+1)]))::G))
   rw[fy hi,zB hi]
   exact this
theorem IX (q:Nat) (hq:q<1000) (hh:h=((q+1:Nat):Int)) (hr:∀ j,j<q+1→∃ i,kD z (bw l z w j).2 l=some i):exec (bp (n+2) 85 118) (.block 4 (.loop (part Try.f85 [1,1,1,1,1,1,1,0,0,1,0,1,0,0,0]))) (eG y s l t k d g h .nils) (bS (s+1) l t k d g T z f (hW l z w) (gW l z w) (cn w l)::G)=some (.normal,eG y s l t k d g h (.slc 0 5 q 0 1 (q+1) none)++[(60,.bool false)],s7 (s+1) l t k d g T z f w (q+1)::G):=by
 refine j8 (n:=n+2) (f:=85) (nt:=118) (c:=part Try.f85 [1,1,1,1,1,1,1,0,0,1,0,1,0,0,0]) 4 (fun j=>eG y s l t k d g h (NC j)) (fun j=>s7 (s+1) l t k d g T z f w j::G) (q+1) _ (by omega) (MC n y s l k t d g z f h T w G q hq (by omega) hr) ?_
 subst hh
 exact dc (Gp (n+2) y s l k t d g z f (hW l z (bw l z w (q+1)).2) (gW l z (bw l z w (q+1)).2) (cn (bw l z w (q+1)).2 l) ((q+1:Nat):Int) T (fun _ _ _=>False) 0 0 false q (q+1) (aA (fh l z w (q+1))) G) (aQ _ (n+2) (JW _)) (af _ _) (ag _ _) (by first | (simp (disch:=omega) only[nV,nW];done) | (simp (disch:=omega) only[nV,nW];omega))
theorem N6 (q:Nat) (hh:((q+1:Nat):Int)<h) (hn:kD z (bw l z w (q+1)).2 l=none):∃ x,exec (bp (n+2) 85 118) (part Try.f85 [1,1,1,1,1,1,1,0,0,1,0,1,0,0,0]) (eG y s l t k d g h (.slc 0 5 q 0 1 (q+1) none)) (s7 (s+1) l t k d g T z f w (q+1)::G)=some x∧x=(.exit 4,eG y s l t k d g h (.slc 0 5 q 0 1 (q+1) none)++[(12,.ptr 0 6 0 0),(68,.bool true)],gx (s+1) l t k d g T z f (hW l z (bw l z w (q+1)).2) (gW l z (bw l z w (q+1)).2) (cn (bw l z w (q+1)).2 l) (q,.row (.M [.arr .i64 (aA (fh l z w (q+1))) (q+1)])) (0,.row (.I .i64 [0,0]))::G):=by
 refine aH (Gp (n+2) y s l k t d g z f (hW l z (bw l z w (q+1)).2) (gW l z (bw l z w (q+1)).2) (cn (bw l z w (q+1)).2 l) h T (GJ l z (bw l z w (q+1)).2) 0 0 false q (q+1) (aA (fh l z w (q+1))) G) (aQ _ (n+2) (AQ (by rw[hn];rfl))) (af _ _) (ag _ _) ?_
 have hp:GJ l z (bw l z w (q+1)).2 (hW l z (bw l z w (q+1)).2) (gW l z (bw l z w (q+1)).2) (cn (bw l z w (q+1)).2 l):=⟨rfl,rfl,rfl⟩
 generalize GJ l z (bw l z w (q+1)).2=P at *
 generalize hW l z (bw l z w (q+1)).2=A at *
 generalize gW l z (bw l z w (q+1)).2=B at *
 generalize cn (bw l z w (q+1)).2 l=C at *
 repeat' first | (refine Tr.bh (fun hc=>?_) (fun hc=>?_)<;>(try simp (disch:=omega) only[nV,nW,hp] at hc)<;>try omega) | (refine Tr.cj ?_ ?_;· (try simp (disch:=omega) only[nV,nW,hp]);try omega) | (refine Tr.bf ?_ ?_;· first | exact trivial | rfl | exact ⟨rfl,rfl⟩ | exact ⟨rfl,rfl,rfl⟩ | (simp (disch:=omega) only[nV,nW,hp];done) | ((try simp (disch:=omega) only[nV,nW,hp]);omega)) | fail
 all_goals first
  | exact Tr.ba rfl
  | fail
theorem IY (q:Nat) (hq:q<1000) (hh:((q+1:Nat):Int)<h) (hn:kD z (bw l z w (q+1)).2 l=none) (hr:∀ j,j<q+1→∃ i,kD z (bw l z w j).2 l=some i):exec (bp (n+2) 85 118) (.block 4 (.loop (part Try.f85 [1,1,1,1,1,1,1,0,0,1,0,1,0,0,0]))) (eG y s l t k d g h .nils) (bS (s+1) l t k d g T z f (hW l z w) (gW l z w) (cn w l)::G)=some (.normal,eG y s l t k d g h (.slc 0 5 q 0 1 (q+1) none)++[(12,.ptr 0 6 0 0),(68,.bool true)],gx (s+1) l t k d g T z f (hW l z (bw l z w (q+1)).2) (gW l z (bw l z w (q+1)).2) (cn (bw l z w (q+1)).2 l) (q,.row (.M [.arr .i64 (aA (fh l z w (q+1))) (q+1)])) (0,.row (.I .i64 [0,0]))::G):=by
 refine j8 (n:=n+2) (f:=85) (nt:=118) (c:=part Try.f85 [1,1,1,1,1,1,1,0,0,1,0,1,0,0,0]) 4 (fun j=>eG y s l t k d g h (NC j)) (fun j=>s7 (s+1) l t k d g T z f w j::G) (q+1) _ (by omega) (MC n y s l k t d g z f h T w G q hq (by omega) hr) ?_
 obtain ⟨x,hx,rfl⟩:=N6 n y s l k t d g z f h T w G q hh hn
 exact hx
theorem L2 (v m j c:Nat) (o:Nat→Int) (hj:j<m) (hm:m<2000) (hl:l≤30) (hc:o j=(c:Int)) (hcl:c<l) (ht:∀ i,i<l→t i<l) (hz:∀ i,i<l→1≤z i) (hf:∀ i,i<l→-900≤f i∧f i≤900) (hv:∀ i,i<l→w i=true→f i≤0):∃ x,exec (bp n 85 118) (part Try.f85 [1,1,1,1,1,1,1,0,0,1,0,1,1,0,1,0,0]) (fS y s l t k d g h m o (j:Nat)) (eI (s+1) l t k d g T z f (hW l z w) (gW l z w) (cn w l) (v,.dead)::G)=some x∧(x.1=.normal∧tidy (al (eI (s+1) l t k d g T z f (hW l z w) (gW l z w) (cn w l) (v,.dead)::G)) x.2.1 x.2.2=(fS y s l t k d g h m o ((j+1:Nat):Int),(eI (s+1) l t k d g T z (rT t (f,w) c).1 (hW l z (rT t (f,w) c).2) (gW l z (rT t (f,w) c).2) (cn (rT t (f,w) c).2 l) (v,.dead)::G))):=by
 refine aH (Jd n y s l k t d g z f (hW l z w) (gW l z w) (cn w l) h T (j:Nat) v m o G) (ar _) (af _ _) (ag _ _) ?_
 rw[db (j:=j) (by omega)]
 simp only[jB,hc]
 by_cases e:t c<0
 · have hla:rT t (f,w) c=(f,w):=by unfold rT;rw[if_pos e]
   rw[hla]
   generalize hW l z w=A at *
   generalize gW l z w=B at *
   generalize cn w l=C at *
   exact wF
 · obtain ⟨x,hx⟩:∃ x:Nat,t c=x:=⟨(t c).toNat,by omega⟩
   have hxl:x<l:=by have:=ht c hcl;omega
   have hzx:=hz x hxl
   have hfx:=hf x hxl
   have es:bC .i64 (f x) (Int.ofNat 1)=f x-1:=rH (by show _≤f x-1;omega) (by show f x-1≤_;omega)
   have hla:rT t (f,w) c=(uI f x (f x-1),if f x-1=0 then jt w x else w):=by unfold rT;rw[if_neg e,hx,Int.toNat_natCast]
   rw[hla]
   simp only[hx,jB,es,ue,Js]
   by_cases e0:f x-1=0
   · have hwx:w x=false:=by
      cases hw:w x with
      | false=>rfl
      | true=>have:=hv x hxl hw;omega
     rw[if_pos e0,← wQ hxl,← AR hxl,← AD (z:=z) hxl hwx]
     generalize hW l z w=A at *
     generalize gW l z w=B at *
     generalize cn w l=C at *
     generalize uI f x (f x-1)=Y at *
     exact wF
   · rw[if_neg e0]
     generalize hW l z w=A at *
     generalize gW l z w=B at *
     generalize cn w l=C at *
     generalize uI f x (f x-1)=Y at *
     exact wF
theorem L3 (v m j c:Nat) (o:Nat→Int) (hj:j<m) (hm:m<2000) (hl:l≤30) (hc:o j=(c:Int)) (hcl:c<l) (ht:∀ i,i<l→t i<l) (hz:∀ i,i<l→1≤z i) (hf:∀ i,i<l→-900≤f i∧f i≤900) (hv:∀ i,i<l→w i=true→f i≤0):∃ x,exec (bp n 85 118) (part Try.f85 [1,1,1,1,1,1,1,0,0,1,0,1,1,0,1,0,0]) (fS y s l t k d g h m o (j:Nat)) (gx (s+1) l t k d g T z f (hW l z w) (gW l z w) (cn w l) (v,.dead) (0,.row (.I .i64 [0,0]))::G)=some x∧(x.1=.normal∧tidy (al (gx (s+1) l t k d g T z f (hW l z w) (gW l z w) (cn w l) (v,.dead) (0,.row (.I .i64 [0,0]))::G)) x.2.1 x.2.2=(fS y s l t k d g h m o ((j+1:Nat):Int),(gx (s+1) l t k d g T z (rT t (f,w) c).1 (hW l z (rT t (f,w) c).2) (gW l z (rT t (f,w) c).2) (cn (rT t (f,w) c).2 l) (v,.dead) (0,.row (.I .i64 [0,0]))::G))):=by
 refine aH (Je n y s l k t d g z f (hW l z w) (gW l z w) (cn w l) h T (j:Nat) v m o G) (ar _) (af _ _) (ag _ _) ?_
 rw[db (j:=j) (by omega)]
 simp only[jB,hc]
 by_cases e:t c<0
 · have hla:rT t (f,w) c=(f,w):=by unfold rT;rw[if_pos e]
   rw[hla]
   generalize hW l z w=A at *
   generalize gW l z w=B at *
   generalize cn w l=C at *
   exact wF
 · obtain ⟨x,hx⟩:∃ x:Nat,t c=x:=⟨(t c).toNat,by omega⟩
   have hxl:x<l:=by have:=ht c hcl;omega
   have hzx:=hz x hxl
   have hfx:=hf x hxl
   have es:bC .i64 (f x) (Int.ofNat 1)=f x-1:=rH (by show _≤f x-1;omega) (by show f x-1≤_;omega)
   have hla:rT t (f,w) c=(uI f x (f x-1),if f x-1=0 then jt w x else w):=by unfold rT;rw[if_neg e,hx,Int.toNat_natCast]
   rw[hla]
   simp only[hx,jB,es,ue,Js]
   by_cases e0:f x-1=0
   · have hwx:w x=false:=by
      cases hw:w x with
      | false=>rfl
      | true=>have:=hv x hxl hw;omega
     rw[if_pos e0,← wQ hxl,← AR hxl,← AD (z:=z) hxl hwx]
     generalize hW l z w=A at *
     generalize gW l z w=B at *
     generalize cn w l=C at *
     generalize uI f x (f x-1)=Y at *
     exact wF
   · rw[if_neg e0]
     generalize hW l z w=A at *
     generalize gW l z w=B at *
     generalize cn w l=C at *
     generalize uI f x (f x-1)=Y at *
     exact wF
def cQ (t:Nat→Int) (o:Nat→Int) (st:(Nat→Int)×(Nat→Bool)):Nat→(Nat→Int)×(Nat→Bool)
 | 0=>st
 | j+1=>rT t (cQ t o st j) (o j).toNat
theorem IV (v m:Nat) (o:Nat→Int) (hm:m<2000) (hl:l≤30) (ho:∀ j,j<m→0≤o j∧o j<l) (ht:∀ i,i<l→t i<l) (hz:∀ i,i<l→1≤z i) (hf:∀ j,j<m→∀ i,i<l→-900≤(cQ t o (f,w) j).1 i∧(cQ t o (f,w) j).1 i≤900) (hv:∀ j,j<m→∀ i,i<l→(cQ t o (f,w) j).2 i=true→(cQ t o (f,w) j).1 i≤0):exec (bp n 85 118) (.block 6 (.loop (part Try.f85 [1,1,1,1,1,1,1,0,0,1,0,1,1,0,1,0,0]))) (fS y s l t k d g h m o 0) (eI (s+1) l t k d g T z f (hW l z w) (gW l z w) (cn w l) (v,.dead)::G)=some (.normal,fS y s l t k d g h m o (Int.ofNat m)++[(79,.bool false)],(eI (s+1) l t k d g T z (cQ t o (f,w) m).1 (hW l z (cQ t o (f,w) m).2) (gW l z (cQ t o (f,w) m).2) (cn (cQ t o (f,w) m).2 l) (v,.dead)::G)):=by
 refine j8 (n:=n) (f:=85) (nt:=118) (c:=part Try.f85 [1,1,1,1,1,1,1,0,0,1,0,1,1,0,1,0,0]) 6 (fun j=>fS y s l t k d g h m o (j:Nat)) (fun j=>(eI (s+1) l t k d g T z (cQ t o (f,w) j).1 (hW l z (cQ t o (f,w) j).2) (gW l z (cQ t o (f,w) j).2) (cn (cQ t o (f,w) j).2 l) (v,.dead)::G)) m _ (by omega) (fun j hj=>?_) ?_
 · obtain ⟨h1,h2⟩:=ho j hj
   exact L2 n y s l k t d g z (cQ t o (f,w) j).1 h T (cQ t o (f,w) j).2 G v m j (o j).toNat o hj hm hl (by omega) (by omega) ht hz (hf j hj) (hv j hj)
 · exact dc (Jd n y s l k t d g z (cQ t o (f,w) m).1 (hW l z (cQ t o (f,w) m).2) (gW l z (cQ t o (f,w) m).2) (cn (cQ t o (f,w) m).2 l) h T (Int.ofNat m) v m o G) (ar _) (af _ _) (ag _ _) (by first | (simp (disch:=omega) only[nV,nW];done) | (simp (disch:=omega) only[nV,nW];omega))
theorem IW (v m:Nat) (o:Nat→Int) (hm:m<2000) (hl:l≤30) (ho:∀ j,j<m→0≤o j∧o j<l) (ht:∀ i,i<l→t i<l) (hz:∀ i,i<l→1≤z i) (hf:∀ j,j<m→∀ i,i<l→-900≤(cQ t o (f,w) j).1 i∧(cQ t o (f,w) j).1 i≤900) (hv:∀ j,j<m→∀ i,i<l→(cQ t o (f,w) j).2 i=true→(cQ t o (f,w) j).1 i≤0):exec (bp n 85 118) (.block 6 (.loop (part Try.f85 [1,1,1,1,1,1,1,0,0,1,0,1,1,0,1,0,0]))) (fS y s l t k d g h m o 0) (gx (s+1) l t k d g T z f (hW l z w) (gW l z w) (cn w l) (v,.dead) (0,.row (.I .i64 [0,0]))::G)=some (.normal,fS y s l t k d g h m o (Int.ofNat m)++[(79,.bool false)],(gx (s+1) l t k d g T z (cQ t o (f,w) m).1 (hW l z (cQ t o (f,w) m).2) (gW l z (cQ t o (f,w) m).2) (cn (cQ t o (f,w) m).2 l) (v,.dead) (0,.row (.I .i64 [0,0]))::G)):=by
 refine j8 (n:=n) (f:=85) (nt:=118) (c:=part Try.f85 [1,1,1,1,1,1,1,0,0,1,0,1,1,0,1,0,0]) 6 (fun j=>fS y s l t k d g h m o (j:Nat)) (fun j=>(gx (s+1) l t k d g T z (cQ t o (f,w) j).1 (hW l z (cQ t o (f,w) j).2) (gW l z (cQ t o (f,w) j).2) (cn (cQ t o (f,w) j).2 l) (v,.dead) (0,.row (.I .i64 [0,0]))::G)) m _ (by omega) (fun j hj=>?_) ?_
 · obtain ⟨h1,h2⟩:=ho j hj
   exact L3 n y s l k t d g z (cQ t o (f,w) j).1 h T (cQ t o (f,w) j).2 G v m j (o j).toNat o hj hm hl (by omega) (by omega) ht hz (hf j hj) (hv j hj)
 · exact dc (Je n y s l k t d g z (cQ t o (f,w) m).1 (hW l z (cQ t o (f,w) m).2) (gW l z (cQ t o (f,w) m).2) (cn (cQ t o (f,w) m).2 l) h T (Int.ofNat m) v m o G) (ar _) (af _ _) (ag _ _) (by first | (simp (disch:=omega) only[nV,nW];done) | (simp (disch:=omega) only[nV,nW];omega))
end
end Go.Eng
end
