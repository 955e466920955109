/- Lay: plan: a turn's cells are picked. -/
import Derived.Test.YtoomemfhcbajoaaV8Lb23x4
set_option linter.unusedVariables false
set_option linter.unusedSimpArgs false
set_option maxRecDepth 100000
section
namespace Go.Eng
open Go.Proofs
noncomputable def eg (s l:Nat) (t:Nat→Int) (k:Nat) (d g:Nat→Int) (T:Int) (z f:Nat→Int) (hs:List Int→Bool) (gs:List Int→Int) (c:Nat) (b:Nat×ak):aV:=⟨false,[(0,.row (.G [f74 s l t k d g])),HH T,(0,.row (.M [.arr .i64 z 30])),(0,.row (.M [.arr .i64 f 30])),(0,.fmap (.str 2) hs gs c),b]⟩
noncomputable def gf (s l:Nat) (t:Nat→Int) (k:Nat) (d g:Nat→Int) (T:Int) (z f:Nat→Int) (hs:List Int→Bool) (gs:List Int→Int) (c:Nat) (b b2:Nat×ak):aV:=⟨false,[(0,.row (.G [f74 s l t k d g])),HH T,(0,.row (.M [.arr .i64 z 30])),(0,.row (.M [.arr .i64 f 30])),(0,.fmap (.str 2) hs gs c),b,b2]⟩
noncomputable def dZ (y s l:Nat) (t:Nat→Int) (k:Nat) (d g:Nat→Int) (h:Int) (o:AV):aq:=[(0,.yld 1 y),(1,.ptrT (some 1) (.G [dK s l t k d g]) 0),(2,.ptrT none (.I .i64 [h]) 0),(6,.ptr 0 2 0 0),(7,.ptr 0 3 0 0),(8,.map 0 4),(10,.fn (.func 89) [] []),(11,o)]
noncomputable def J4 (P:(List Int→Bool)→(List Int→Int)→Nat→Prop) (a b:Int) (x:Bool) (args:List AV) (H:aa):Tr (AV×aa) :=
 match args with
 | [.map 0 4,.fn (.func 89) [] []]=>match H with
   | ⟨lk,b0::b1::b2::b3::(0,.fmap (.str 2) hs gs c)::bs⟩::r=>.reqP (P hs gs c) (.ok (.tup [.agg (.I .i64 [a,b]),.bool x],H))
   | _=>.bad
 | _=>.bad
theorem LG (n y s l k:Nat) (t d g z f:Nat→Int) (hs:List Int→Bool) (gs:List Int→Int) (c:Nat) (h T:Int) (P:(List Int→Bool)→(List Int→Int)→Nat→Prop) (a b:Int) (x:Bool) (G:aa):aN (bA n 85 118) (il (jb aQ 90 (J4 P a b x)) n 0) aT aU (part Try.f85 [1,1,1,1,1,1,1,0,0,1,0,1,0,0,0]) (hints (dZ y s l t k d g h .nils)) (bM (s+1) l t k d g T z f hs gs c::G) =
 (fun (Z0:Row)=>((fun (Z1:Nat×ak)=>((fun (Z2:Nat×AV×Option Nat)=>Tr.ite (cF (Int.ofNat 0) h) (Tr.reqP (P hs gs c) (Tr.ite (bx x) (Tr.ok (Ex.exit 4,[(0,AV.yld 1 y,none),Z2,(2,AV.ptrT none (Row.I .i64 [h]) 0,none),(6,AV.ptr 0 2 0 0,none),(7,AV.ptr 0 3 0 0,none),(8,AV.map 0 4,none),(10,AV.fn (Fn.func 89) [] [],none),(11,AV.nils,none),(12,AV.ptr 0 5 0 0,none),(68,AV.bool true,some 1)],{ lock:=false,bs:=[Z1,(0,ak.row (Row.I .i64 [T])),(0,ak.row (Row.M [ah.arr .i64 z 30])),(0,ak.row (Row.M [ah.arr .i64 f 30])),(0,ak.fmap (KK.str 2) hs gs c),(0,ak.row (Row.I .i64 [a,b]))] } :: G)) (Tr.req (j8 0 1 8) (Tr.req (cT 0 0) (Tr.req (jz 1 1) (Tr.ok (Ex.normal,[(0,AV.yld 1 y,none),Z2,(2,AV.ptrT none (Row.I .i64 [h]) 0,none),(6,AV.ptr 0 2 0 0,none),(7,AV.ptr 0 3 0 0,none),(8,AV.map 0 4,none),(10,AV.fn (Fn.func 89) [] [],none),(11,AV.slc 0 7 0 0 1 1 none,none)],{ lock:=false,bs:=[Z1,(0,ak.row (Row.I .i64 [T])),(0,ak.row (Row.M [ah.arr .i64 z 30])),(0,ak.row (Row.M [ah.arr .i64 f 30])),(0,ak.fmap (KK.str 2) (l6 hs [a,b] false) (l8 gs [a,b] (Int.ofNat 0)) (uj (hs [a,b]) c)),(0,ak.row (Row.I .i64 [a,b])),(0,ak.row (Row.I .i64 [b])),(0,ak.row (Row.M [ah.arr .i64 (aK [b]) 1]))] } :: G))))))) (Tr.ok (Ex.exit 4,[(0,AV.yld 1 y,none),Z2,(2,AV.ptrT none (Row.I .i64 [h]) 0,none),(6,AV.ptr 0 2 0 0,none),(7,AV.ptr 0 3 0 0,none),(8,AV.map 0 4,none),(10,AV.fn (Fn.func 89) [] [],none),(11,AV.nils,none),(60,AV.bool false,some 1)],{ lock:=false,bs:=[Z1,(0,ak.row (Row.I .i64 [T])),(0,ak.row (Row.M [ah.arr .i64 z 30])),(0,ak.row (Row.M [ah.arr .i64 f 30])),(0,ak.fmap (KK.str 2) hs gs c)] } :: G))) (1,AV.ptrT (some 1) (Row.G [AV.ptrT (some s) Z0 0]) 0,none))) (0,ak.row (Row.G [AV.fn (Fn.func 74) [AV.ptrT (some (Nat.succ s)) Z0 0] []])))) (Row.M [ah.one (AV.slcT none (Row.M [ah.arr .i64 t l]) 1 l false),ah.one (AV.slcT none (Row.M [ah.arr .i64 d k]) 1 k false),ah.arr .i64 g 30]):=by kernel_rfl
theorem FE (n y s l k:Nat) (t d g z f:Nat→Int) (hs:List Int→Bool) (gs:List Int→Int) (c:Nat) (h T:Int) (P:(List Int→Bool)→(List Int→Int)→Nat→Prop) (a b:Int) (x:Bool) (v m:Nat) (o:Nat→Int) (G:aa):aN (bA n 85 118) (il (jb aQ 90 (J4 P a b x)) n 0) aT aU (part Try.f85 [1,1,1,1,1,1,1,0,0,1,0,1,0,0,0]) (hints (dZ y s l t k d g h (.slc 0 5 v 0 1 m none))) (eg (s+1) l t k d g T z f hs gs c (v,.row (.M [.arr .i64 o m]))::G) =
 (fun (Z0:Row)=>((fun (Z1:Nat×ak)=>((fun (Z2:Nat×AV×Option Nat)=>Tr.ite (cF (Int.ofNat m) h) (Tr.reqP (P hs gs c) (Tr.ite (bx x) (Tr.ok (Ex.exit 4,[(0,AV.yld 1 y,none),Z2,(2,AV.ptrT none (Row.I .i64 [h]) 0,none),(6,AV.ptr 0 2 0 0,none),(7,AV.ptr 0 3 0 0,none),(8,AV.map 0 4,none),(10,AV.fn (Fn.func 89) [] [],none),(11,AV.slc 0 5 v 0 1 m none,none),(12,AV.ptr 0 6 0 0,none),(68,AV.bool true,some 1)],{ lock:=false,bs:=[Z1,(0,ak.row (Row.I .i64 [T])),(0,ak.row (Row.M [ah.arr .i64 z 30])),(0,ak.row (Row.M [ah.arr .i64 f 30])),(0,ak.fmap (KK.str 2) hs gs c),(v,ak.row (Row.M [ah.arr .i64 o m])),(0,ak.row (Row.I .i64 [a,b]))] } :: G)) (Tr.req (j8 m 1 8) (Tr.req (cT 0 0) (Tr.req (jz 1 1) (Tr.req (cT v v) (Tr.req (cT (cM 0 m) m) (Tr.ok (Ex.normal,[(0,AV.yld 1 y,none),Z2,(2,AV.ptrT none (Row.I .i64 [h]) 0,none),(6,AV.ptr 0 2 0 0,none),(7,AV.ptr 0 3 0 0,none),(8,AV.map 0 4,none),(10,AV.fn (Fn.func 89) [] [],none),(11,AV.slc 0 5 (Nat.succ v) 0 1 (cM m 1) none,none)],{ lock:=false,bs:=[Z1,(0,ak.row (Row.I .i64 [T])),(0,ak.row (Row.M [ah.arr .i64 z 30])),(0,ak.row (Row.M [ah.arr .i64 f 30])),(0,ak.fmap (KK.str 2) (l6 hs [a,b] false) (l8 gs [a,b] (Int.ofNat 0)) (uj (hs [a,b]) c)),(Nat.succ v,ak.row (Row.M [ah.arr .i64 (w8 (ep o 0) m (aK [b])) (cM m 1)])),(0,ak.row (Row.I .i64 [a,b])),(0,ak.row (Row.I .i64 [b]))] } :: G))))))))) (Tr.ok (Ex.exit 4,[(0,AV.yld 1 y,none),Z2,(2,AV.ptrT none (Row.I .i64 [h]) 0,none),(6,AV.ptr 0 2 0 0,none),(7,AV.ptr 0 3 0 0,none),(8,AV.map 0 4,none),(10,AV.fn (Fn.func 89) [] [],none),(11,AV.slc 0 5 v 0 1 m none,none),(60,AV.bool false,some 1)],{ lock:=false,bs:=[Z1,(0,ak.row (Row.I .i64 [T])),(0,ak.row (Row.M [ah.arr .i64 z 30])),(0,ak.row (Row.M [ah.arr .i64 f 30])),(0,ak.fmap (KK.str 2) hs gs c),(v,ak.row (Row.M [ah.arr .i64 o m]))] } :: G))) (1,AV.ptrT (some 1) (Row.G [AV.ptrT (some s) Z0 0]) 0,none))) (0,ak.row (Row.G [AV.fn (Fn.func 74) [AV.ptrT (some (Nat.succ s)) Z0 0] []])))) (Row.M [ah.one (AV.slcT none (Row.M [ah.arr .i64 t l]) 1 l false),ah.one (AV.slcT none (Row.M [ah.arr .i64 d k]) 1 k false),ah.arr .i64 g 30]):=by kernel_rfl
def bo (l:Nat) (z:Nat→Int) (w:Nat→Bool):Nat→List Nat×(Nat→Bool)
 | 0=>([],w)
 | m+1=>match kd z (bo l z w m).2 l with
   | none=>bo l z w m
   | some i=>((bo l z w m).1++[i],mR (bo l z w m).2 i)
def eV (l:Nat) (z:Nat→Int) (w:Nat→Bool) (m:Nat):List Int:=(bo l z w m).1.map fun (i:Nat)=>(i:Int)
section
variable {l:Nat} {z:Nat→Int} {w:Nat→Bool}
theorem fi {m i:Nat} (h:kd z (bo l z w m).2 l=some i):bo l z w (m+1)=((bo l z w m).1++[i],mR (bo l z w m).2 i):=by
 show (match kd z (bo l z w m).2 l with | none=>_ | some i=>_)=_
 rw[h]
theorem oS {m:Nat} (h:kd z (bo l z w m).2 l=none):bo l z w (m+1)=bo l z w m:=by
 show (match kd z (bo l z w m).2 l with | none=>_ | some i=>_)=_
 rw[h]
theorem lX:∀ H,∃ r,r≤H∧(∀ j,j<r→∃ i,kd z (bo l z w j).2 l=some i)∧bo l z w H=bo l z w r∧(r=H∨kd z (bo l z w r).2 l=none)
 | 0=>⟨0,Nat.le_refl _,fun j hj=>by omega,rfl,.inl rfl⟩
 | H + 1=>by
   obtain ⟨r,h1,h2,h3,h4⟩:=lX H
   cases hm:kd z (bo l z w H).2 l with
   | none =>
     refine ⟨r,by omega,h2,by rw[oS hm,h3],.inr ?_⟩
     rw[← h3];exact hm
   | some i =>
     rcases h4 with rfl | h4
     · refine ⟨r+1,by omega,fun j hj=>?_,rfl,.inl rfl⟩
       by_cases e:j=r
       · subst e;exact ⟨i,hm⟩
       · exact h2 j (by omega)
     · rw[← h3,hm] at h4;cases h4
theorem sG:∀ m,(∀ j,j<m→∃ i,kd z (bo l z w j).2 l=some i)→(eV l z w m).length=m
 | 0,_=>rfl
 | m+1,h=>by
   obtain ⟨i,hi⟩:=h m (by omega)
   have ih:=sG m (fun j hj=>h j (by omega))
   unfold eV at ih ⊢
   rw[List.length_map] at ih
   rw[fi hi,List.length_map,List.length_append,ih]
   rfl
theorem yD {m i:Nat} (h:kd z (bo l z w m).2 l=some i):eV l z w (m+1)=eV l z w m++[(i:Int)]:=by
 unfold eV
 rw[fi h,List.map_append]
 rfl
theorem mz {w:Nat→Bool} {i:Nat} (h:kd z w l=some i):i<l∧w i=true:=by
 have:=jW z w l
 rw[h] at this
 exact ⟨this.1,this.2.1⟩
end
def FP (l:Nat) (z:Nat→Int) (w:Nat→Bool):(List Int→Bool)→(List Int→Int)→Nat→Prop:=fun hs gs c=>hs=hW l z w∧gs=gW l z w∧c=cn w l
theorem zY {n:Nat} {l:Nat} {z:Nat→Int} {w:Nat→Bool} {a b:Int} {x:Bool} (h:NT ((kd z w l).map fun i=>(z i,(i:Int)))=.tup [.agg (.I .i64 [a,b]),.bool x]):(jb aQ 90 (J4 (FP l z w) a b x)).Ok (cd (n+2)):=by
 refine jG (aX _) (fun args H x hx=>?_)
 unfold J4 at hx
 split at hx
 · split at hx
   · obtain ⟨⟨rfl,rfl,rfl⟩,h2⟩:=Tr.cY hx
     rw[← Tr.ab h2,← h]
     obtain ⟨es,hE⟩:=Pz l z w
     exact Pt n 4 _ rfl hE (Jg l z w)
   · exact (Tr.ae hx).elim
 · exact (Tr.ae hx).elim
noncomputable def L6:Nat→AV
 | 0=>.nils
 | q+1=>.slc 0 5 q 0 1 (q+1) none
noncomputable def sj (s l:Nat) (t:Nat→Int) (k:Nat) (d g:Nat→Int) (T:Int) (z f:Nat→Int) (w:Nat→Bool):Nat→aV
 | 0=>bM s l t k d g T z f (hW l z w) (gW l z w) (cn w l)
 | q+1=>eg s l t k d g T z f (hW l z (bo l z w (q+1)).2) (gW l z (bo l z w (q+1)).2) (cn (bo l z w (q+1)).2 l) (q,.row (.M [.arr .i64 (aK (eV l z w (q+1))) (q+1)]))
section
variable (n y s l k:Nat) (t d g z f:Nat→Int) (h T:Int) (w:Nat→Bool) (G:aa)
theorem NN (i:Nat) (hi:kd z w l=some i) (hh:0<h):∃ x,exec (bA (n+2) 85 118) (part Try.f85 [1,1,1,1,1,1,1,0,0,1,0,1,0,0,0]) (dZ y s l t k d g h .nils) (bM (s+1) l t k d g T z f (hW l z w) (gW l z w) (cn w l)::G)=some x∧(x.1=.normal∧tidy (al (bM (s+1) l t k d g T z f (hW l z w) (gW l z w) (cn w l)::G)) x.2.1 x.2.2=(dZ y s l t k d g h (.slc 0 5 0 0 1 1 none),eg (s+1) l t k d g T z f (hW l z (mR w i)) (gW l z (mR w i)) (cn (mR w i) l) (0,.row (.M [.arr .i64 (aK [(i:Int)]) 1]))::G)):=by
 obtain ⟨hl,hw⟩:=mz hi
 refine aO (LG (n+2) y s l k t d g z f (hW l z w) (gW l z w) (cn w l) h T (FP l z w) (z i) (i:Int) true G) (bj _ (n+2) (zY (by rw[hi];rfl))) (af _ _) (ag _ _) ?_
 rw[← z3,← Es,← DW (z:=z) hl hw]
 have hp:FP l z w (hW l z w) (gW l z w) (cn w l):=⟨rfl,rfl,rfl⟩
 generalize FP l z w=P at *
 generalize hW l z w=A at *
 generalize gW l z w=B at *
 generalize cn w l=C at *
 repeat' first | (refine Tr.bn (fun hc=>?_) (fun hc=>?_)<;>(try simp (disch:=omega) only[nV,nW,hp] at hc)<;>try omega) | (refine Tr.cj ?_ ?_;· (try simp (disch:=omega) only[nV,nW,hp]);try omega) | (refine Tr.bg ?_ ?_;· first | exact trivial | rfl | exact ⟨rfl,rfl⟩ | exact ⟨rfl,rfl,rfl⟩ | (simp (disch:=omega) only[nV,nW,hp];done) | ((try simp (disch:=omega) only[nV,nW,hp]);omega)) | fail
 all_goals first
  | exact Tr.bc ⟨rfl,rfl⟩
  | fail
theorem NO (i q:Nat) (o:List Int) (ho:o.length=q+1) (hi:kd z w l=some i) (hh:(q+1:Nat)<h) (hq:q<1000):∃ x,exec (bA (n+2) 85 118) (part Try.f85 [1,1,1,1,1,1,1,0,0,1,0,1,0,0,0]) (dZ y s l t k d g h (.slc 0 5 q 0 1 (q+1) none)) (eg (s+1) l t k d g T z f (hW l z w) (gW l z w) (cn w l) (q,.row (.M [.arr .i64 (aK o) (q+1)]))::G)=some x∧(x.1=.normal∧tidy (al (bM (s+1) l t k d g T z f (hW l z w) (gW l z w) (cn w l)::G)) x.2.1 x.2.2=(dZ y s l t k d g h (.slc 0 5 (q+1) 0 1 (q+1+1) none),eg (s+1) l t k d g T z f (hW l z (mR w i)) (gW l z (mR w i)) (cn (mR w i) l) (q+1,.row (.M [.arr .i64 (aK (o++[(i:Int)])) (q+1+1)]))::G)):=by
 obtain ⟨hl,hw⟩:=mz hi
 refine aO (FE (n+2) y s l k t d g z f (hW l z w) (gW l z w) (cn w l) h T (FP l z w) (z i) (i:Int) true q (q+1) (aK o) G) (bj _ (n+2) (zY (by rw[hi];rfl))) (af _ _) (ag _ _) ?_
 have hap:=BB o (i:Int)
 rw[ho] at hap
 have ea:cM (q+1) 1=q+1+1:=bK _ _
 rw[← z3,← Es,← DW (z:=z) hl hw]
 simp only[hap,ea]
 have hp:FP l z w (hW l z w) (gW l z w) (cn w l):=⟨rfl,rfl,rfl⟩
 generalize FP l z w=P at *
 generalize hW l z w=A at *
 generalize gW l z w=B at *
 generalize cn w l=C at *
 generalize aK (o++[(i:Int)])=Y2 at *
 generalize aK o=Y at *
 repeat' first | (refine Tr.bn (fun hc=>?_) (fun hc=>?_)<;>(try simp (disch:=omega) only[nV,nW,hp] at hc)<;>try omega) | (refine Tr.cj ?_ ?_;· (try simp (disch:=omega) only[nV,nW,hp]);try omega) | (refine Tr.bg ?_ ?_;· first | exact trivial | rfl | exact ⟨rfl,rfl⟩ | exact ⟨rfl,rfl,rfl⟩ | (simp (disch:=omega) only[nV,nW,hp];done) | ((try simp (disch:=omega) only[nV,nW,hp]);omega)) | fail
 all_goals first
  | exact Tr.bc ⟨rfl,rfl⟩
  | fail
end
end Go.Eng
end
section
namespace Go.Eng
open Go.Proofs
noncomputable def fE (y s l:Nat) (t:Nat→Int) (k:Nat) (d g:Nat→Int) (h:Int) (m:Nat) (o:Nat→Int) (j:Int):aq:=[(0,.yld 1 y),(1,.ptrT (some 1) (.G [dK s l t k d g]) 0),(2,.ptrT none (.I .i64 [h]) 0),(6,.ptr 0 2 0 0),(7,.ptr 0 3 0 0),(8,.map 0 4),(10,.fn (.func 89) [] []),(11,dc m o false),(76,dc m o false),(77,.int .i64 (Int.ofNat m)),(78,.int .i64 j)]
theorem H8 (n y s l k:Nat) (t d g z f:Nat→Int) (hs:List Int→Bool) (gs:List Int→Int) (c:Nat) (h T j:Int) (v m:Nat) (o:Nat→Int) (G:aa):aN (bA n 85 118) (il aQ n 0) aT aU (part Try.f85 [1,1,1,1,1,1,1,0,0,1,0,1,1,0,1,0,0]) (hints (fE y s l t k d g h m o j)) (eg (s+1) l t k d g T z f hs gs c (v,.dead)::G) =
 (fun (Z0:aC)=>((fun (Z1:Nat×ak)=>((fun (Z2:aV)=>((fun (Z3:aV)=>Tr.ite (cF j (Int.ofNat m)) (Tr.req (dJ j m) (Tr.req (dg (aA 0 j 1) m) (Tr.req (dJ (o (aA 0 j 1)) l) (Tr.req (dg (aA 0 (o (aA 0 j 1)) 1) l) (Tr.ite (cF (t (aA 0 (o (aA 0 j 1)) 1)) (Int.ofNat 0)) (Tr.ok (Ex.normal,Z0,Z3::G)) (Tr.req (dJ (t (aA 0 (o (aA 0 j 1)) 1)) 30) (Tr.req (cT 0 0) (Tr.req (dg (aA 0 (t (aA 0 (o (aA 0 j 1)) 1)) 1) 30) (Tr.req (dJ (t (aA 0 (o (aA 0 j 1)) 1)) 30) (Tr.req (cT 0 0) (Tr.req (dg (aA 0 (t (aA 0 (o (aA 0 j 1)) 1)) 1) 30) (Tr.req (dJ (t (aA 0 (o (aA 0 j 1)) 1)) 30) (Tr.req (cT 0 0) (Tr.req (dg (aA 0 (t (aA 0 (o (aA 0 j 1)) 1)) 1) 30) (Tr.req (dJ (t (aA 0 (o (aA 0 j 1)) 1)) 30) (Tr.req (cT 0 0) (Tr.req (dg (aA 0 (t (aA 0 (o (aA 0 j 1)) 1)) 1) 30) (Tr.ite (dX (c7 f (aA 0 (t (aA 0 (o (aA 0 j 1)) 1)) 1) (cB .i64 (f (aA 0 (t (aA 0 (o (aA 0 j 1)) 1)) 1)) (Int.ofNat 1)) (aA 0 (t (aA 0 (o (aA 0 j 1)) 1)) 1)) (Int.ofNat 0)) (Tr.ite (bx (jI (dX (z (aA 0 (t (aA 0 (o (aA 0 j 1)) 1)) 1)) (Int.ofNat 0)) (dX (t (aA 0 (o (aA 0 j 1)) 1)) (Int.ofNat 0)))) (Tr.ok (Ex.normal,Z0,{ lock:=false,bs:=[Z1,(0,ak.row (Row.I .i64 [T])),(0,ak.row (Row.M [ah.arr .i64 z 30])),(0,ak.row (Row.M [ah.arr .i64 (c7 f (aA 0 (t (aA 0 (o (aA 0 j 1)) 1)) 1) (cB .i64 (f (aA 0 (t (aA 0 (o (aA 0 j 1)) 1)) 1)) (Int.ofNat 1))) 30])),(0,ak.fmap (KK.str 2) (l6 hs [z (aA 0 (t (aA 0 (o (aA 0 j 1)) 1)) 1),t (aA 0 (o (aA 0 j 1)) 1)] true) (l8 gs [z (aA 0 (t (aA 0 (o (aA 0 j 1)) 1)) 1),t (aA 0 (o (aA 0 j 1)) 1)] (Int.ofNat 1)) (rM (hs [z (aA 0 (t (aA 0 (o (aA 0 j 1)) 1)) 1),t (aA 0 (o (aA 0 j 1)) 1)]) c)),(v,ak.dead),(0,ak.row (Row.I .i64 [z (aA 0 (t (aA 0 (o (aA 0 j 1)) 1)) 1),t (aA 0 (o (aA 0 j 1)) 1)]))] } :: G)) (Tr.ok (Ex.normal,Z0,Z2::G))) (Tr.ok (Ex.normal,Z0,Z2::G)))))))))))))))))))) (Tr.ok (Ex.exit 6,[(0,AV.yld 1 y,none),(1,AV.ptrT (some 1) (Row.G [AV.ptrT (some s) (Row.M [ah.one (AV.slcT none (Row.M [ah.arr .i64 t l]) 1 l false),ah.one (AV.slcT none (Row.M [ah.arr .i64 d k]) 1 k false),ah.arr .i64 g 30]) 0]) 0,none),(2,AV.ptrT none (Row.I .i64 [h]) 0,none),(6,AV.ptr 0 2 0 0,none),(7,AV.ptr 0 3 0 0,none),(8,AV.map 0 4,none),(10,AV.fn (Fn.func 89) [] [],none),(11,AV.slcT none (Row.M [ah.arr .i64 o m]) 1 m false,none),(76,AV.slcT none (Row.M [ah.arr .i64 o m]) 1 m false,none),(77,AV.int .i64 (Int.ofNat m),none),(78,AV.int .i64 j,none),(79,AV.bool false,some 1)],Z3::G))) { lock:=false,bs:=[Z1,(0,ak.row (Row.I .i64 [T])),(0,ak.row (Row.M [ah.arr .i64 z 30])),(0,ak.row (Row.M [ah.arr .i64 f 30])),(0,ak.fmap (KK.str 2) hs gs c),(v,ak.dead)] })) { lock:=false,bs:=[Z1,(0,ak.row (Row.I .i64 [T])),(0,ak.row (Row.M [ah.arr .i64 z 30])),(0,ak.row (Row.M [ah.arr .i64 (c7 f (aA 0 (t (aA 0 (o (aA 0 j 1)) 1)) 1) (cB .i64 (f (aA 0 (t (aA 0 (o (aA 0 j 1)) 1)) 1)) (Int.ofNat 1))) 30])),(0,ak.fmap (KK.str 2) hs gs c),(v,ak.dead),(0,ak.row (Row.I .i64 [z (aA 0 (t (aA 0 (o (aA 0 j 1)) 1)) 1),t (aA 0 (o (aA 0 j 1)) 1)]))] })) (0,ak.row (Row.G [AV.fn (Fn.func 74) [AV.ptrT (some (Nat.succ s)) (Row.M [ah.one (AV.slcT none (Row.M [ah.arr .i64 t l]) 1 l false),ah.one (AV.slcT none (Row.M [ah.arr .i64 d k]) 1 k false),ah.arr .i64 g 30]) 0] []])))) [(0,AV.yld 1 y,none),(1,AV.ptrT (some 1) (Row.G [AV.ptrT (some s) (Row.M [ah.one (AV.slcT none (Row.M [ah.arr .i64 t l]) 1 l false),ah.one (AV.slcT none (Row.M [ah.arr .i64 d k]) 1 k false),ah.arr .i64 g 30]) 0]) 0,none),(2,AV.ptrT none (Row.I .i64 [h]) 0,none),(6,AV.ptr 0 2 0 0,none),(7,AV.ptr 0 3 0 0,none),(8,AV.map 0 4,none),(10,AV.fn (Fn.func 89) [] [],none),(11,AV.slcT none (Row.M [ah.arr .i64 o m]) 1 m false,none),(76,AV.slcT none (Row.M [ah.arr .i64 o m]) 1 m false,none),(77,AV.int .i64 (Int.ofNat m),none),(78,AV.int .i64 (bf .i64 j (Int.ofNat 1)),none)]:=by kernel_rfl
theorem H9 (n y s l k:Nat) (t d g z f:Nat→Int) (hs:List Int→Bool) (gs:List Int→Int) (c:Nat) (h T j:Int) (v m:Nat) (o:Nat→Int) (G:aa):aN (bA n 85 118) (il aQ n 0) aT aU (part Try.f85 [1,1,1,1,1,1,1,0,0,1,0,1,1,0,1,0,0]) (hints (fE y s l t k d g h m o j)) (gf (s+1) l t k d g T z f hs gs c (v,.dead) (0,.row (.I .i64 [0,0]))::G) =
 (fun (Z0:aC)=>((fun (Z1:Nat×ak)=>((fun (Z2:aV)=>((fun (Z3:aV)=>Tr.ite (cF j (Int.ofNat m)) (Tr.req (dJ j m) (Tr.req (dg (aA 0 j 1) m) (Tr.req (dJ (o (aA 0 j 1)) l) (Tr.req (dg (aA 0 (o (aA 0 j 1)) 1) l) (Tr.ite (cF (t (aA 0 (o (aA 0 j 1)) 1)) (Int.ofNat 0)) (Tr.ok (Ex.normal,Z0,Z3::G)) (Tr.req (dJ (t (aA 0 (o (aA 0 j 1)) 1)) 30) (Tr.req (cT 0 0) (Tr.req (dg (aA 0 (t (aA 0 (o (aA 0 j 1)) 1)) 1) 30) (Tr.req (dJ (t (aA 0 (o (aA 0 j 1)) 1)) 30) (Tr.req (cT 0 0) (Tr.req (dg (aA 0 (t (aA 0 (o (aA 0 j 1)) 1)) 1) 30) (Tr.req (dJ (t (aA 0 (o (aA 0 j 1)) 1)) 30) (Tr.req (cT 0 0) (Tr.req (dg (aA 0 (t (aA 0 (o (aA 0 j 1)) 1)) 1) 30) (Tr.req (dJ (t (aA 0 (o (aA 0 j 1)) 1)) 30) (Tr.req (cT 0 0) (Tr.req (dg (aA 0 (t (aA 0 (o (aA 0 j 1)) 1)) 1) 30) (Tr.ite (dX (c7 f (aA 0 (t (aA 0 (o (aA 0 j 1)) 1)) 1) (cB .i64 (f (aA 0 (t (aA 0 (o (aA 0 j 1)) 1)) 1)) (Int.ofNat 1)) (aA 0 (t (aA 0 (o (aA 0 j 1)) 1)) 1)) (Int.ofNat 0)) (Tr.ite (bx (jI (dX (z (aA 0 (t (aA 0 (o (aA 0 j 1)) 1)) 1)) (Int.ofNat 0)) (dX (t (aA 0 (o (aA 0 j 1)) 1)) (Int.ofNat 0)))) (Tr.ok (Ex.normal,Z0,{ lock:=false,bs:=[Z1,(0,ak.row (Row.I .i64 [T])),(0,ak.row (Row.M [ah.arr .i64 z 30])),(0,ak.row (Row.M [ah.arr .i64 (c7 f (aA 0 (t (aA 0 (o (aA 0 j 1)) 1)) 1) (cB .i64 (f (aA 0 (t (aA 0 (o (aA 0 j 1)) 1)) 1)) (Int.ofNat 1))) 30])),(0,ak.fmap (KK.str 2) (l6 hs [z (aA 0 (t (aA 0 (o (aA 0 j 1)) 1)) 1),t (aA 0 (o (aA 0 j 1)) 1)] true) (l8 gs [z (aA 0 (t (aA 0 (o (aA 0 j 1)) 1)) 1),t (aA 0 (o (aA 0 j 1)) 1)] (Int.ofNat 1)) (rM (hs [z (aA 0 (t (aA 0 (o (aA 0 j 1)) 1)) 1),t (aA 0 (o (aA 0 j 1)) 1)]) c)),(v,ak.dead),(0,ak.row (Row.I .i64 [Int.ofNat 0,Int.ofNat 0])),(0,ak.row (Row.I .i64 [z (aA 0 (t (aA 0 (o (aA 0 j 1)) 1)) 1),t (aA 0 (o (aA 0 j 1)) 1)]))] } :: G)) (Tr.ok (Ex.normal,Z0,Z2::G))) (Tr.ok (Ex.normal,Z0,Z2::G)))))))))))))))))))) (Tr.ok (Ex.exit 6,[(0,AV.yld 1 y,none),(1,AV.ptrT (some 1) (Row.G [AV.ptrT (some s) (Row.M [ah.one (AV.slcT none (Row.M [ah.arr .i64 t l]) 1 l false),ah.one (AV.slcT none (Row.M [ah.arr .i64 d k]) 1 k false),ah.arr .i64 g 30]) 0]) 0,none),(2,AV.ptrT none (Row.I .i64 [h]) 0,none),(6,AV.ptr 0 2 0 0,none),(7,AV.ptr 0 3 0 0,none),(8,AV.map 0 4,none),(10,AV.fn (Fn.func 89) [] [],none),(11,AV.slcT none (Row.M [ah.arr .i64 o m]) 1 m false,none),(76,AV.slcT none (Row.M [ah.arr .i64 o m]) 1 m false,none),(77,AV.int .i64 (Int.ofNat m),none),(78,AV.int .i64 j,none),(79,AV.bool false,some 1)],Z3::G))) { lock:=false,bs:=[Z1,(0,ak.row (Row.I .i64 [T])),(0,ak.row (Row.M [ah.arr .i64 z 30])),(0,ak.row (Row.M [ah.arr .i64 f 30])),(0,ak.fmap (KK.str 2) hs gs c),(v,ak.dead),(0,ak.row (Row.I .i64 [Int.ofNat 0,Int.ofNat 0]))] })) { lock:=false,bs:=[Z1,(0,ak.row (Row.I .i64 [T])),(0,ak.row (Row.M [ah.arr .i64 z 30])),(0,ak.row (Row.M [ah.arr .i64 (c7 f (aA 0 (t (aA 0 (o (aA 0 j 1)) 1)) 1) (cB .i64 (f (aA 0 (t (aA 0 (o (aA 0 j 1)) 1)) 1)) (Int.ofNat 1))) 30])),(0,ak.fmap (KK.str 2) hs gs c),(v,ak.dead),(0,ak.row (Row.I .i64 [Int.ofNat 0,Int.ofNat 0])),(0,ak.row (Row.I .i64 [z (aA 0 (t (aA 0 (o (aA 0 j 1)) 1)) 1),t (aA 0 (o (aA 0 j 1)) 1)]))] })) (0,ak.row (Row.G [AV.fn (Fn.func 74) [AV.ptrT (some (Nat.succ s)) (Row.M [ah.one (AV.slcT none (Row.M [ah.arr .i64 t l]) 1 l false),ah.one (AV.slcT none (Row.M [ah.arr .i64 d k]) 1 k false),ah.arr .i64 g 30]) 0] []])))) [(0,AV.yld 1 y,none),(1,AV.ptrT (some 1) (Row.G [AV.ptrT (some s) (Row.M [ah.one (AV.slcT none (Row.M [ah.arr .i64 t l]) 1 l false),ah.one (AV.slcT none (Row.M [ah.arr .i64 d k]) 1 k false),ah.arr .i64 g 30]) 0]) 0,none),(2,AV.ptrT none (Row.I .i64 [h]) 0,none),(6,AV.ptr 0 2 0 0,none),(7,AV.ptr 0 3 0 0,none),(8,AV.map 0 4,none),(10,AV.fn (Fn.func 89) [] [],none),(11,AV.slcT none (Row.M [ah.arr .i64 o m]) 1 m false,none),(76,AV.slcT none (Row.M [ah.arr .i64 o m]) 1 m false,none),(77,AV.int .i64 (Int.ofNat m),none),(78,AV.int .i64 (bf .i64 j (Int.ofNat 1)),none)]:=by kernel_rfl
theorem IZ (n:Nat):(jb aQ 90 (J4 (fun _ _ _=>False) 0 0 false)).Ok (cd n):=by
 refine jG (aX _) (fun args H x hx=>?_)
 unfold J4 at hx
 split at hx
 · split at hx
   · exact (Tr.cY hx).1.elim
   · exact (Tr.ae hx).elim
 · exact (Tr.ae hx).elim
theorem Ip (f:Nat→Int) (i:Nat) (x:Int):uI f i x i=x:=by unfold uI;rw[if_pos rfl]
section
variable (n y s l k:Nat) (t d g z f:Nat→Int) (h T:Int) (w:Nat→Bool) (G:aa)
theorem Lp (q:Nat) (hq:q<1000) (hh:(q:Int)<h) (hr:∀ j,j<q+1→∃ i,kd z (bo l z w j).2 l=some i) (j:Nat) (hj:j<q+1):∃ x,exec (bA (n+2) 85 118) (part Try.f85 [1,1,1,1,1,1,1,0,0,1,0,1,0,0,0]) (dZ y s l t k d g h (L6 j)) (sj (s+1) l t k d g T z f w j::G)=some x∧(x.1=.normal∧tidy (al (sj (s+1) l t k d g T z f w 0::G)) x.2.1 x.2.2=(dZ y s l t k d g h (L6 (j+1)),sj (s+1) l t k d g T z f w (j+1)::G)):=by
 obtain ⟨i,hi⟩:=hr j hj
 cases j with
 | zero =>
   have:=NN n y s l k t d g z f h T w G i hi (by omega)
   show ∃ x,_=some x∧(_∧_=(_,eg (s+1) l t k d g T z f (hW l z (bo l z w (0+1)).2) (gW l z (bo l z w (0+1)).2) (cn (bo l z w (0+1)).2 l) (0,.row (.M [.arr .i64 (aK (eV l z w (0+1))) (0+1)]))::G))
   rw[fi hi,yD hi]
   exact this
 | succ j =>
   have hlen:=sG (l:=l) (z:=z) (w:=w) (j+1) (fun i hi=>hr i (by omega))
   have:=NO n y s l k t d g z f h T (bo l z w (j+1)).2 G i j (eV l z w (j+1)) hlen hi (by omega) (by omega)
   show ∃ x,_=some x∧(_∧_=(_,eg (s+1) l t k d g T z f (hW l z (bo l z w (j+1+1)).2) (gW l z (bo l z w (j+1+1)).2) (cn (bo l z w (j+1+1)).2 l) (j+1,.row (.M [.arr .i64 (aK (eV l z w (j+1+1))) (j+1+1)]))::G))
   rw[fi hi,yD hi]
   exact this
theorem HU (q:Nat) (hq:q<1000) (hh:h=((q+1:Nat):Int)) (hr:∀ j,j<q+1→∃ i,kd z (bo l z w j).2 l=some i):exec (bA (n+2) 85 118) (.block 4 (.loop (part Try.f85 [1,1,1,1,1,1,1,0,0,1,0,1,0,0,0]))) (dZ y s l t k d g h .nils) (bM (s+1) l t k d g T z f (hW l z w) (gW l z w) (cn w l)::G)=some (.normal,dZ y s l t k d g h (.slc 0 5 q 0 1 (q+1) none)++[(60,.bool false)],sj (s+1) l t k d g T z f w (q+1)::G):=by
 refine ot (n:=n+2) (f:=85) (nt:=118) (c:=part Try.f85 [1,1,1,1,1,1,1,0,0,1,0,1,0,0,0]) 4 (fun j=>dZ y s l t k d g h (L6 j)) (fun j=>sj (s+1) l t k d g T z f w j::G) (q+1) _ (by omega) (Lp n y s l k t d g z f h T w G q hq (by omega) hr) ?_
 subst hh
 exact hJ (FE (n+2) y s l k t d g z f (hW l z (bo l z w (q+1)).2) (gW l z (bo l z w (q+1)).2) (cn (bo l z w (q+1)).2 l) ((q+1:Nat):Int) T (fun _ _ _=>False) 0 0 false q (q+1) (aK (eV l z w (q+1))) G) (bj _ (n+2) (IZ _)) (af _ _) (ag _ _) (by first | (simp (disch:=omega) only[nV,nW];done) | (simp (disch:=omega) only[nV,nW];omega))
theorem Mz (q:Nat) (hh:((q+1:Nat):Int)<h) (hn:kd z (bo l z w (q+1)).2 l=none):∃ x,exec (bA (n+2) 85 118) (part Try.f85 [1,1,1,1,1,1,1,0,0,1,0,1,0,0,0]) (dZ y s l t k d g h (.slc 0 5 q 0 1 (q+1) none)) (sj (s+1) l t k d g T z f w (q+1)::G)=some x∧x=(.exit 4,dZ y s l t k d g h (.slc 0 5 q 0 1 (q+1) none)++[(12,.ptr 0 6 0 0),(68,.bool true)],gf (s+1) l t k d g T z f (hW l z (bo l z w (q+1)).2) (gW l z (bo l z w (q+1)).2) (cn (bo l z w (q+1)).2 l) (q,.row (.M [.arr .i64 (aK (eV l z w (q+1))) (q+1)])) (0,.row (.I .i64 [0,0]))::G):=by
 refine aO (FE (n+2) y s l k t d g z f (hW l z (bo l z w (q+1)).2) (gW l z (bo l z w (q+1)).2) (cn (bo l z w (q+1)).2 l) h T (FP l z (bo l z w (q+1)).2) 0 0 false q (q+1) (aK (eV l z w (q+1))) G) (bj _ (n+2) (zY (by rw[hn];rfl))) (af _ _) (ag _ _) ?_
 have hp:FP l z (bo l z w (q+1)).2 (hW l z (bo l z w (q+1)).2) (gW l z (bo l z w (q+1)).2) (cn (bo l z w (q+1)).2 l):=⟨rfl,rfl,rfl⟩
 generalize FP l z (bo l z w (q+1)).2=P at *
 generalize hW l z (bo l z w (q+1)).2=A at *
 generalize gW l z (bo l z w (q+1)).2=B at *
 generalize cn (bo l z w (q+1)).2 l=C at *
 repeat' first | (refine Tr.bn (fun hc=>?_) (fun hc=>?_)<;>(try simp (disch:=omega) only[nV,nW,hp] at hc)<;>try omega) | (refine Tr.cj ?_ ?_;· (try simp (disch:=omega) only[nV,nW,hp]);try omega) | (refine Tr.bg ?_ ?_;· first | exact trivial | rfl | exact ⟨rfl,rfl⟩ | exact ⟨rfl,rfl,rfl⟩ | (simp (disch:=omega) only[nV,nW,hp];done) | ((try simp (disch:=omega) only[nV,nW,hp]);omega)) | fail
 all_goals first
  | exact Tr.bc rfl
  | fail
theorem HW (q:Nat) (hq:q<1000) (hh:((q+1:Nat):Int)<h) (hn:kd z (bo l z w (q+1)).2 l=none) (hr:∀ j,j<q+1→∃ i,kd z (bo l z w j).2 l=some i):exec (bA (n+2) 85 118) (.block 4 (.loop (part Try.f85 [1,1,1,1,1,1,1,0,0,1,0,1,0,0,0]))) (dZ y s l t k d g h .nils) (bM (s+1) l t k d g T z f (hW l z w) (gW l z w) (cn w l)::G)=some (.normal,dZ y s l t k d g h (.slc 0 5 q 0 1 (q+1) none)++[(12,.ptr 0 6 0 0),(68,.bool true)],gf (s+1) l t k d g T z f (hW l z (bo l z w (q+1)).2) (gW l z (bo l z w (q+1)).2) (cn (bo l z w (q+1)).2 l) (q,.row (.M [.arr .i64 (aK (eV l z w (q+1))) (q+1)])) (0,.row (.I .i64 [0,0]))::G):=by
 refine ot (n:=n+2) (f:=85) (nt:=118) (c:=part Try.f85 [1,1,1,1,1,1,1,0,0,1,0,1,0,0,0]) 4 (fun j=>dZ y s l t k d g h (L6 j)) (fun j=>sj (s+1) l t k d g T z f w j::G) (q+1) _ (by omega) (Lp n y s l k t d g z f h T w G q hq (by omega) hr) ?_
 obtain ⟨x,hx,rfl⟩:=Mz n y s l k t d g z f h T w G q hh hn
 exact hx
theorem KS (v m j c:Nat) (o:Nat→Int) (hj:j<m) (hm:m<2000) (hl:l≤30) (hc:o j=(c:Int)) (hcl:c<l) (ht:∀ i,i<l→t i<l) (hz:∀ i,i<l→1≤z i) (hf:∀ i,i<l→-900≤f i∧f i≤900) (hv:∀ i,i<l→w i=true→f i≤0):∃ x,exec (bA n 85 118) (part Try.f85 [1,1,1,1,1,1,1,0,0,1,0,1,1,0,1,0,0]) (fE y s l t k d g h m o (j:Nat)) (eg (s+1) l t k d g T z f (hW l z w) (gW l z w) (cn w l) (v,.dead)::G)=some x∧(x.1=.normal∧tidy (al (eg (s+1) l t k d g T z f (hW l z w) (gW l z w) (cn w l) (v,.dead)::G)) x.2.1 x.2.2=(fE y s l t k d g h m o ((j+1:Nat):Int),(eg (s+1) l t k d g T z (rb t (f,w) c).1 (hW l z (rb t (f,w) c).2) (gW l z (rb t (f,w) c).2) (cn (rb t (f,w) c).2 l) (v,.dead)::G))):=by
 refine aO (H8 n y s l k t d g z f (hW l z w) (gW l z w) (cn w l) h T (j:Nat) v m o G) (aB _) (af _ _) (ag _ _) ?_
 rw[ft (j:=j) (by omega)]
 simp only[nj,hc]
 by_cases e:t c<0
 · have hla:rb t (f,w) c=(f,w):=by unfold rb;rw[if_pos e]
   rw[hla]
   generalize hW l z w=A at *
   generalize gW l z w=B at *
   generalize cn w l=C at *
   exact wF
 · obtain ⟨x,hx⟩:∃ x:Nat,t c=x:=⟨(t c).toNat,by omega⟩
   have hxl:x<l:=by have:=ht c hcl;omega
   have hzx:=hz x hxl
   have hfx:=hf x hxl
   have es:cB .i64 (f x) (Int.ofNat 1)=f x-1:=Aq (by show _≤f x-1;omega) (by show f x-1≤_;omega)
   have hla:rb t (f,w) c=(uI f x (f x-1),if f x-1=0 then ja w x else w):=by unfold rb;rw[if_neg e,hx,Int.toNat_natCast]
   rw[hla]
   simp only[hx,nj,es,AF,Ip]
   by_cases e0:f x-1=0
   · have hwx:w x=false:=by
      cases hw:w x with
      | false=>rfl
      | true=>have:=hv x hxl hw;omega
     rw[if_pos e0,← vQ hxl,← zZ hxl,← zK (z:=z) hxl hwx]
     generalize hW l z w=A at *
     generalize gW l z w=B at *
     generalize cn w l=C at *
     generalize uI f x (f x-1)=Y at *
     exact wF
   · rw[if_neg e0]
     generalize hW l z w=A at *
     generalize gW l z w=B at *
     generalize cn w l=C at *
     generalize uI f x (f x-1)=Y at *
     exact wF
theorem KU (v m j c:Nat) (o:Nat→Int) (hj:j<m) (hm:m<2000) (hl:l≤30) (hc:o j=(c:Int)) (hcl:c<l) (ht:∀ i,i<l→t i<l) (hz:∀ i,i<l→1≤z i) (hf:∀ i,i<l→-900≤f i∧f i≤900) (hv:∀ i,i<l→w i=true→f i≤0):∃ x,exec (bA n 85 118) (part Try.f85 [1,1,1,1,1,1,1,0,0,1,0,1,1,0,1,0,0]) (fE y s l t k d g h m o (j:Nat)) (gf (s+1) l t k d g T z f (hW l z w) (gW l z w) (cn w l) (v,.dead) (0,.row (.I .i64 [0,0]))::G)=some x∧(x.1=.normal∧tidy (al (gf (s+1) l t k d g T z f (hW l z w) (gW l z w) (cn w l) (v,.dead) (0,.row (.I .i64 [0,0]))::G)) x.2.1 x.2.2=(fE y s l t k d g h m o ((j+1:Nat):Int),(gf (s+1) l t k d g T z (rb t (f,w) c).1 (hW l z (rb t (f,w) c).2) (gW l z (rb t (f,w) c).2) (cn (rb t (f,w) c).2 l) (v,.dead) (0,.row (.I .i64 [0,0]))::G))):=by
 refine aO (H9 n y s l k t d g z f (hW l z w) (gW l z w) (cn w l) h T (j:Nat) v m o G) (aB _) (af _ _) (ag _ _) ?_
 rw[ft (j:=j) (by omega)]
 simp only[nj,hc]
 by_cases e:t c<0
 · have hla:rb t (f,w) c=(f,w):=by unfold rb;rw[if_pos e]
   rw[hla]
   generalize hW l z w=A at *
   generalize gW l z w=B at *
   generalize cn w l=C at *
   exact wF
 · obtain ⟨x,hx⟩:∃ x:Nat,t c=x:=⟨(t c).toNat,by omega⟩
   have hxl:x<l:=by have:=ht c hcl;omega
   have hzx:=hz x hxl
   have hfx:=hf x hxl
   have es:cB .i64 (f x) (Int.ofNat 1)=f x-1:=Aq (by show _≤f x-1;omega) (by show f x-1≤_;omega)
   have hla:rb t (f,w) c=(uI f x (f x-1),if f x-1=0 then ja w x else w):=by unfold rb;rw[if_neg e,hx,Int.toNat_natCast]
   rw[hla]
   simp only[hx,nj,es,AF,Ip]
   by_cases e0:f x-1=0
   · have hwx:w x=false:=by
      cases hw:w x with
      | false=>rfl
      | true=>have:=hv x hxl hw;omega
     rw[if_pos e0,← vQ hxl,← zZ hxl,← zK (z:=z) hxl hwx]
     generalize hW l z w=A at *
     generalize gW l z w=B at *
     generalize cn w l=C at *
     generalize uI f x (f x-1)=Y at *
     exact wF
   · rw[if_neg e0]
     generalize hW l z w=A at *
     generalize gW l z w=B at *
     generalize cn w l=C at *
     generalize uI f x (f x-1)=Y at *
     exact wF
def cE (t:Nat→Int) (o:Nat→Int) (st:(Nat→Int)×(Nat→Bool)):Nat→(Nat→Int)×(Nat→Bool)
 | 0=>st
 | j+1=>rb t (cE t o st j) (o j).toNat
theorem HS (v m:Nat) (o:Nat→Int) (hm:m<2000) (hl:l≤30) (ho:∀ j,j<m→0≤o j∧o j<l) (ht:∀ i,i<l→t i<l) (hz:∀ i,i<l→1≤z i) (hf:∀ j,j<m→∀ i,i<l→-900≤(cE t o (f,w) j).1 i∧(cE t o (f,w) j).1 i≤900) (hv:∀ j,j<m→∀ i,i<l→(cE t o (f,w) j).2 i=true→(cE t o (f,w) j).1 i≤0):exec (bA n 85 118) (.block 6 (.loop (part Try.f85 [1,1,1,1,1,1,1,0,0,1,0,1,1,0,1,0,0]))) (fE y s l t k d g h m o 0) (eg (s+1) l t k d g T z f (hW l z w) (gW l z w) (cn w l) (v,.dead)::G)=some (.normal,fE y s l t k d g h m o (Int.ofNat m)++[(79,.bool false)],(eg (s+1) l t k d g T z (cE t o (f,w) m).1 (hW l z (cE t o (f,w) m).2) (gW l z (cE t o (f,w) m).2) (cn (cE t o (f,w) m).2 l) (v,.dead)::G)):=by
 refine ot (n:=n) (f:=85) (nt:=118) (c:=part Try.f85 [1,1,1,1,1,1,1,0,0,1,0,1,1,0,1,0,0]) 6 (fun j=>fE y s l t k d g h m o (j:Nat)) (fun j=>(eg (s+1) l t k d g T z (cE t o (f,w) j).1 (hW l z (cE t o (f,w) j).2) (gW l z (cE t o (f,w) j).2) (cn (cE t o (f,w) j).2 l) (v,.dead)::G)) m _ (by omega) (fun j hj=>?_) ?_
 · obtain ⟨h1,h2⟩:=ho j hj
   exact KS n y s l k t d g z (cE t o (f,w) j).1 h T (cE t o (f,w) j).2 G v m j (o j).toNat o hj hm hl (by omega) (by omega) ht hz (hf j hj) (hv j hj)
 · exact hJ (H8 n y s l k t d g z (cE t o (f,w) m).1 (hW l z (cE t o (f,w) m).2) (gW l z (cE t o (f,w) m).2) (cn (cE t o (f,w) m).2 l) h T (Int.ofNat m) v m o G) (aB _) (af _ _) (ag _ _) (by first | (simp (disch:=omega) only[nV,nW];done) | (simp (disch:=omega) only[nV,nW];omega))
theorem HT (v m:Nat) (o:Nat→Int) (hm:m<2000) (hl:l≤30) (ho:∀ j,j<m→0≤o j∧o j<l) (ht:∀ i,i<l→t i<l) (hz:∀ i,i<l→1≤z i) (hf:∀ j,j<m→∀ i,i<l→-900≤(cE t o (f,w) j).1 i∧(cE t o (f,w) j).1 i≤900) (hv:∀ j,j<m→∀ i,i<l→(cE t o (f,w) j).2 i=true→(cE t o (f,w) j).1 i≤0):exec (bA n 85 118) (.block 6 (.loop (part Try.f85 [1,1,1,1,1,1,1,0,0,1,0,1,1,0,1,0,0]))) (fE y s l t k d g h m o 0) (gf (s+1) l t k d g T z f (hW l z w) (gW l z w) (cn w l) (v,.dead) (0,.row (.I .i64 [0,0]))::G)=some (.normal,fE y s l t k d g h m o (Int.ofNat m)++[(79,.bool false)],(gf (s+1) l t k d g T z (cE t o (f,w) m).1 (hW l z (cE t o (f,w) m).2) (gW l z (cE t o (f,w) m).2) (cn (cE t o (f,w) m).2 l) (v,.dead) (0,.row (.I .i64 [0,0]))::G)):=by
 refine ot (n:=n) (f:=85) (nt:=118) (c:=part Try.f85 [1,1,1,1,1,1,1,0,0,1,0,1,1,0,1,0,0]) 6 (fun j=>fE y s l t k d g h m o (j:Nat)) (fun j=>(gf (s+1) l t k d g T z (cE t o (f,w) j).1 (hW l z (cE t o (f,w) j).2) (gW l z (cE t o (f,w) j).2) (cn (cE t o (f,w) j).2 l) (v,.dead) (0,.row (.I .i64 [0,0]))::G)) m _ (by omega) (fun j hj=>?_) ?_
 · obtain ⟨h1,h2⟩:=ho j hj
   exact KU n y s l k t d g z (cE t o (f,w) j).1 h T (cE t o (f,w) j).2 G v m j (o j).toNat o hj hm hl (by omega) (by omega) ht hz (hf j hj) (hv j hj)
 · exact hJ (H9 n y s l k t d g z (cE t o (f,w) m).1 (hW l z (cE t o (f,w) m).2) (gW l z (cE t o (f,w) m).2) (cn (cE t o (f,w) m).2 l) h T (Int.ofNat m) v m o G) (aB _) (af _ _) (ag _ _) (by first | (simp (disch:=omega) only[nV,nW];done) | (simp (disch:=omega) only[nV,nW];omega))
end
end Go.Eng
end
