/- Lay: plan: a turn's cells are picked. -/
import Derived.Test.YtoomemfhcbajoaaV4Lb23x4
set_option linter.unusedVariables false
set_option linter.unusedSimpArgs false
set_option maxRecDepth 100000
section
namespace Go.Eng
open Go.Proofs
noncomputable def eM (s l:Nat) (t:Nat→Int) (k:Nat) (d g:Nat→Int) (T:Int) (z f:Nat→Int) (hs:List Int→Bool) (gs:List Int→Int) (c:Nat) (b:Nat×ai):aX:=⟨false,[(0,.row (.G [f74 s l t k d g])),G8 T,(0,.row (.M [.arr .i64 z 30])),(0,.row (.M [.arr .i64 f 30])),(0,.fmap (.str 2) hs gs c),b]⟩
noncomputable def gA (s l:Nat) (t:Nat→Int) (k:Nat) (d g:Nat→Int) (T:Int) (z f:Nat→Int) (hs:List Int→Bool) (gs:List Int→Int) (c:Nat) (b b2:Nat×ai):aX:=⟨false,[(0,.row (.G [f74 s l t k d g])),G8 T,(0,.row (.M [.arr .i64 z 30])),(0,.row (.M [.arr .i64 f 30])),(0,.fmap (.str 2) hs gs c),b,b2]⟩
noncomputable def eK (y s l:Nat) (t:Nat→Int) (k:Nat) (d g:Nat→Int) (h:Int) (o:AV):ar:=[(0,.yld 1 y),(1,.ptrT (some 1) (.G [eN s l t k d g]) 0),(2,.ptrT none (.I .i64 [h]) 0),(6,.ptr 0 2 0 0),(7,.ptr 0 3 0 0),(8,.map 0 4),(10,.fn (.func 89) [] []),(11,o)]
noncomputable def Lm (P:(List Int→Bool)→(List Int→Int)→Nat→Prop) (a b:Int) (x:Bool) (args:List AV) (H:aa):Tr (AV×aa) :=
 match args with
 | [.map 0 4,.fn (.func 89) [] []]=>match H with
   | ⟨lk,b0::b1::b2::b3::(0,.fmap (.str 2) hs gs c)::bs⟩::r=>.reqP (P hs gs c) (.ok (.tup [.agg (.I .i64 [a,b]),.bool x],H))
   | _=>.bad
 | _=>.bad
theorem Nt (n y s l k:Nat) (t d g z f:Nat→Int) (hs:List Int→Bool) (gs:List Int→Int) (c:Nat) (h T:Int) (P:(List Int→Bool)→(List Int→Int)→Nat→Prop) (a b:Int) (x:Bool) (G:aa):aJ (bo n 85 118) (il (jz aB 90 (Lm P a b x)) n 0) aG aH (part Try.f85 [1,1,1,1,1,1,1,0,0,1,0,1,0,0,0]) (hints (eK y s l t k d g h .nils)) (bY (s+1) l t k d g T z f hs gs c::G) =
 (fun (Z0:Row)=>((fun (Z1:Nat×ai)=>((fun (Z2:Nat×AV×Option Nat)=>Tr.ite (bT (Int.ofNat 0) h) (Tr.reqP (P hs gs c) (Tr.ite (aQ x) (Tr.ok (Ex.exit 4,[(0,AV.yld 1 y,none),Z2,(2,AV.ptrT none (Row.I .i64 [h]) 0,none),(6,AV.ptr 0 2 0 0,none),(7,AV.ptr 0 3 0 0,none),(8,AV.map 0 4,none),(10,AV.fn (Fn.func 89) [] [],none),(11,AV.nils,none),(12,AV.ptr 0 5 0 0,none),(68,AV.bool true,some 1)],{ lock:=false,bs:=[Z1,(0,ai.row (Row.I .i64 [T])),(0,ai.row (Row.M [ah.arr .i64 z 30])),(0,ai.row (Row.M [ah.arr .i64 f 30])),(0,ai.fmap (KK.str 2) hs gs c),(0,ai.row (Row.I .i64 [a,b]))] } :: G)) (Tr.req (eD 0 1 8) (Tr.req (b6 0 0) (Tr.req (gH 1 1) (Tr.ok (Ex.normal,[(0,AV.yld 1 y,none),Z2,(2,AV.ptrT none (Row.I .i64 [h]) 0,none),(6,AV.ptr 0 2 0 0,none),(7,AV.ptr 0 3 0 0,none),(8,AV.map 0 4,none),(10,AV.fn (Fn.func 89) [] [],none),(11,AV.slc 0 7 0 0 1 1 none,none)],{ lock:=false,bs:=[Z1,(0,ai.row (Row.I .i64 [T])),(0,ai.row (Row.M [ah.arr .i64 z 30])),(0,ai.row (Row.M [ah.arr .i64 f 30])),(0,ai.fmap (KK.str 2) (mG hs [a,b] false) (mI gs [a,b] (Int.ofNat 0)) (vm (hs [a,b]) c)),(0,ai.row (Row.I .i64 [a,b])),(0,ai.row (Row.I .i64 [b])),(0,ai.row (Row.M [ah.arr .i64 (au [b]) 1]))] } :: G))))))) (Tr.ok (Ex.exit 4,[(0,AV.yld 1 y,none),Z2,(2,AV.ptrT none (Row.I .i64 [h]) 0,none),(6,AV.ptr 0 2 0 0,none),(7,AV.ptr 0 3 0 0,none),(8,AV.map 0 4,none),(10,AV.fn (Fn.func 89) [] [],none),(11,AV.nils,none),(60,AV.bool false,some 1)],{ lock:=false,bs:=[Z1,(0,ai.row (Row.I .i64 [T])),(0,ai.row (Row.M [ah.arr .i64 z 30])),(0,ai.row (Row.M [ah.arr .i64 f 30])),(0,ai.fmap (KK.str 2) hs gs c)] } :: G))) (1,AV.ptrT (some 1) (Row.G [AV.ptrT (some s) Z0 0]) 0,none))) (0,ai.row (Row.G [AV.fn (Fn.func 74) [AV.ptrT (some (Nat.succ s)) Z0 0] []])))) (Row.M [ah.one (AV.slcT none (Row.M [ah.arr .i64 t l]) 1 l false),ah.one (AV.slcT none (Row.M [ah.arr .i64 d k]) 1 k false),ah.arr .i64 g 30]):=by kernel_rfl
theorem GA (n y s l k:Nat) (t d g z f:Nat→Int) (hs:List Int→Bool) (gs:List Int→Int) (c:Nat) (h T:Int) (P:(List Int→Bool)→(List Int→Int)→Nat→Prop) (a b:Int) (x:Bool) (v m:Nat) (o:Nat→Int) (G:aa):aJ (bo n 85 118) (il (jz aB 90 (Lm P a b x)) n 0) aG aH (part Try.f85 [1,1,1,1,1,1,1,0,0,1,0,1,0,0,0]) (hints (eK y s l t k d g h (.slc 0 5 v 0 1 m none))) (eM (s+1) l t k d g T z f hs gs c (v,.row (.M [.arr .i64 o m]))::G) =
 (fun (Z0:Row)=>((fun (Z1:Nat×ai)=>((fun (Z2:Nat×AV×Option Nat)=>Tr.ite (bT (Int.ofNat m) h) (Tr.reqP (P hs gs c) (Tr.ite (aQ x) (Tr.ok (Ex.exit 4,[(0,AV.yld 1 y,none),Z2,(2,AV.ptrT none (Row.I .i64 [h]) 0,none),(6,AV.ptr 0 2 0 0,none),(7,AV.ptr 0 3 0 0,none),(8,AV.map 0 4,none),(10,AV.fn (Fn.func 89) [] [],none),(11,AV.slc 0 5 v 0 1 m none,none),(12,AV.ptr 0 6 0 0,none),(68,AV.bool true,some 1)],{ lock:=false,bs:=[Z1,(0,ai.row (Row.I .i64 [T])),(0,ai.row (Row.M [ah.arr .i64 z 30])),(0,ai.row (Row.M [ah.arr .i64 f 30])),(0,ai.fmap (KK.str 2) hs gs c),(v,ai.row (Row.M [ah.arr .i64 o m])),(0,ai.row (Row.I .i64 [a,b]))] } :: G)) (Tr.req (eD m 1 8) (Tr.req (b6 0 0) (Tr.req (gH 1 1) (Tr.req (b6 v v) (Tr.req (b6 (bN 0 m) m) (Tr.ok (Ex.normal,[(0,AV.yld 1 y,none),Z2,(2,AV.ptrT none (Row.I .i64 [h]) 0,none),(6,AV.ptr 0 2 0 0,none),(7,AV.ptr 0 3 0 0,none),(8,AV.map 0 4,none),(10,AV.fn (Fn.func 89) [] [],none),(11,AV.slc 0 5 (Nat.succ v) 0 1 (bN m 1) none,none)],{ lock:=false,bs:=[Z1,(0,ai.row (Row.I .i64 [T])),(0,ai.row (Row.M [ah.arr .i64 z 30])),(0,ai.row (Row.M [ah.arr .i64 f 30])),(0,ai.fmap (KK.str 2) (mG hs [a,b] false) (mI gs [a,b] (Int.ofNat 0)) (vm (hs [a,b]) c)),(Nat.succ v,ai.row (Row.M [ah.arr .i64 (kI (dC o 0) m (au [b])) (bN m 1)])),(0,ai.row (Row.I .i64 [a,b])),(0,ai.row (Row.I .i64 [b]))] } :: G))))))))) (Tr.ok (Ex.exit 4,[(0,AV.yld 1 y,none),Z2,(2,AV.ptrT none (Row.I .i64 [h]) 0,none),(6,AV.ptr 0 2 0 0,none),(7,AV.ptr 0 3 0 0,none),(8,AV.map 0 4,none),(10,AV.fn (Fn.func 89) [] [],none),(11,AV.slc 0 5 v 0 1 m none,none),(60,AV.bool false,some 1)],{ lock:=false,bs:=[Z1,(0,ai.row (Row.I .i64 [T])),(0,ai.row (Row.M [ah.arr .i64 z 30])),(0,ai.row (Row.M [ah.arr .i64 f 30])),(0,ai.fmap (KK.str 2) hs gs c),(v,ai.row (Row.M [ah.arr .i64 o m]))] } :: G))) (1,AV.ptrT (some 1) (Row.G [AV.ptrT (some s) Z0 0]) 0,none))) (0,ai.row (Row.G [AV.fn (Fn.func 74) [AV.ptrT (some (Nat.succ s)) Z0 0] []])))) (Row.M [ah.one (AV.slcT none (Row.M [ah.arr .i64 t l]) 1 l false),ah.one (AV.slcT none (Row.M [ah.arr .i64 d k]) 1 k false),ah.arr .i64 g 30]):=by kernel_rfl
def bx (l:Nat) (z:Nat→Int) (w:Nat→Bool):Nat→List Nat×(Nat→Bool)
 | 0=>([],w)
 | m+1=>match kE z (bx l z w m).2 l with
   | none=>bx l z w m
   | some i=>((bx l z w m).1++[i],nr (bx l z w m).2 i)
def fo (l:Nat) (z:Nat→Int) (w:Nat→Bool) (m:Nat):List Int:=(bx l z w m).1.map fun (i:Nat)=>(i:Int)
section
variable {l:Nat} {z:Nat→Int} {w:Nat→Bool}
theorem fD {m i:Nat} (h:kE z (bx l z w m).2 l=some i):bx l z w (m+1)=((bx l z w m).1++[i],nr (bx l z w m).2 i):=by
 show (match kE z (bx l z w m).2 l with | none=>_ | some i=>_)=_
 rw[h]
theorem pn {m:Nat} (h:kE z (bx l z w m).2 l=none):bx l z w (m+1)=bx l z w m:=by
 show (match kE z (bx l z w m).2 l with | none=>_ | some i=>_)=_
 rw[h]
theorem mC:∀ H,∃ r,r≤H∧(∀ j,j<r→∃ i,kE z (bx l z w j).2 l=some i)∧bx l z w H=bx l z w r∧(r=H∨kE z (bx l z w r).2 l=none)
 | 0=>⟨0,Nat.le_refl _,fun j hj=>by omega,rfl,.inl rfl⟩
 | H + 1=>by
   obtain ⟨r,h1,h2,h3,h4⟩:=mC H
   cases hm:kE z (bx l z w H).2 l with
   | none =>
     refine ⟨r,by omega,h2,by rw[pn hm,h3],.inr ?_⟩
     rw[← h3];exact hm
   | some i =>
     rcases h4 with rfl | h4
     · refine ⟨r+1,by omega,fun j hj=>?_,rfl,.inl rfl⟩
       by_cases e:j=r
       · subst e;exact ⟨i,hm⟩
       · exact h2 j (by omega)
     · rw[← h3,hm] at h4;cases h4
theorem tD:∀ m,(∀ j,j<m→∃ i,kE z (bx l z w j).2 l=some i)→(fo l z w m).length=m
 | 0,_=>rfl
 | m+1,h=>by
   obtain ⟨i,hi⟩:=h m (by omega)
   have ih:=tD m (fun j hj=>h j (by omega))
   unfold fo at ih ⊢
   rw[List.length_map] at ih
   rw[fD hi,List.length_map,List.length_append,ih]
   rfl
theorem zN {m i:Nat} (h:kE z (bx l z w m).2 l=some i):fo l z w (m+1)=fo l z w m++[(i:Int)]:=by
 unfold fo
 rw[fD h,List.map_append]
 rfl
theorem mY {w:Nat→Bool} {i:Nat} (h:kE z w l=some i):i<l∧w i=true:=by
 have:=kn z w l
 rw[h] at this
 exact ⟨this.1,this.2.1⟩
end
def GQ (l:Nat) (z:Nat→Int) (w:Nat→Bool):(List Int→Bool)→(List Int→Int)→Nat→Prop:=fun hs gs c=>hs=hW l z w∧gs=gW l z w∧c=cn w l
theorem A8 {n:Nat} {l:Nat} {z:Nat→Int} {w:Nat→Bool} {a b:Int} {x:Bool} (h:PQ ((kE z w l).map fun i=>(z i,(i:Int)))=.tup [.agg (.I .i64 [a,b]),.bool x]):(jz aB 90 (Lm (GQ l z w) a b x)).Ok (cd (n+2)):=by
 refine jX (aD _) (fun args H x hx=>?_)
 unfold Lm at hx
 split at hx
 · split at hx
   · obtain ⟨⟨rfl,rfl,rfl⟩,h2⟩:=Tr.dm hx
     rw[← Tr.ab h2,← h]
     obtain ⟨es,hE⟩:=Sn l z w
     exact Sf n 4 _ rfl hE (Kq l z w)
   · exact (Tr.ae hx).elim
 · exact (Tr.ae hx).elim
noncomputable def NZ:Nat→AV
 | 0=>.nils
 | q+1=>.slc 0 5 q 0 1 (q+1) none
noncomputable def s9 (s l:Nat) (t:Nat→Int) (k:Nat) (d g:Nat→Int) (T:Int) (z f:Nat→Int) (w:Nat→Bool):Nat→aX
 | 0=>bY s l t k d g T z f (hW l z w) (gW l z w) (cn w l)
 | q+1=>eM s l t k d g T z f (hW l z (bx l z w (q+1)).2) (gW l z (bx l z w (q+1)).2) (cn (bx l z w (q+1)).2 l) (q,.row (.M [.arr .i64 (au (fo l z w (q+1))) (q+1)]))
section
variable (n y s l k:Nat) (t d g z f:Nat→Int) (h T:Int) (w:Nat→Bool) (G:aa)
theorem PJ (i:Nat) (hi:kE z w l=some i) (hh:0<h):∃ x,exec (bo (n+2) 85 118) (part Try.f85 [1,1,1,1,1,1,1,0,0,1,0,1,0,0,0]) (eK y s l t k d g h .nils) (bY (s+1) l t k d g T z f (hW l z w) (gW l z w) (cn w l)::G)=some x∧(x.1=.normal∧tidy (ao (bY (s+1) l t k d g T z f (hW l z w) (gW l z w) (cn w l)::G)) x.2.1 x.2.2=(eK y s l t k d g h (.slc 0 5 0 0 1 1 none),eM (s+1) l t k d g T z f (hW l z (nr w i)) (gW l z (nr w i)) (cn (nr w i) l) (0,.row (.M [.arr .i64 (au [(i:Int)]) 1]))::G)):=by
 obtain ⟨hl,hw⟩:=mY hi
 refine aC (Nt (n+2) y s l k t d g z f (hW l z w) (gW l z w) (cn w l) h T (GQ l z w) (z i) (i:Int) true G) (aM _ (n+2) (A8 (by rw[hi];rfl))) (af _ _) (ag _ _) ?_
 rw[← Ba,← FB,← EO (z:=z) hl hw]
 have hp:GQ l z w (hW l z w) (gW l z w) (cn w l):=⟨rfl,rfl,rfl⟩
 generalize GQ l z w=P at *
 generalize hW l z w=A at *
 generalize gW l z w=B at *
 generalize cn w l=C at *
 repeat' first | (refine Tr.bk (fun hc=>?_) (fun hc=>?_)<;>(try simp (disch:=omega) only[nV,nW,hp] at hc)<;>try omega) | (refine Tr.cC ?_ ?_;· (try simp (disch:=omega) only[nV,nW,hp]);try omega) | (refine Tr.bg ?_ ?_;· first | exact trivial | rfl | exact ⟨rfl,rfl⟩ | exact ⟨rfl,rfl,rfl⟩ | (simp (disch:=omega) only[nV,nW,hp];done) | ((try simp (disch:=omega) only[nV,nW,hp]);omega)) | fail
 all_goals first
  | exact Tr.bc ⟨rfl,rfl⟩
  | fail
theorem PK (i q:Nat) (o:List Int) (ho:o.length=q+1) (hi:kE z w l=some i) (hh:(q+1:Nat)<h) (hq:q<1000):∃ x,exec (bo (n+2) 85 118) (part Try.f85 [1,1,1,1,1,1,1,0,0,1,0,1,0,0,0]) (eK y s l t k d g h (.slc 0 5 q 0 1 (q+1) none)) (eM (s+1) l t k d g T z f (hW l z w) (gW l z w) (cn w l) (q,.row (.M [.arr .i64 (au o) (q+1)]))::G)=some x∧(x.1=.normal∧tidy (ao (bY (s+1) l t k d g T z f (hW l z w) (gW l z w) (cn w l)::G)) x.2.1 x.2.2=(eK y s l t k d g h (.slc 0 5 (q+1) 0 1 (q+1+1) none),eM (s+1) l t k d g T z f (hW l z (nr w i)) (gW l z (nr w i)) (cn (nr w i) l) (q+1,.row (.M [.arr .i64 (au (o++[(i:Int)])) (q+1+1)]))::G)):=by
 obtain ⟨hl,hw⟩:=mY hi
 refine aC (GA (n+2) y s l k t d g z f (hW l z w) (gW l z w) (cn w l) h T (GQ l z w) (z i) (i:Int) true q (q+1) (au o) G) (aM _ (n+2) (A8 (by rw[hi];rfl))) (af _ _) (ag _ _) ?_
 have hap:=w6 o (i:Int)
 rw[ho] at hap
 have ea:bN (q+1) 1=q+1+1:=bF _ _
 rw[← Ba,← FB,← EO (z:=z) hl hw]
 simp only[hap,ea]
 have hp:GQ l z w (hW l z w) (gW l z w) (cn w l):=⟨rfl,rfl,rfl⟩
 generalize GQ l z w=P at *
 generalize hW l z w=A at *
 generalize gW l z w=B at *
 generalize cn w l=C at *
 generalize au (o++[(i:Int)])=Y2 at *
 generalize au o=Y at *
 repeat' first | (refine Tr.bk (fun hc=>?_) (fun hc=>?_)<;>(try simp (disch:=omega) only[nV,nW,hp] at hc)<;>try omega) | (refine Tr.cC ?_ ?_;· (try simp (disch:=omega) only[nV,nW,hp]);try omega) | (refine Tr.bg ?_ ?_;· first | exact trivial | rfl | exact ⟨rfl,rfl⟩ | exact ⟨rfl,rfl,rfl⟩ | (simp (disch:=omega) only[nV,nW,hp];done) | ((try simp (disch:=omega) only[nV,nW,hp]);omega)) | fail
 all_goals first
  | exact Tr.bc ⟨rfl,rfl⟩
  | fail
end
end Go.Eng
end
section
namespace Go.Eng
open Go.Proofs
noncomputable def fW (y s l:Nat) (t:Nat→Int) (k:Nat) (d g:Nat→Int) (h:Int) (m:Nat) (o:Nat→Int) (j:Int):ar:=[(0,.yld 1 y),(1,.ptrT (some 1) (.G [eN s l t k d g]) 0),(2,.ptrT none (.I .i64 [h]) 0),(6,.ptr 0 2 0 0),(7,.ptr 0 3 0 0),(8,.map 0 4),(10,.fn (.func 89) [] []),(11,bU m o false),(76,bU m o false),(77,.int .i64 (Int.ofNat m)),(78,.int .i64 j)]
theorem Jm (n y s l k:Nat) (t d g z f:Nat→Int) (hs:List Int→Bool) (gs:List Int→Int) (c:Nat) (h T j:Int) (v m:Nat) (o:Nat→Int) (G:aa):aJ (bo n 85 118) (il aB n 0) aG aH (part Try.f85 [1,1,1,1,1,1,1,0,0,1,0,1,1,0,1,0,0]) (hints (fW y s l t k d g h m o j)) (eM (s+1) l t k d g T z f hs gs c (v,.dead)::G) =
 (fun (Z0:aO)=>((fun (Z1:Nat×ai)=>((fun (Z2:aX)=>((fun (Z3:aX)=>Tr.ite (bT j (Int.ofNat m)) (Tr.req (b8 j m) (Tr.req (bV (an 0 j 1) m) (Tr.req (b8 (o (an 0 j 1)) l) (Tr.req (bV (an 0 (o (an 0 j 1)) 1) l) (Tr.ite (bT (t (an 0 (o (an 0 j 1)) 1)) (Int.ofNat 0)) (Tr.ok (Ex.normal,Z0,Z3::G)) (Tr.req (b8 (t (an 0 (o (an 0 j 1)) 1)) 30) (Tr.req (b6 0 0) (Tr.req (bV (an 0 (t (an 0 (o (an 0 j 1)) 1)) 1) 30) (Tr.req (b8 (t (an 0 (o (an 0 j 1)) 1)) 30) (Tr.req (b6 0 0) (Tr.req (bV (an 0 (t (an 0 (o (an 0 j 1)) 1)) 1) 30) (Tr.req (b8 (t (an 0 (o (an 0 j 1)) 1)) 30) (Tr.req (b6 0 0) (Tr.req (bV (an 0 (t (an 0 (o (an 0 j 1)) 1)) 1) 30) (Tr.req (b8 (t (an 0 (o (an 0 j 1)) 1)) 30) (Tr.req (b6 0 0) (Tr.req (bV (an 0 (t (an 0 (o (an 0 j 1)) 1)) 1) 30) (Tr.ite (cw (fT f (an 0 (t (an 0 (o (an 0 j 1)) 1)) 1) (bC .i64 (f (an 0 (t (an 0 (o (an 0 j 1)) 1)) 1)) (Int.ofNat 1)) (an 0 (t (an 0 (o (an 0 j 1)) 1)) 1)) (Int.ofNat 0)) (Tr.ite (aQ (jZ (cw (z (an 0 (t (an 0 (o (an 0 j 1)) 1)) 1)) (Int.ofNat 0)) (cw (t (an 0 (o (an 0 j 1)) 1)) (Int.ofNat 0)))) (Tr.ok (Ex.normal,Z0,{ lock:=false,bs:=[Z1,(0,ai.row (Row.I .i64 [T])),(0,ai.row (Row.M [ah.arr .i64 z 30])),(0,ai.row (Row.M [ah.arr .i64 (fT f (an 0 (t (an 0 (o (an 0 j 1)) 1)) 1) (bC .i64 (f (an 0 (t (an 0 (o (an 0 j 1)) 1)) 1)) (Int.ofNat 1))) 30])),(0,ai.fmap (KK.str 2) (mG hs [z (an 0 (t (an 0 (o (an 0 j 1)) 1)) 1),t (an 0 (o (an 0 j 1)) 1)] true) (mI gs [z (an 0 (t (an 0 (o (an 0 j 1)) 1)) 1),t (an 0 (o (an 0 j 1)) 1)] (Int.ofNat 1)) (su (hs [z (an 0 (t (an 0 (o (an 0 j 1)) 1)) 1),t (an 0 (o (an 0 j 1)) 1)]) c)),(v,ai.dead),(0,ai.row (Row.I .i64 [z (an 0 (t (an 0 (o (an 0 j 1)) 1)) 1),t (an 0 (o (an 0 j 1)) 1)]))] } :: G)) (Tr.ok (Ex.normal,Z0,Z2::G))) (Tr.ok (Ex.normal,Z0,Z2::G)))))))))))))))))))) (Tr.ok (Ex.exit 6,[(0,AV.yld 1 y,none),(1,AV.ptrT (some 1) (Row.G [AV.ptrT (some s) (Row.M [ah.one (AV.slcT none (Row.M [ah.arr .i64 t l]) 1 l false),ah.one (AV.slcT none (Row.M [ah.arr .i64 d k]) 1 k false),ah.arr .i64 g 30]) 0]) 0,none),(2,AV.ptrT none (Row.I .i64 [h]) 0,none),(6,AV.ptr 0 2 0 0,none),(7,AV.ptr 0 3 0 0,none),(8,AV.map 0 4,none),(10,AV.fn (Fn.func 89) [] [],none),(11,AV.slcT none (Row.M [ah.arr .i64 o m]) 1 m false,none),(76,AV.slcT none (Row.M [ah.arr .i64 o m]) 1 m false,none),(77,AV.int .i64 (Int.ofNat m),none),(78,AV.int .i64 j,none),(79,AV.bool false,some 1)],Z3::G))) { lock:=false,bs:=[Z1,(0,ai.row (Row.I .i64 [T])),(0,ai.row (Row.M [ah.arr .i64 z 30])),(0,ai.row (Row.M [ah.arr .i64 f 30])),(0,ai.fmap (KK.str 2) hs gs c),(v,ai.dead)] })) { lock:=false,bs:=[Z1,(0,ai.row (Row.I .i64 [T])),(0,ai.row (Row.M [ah.arr .i64 z 30])),(0,ai.row (Row.M [ah.arr .i64 (fT f (an 0 (t (an 0 (o (an 0 j 1)) 1)) 1) (bC .i64 (f (an 0 (t (an 0 (o (an 0 j 1)) 1)) 1)) (Int.ofNat 1))) 30])),(0,ai.fmap (KK.str 2) hs gs c),(v,ai.dead),(0,ai.row (Row.I .i64 [z (an 0 (t (an 0 (o (an 0 j 1)) 1)) 1),t (an 0 (o (an 0 j 1)) 1)]))] })) (0,ai.row (Row.G [AV.fn (Fn.func 74) [AV.ptrT (some (Nat.succ s)) (Row.M [ah.one (AV.slcT none (Row.M [ah.arr .i64 t l]) 1 l false),ah.one (AV.slcT none (Row.M [ah.arr .i64 d k]) 1 k false),ah.arr .i64 g 30]) 0] []])))) [(0,AV.yld 1 y,none),(1,AV.ptrT (some 1) (Row.G [AV.ptrT (some s) (Row.M [ah.one (AV.slcT none (Row.M [ah.arr .i64 t l]) 1 l false),ah.one (AV.slcT none (Row.M [ah.arr .i64 d k]) 1 k false),ah.arr .i64 g 30]) 0]) 0,none),(2,AV.ptrT none (Row.I .i64 [h]) 0,none),(6,AV.ptr 0 2 0 0,none),(7,AV.ptr 0 3 0 0,none),(8,AV.map 0 4,none),(10,AV.fn (Fn.func 89) [] [],none),(11,AV.slcT none (Row.M [ah.arr .i64 o m]) 1 m false,none),(76,AV.slcT none (Row.M [ah.arr .i64 o m]) 1 m false,none),(77,AV.int .i64 (Int.ofNat m),none),(78,AV.int .i64 (bu .i64 j (Int.ofNat 1)),none)]:=by kernel_rfl
theorem Jn (n y s l k:Nat) (t d g z f:Nat→Int) (hs:List Int→Bool) (gs:List Int→Int) (c:Nat) (h T j:Int) (v m:Nat) (o:Nat→Int) (G:aa):aJ (bo n 85 118) (il aB n 0) aG aH (part Try.f85 [1,1,1,1,1,1,1,0,0,1,0,1,1,0,1,0,0]) (hints (fW y s l t k d g h m o j)) (gA (s+1) l t k d g T z f hs gs c (v,.dead) (0,.row (.I .i64 [0,0]))::G) =
 (fun (Z0:aO)=>((fun (Z1:Nat×ai)=>((fun (Z2:aX)=>((fun (Z3:aX)=>Tr.ite (bT j (Int.ofNat m)) (Tr.req (b8 j m) (Tr.req (bV (an 0 j 1) m) (Tr.req (b8 (o (an 0 j 1)) l) (Tr.req (bV (an 0 (o (an 0 j 1)) 1) l) (Tr.ite (bT (t (an 0 (o (an 0 j 1)) 1)) (Int.ofNat 0)) (Tr.ok (Ex.normal,Z0,Z3::G)) (Tr.req (b8 (t (an 0 (o (an 0 j 1)) 1)) 30) (Tr.req (b6 0 0) (Tr.req (bV (an 0 (t (an 0 (o (an 0 j 1)) 1)) 1) 30) (Tr.req (b8 (t (an 0 (o (an 0 j 1)) 1)) 30) (Tr.req (b6 0 0) (Tr.req (bV (an 0 (t (an 0 (o (an 0 j 1)) 1)) 1) 30) (Tr.req (b8 (t (an 0 (o (an 0 j 1)) 1)) 30) (Tr.req (b6 0 0) (Tr.req (bV (an 0 (t (an 0 (o (an 0 j 1)) 1)) 1) 30) (Tr.req (b8 (t (an 0 (o (an 0 j 1)) 1)) 30) (Tr.req (b6 0 0) (Tr.req (bV (an 0 (t (an 0 (o (an 0 j 1)) 1)) 1) 30) (Tr.ite (cw (fT f (an 0 (t (an 0 (o (an 0 j 1)) 1)) 1) (bC .i64 (f (an 0 (t (an 0 (o (an 0 j 1)) 1)) 1)) (Int.ofNat 1)) (an 0 (t (an 0 (o (an 0 j 1)) 1)) 1)) (Int.ofNat 0)) (Tr.ite (aQ (jZ (cw (z (an 0 (t (an 0 (o (an 0 j 1)) 1)) 1)) (Int.ofNat 0)) (cw (t (an 0 (o (an 0 j 1)) 1)) (Int.ofNat 0)))) (Tr.ok (Ex.normal,Z0,{ lock:=false,bs:=[Z1,(0,ai.row (Row.I .i64 [T])),(0,ai.row (Row.M [ah.arr .i64 z 30])),(0,ai.row (Row.M [ah.arr .i64 (fT f (an 0 (t (an 0 (o (an 0 j 1)) 1)) 1) (bC .i64 (f (an 0 (t (an 0 (o (an 0 j 1)) 1)) 1)) (Int.ofNat 1))) 30])),(0,ai.fmap (KK.str 2) (mG hs [z (an 0 (t (an 0 (o (an 0 j 1)) 1)) 1),t (an 0 (o (an 0 j 1)) 1)] true) (mI gs [z (an 0 (t (an 0 (o (an 0 j 1)) 1)) 1),t (an 0 (o (an 0 j 1)) 1)] (Int.ofNat 1)) (su (hs [z (an 0 (t (an 0 (o (an 0 j 1)) 1)) 1),t (an 0 (o (an 0 j 1)) 1)]) c)),(v,ai.dead),(0,ai.row (Row.I .i64 [Int.ofNat 0,Int.ofNat 0])),(0,ai.row (Row.I .i64 [z (an 0 (t (an 0 (o (an 0 j 1)) 1)) 1),t (an 0 (o (an 0 j 1)) 1)]))] } :: G)) (Tr.ok (Ex.normal,Z0,Z2::G))) (Tr.ok (Ex.normal,Z0,Z2::G)))))))))))))))))))) (Tr.ok (Ex.exit 6,[(0,AV.yld 1 y,none),(1,AV.ptrT (some 1) (Row.G [AV.ptrT (some s) (Row.M [ah.one (AV.slcT none (Row.M [ah.arr .i64 t l]) 1 l false),ah.one (AV.slcT none (Row.M [ah.arr .i64 d k]) 1 k false),ah.arr .i64 g 30]) 0]) 0,none),(2,AV.ptrT none (Row.I .i64 [h]) 0,none),(6,AV.ptr 0 2 0 0,none),(7,AV.ptr 0 3 0 0,none),(8,AV.map 0 4,none),(10,AV.fn (Fn.func 89) [] [],none),(11,AV.slcT none (Row.M [ah.arr .i64 o m]) 1 m false,none),(76,AV.slcT none (Row.M [ah.arr .i64 o m]) 1 m false,none),(77,AV.int .i64 (Int.ofNat m),none),(78,AV.int .i64 j,none),(79,AV.bool false,some 1)],Z3::G))) { lock:=false,bs:=[Z1,(0,ai.row (Row.I .i64 [T])),(0,ai.row (Row.M [ah.arr .i64 z 30])),(0,ai.row (Row.M [ah.arr .i64 f 30])),(0,ai.fmap (KK.str 2) hs gs c),(v,ai.dead),(0,ai.row (Row.I .i64 [Int.ofNat 0,Int.ofNat 0]))] })) { lock:=false,bs:=[Z1,(0,ai.row (Row.I .i64 [T])),(0,ai.row (Row.M [ah.arr .i64 z 30])),(0,ai.row (Row.M [ah.arr .i64 (fT f (an 0 (t (an 0 (o (an 0 j 1)) 1)) 1) (bC .i64 (f (an 0 (t (an 0 (o (an 0 j 1)) 1)) 1)) (Int.ofNat 1))) 30])),(0,ai.fmap (KK.str 2) hs gs c),(v,ai.dead),(0,ai.row (Row.I .i64 [Int.ofNat 0,Int.ofNat 0])),(0,ai.row (Row.I .i64 [z (an 0 (t (an 0 (o (an 0 j 1)) 1)) 1),t (an 0 (o (an 0 j 1)) 1)]))] })) (0,ai.row (Row.G [AV.fn (Fn.func 74) [AV.ptrT (some (Nat.succ s)) (Row.M [ah.one (AV.slcT none (Row.M [ah.arr .i64 t l]) 1 l false),ah.one (AV.slcT none (Row.M [ah.arr .i64 d k]) 1 k false),ah.arr .i64 g 30]) 0] []])))) [(0,AV.yld 1 y,none),(1,AV.ptrT (some 1) (Row.G [AV.ptrT (some s) (Row.M [ah.one (AV.slcT none (Row.M [ah.arr .i64 t l]) 1 l false),ah.one (AV.slcT none (Row.M [ah.arr .i64 d k]) 1 k false),ah.arr .i64 g 30]) 0]) 0,none),(2,AV.ptrT none (Row.I .i64 [h]) 0,none),(6,AV.ptr 0 2 0 0,none),(7,AV.ptr 0 3 0 0,none),(8,AV.map 0 4,none),(10,AV.fn (Fn.func 89) [] [],none),(11,AV.slcT none (Row.M [ah.arr .i64 o m]) 1 m false,none),(76,AV.slcT none (Row.M [ah.arr .i64 o m]) 1 m false,none),(77,AV.int .i64 (Int.ofNat m),none),(78,AV.int .i64 (bu .i64 j (Int.ofNat 1)),none)]:=by kernel_rfl
theorem J8 (n:Nat):(jz aB 90 (Lm (fun _ _ _=>False) 0 0 false)).Ok (cd n):=by
 refine jX (aD _) (fun args H x hx=>?_)
 unfold Lm at hx
 split at hx
 · split at hx
   · exact (Tr.dm hx).1.elim
   · exact (Tr.ae hx).elim
 · exact (Tr.ae hx).elim
theorem JC (f:Nat→Int) (i:Nat) (x:Int):uI f i x i=x:=by unfold uI;rw[if_pos rfl]
section
variable (n y s l k:Nat) (t d g z f:Nat→Int) (h T:Int) (w:Nat→Bool) (G:aa)
theorem MU (q:Nat) (hq:q<1000) (hh:(q:Int)<h) (hr:∀ j,j<q+1→∃ i,kE z (bx l z w j).2 l=some i) (j:Nat) (hj:j<q+1):∃ x,exec (bo (n+2) 85 118) (part Try.f85 [1,1,1,1,1,1,1,0,0,1,0,1,0,0,0]) (eK y s l t k d g h (NZ j)) (s9 (s+1) l t k d g T z f w j::G)=some x∧(x.1=.normal∧tidy (ao (s9 (s+1) l t k d g T z f w 0::G)) x.2.1 x.2.2=(eK y s l t k d g h (NZ (j+1)),s9 (s+1) l t k d g T z f w (j+1)::G)):=by
 obtain ⟨i,hi⟩:=hr j hj
 cases j with
 | zero =>
   have:=PJ n y s l k t d g z f h T w G i hi (by omega)
   show ∃ x,_=some x∧(_∧_=(_,eM (s+1) l t k d g T z f (hW l z (bx l z w (0+1)).2) (gW l z (bx l z w (0+1)).2) (cn (bx l z w (0+1)).2 l) (0,.row (.M [.arr .i64 (au (fo l z w (0+1))) (0+1)]))::G))
   rw[fD hi,zN hi]
   exact this
 | succ j =>
   have hlen:=tD (l:=l) (z:=z) (w:=w) (j+1) (fun i hi=>hr i (by omega))
   have:=PK n y s l k t d g z f h T (bx l z w (j+1)).2 G i j (fo l z w (j+1)) hlen hi (by omega) (by omega)
   show ∃ x,_=some x∧(_∧_=(_,eM (s+1) l t k d g T z f (hW l z (bx l z w (j+1+1)).2) (gW l z (bx l z w (j+1+1)).2) (cn (bx l z w (j+1+1)).2 l) (j+1,.row (.M [.arr .i64 (au (fo l z w (j+1+1))) (j+1+1)]))::G))
   rw[fD hi,zN hi]
   exact this
theorem I3 (q:Nat) (hq:q<1000) (hh:h=((q+1:Nat):Int)) (hr:∀ j,j<q+1→∃ i,kE z (bx l z w j).2 l=some i):exec (bo (n+2) 85 118) (.block 4 (.loop (part Try.f85 [1,1,1,1,1,1,1,0,0,1,0,1,0,0,0]))) (eK y s l t k d g h .nils) (bY (s+1) l t k d g T z f (hW l z w) (gW l z w) (cn w l)::G)=some (.normal,eK y s l t k d g h (.slc 0 5 q 0 1 (q+1) none)++[(60,.bool false)],s9 (s+1) l t k d g T z f w (q+1)::G):=by
 refine iM (n:=n+2) (f:=85) (nt:=118) (c:=part Try.f85 [1,1,1,1,1,1,1,0,0,1,0,1,0,0,0]) 4 (fun j=>eK y s l t k d g h (NZ j)) (fun j=>s9 (s+1) l t k d g T z f w j::G) (q+1) _ (by omega) (MU n y s l k t d g z f h T w G q hq (by omega) hr) ?_
 subst hh
 exact cr (GA (n+2) y s l k t d g z f (hW l z (bx l z w (q+1)).2) (gW l z (bx l z w (q+1)).2) (cn (bx l z w (q+1)).2 l) ((q+1:Nat):Int) T (fun _ _ _=>False) 0 0 false q (q+1) (au (fo l z w (q+1))) G) (aM _ (n+2) (J8 _)) (af _ _) (ag _ _) (by first | (simp (disch:=omega) only[nV,nW];done) | (simp (disch:=omega) only[nV,nW];omega))
theorem Ov (q:Nat) (hh:((q+1:Nat):Int)<h) (hn:kE z (bx l z w (q+1)).2 l=none):∃ x,exec (bo (n+2) 85 118) (part Try.f85 [1,1,1,1,1,1,1,0,0,1,0,1,0,0,0]) (eK y s l t k d g h (.slc 0 5 q 0 1 (q+1) none)) (s9 (s+1) l t k d g T z f w (q+1)::G)=some x∧x=(.exit 4,eK y s l t k d g h (.slc 0 5 q 0 1 (q+1) none)++[(12,.ptr 0 6 0 0),(68,.bool true)],gA (s+1) l t k d g T z f (hW l z (bx l z w (q+1)).2) (gW l z (bx l z w (q+1)).2) (cn (bx l z w (q+1)).2 l) (q,.row (.M [.arr .i64 (au (fo l z w (q+1))) (q+1)])) (0,.row (.I .i64 [0,0]))::G):=by
 refine aC (GA (n+2) y s l k t d g z f (hW l z (bx l z w (q+1)).2) (gW l z (bx l z w (q+1)).2) (cn (bx l z w (q+1)).2 l) h T (GQ l z (bx l z w (q+1)).2) 0 0 false q (q+1) (au (fo l z w (q+1))) G) (aM _ (n+2) (A8 (by rw[hn];rfl))) (af _ _) (ag _ _) ?_
 have hp:GQ l z (bx l z w (q+1)).2 (hW l z (bx l z w (q+1)).2) (gW l z (bx l z w (q+1)).2) (cn (bx l z w (q+1)).2 l):=⟨rfl,rfl,rfl⟩
 generalize GQ l z (bx l z w (q+1)).2=P at *
 generalize hW l z (bx l z w (q+1)).2=A at *
 generalize gW l z (bx l z w (q+1)).2=B at *
 generalize cn (bx l z w (q+1)).2 l=C at *
 repeat' first | (refine Tr.bk (fun hc=>?_) (fun hc=>?_)<;>(try simp (disch:=omega) only[nV,nW,hp] at hc)<;>try omega) | (refine Tr.cC ?_ ?_;· (try simp (disch:=omega) only[nV,nW,hp]);try omega) | (refine Tr.bg ?_ ?_;· first | exact trivial | rfl | exact ⟨rfl,rfl⟩ | exact ⟨rfl,rfl,rfl⟩ | (simp (disch:=omega) only[nV,nW,hp];done) | ((try simp (disch:=omega) only[nV,nW,hp]);omega)) | fail
 all_goals first
  | exact Tr.bc rfl
  | fail
theorem I4 (q:Nat) (hq:q<1000) (hh:((q+1:Nat):Int)<h) (hn:kE z (bx l z w (q+1)).2 l=none) (hr:∀ j,j<q+1→∃ i,kE z (bx l z w j).2 l=some i):exec (bo (n+2) 85 118) (.block 4 (.loop (part Try.f85 [1,1,1,1,1,1,1,0,0,1,0,1,0,0,0]))) (eK y s l t k d g h .nils) (bY (s+1) l t k d g T z f (hW l z w) (gW l z w) (cn w l)::G)=some (.normal,eK y s l t k d g h (.slc 0 5 q 0 1 (q+1) none)++[(12,.ptr 0 6 0 0),(68,.bool true)],gA (s+1) l t k d g T z f (hW l z (bx l z w (q+1)).2) (gW l z (bx l z w (q+1)).2) (cn (bx l z w (q+1)).2 l) (q,.row (.M [.arr .i64 (au (fo l z w (q+1))) (q+1)])) (0,.row (.I .i64 [0,0]))::G):=by
 refine iM (n:=n+2) (f:=85) (nt:=118) (c:=part Try.f85 [1,1,1,1,1,1,1,0,0,1,0,1,0,0,0]) 4 (fun j=>eK y s l t k d g h (NZ j)) (fun j=>s9 (s+1) l t k d g T z f w j::G) (q+1) _ (by omega) (MU n y s l k t d g z f h T w G q hq (by omega) hr) ?_
 obtain ⟨x,hx,rfl⟩:=Ov n y s l k t d g z f h T w G q hh hn
 exact hx
theorem Mk (v m j c:Nat) (o:Nat→Int) (hj:j<m) (hm:m<2000) (hl:l≤30) (hc:o j=(c:Int)) (hcl:c<l) (ht:∀ i,i<l→t i<l) (hz:∀ i,i<l→1≤z i) (hf:∀ i,i<l→-900≤f i∧f i≤900) (hv:∀ i,i<l→w i=true→f i≤0):∃ x,exec (bo n 85 118) (part Try.f85 [1,1,1,1,1,1,1,0,0,1,0,1,1,0,1,0,0]) (fW y s l t k d g h m o (j:Nat)) (eM (s+1) l t k d g T z f (hW l z w) (gW l z w) (cn w l) (v,.dead)::G)=some x∧(x.1=.normal∧tidy (ao (eM (s+1) l t k d g T z f (hW l z w) (gW l z w) (cn w l) (v,.dead)::G)) x.2.1 x.2.2=(fW y s l t k d g h m o ((j+1:Nat):Int),(eM (s+1) l t k d g T z (rU t (f,w) c).1 (hW l z (rU t (f,w) c).2) (gW l z (rU t (f,w) c).2) (cn (rU t (f,w) c).2 l) (v,.dead)::G))):=by
 refine aC (Jm n y s l k t d g z f (hW l z w) (gW l z w) (cn w l) h T (j:Nat) v m o G) (al _) (af _ _) (ag _ _) ?_
 rw[cK (j:=j) (by omega)]
 simp only[gK,hc]
 by_cases e:t c<0
 · have hla:rU t (f,w) c=(f,w):=by unfold rU;rw[if_pos e]
   rw[hla]
   generalize hW l z w=A at *
   generalize gW l z w=B at *
   generalize cn w l=C at *
   exact wF
 · obtain ⟨x,hx⟩:∃ x:Nat,t c=x:=⟨(t c).toNat,by omega⟩
   have hxl:x<l:=by have:=ht c hcl;omega
   have hzx:=hz x hxl
   have hfx:=hf x hxl
   have es:bC .i64 (f x) (Int.ofNat 1)=f x-1:=qB (by show _≤f x-1;omega) (by show f x-1≤_;omega)
   have hla:rU t (f,w) c=(uI f x (f x-1),if f x-1=0 then jy w x else w):=by unfold rU;rw[if_neg e,hx,Int.toNat_natCast]
   rw[hla]
   simp only[hx,gK,es,ug,JC]
   by_cases e0:f x-1=0
   · have hwx:w x=false:=by
      cases hw:w x with
      | false=>rfl
      | true=>have:=hv x hxl hw;omega
     rw[if_pos e0,← wR hxl,← A9 hxl,← AR (z:=z) hxl hwx]
     generalize hW l z w=A at *
     generalize gW l z w=B at *
     generalize cn w l=C at *
     generalize uI f x (f x-1)=Y at *
     exact wF
   · rw[if_neg e0]
     generalize hW l z w=A at *
     generalize gW l z w=B at *
     generalize cn w l=C at *
     generalize uI f x (f x-1)=Y at *
     exact wF
theorem Ml (v m j c:Nat) (o:Nat→Int) (hj:j<m) (hm:m<2000) (hl:l≤30) (hc:o j=(c:Int)) (hcl:c<l) (ht:∀ i,i<l→t i<l) (hz:∀ i,i<l→1≤z i) (hf:∀ i,i<l→-900≤f i∧f i≤900) (hv:∀ i,i<l→w i=true→f i≤0):∃ x,exec (bo n 85 118) (part Try.f85 [1,1,1,1,1,1,1,0,0,1,0,1,1,0,1,0,0]) (fW y s l t k d g h m o (j:Nat)) (gA (s+1) l t k d g T z f (hW l z w) (gW l z w) (cn w l) (v,.dead) (0,.row (.I .i64 [0,0]))::G)=some x∧(x.1=.normal∧tidy (ao (gA (s+1) l t k d g T z f (hW l z w) (gW l z w) (cn w l) (v,.dead) (0,.row (.I .i64 [0,0]))::G)) x.2.1 x.2.2=(fW y s l t k d g h m o ((j+1:Nat):Int),(gA (s+1) l t k d g T z (rU t (f,w) c).1 (hW l z (rU t (f,w) c).2) (gW l z (rU t (f,w) c).2) (cn (rU t (f,w) c).2 l) (v,.dead) (0,.row (.I .i64 [0,0]))::G))):=by
 refine aC (Jn n y s l k t d g z f (hW l z w) (gW l z w) (cn w l) h T (j:Nat) v m o G) (al _) (af _ _) (ag _ _) ?_
 rw[cK (j:=j) (by omega)]
 simp only[gK,hc]
 by_cases e:t c<0
 · have hla:rU t (f,w) c=(f,w):=by unfold rU;rw[if_pos e]
   rw[hla]
   generalize hW l z w=A at *
   generalize gW l z w=B at *
   generalize cn w l=C at *
   exact wF
 · obtain ⟨x,hx⟩:∃ x:Nat,t c=x:=⟨(t c).toNat,by omega⟩
   have hxl:x<l:=by have:=ht c hcl;omega
   have hzx:=hz x hxl
   have hfx:=hf x hxl
   have es:bC .i64 (f x) (Int.ofNat 1)=f x-1:=qB (by show _≤f x-1;omega) (by show f x-1≤_;omega)
   have hla:rU t (f,w) c=(uI f x (f x-1),if f x-1=0 then jy w x else w):=by unfold rU;rw[if_neg e,hx,Int.toNat_natCast]
   rw[hla]
   simp only[hx,gK,es,ug,JC]
   by_cases e0:f x-1=0
   · have hwx:w x=false:=by
      cases hw:w x with
      | false=>rfl
      | true=>have:=hv x hxl hw;omega
     rw[if_pos e0,← wR hxl,← A9 hxl,← AR (z:=z) hxl hwx]
     generalize hW l z w=A at *
     generalize gW l z w=B at *
     generalize cn w l=C at *
     generalize uI f x (f x-1)=Y at *
     exact wF
   · rw[if_neg e0]
     generalize hW l z w=A at *
     generalize gW l z w=B at *
     generalize cn w l=C at *
     generalize uI f x (f x-1)=Y at *
     exact wF
def cU (t:Nat→Int) (o:Nat→Int) (st:(Nat→Int)×(Nat→Bool)):Nat→(Nat→Int)×(Nat→Bool)
 | 0=>st
 | j+1=>rU t (cU t o st j) (o j).toNat
theorem I1 (v m:Nat) (o:Nat→Int) (hm:m<2000) (hl:l≤30) (ho:∀ j,j<m→0≤o j∧o j<l) (ht:∀ i,i<l→t i<l) (hz:∀ i,i<l→1≤z i) (hf:∀ j,j<m→∀ i,i<l→-900≤(cU t o (f,w) j).1 i∧(cU t o (f,w) j).1 i≤900) (hv:∀ j,j<m→∀ i,i<l→(cU t o (f,w) j).2 i=true→(cU t o (f,w) j).1 i≤0):exec (bo n 85 118) (.block 6 (.loop (part Try.f85 [1,1,1,1,1,1,1,0,0,1,0,1,1,0,1,0,0]))) (fW y s l t k d g h m o 0) (eM (s+1) l t k d g T z f (hW l z w) (gW l z w) (cn w l) (v,.dead)::G)=some (.normal,fW y s l t k d g h m o (Int.ofNat m)++[(79,.bool false)],(eM (s+1) l t k d g T z (cU t o (f,w) m).1 (hW l z (cU t o (f,w) m).2) (gW l z (cU t o (f,w) m).2) (cn (cU t o (f,w) m).2 l) (v,.dead)::G)):=by
 refine iM (n:=n) (f:=85) (nt:=118) (c:=part Try.f85 [1,1,1,1,1,1,1,0,0,1,0,1,1,0,1,0,0]) 6 (fun j=>fW y s l t k d g h m o (j:Nat)) (fun j=>(eM (s+1) l t k d g T z (cU t o (f,w) j).1 (hW l z (cU t o (f,w) j).2) (gW l z (cU t o (f,w) j).2) (cn (cU t o (f,w) j).2 l) (v,.dead)::G)) m _ (by omega) (fun j hj=>?_) ?_
 · obtain ⟨h1,h2⟩:=ho j hj
   exact Mk n y s l k t d g z (cU t o (f,w) j).1 h T (cU t o (f,w) j).2 G v m j (o j).toNat o hj hm hl (by omega) (by omega) ht hz (hf j hj) (hv j hj)
 · exact cr (Jm n y s l k t d g z (cU t o (f,w) m).1 (hW l z (cU t o (f,w) m).2) (gW l z (cU t o (f,w) m).2) (cn (cU t o (f,w) m).2 l) h T (Int.ofNat m) v m o G) (al _) (af _ _) (ag _ _) (by first | (simp (disch:=omega) only[nV,nW];done) | (simp (disch:=omega) only[nV,nW];omega))
theorem I2 (v m:Nat) (o:Nat→Int) (hm:m<2000) (hl:l≤30) (ho:∀ j,j<m→0≤o j∧o j<l) (ht:∀ i,i<l→t i<l) (hz:∀ i,i<l→1≤z i) (hf:∀ j,j<m→∀ i,i<l→-900≤(cU t o (f,w) j).1 i∧(cU t o (f,w) j).1 i≤900) (hv:∀ j,j<m→∀ i,i<l→(cU t o (f,w) j).2 i=true→(cU t o (f,w) j).1 i≤0):exec (bo n 85 118) (.block 6 (.loop (part Try.f85 [1,1,1,1,1,1,1,0,0,1,0,1,1,0,1,0,0]))) (fW y s l t k d g h m o 0) (gA (s+1) l t k d g T z f (hW l z w) (gW l z w) (cn w l) (v,.dead) (0,.row (.I .i64 [0,0]))::G)=some (.normal,fW y s l t k d g h m o (Int.ofNat m)++[(79,.bool false)],(gA (s+1) l t k d g T z (cU t o (f,w) m).1 (hW l z (cU t o (f,w) m).2) (gW l z (cU t o (f,w) m).2) (cn (cU t o (f,w) m).2 l) (v,.dead) (0,.row (.I .i64 [0,0]))::G)):=by
 refine iM (n:=n) (f:=85) (nt:=118) (c:=part Try.f85 [1,1,1,1,1,1,1,0,0,1,0,1,1,0,1,0,0]) 6 (fun j=>fW y s l t k d g h m o (j:Nat)) (fun j=>(gA (s+1) l t k d g T z (cU t o (f,w) j).1 (hW l z (cU t o (f,w) j).2) (gW l z (cU t o (f,w) j).2) (cn (cU t o (f,w) j).2 l) (v,.dead) (0,.row (.I .i64 [0,0]))::G)) m _ (by omega) (fun j hj=>?_) ?_
 · obtain ⟨h1,h2⟩:=ho j hj
   exact Ml n y s l k t d g z (cU t o (f,w) j).1 h T (cU t o (f,w) j).2 G v m j (o j).toNat o hj hm hl (by omega) (by omega) ht hz (hf j hj) (hv j hj)
 · exact cr (Jn n y s l k t d g z (cU t o (f,w) m).1 (hW l z (cU t o (f,w) m).2) (gW l z (cU t o (f,w) m).2) (cn (cU t o (f,w) m).2 l) h T (Int.ofNat m) v m o G) (al _) (af _ _) (ag _ _) (by first | (simp (disch:=omega) only[nV,nW];done) | (simp (disch:=omega) only[nV,nW];omega))
end
end Go.Eng
end
