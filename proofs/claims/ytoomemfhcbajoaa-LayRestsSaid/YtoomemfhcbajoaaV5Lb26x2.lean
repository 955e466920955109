/- Lay: plan: a turn's cells are picked. -/
import Derived.Test.YtoomemfhcbajoaaV5Lb23x4
set_option linter.unusedVariables false
set_option linter.unusedSimpArgs false
set_option maxRecDepth 100000
section
namespace Go.Eng
open Go.Proofs
noncomputable def ep (s l:Nat) (t:Nat→Int) (k:Nat) (d g:Nat→Int) (T:Int) (z f:Nat→Int) (hs:List Int→Bool) (gs:List Int→Int) (c:Nat) (b:Nat×ai):aU:=⟨false,[(0,.row (.G [f74 s l t k d g])),vK T,(0,.row (.M [.arr .i64 z 30])),(0,.row (.M [.arr .i64 f 30])),(0,.fmap (.str 2) hs gs c),b]⟩
noncomputable def gh (s l:Nat) (t:Nat→Int) (k:Nat) (d g:Nat→Int) (T:Int) (z f:Nat→Int) (hs:List Int→Bool) (gs:List Int→Int) (c:Nat) (b b2:Nat×ai):aU:=⟨false,[(0,.row (.G [f74 s l t k d g])),vK T,(0,.row (.M [.arr .i64 z 30])),(0,.row (.M [.arr .i64 f 30])),(0,.fmap (.str 2) hs gs c),b,b2]⟩
noncomputable def eg (y s l:Nat) (t:Nat→Int) (k:Nat) (d g:Nat→Int) (h:Int) (o:AV):ar:=[(0,.yld 1 y),(1,.ptrT (some 1) (.G [dC s l t k d g]) 0),(2,.ptrT none (.I .i64 [h]) 0),(6,.ptr 0 2 0 0),(7,.ptr 0 3 0 0),(8,.map 0 4),(10,.fn (.func 89) [] []),(11,o)]
noncomputable def J8 (P:(List Int→Bool)→(List Int→Int)→Nat→Prop) (a b:Int) (x:Bool) (args:List AV) (H:aa):Tr (AV×aa) :=
 match args with
 | [.map 0 4,.fn (.func 89) [] []]=>match H with
   | ⟨lk,b0::b1::b2::b3::(0,.fmap (.str 2) hs gs c)::bs⟩::r=>.reqP (P hs gs c) (.ok (.tup [.agg (.I .i64 [a,b]),.bool x],H))
   | _=>.bad
 | _=>.bad
theorem LU (n y s l k:Nat) (t d g z f:Nat→Int) (hs:List Int→Bool) (gs:List Int→Int) (c:Nat) (h T:Int) (P:(List Int→Bool)→(List Int→Int)→Nat→Prop) (a b:Int) (x:Bool) (G:aa):aG (bx n 85 118) (il (gY aK 90 (J8 P a b x)) n 0) aO aP (part Try.f85 [1,1,1,1,1,1,1,0,0,1,0,1,0,0,0]) (hints (eg y s l t k d g h .nils)) (bV (s+1) l t k d g T z f hs gs c::G) =
 (fun (Z0:Row)=>((fun (Z1:Nat×ai)=>((fun (Z2:Nat×AV×Option Nat)=>Tr.ite (cq (Int.ofNat 0) h) (Tr.reqP (P hs gs c) (Tr.ite (ba x) (Tr.ok (Ex.exit 4,[(0,AV.yld 1 y,none),Z2,(2,AV.ptrT none (Row.I .i64 [h]) 0,none),(6,AV.ptr 0 2 0 0,none),(7,AV.ptr 0 3 0 0,none),(8,AV.map 0 4,none),(10,AV.fn (Fn.func 89) [] [],none),(11,AV.nils,none),(12,AV.ptr 0 5 0 0,none),(68,AV.bool true,some 1)],{ lock:=false,bs:=[Z1,(0,ai.row (Row.I .i64 [T])),(0,ai.row (Row.M [ah.arr .i64 z 30])),(0,ai.row (Row.M [ah.arr .i64 f 30])),(0,ai.fmap (KK.str 2) hs gs c),(0,ai.row (Row.I .i64 [a,b]))] } :: G)) (Tr.req (cF 0 1 8) (Tr.req (bM 0 0) (Tr.req (bY 1 1) (Tr.ok (Ex.normal,[(0,AV.yld 1 y,none),Z2,(2,AV.ptrT none (Row.I .i64 [h]) 0,none),(6,AV.ptr 0 2 0 0,none),(7,AV.ptr 0 3 0 0,none),(8,AV.map 0 4,none),(10,AV.fn (Fn.func 89) [] [],none),(11,AV.slc 0 7 0 0 1 1 none,none)],{ lock:=false,bs:=[Z1,(0,ai.row (Row.I .i64 [T])),(0,ai.row (Row.M [ah.arr .i64 z 30])),(0,ai.row (Row.M [ah.arr .i64 f 30])),(0,ai.fmap (KK.str 2) (mg hs [a,b] false) (mi gs [a,b] (Int.ofNat 0)) (uA (hs [a,b]) c)),(0,ai.row (Row.I .i64 [a,b])),(0,ai.row (Row.I .i64 [b])),(0,ai.row (Row.M [ah.arr .i64 (al [b]) 1]))] } :: G))))))) (Tr.ok (Ex.exit 4,[(0,AV.yld 1 y,none),Z2,(2,AV.ptrT none (Row.I .i64 [h]) 0,none),(6,AV.ptr 0 2 0 0,none),(7,AV.ptr 0 3 0 0,none),(8,AV.map 0 4,none),(10,AV.fn (Fn.func 89) [] [],none),(11,AV.nils,none),(60,AV.bool false,some 1)],{ lock:=false,bs:=[Z1,(0,ai.row (Row.I .i64 [T])),(0,ai.row (Row.M [ah.arr .i64 z 30])),(0,ai.row (Row.M [ah.arr .i64 f 30])),(0,ai.fmap (KK.str 2) hs gs c)] } :: G))) (1,AV.ptrT (some 1) (Row.G [AV.ptrT (some s) Z0 0]) 0,none))) (0,ai.row (Row.G [AV.fn (Fn.func 74) [AV.ptrT (some (Nat.succ s)) Z0 0] []])))) (Row.M [ah.one (AV.slcT none (Row.M [ah.arr .i64 t l]) 1 l false),ah.one (AV.slcT none (Row.M [ah.arr .i64 d k]) 1 k false),ah.arr .i64 g 30]):=by kernel_rfl
theorem FG (n y s l k:Nat) (t d g z f:Nat→Int) (hs:List Int→Bool) (gs:List Int→Int) (c:Nat) (h T:Int) (P:(List Int→Bool)→(List Int→Int)→Nat→Prop) (a b:Int) (x:Bool) (v m:Nat) (o:Nat→Int) (G:aa):aG (bx n 85 118) (il (gY aK 90 (J8 P a b x)) n 0) aO aP (part Try.f85 [1,1,1,1,1,1,1,0,0,1,0,1,0,0,0]) (hints (eg y s l t k d g h (.slc 0 5 v 0 1 m none))) (ep (s+1) l t k d g T z f hs gs c (v,.row (.M [.arr .i64 o m]))::G) =
 (fun (Z0:Row)=>((fun (Z1:Nat×ai)=>((fun (Z2:Nat×AV×Option Nat)=>Tr.ite (cq (Int.ofNat m) h) (Tr.reqP (P hs gs c) (Tr.ite (ba x) (Tr.ok (Ex.exit 4,[(0,AV.yld 1 y,none),Z2,(2,AV.ptrT none (Row.I .i64 [h]) 0,none),(6,AV.ptr 0 2 0 0,none),(7,AV.ptr 0 3 0 0,none),(8,AV.map 0 4,none),(10,AV.fn (Fn.func 89) [] [],none),(11,AV.slc 0 5 v 0 1 m none,none),(12,AV.ptr 0 6 0 0,none),(68,AV.bool true,some 1)],{ lock:=false,bs:=[Z1,(0,ai.row (Row.I .i64 [T])),(0,ai.row (Row.M [ah.arr .i64 z 30])),(0,ai.row (Row.M [ah.arr .i64 f 30])),(0,ai.fmap (KK.str 2) hs gs c),(v,ai.row (Row.M [ah.arr .i64 o m])),(0,ai.row (Row.I .i64 [a,b]))] } :: G)) (Tr.req (cF m 1 8) (Tr.req (bM 0 0) (Tr.req (bY 1 1) (Tr.req (bM v v) (Tr.req (bM (bB 0 m) m) (Tr.ok (Ex.normal,[(0,AV.yld 1 y,none),Z2,(2,AV.ptrT none (Row.I .i64 [h]) 0,none),(6,AV.ptr 0 2 0 0,none),(7,AV.ptr 0 3 0 0,none),(8,AV.map 0 4,none),(10,AV.fn (Fn.func 89) [] [],none),(11,AV.slc 0 5 (Nat.succ v) 0 1 (bB m 1) none,none)],{ lock:=false,bs:=[Z1,(0,ai.row (Row.I .i64 [T])),(0,ai.row (Row.M [ah.arr .i64 z 30])),(0,ai.row (Row.M [ah.arr .i64 f 30])),(0,ai.fmap (KK.str 2) (mg hs [a,b] false) (mi gs [a,b] (Int.ofNat 0)) (uA (hs [a,b]) c)),(Nat.succ v,ai.row (Row.M [ah.arr .i64 (jO (bm o 0) m (al [b])) (bB m 1)])),(0,ai.row (Row.I .i64 [a,b])),(0,ai.row (Row.I .i64 [b]))] } :: G))))))))) (Tr.ok (Ex.exit 4,[(0,AV.yld 1 y,none),Z2,(2,AV.ptrT none (Row.I .i64 [h]) 0,none),(6,AV.ptr 0 2 0 0,none),(7,AV.ptr 0 3 0 0,none),(8,AV.map 0 4,none),(10,AV.fn (Fn.func 89) [] [],none),(11,AV.slc 0 5 v 0 1 m none,none),(60,AV.bool false,some 1)],{ lock:=false,bs:=[Z1,(0,ai.row (Row.I .i64 [T])),(0,ai.row (Row.M [ah.arr .i64 z 30])),(0,ai.row (Row.M [ah.arr .i64 f 30])),(0,ai.fmap (KK.str 2) hs gs c),(v,ai.row (Row.M [ah.arr .i64 o m]))] } :: G))) (1,AV.ptrT (some 1) (Row.G [AV.ptrT (some s) Z0 0]) 0,none))) (0,ai.row (Row.G [AV.fn (Fn.func 74) [AV.ptrT (some (Nat.succ s)) Z0 0] []])))) (Row.M [ah.one (AV.slcT none (Row.M [ah.arr .i64 t l]) 1 l false),ah.one (AV.slcT none (Row.M [ah.arr .i64 d k]) 1 k false),ah.arr .i64 g 30]):=by kernel_rfl
def bt (l:Nat) (z:Nat→Int) (w:Nat→Bool):Nat→List Nat×(Nat→Bool)
 | 0=>([],w)
 | m+1=>match kn z (bt l z w m).2 l with
   | none=>bt l z w m
   | some i=>((bt l z w m).1++[i],mZ (bt l z w m).2 i)
def eT (l:Nat) (z:Nat→Int) (w:Nat→Bool) (m:Nat):List Int:=(bt l z w m).1.map fun (i:Nat)=>(i:Int)
section
variable {l:Nat} {z:Nat→Int} {w:Nat→Bool}
theorem ff {m i:Nat} (h:kn z (bt l z w m).2 l=some i):bt l z w (m+1)=((bt l z w m).1++[i],mZ (bt l z w m).2 i):=by
 show (match kn z (bt l z w m).2 l with | none=>_ | some i=>_)=_
 rw[h]
theorem o6 {m:Nat} (h:kn z (bt l z w m).2 l=none):bt l z w (m+1)=bt l z w m:=by
 show (match kn z (bt l z w m).2 l with | none=>_ | some i=>_)=_
 rw[h]
theorem nO:∀ H,∃ r,r≤H∧(∀ j,j<r→∃ i,kn z (bt l z w j).2 l=some i)∧bt l z w H=bt l z w r∧(r=H∨kn z (bt l z w r).2 l=none)
 | 0=>⟨0,Nat.le_refl _,fun j hj=>by omega,rfl,.inl rfl⟩
 | H + 1=>by
   obtain ⟨r,h1,h2,h3,h4⟩:=nO H
   cases hm:kn z (bt l z w H).2 l with
   | none =>
     refine ⟨r,by omega,h2,by rw[o6 hm,h3],.inr ?_⟩
     rw[← h3];exact hm
   | some i =>
     rcases h4 with rfl | h4
     · refine ⟨r+1,by omega,fun j hj=>?_,rfl,.inl rfl⟩
       by_cases e:j=r
       · subst e;exact ⟨i,hm⟩
       · exact h2 j (by omega)
     · rw[← h3,hm] at h4;cases h4
theorem sR:∀ m,(∀ j,j<m→∃ i,kn z (bt l z w j).2 l=some i)→(eT l z w m).length=m
 | 0,_=>rfl
 | m+1,h=>by
   obtain ⟨i,hi⟩:=h m (by omega)
   have ih:=sR m (fun j hj=>h j (by omega))
   unfold eT at ih ⊢
   rw[List.length_map] at ih
   rw[ff hi,List.length_map,List.length_append,ih]
   rfl
theorem yV {m i:Nat} (h:kn z (bt l z w m).2 l=some i):eT l z w (m+1)=eT l z w m++[(i:Int)]:=by
 unfold eT
 rw[ff h,List.map_append]
 rfl
theorem mH {w:Nat→Bool} {i:Nat} (h:kn z w l=some i):i<l∧w i=true:=by
 have:=j8 z w l
 rw[h] at this
 exact ⟨this.1,this.2.1⟩
end
def FT (l:Nat) (z:Nat→Int) (w:Nat→Bool):(List Int→Bool)→(List Int→Int)→Nat→Prop:=fun hs gs c=>hs=hW l z w∧gs=gW l z w∧c=cn w l
theorem Ag {n:Nat} {l:Nat} {z:Nat→Int} {w:Nat→Bool} {a b:Int} {x:Bool} (h:N9 ((kn z w l).map fun i=>(z i,(i:Int)))=.tup [.agg (.I .i64 [a,b]),.bool x]):(gY aK 90 (J8 (FT l z w) a b x)).Ok (cd (n+2)):=by
 refine iN (aR _) (fun args H x hx=>?_)
 unfold J8 at hx
 split at hx
 · split at hx
   · obtain ⟨⟨rfl,rfl,rfl⟩,h2⟩:=Tr.cW hx
     rw[← Tr.ab h2,← h]
     obtain ⟨es,hE⟩:=Qc l z w
     exact P7 n 4 _ rfl hE (Jk l z w)
   · exact (Tr.ae hx).elim
 · exact (Tr.ae hx).elim
noncomputable def Mj:Nat→AV
 | 0=>.nils
 | q+1=>.slc 0 5 q 0 1 (q+1) none
noncomputable def sw (s l:Nat) (t:Nat→Int) (k:Nat) (d g:Nat→Int) (T:Int) (z f:Nat→Int) (w:Nat→Bool):Nat→aU
 | 0=>bV s l t k d g T z f (hW l z w) (gW l z w) (cn w l)
 | q+1=>ep s l t k d g T z f (hW l z (bt l z w (q+1)).2) (gW l z (bt l z w (q+1)).2) (cn (bt l z w (q+1)).2 l) (q,.row (.M [.arr .i64 (al (eT l z w (q+1))) (q+1)]))
section
variable (n y s l k:Nat) (t d g z f:Nat→Int) (h T:Int) (w:Nat→Bool) (G:aa)
theorem N3 (i:Nat) (hi:kn z w l=some i) (hh:0<h):∃ x,exec (bx (n+2) 85 118) (part Try.f85 [1,1,1,1,1,1,1,0,0,1,0,1,0,0,0]) (eg y s l t k d g h .nils) (bV (s+1) l t k d g T z f (hW l z w) (gW l z w) (cn w l)::G)=some x∧(x.1=.normal∧tidy (an (bV (s+1) l t k d g T z f (hW l z w) (gW l z w) (cn w l)::G)) x.2.1 x.2.2=(eg y s l t k d g h (.slc 0 5 0 0 1 1 none),ep (s+1) l t k d g T z f (hW l z (mZ w i)) (gW l z (mZ w i)) (cn (mZ w i) l) (0,.row (.M [.arr .i64 (al [(i:Int)]) 1]))::G)):=by
 obtain ⟨hl,hw⟩:=mH hi
 refine aF (LU (n+2) y s l k t d g z f (hW l z w) (gW l z w) (cn w l) h T (FT l z w) (z i) (i:Int) true G) (aX _ (n+2) (Ag (by rw[hi];rfl))) (af _ _) (ag _ _) ?_
 rw[← Ai,← Es,← DW (z:=z) hl hw]
 have hp:FT l z w (hW l z w) (gW l z w) (cn w l):=⟨rfl,rfl,rfl⟩
 generalize FT l z w=P at *
 generalize hW l z w=A at *
 generalize gW l z w=B at *
 generalize cn w l=C at *
 repeat' first | (refine Tr.bj (fun hc=>?_) (fun hc=>?_)<;>(try simp (disch:=omega) only[nV,nW,hp] at hc)<;>try omega) | (refine Tr.cu ?_ ?_;· (try simp (disch:=omega) only[nV,nW,hp]);try omega) | (refine Tr.aY ?_ ?_;· first | exact trivial | rfl | exact ⟨rfl,rfl⟩ | exact ⟨rfl,rfl,rfl⟩ | (simp (disch:=omega) only[nV,nW,hp];done) | ((try simp (disch:=omega) only[nV,nW,hp]);omega)) | fail
 all_goals first
  | exact Tr.bg ⟨rfl,rfl⟩
  | fail
theorem N4 (i q:Nat) (o:List Int) (ho:o.length=q+1) (hi:kn z w l=some i) (hh:(q+1:Nat)<h) (hq:q<1000):∃ x,exec (bx (n+2) 85 118) (part Try.f85 [1,1,1,1,1,1,1,0,0,1,0,1,0,0,0]) (eg y s l t k d g h (.slc 0 5 q 0 1 (q+1) none)) (ep (s+1) l t k d g T z f (hW l z w) (gW l z w) (cn w l) (q,.row (.M [.arr .i64 (al o) (q+1)]))::G)=some x∧(x.1=.normal∧tidy (an (bV (s+1) l t k d g T z f (hW l z w) (gW l z w) (cn w l)::G)) x.2.1 x.2.2=(eg y s l t k d g h (.slc 0 5 (q+1) 0 1 (q+1+1) none),ep (s+1) l t k d g T z f (hW l z (mZ w i)) (gW l z (mZ w i)) (cn (mZ w i) l) (q+1,.row (.M [.arr .i64 (al (o++[(i:Int)])) (q+1+1)]))::G)):=by
 obtain ⟨hl,hw⟩:=mH hi
 refine aF (FG (n+2) y s l k t d g z f (hW l z w) (gW l z w) (cn w l) h T (FT l z w) (z i) (i:Int) true q (q+1) (al o) G) (aX _ (n+2) (Ag (by rw[hi];rfl))) (af _ _) (ag _ _) ?_
 have hap:=wg o (i:Int)
 rw[ho] at hap
 have ea:bB (q+1) 1=q+1+1:=bD _ _
 rw[← Ai,← Es,← DW (z:=z) hl hw]
 simp only[hap,ea]
 have hp:FT l z w (hW l z w) (gW l z w) (cn w l):=⟨rfl,rfl,rfl⟩
 generalize FT l z w=P at *
 generalize hW l z w=A at *
 generalize gW l z w=B at *
 generalize cn w l=C at *
 generalize al (o++[(i:Int)])=Y2 at *
 generalize al o=Y at *
 repeat' first | (refine Tr.bj (fun hc=>?_) (fun hc=>?_)<;>(try simp (disch:=omega) only[nV,nW,hp] at hc)<;>try omega) | (refine Tr.cu ?_ ?_;· (try simp (disch:=omega) only[nV,nW,hp]);try omega) | (refine Tr.aY ?_ ?_;· first | exact trivial | rfl | exact ⟨rfl,rfl⟩ | exact ⟨rfl,rfl,rfl⟩ | (simp (disch:=omega) only[nV,nW,hp];done) | ((try simp (disch:=omega) only[nV,nW,hp]);omega)) | fail
 all_goals first
  | exact Tr.bg ⟨rfl,rfl⟩
  | fail
end
end Go.Eng
end
section
namespace Go.Eng
open Go.Proofs
noncomputable def fC (y s l:Nat) (t:Nat→Int) (k:Nat) (d g:Nat→Int) (h:Int) (m:Nat) (o:Nat→Int) (j:Int):ar:=[(0,.yld 1 y),(1,.ptrT (some 1) (.G [dC s l t k d g]) 0),(2,.ptrT none (.I .i64 [h]) 0),(6,.ptr 0 2 0 0),(7,.ptr 0 3 0 0),(8,.map 0 4),(10,.fn (.func 89) [] []),(11,b7 m o false),(76,b7 m o false),(77,.int .i64 (Int.ofNat m)),(78,.int .i64 j)]
theorem Il (n y s l k:Nat) (t d g z f:Nat→Int) (hs:List Int→Bool) (gs:List Int→Int) (c:Nat) (h T j:Int) (v m:Nat) (o:Nat→Int) (G:aa):aG (bx n 85 118) (il aK n 0) aO aP (part Try.f85 [1,1,1,1,1,1,1,0,0,1,0,1,1,0,1,0,0]) (hints (fC y s l t k d g h m o j)) (ep (s+1) l t k d g T z f hs gs c (v,.dead)::G) =
 (fun (Z0:aE)=>((fun (Z1:Nat×ai)=>((fun (Z2:aU)=>((fun (Z3:aU)=>Tr.ite (cq j (Int.ofNat m)) (Tr.req (dv j m) (Tr.req (c9 (ay 0 j 1) m) (Tr.req (dv (o (ay 0 j 1)) l) (Tr.req (c9 (ay 0 (o (ay 0 j 1)) 1) l) (Tr.ite (cq (t (ay 0 (o (ay 0 j 1)) 1)) (Int.ofNat 0)) (Tr.ok (Ex.normal,Z0,Z3::G)) (Tr.req (dv (t (ay 0 (o (ay 0 j 1)) 1)) 30) (Tr.req (bM 0 0) (Tr.req (c9 (ay 0 (t (ay 0 (o (ay 0 j 1)) 1)) 1) 30) (Tr.req (dv (t (ay 0 (o (ay 0 j 1)) 1)) 30) (Tr.req (bM 0 0) (Tr.req (c9 (ay 0 (t (ay 0 (o (ay 0 j 1)) 1)) 1) 30) (Tr.req (dv (t (ay 0 (o (ay 0 j 1)) 1)) 30) (Tr.req (bM 0 0) (Tr.req (c9 (ay 0 (t (ay 0 (o (ay 0 j 1)) 1)) 1) 30) (Tr.req (dv (t (ay 0 (o (ay 0 j 1)) 1)) 30) (Tr.req (bM 0 0) (Tr.req (c9 (ay 0 (t (ay 0 (o (ay 0 j 1)) 1)) 1) 30) (Tr.ite (cQ (gm f (ay 0 (t (ay 0 (o (ay 0 j 1)) 1)) 1) (bP .i64 (f (ay 0 (t (ay 0 (o (ay 0 j 1)) 1)) 1)) (Int.ofNat 1)) (ay 0 (t (ay 0 (o (ay 0 j 1)) 1)) 1)) (Int.ofNat 0)) (Tr.ite (ba (cM (cQ (z (ay 0 (t (ay 0 (o (ay 0 j 1)) 1)) 1)) (Int.ofNat 0)) (cQ (t (ay 0 (o (ay 0 j 1)) 1)) (Int.ofNat 0)))) (Tr.ok (Ex.normal,Z0,{ lock:=false,bs:=[Z1,(0,ai.row (Row.I .i64 [T])),(0,ai.row (Row.M [ah.arr .i64 z 30])),(0,ai.row (Row.M [ah.arr .i64 (gm f (ay 0 (t (ay 0 (o (ay 0 j 1)) 1)) 1) (bP .i64 (f (ay 0 (t (ay 0 (o (ay 0 j 1)) 1)) 1)) (Int.ofNat 1))) 30])),(0,ai.fmap (KK.str 2) (mg hs [z (ay 0 (t (ay 0 (o (ay 0 j 1)) 1)) 1),t (ay 0 (o (ay 0 j 1)) 1)] true) (mi gs [z (ay 0 (t (ay 0 (o (ay 0 j 1)) 1)) 1),t (ay 0 (o (ay 0 j 1)) 1)] (Int.ofNat 1)) (rX (hs [z (ay 0 (t (ay 0 (o (ay 0 j 1)) 1)) 1),t (ay 0 (o (ay 0 j 1)) 1)]) c)),(v,ai.dead),(0,ai.row (Row.I .i64 [z (ay 0 (t (ay 0 (o (ay 0 j 1)) 1)) 1),t (ay 0 (o (ay 0 j 1)) 1)]))] } :: G)) (Tr.ok (Ex.normal,Z0,Z2::G))) (Tr.ok (Ex.normal,Z0,Z2::G)))))))))))))))))))) (Tr.ok (Ex.exit 6,[(0,AV.yld 1 y,none),(1,AV.ptrT (some 1) (Row.G [AV.ptrT (some s) (Row.M [ah.one (AV.slcT none (Row.M [ah.arr .i64 t l]) 1 l false),ah.one (AV.slcT none (Row.M [ah.arr .i64 d k]) 1 k false),ah.arr .i64 g 30]) 0]) 0,none),(2,AV.ptrT none (Row.I .i64 [h]) 0,none),(6,AV.ptr 0 2 0 0,none),(7,AV.ptr 0 3 0 0,none),(8,AV.map 0 4,none),(10,AV.fn (Fn.func 89) [] [],none),(11,AV.slcT none (Row.M [ah.arr .i64 o m]) 1 m false,none),(76,AV.slcT none (Row.M [ah.arr .i64 o m]) 1 m false,none),(77,AV.int .i64 (Int.ofNat m),none),(78,AV.int .i64 j,none),(79,AV.bool false,some 1)],Z3::G))) { lock:=false,bs:=[Z1,(0,ai.row (Row.I .i64 [T])),(0,ai.row (Row.M [ah.arr .i64 z 30])),(0,ai.row (Row.M [ah.arr .i64 f 30])),(0,ai.fmap (KK.str 2) hs gs c),(v,ai.dead)] })) { lock:=false,bs:=[Z1,(0,ai.row (Row.I .i64 [T])),(0,ai.row (Row.M [ah.arr .i64 z 30])),(0,ai.row (Row.M [ah.arr .i64 (gm f (ay 0 (t (ay 0 (o (ay 0 j 1)) 1)) 1) (bP .i64 (f (ay 0 (t (ay 0 (o (ay 0 j 1)) 1)) 1)) (Int.ofNat 1))) 30])),(0,ai.fmap (KK.str 2) hs gs c),(v,ai.dead),(0,ai.row (Row.I .i64 [z (ay 0 (t (ay 0 (o (ay 0 j 1)) 1)) 1),t (ay 0 (o (ay 0 j 1)) 1)]))] })) (0,ai.row (Row.G [AV.fn (Fn.func 74) [AV.ptrT (some (Nat.succ s)) (Row.M [ah.one (AV.slcT none (Row.M [ah.arr .i64 t l]) 1 l false),ah.one (AV.slcT none (Row.M [ah.arr .i64 d k]) 1 k false),ah.arr .i64 g 30]) 0] []])))) [(0,AV.yld 1 y,none),(1,AV.ptrT (some 1) (Row.G [AV.ptrT (some s) (Row.M [ah.one (AV.slcT none (Row.M [ah.arr .i64 t l]) 1 l false),ah.one (AV.slcT none (Row.M [ah.arr .i64 d k]) 1 k false),ah.arr .i64 g 30]) 0]) 0,none),(2,AV.ptrT none (Row.I .i64 [h]) 0,none),(6,AV.ptr 0 2 0 0,none),(7,AV.ptr 0 3 0 0,none),(8,AV.map 0 4,none),(10,AV.fn (Fn.func 89) [] [],none),(11,AV.slcT none (Row.M [ah.arr .i64 o m]) 1 m false,none),(76,AV.slcT none (Row.M [ah.arr .i64 o m]) 1 m false,none),(77,AV.int .i64 (Int.ofNat m),none),(78,AV.int .i64 (br .i64 j (Int.ofNat 1)),none)]:=by kernel_rfl
theorem Im (n y s l k:Nat) (t d g z f:Nat→Int) (hs:List Int→Bool) (gs:List Int→Int) (c:Nat) (h T j:Int) (v m:Nat) (o:Nat→Int) (G:aa):aG (bx n 85 118) (il aK n 0) aO aP (part Try.f85 [1,1,1,1,1,1,1,0,0,1,0,1,1,0,1,0,0]) (hints (fC y s l t k d g h m o j)) (gh (s+1) l t k d g T z f hs gs c (v,.dead) (0,.row (.I .i64 [0,0]))::G) =
 (fun (Z0:aE)=>((fun (Z1:Nat×ai)=>((fun (Z2:aU)=>((fun (Z3:aU)=>Tr.ite (cq j (Int.ofNat m)) (Tr.req (dv j m) (Tr.req (c9 (ay 0 j 1) m) (Tr.req (dv (o (ay 0 j 1)) l) (Tr.req (c9 (ay 0 (o (ay 0 j 1)) 1) l) (Tr.ite (cq (t (ay 0 (o (ay 0 j 1)) 1)) (Int.ofNat 0)) (Tr.ok (Ex.normal,Z0,Z3::G)) (Tr.req (dv (t (ay 0 (o (ay 0 j 1)) 1)) 30) (Tr.req (bM 0 0) (Tr.req (c9 (ay 0 (t (ay 0 (o (ay 0 j 1)) 1)) 1) 30) (Tr.req (dv (t (ay 0 (o (ay 0 j 1)) 1)) 30) (Tr.req (bM 0 0) (Tr.req (c9 (ay 0 (t (ay 0 (o (ay 0 j 1)) 1)) 1) 30) (Tr.req (dv (t (ay 0 (o (ay 0 j 1)) 1)) 30) (Tr.req (bM 0 0) (Tr.req (c9 (ay 0 (t (ay 0 (o (ay 0 j 1)) 1)) 1) 30) (Tr.req (dv (t (ay 0 (o (ay 0 j 1)) 1)) 30) (Tr.req (bM 0 0) (Tr.req (c9 (ay 0 (t (ay 0 (o (ay 0 j 1)) 1)) 1) 30) (Tr.ite (cQ (gm f (ay 0 (t (ay 0 (o (ay 0 j 1)) 1)) 1) (bP .i64 (f (ay 0 (t (ay 0 (o (ay 0 j 1)) 1)) 1)) (Int.ofNat 1)) (ay 0 (t (ay 0 (o (ay 0 j 1)) 1)) 1)) (Int.ofNat 0)) (Tr.ite (ba (cM (cQ (z (ay 0 (t (ay 0 (o (ay 0 j 1)) 1)) 1)) (Int.ofNat 0)) (cQ (t (ay 0 (o (ay 0 j 1)) 1)) (Int.ofNat 0)))) (Tr.ok (Ex.normal,Z0,{ lock:=false,bs:=[Z1,(0,ai.row (Row.I .i64 [T])),(0,ai.row (Row.M [ah.arr .i64 z 30])),(0,ai.row (Row.M [ah.arr .i64 (gm f (ay 0 (t (ay 0 (o (ay 0 j 1)) 1)) 1) (bP .i64 (f (ay 0 (t (ay 0 (o (ay 0 j 1)) 1)) 1)) (Int.ofNat 1))) 30])),(0,ai.fmap (KK.str 2) (mg hs [z (ay 0 (t (ay 0 (o (ay 0 j 1)) 1)) 1),t (ay 0 (o (ay 0 j 1)) 1)] true) (mi gs [z (ay 0 (t (ay 0 (o (ay 0 j 1)) 1)) 1),t (ay 0 (o (ay 0 j 1)) 1)] (Int.ofNat 1)) (rX (hs [z (ay 0 (t (ay 0 (o (ay 0 j 1)) 1)) 1),t (ay 0 (o (ay 0 j 1)) 1)]) c)),(v,ai.dead),(0,ai.row (Row.I .i64 [Int.ofNat 0,Int.ofNat 0])),(0,ai.row (Row.I .i64 [z (ay 0 (t (ay 0 (o (ay 0 j 1)) 1)) 1),t (ay 0 (o (ay 0 j 1)) 1)]))] } :: G)) (Tr.ok (Ex.normal,Z0,Z2::G))) (Tr.ok (Ex.normal,Z0,Z2::G)))))))))))))))))))) (Tr.ok (Ex.exit 6,[(0,AV.yld 1 y,none),(1,AV.ptrT (some 1) (Row.G [AV.ptrT (some s) (Row.M [ah.one (AV.slcT none (Row.M [ah.arr .i64 t l]) 1 l false),ah.one (AV.slcT none (Row.M [ah.arr .i64 d k]) 1 k false),ah.arr .i64 g 30]) 0]) 0,none),(2,AV.ptrT none (Row.I .i64 [h]) 0,none),(6,AV.ptr 0 2 0 0,none),(7,AV.ptr 0 3 0 0,none),(8,AV.map 0 4,none),(10,AV.fn (Fn.func 89) [] [],none),(11,AV.slcT none (Row.M [ah.arr .i64 o m]) 1 m false,none),(76,AV.slcT none (Row.M [ah.arr .i64 o m]) 1 m false,none),(77,AV.int .i64 (Int.ofNat m),none),(78,AV.int .i64 j,none),(79,AV.bool false,some 1)],Z3::G))) { lock:=false,bs:=[Z1,(0,ai.row (Row.I .i64 [T])),(0,ai.row (Row.M [ah.arr .i64 z 30])),(0,ai.row (Row.M [ah.arr .i64 f 30])),(0,ai.fmap (KK.str 2) hs gs c),(v,ai.dead),(0,ai.row (Row.I .i64 [Int.ofNat 0,Int.ofNat 0]))] })) { lock:=false,bs:=[Z1,(0,ai.row (Row.I .i64 [T])),(0,ai.row (Row.M [ah.arr .i64 z 30])),(0,ai.row (Row.M [ah.arr .i64 (gm f (ay 0 (t (ay 0 (o (ay 0 j 1)) 1)) 1) (bP .i64 (f (ay 0 (t (ay 0 (o (ay 0 j 1)) 1)) 1)) (Int.ofNat 1))) 30])),(0,ai.fmap (KK.str 2) hs gs c),(v,ai.dead),(0,ai.row (Row.I .i64 [Int.ofNat 0,Int.ofNat 0])),(0,ai.row (Row.I .i64 [z (ay 0 (t (ay 0 (o (ay 0 j 1)) 1)) 1),t (ay 0 (o (ay 0 j 1)) 1)]))] })) (0,ai.row (Row.G [AV.fn (Fn.func 74) [AV.ptrT (some (Nat.succ s)) (Row.M [ah.one (AV.slcT none (Row.M [ah.arr .i64 t l]) 1 l false),ah.one (AV.slcT none (Row.M [ah.arr .i64 d k]) 1 k false),ah.arr .i64 g 30]) 0] []])))) [(0,AV.yld 1 y,none),(1,AV.ptrT (some 1) (Row.G [AV.ptrT (some s) (Row.M [ah.one (AV.slcT none (Row.M [ah.arr .i64 t l]) 1 l false),ah.one (AV.slcT none (Row.M [ah.arr .i64 d k]) 1 k false),ah.arr .i64 g 30]) 0]) 0,none),(2,AV.ptrT none (Row.I .i64 [h]) 0,none),(6,AV.ptr 0 2 0 0,none),(7,AV.ptr 0 3 0 0,none),(8,AV.map 0 4,none),(10,AV.fn (Fn.func 89) [] [],none),(11,AV.slcT none (Row.M [ah.arr .i64 o m]) 1 m false,none),(76,AV.slcT none (Row.M [ah.arr .i64 o m]) 1 m false,none),(77,AV.int .i64 (Int.ofNat m),none),(78,AV.int .i64 (br .i64 j (Int.ofNat 1)),none)]:=by kernel_rfl
theorem I3 (n:Nat):(gY aK 90 (J8 (fun _ _ _=>False) 0 0 false)).Ok (cd n):=by
 refine iN (aR _) (fun args H x hx=>?_)
 unfold J8 at hx
 split at hx
 · split at hx
   · exact (Tr.cW hx).1.elim
   · exact (Tr.ae hx).elim
 · exact (Tr.ae hx).elim
theorem IA (f:Nat→Int) (i:Nat) (x:Int):uI f i x i=x:=by unfold uI;rw[if_pos rfl]
section
variable (n y s l k:Nat) (t d g z f:Nat→Int) (h T:Int) (w:Nat→Bool) (G:aa)
theorem LA (q:Nat) (hq:q<1000) (hh:(q:Int)<h) (hr:∀ j,j<q+1→∃ i,kn z (bt l z w j).2 l=some i) (j:Nat) (hj:j<q+1):∃ x,exec (bx (n+2) 85 118) (part Try.f85 [1,1,1,1,1,1,1,0,0,1,0,1,0,0,0]) (eg y s l t k d g h (Mj j)) (sw (s+1) l t k d g T z f w j::G)=some x∧(x.1=.normal∧tidy (an (sw (s+1) l t k d g T z f w 0::G)) x.2.1 x.2.2=(eg y s l t k d g h (Mj (j+1)),sw (s+1) l t k d g T z f w (j+1)::G)):=by
 obtain ⟨i,hi⟩:=hr j hj
 cases j with
 | zero =>
   have:=N3 n y s l k t d g z f h T w G i hi (by omega)
   show ∃ x,_=some x∧(_∧_=(_,ep (s+1) l t k d g T z f (hW l z (bt l z w (0+1)).2) (gW l z (bt l z w (0+1)).2) (cn (bt l z w (0+1)).2 l) (0,.row (.M [.arr .i64 (al (eT l z w (0+1))) (0+1)]))::G))
   rw[ff hi,yV hi]
   exact this
 | succ j =>
   have hlen:=sR (l:=l) (z:=z) (w:=w) (j+1) (fun i hi=>hr i (by omega))
   have:=N4 n y s l k t d g z f h T (bt l z w (j+1)).2 G i j (eT l z w (j+1)) hlen hi (by omega) (by omega)
   show ∃ x,_=some x∧(_∧_=(_,ep (s+1) l t k d g T z f (hW l z (bt l z w (j+1+1)).2) (gW l z (bt l z w (j+1+1)).2) (cn (bt l z w (j+1+1)).2 l) (j+1,.row (.M [.arr .i64 (al (eT l z w (j+1+1))) (j+1+1)]))::G))
   rw[ff hi,yV hi]
   exact this
theorem HY (q:Nat) (hq:q<1000) (hh:h=((q+1:Nat):Int)) (hr:∀ j,j<q+1→∃ i,kn z (bt l z w j).2 l=some i):exec (bx (n+2) 85 118) (.block 4 (.loop (part Try.f85 [1,1,1,1,1,1,1,0,0,1,0,1,0,0,0]))) (eg y s l t k d g h .nils) (bV (s+1) l t k d g T z f (hW l z w) (gW l z w) (cn w l)::G)=some (.normal,eg y s l t k d g h (.slc 0 5 q 0 1 (q+1) none)++[(60,.bool false)],sw (s+1) l t k d g T z f w (q+1)::G):=by
 refine jG (n:=n+2) (f:=85) (nt:=118) (c:=part Try.f85 [1,1,1,1,1,1,1,0,0,1,0,1,0,0,0]) 4 (fun j=>eg y s l t k d g h (Mj j)) (fun j=>sw (s+1) l t k d g T z f w j::G) (q+1) _ (by omega) (LA n y s l k t d g z f h T w G q hq (by omega) hr) ?_
 subst hh
 exact eV (FG (n+2) y s l k t d g z f (hW l z (bt l z w (q+1)).2) (gW l z (bt l z w (q+1)).2) (cn (bt l z w (q+1)).2 l) ((q+1:Nat):Int) T (fun _ _ _=>False) 0 0 false q (q+1) (al (eT l z w (q+1))) G) (aX _ (n+2) (I3 _)) (af _ _) (ag _ _) (by first | (simp (disch:=omega) only[nV,nW];done) | (simp (disch:=omega) only[nV,nW];omega))
theorem MP (q:Nat) (hh:((q+1:Nat):Int)<h) (hn:kn z (bt l z w (q+1)).2 l=none):∃ x,exec (bx (n+2) 85 118) (part Try.f85 [1,1,1,1,1,1,1,0,0,1,0,1,0,0,0]) (eg y s l t k d g h (.slc 0 5 q 0 1 (q+1) none)) (sw (s+1) l t k d g T z f w (q+1)::G)=some x∧x=(.exit 4,eg y s l t k d g h (.slc 0 5 q 0 1 (q+1) none)++[(12,.ptr 0 6 0 0),(68,.bool true)],gh (s+1) l t k d g T z f (hW l z (bt l z w (q+1)).2) (gW l z (bt l z w (q+1)).2) (cn (bt l z w (q+1)).2 l) (q,.row (.M [.arr .i64 (al (eT l z w (q+1))) (q+1)])) (0,.row (.I .i64 [0,0]))::G):=by
 refine aF (FG (n+2) y s l k t d g z f (hW l z (bt l z w (q+1)).2) (gW l z (bt l z w (q+1)).2) (cn (bt l z w (q+1)).2 l) h T (FT l z (bt l z w (q+1)).2) 0 0 false q (q+1) (al (eT l z w (q+1))) G) (aX _ (n+2) (Ag (by rw[hn];rfl))) (af _ _) (ag _ _) ?_
 have hp:FT l z (bt l z w (q+1)).2 (hW l z (bt l z w (q+1)).2) (gW l z (bt l z w (q+1)).2) (cn (bt l z w (q+1)).2 l):=⟨rfl,rfl,rfl⟩
 generalize FT l z (bt l z w (q+1)).2=P at *
 generalize hW l z (bt l z w (q+1)).2=A at *
 generalize gW l z (bt l z w (q+1)).2=B at *
 generalize cn (bt l z w (q+1)).2 l=C at *
 repeat' first | (refine Tr.bj (fun hc=>?_) (fun hc=>?_)<;>(try simp (disch:=omega) only[nV,nW,hp] at hc)<;>try omega) | (refine Tr.cu ?_ ?_;· (try simp (disch:=omega) only[nV,nW,hp]);try omega) | (refine Tr.aY ?_ ?_;· first | exact trivial | rfl | exact ⟨rfl,rfl⟩ | exact ⟨rfl,rfl,rfl⟩ | (simp (disch:=omega) only[nV,nW,hp];done) | ((try simp (disch:=omega) only[nV,nW,hp]);omega)) | fail
 all_goals first
  | exact Tr.bg rfl
  | fail
theorem HZ (q:Nat) (hq:q<1000) (hh:((q+1:Nat):Int)<h) (hn:kn z (bt l z w (q+1)).2 l=none) (hr:∀ j,j<q+1→∃ i,kn z (bt l z w j).2 l=some i):exec (bx (n+2) 85 118) (.block 4 (.loop (part Try.f85 [1,1,1,1,1,1,1,0,0,1,0,1,0,0,0]))) (eg y s l t k d g h .nils) (bV (s+1) l t k d g T z f (hW l z w) (gW l z w) (cn w l)::G)=some (.normal,eg y s l t k d g h (.slc 0 5 q 0 1 (q+1) none)++[(12,.ptr 0 6 0 0),(68,.bool true)],gh (s+1) l t k d g T z f (hW l z (bt l z w (q+1)).2) (gW l z (bt l z w (q+1)).2) (cn (bt l z w (q+1)).2 l) (q,.row (.M [.arr .i64 (al (eT l z w (q+1))) (q+1)])) (0,.row (.I .i64 [0,0]))::G):=by
 refine jG (n:=n+2) (f:=85) (nt:=118) (c:=part Try.f85 [1,1,1,1,1,1,1,0,0,1,0,1,0,0,0]) 4 (fun j=>eg y s l t k d g h (Mj j)) (fun j=>sw (s+1) l t k d g T z f w j::G) (q+1) _ (by omega) (LA n y s l k t d g z f h T w G q hq (by omega) hr) ?_
 obtain ⟨x,hx,rfl⟩:=MP n y s l k t d g z f h T w G q hh hn
 exact hx
theorem K4 (v m j c:Nat) (o:Nat→Int) (hj:j<m) (hm:m<2000) (hl:l≤30) (hc:o j=(c:Int)) (hcl:c<l) (ht:∀ i,i<l→t i<l) (hz:∀ i,i<l→1≤z i) (hf:∀ i,i<l→-900≤f i∧f i≤900) (hv:∀ i,i<l→w i=true→f i≤0):∃ x,exec (bx n 85 118) (part Try.f85 [1,1,1,1,1,1,1,0,0,1,0,1,1,0,1,0,0]) (fC y s l t k d g h m o (j:Nat)) (ep (s+1) l t k d g T z f (hW l z w) (gW l z w) (cn w l) (v,.dead)::G)=some x∧(x.1=.normal∧tidy (an (ep (s+1) l t k d g T z f (hW l z w) (gW l z w) (cn w l) (v,.dead)::G)) x.2.1 x.2.2=(fC y s l t k d g h m o ((j+1:Nat):Int),(ep (s+1) l t k d g T z (rp t (f,w) c).1 (hW l z (rp t (f,w) c).2) (gW l z (rp t (f,w) c).2) (cn (rp t (f,w) c).2 l) (v,.dead)::G))):=by
 refine aF (Il n y s l k t d g z f (hW l z w) (gW l z w) (cn w l) h T (j:Nat) v m o G) (aw _) (af _ _) (ag _ _) ?_
 rw[dJ (j:=j) (by omega)]
 simp only[mV,hc]
 by_cases e:t c<0
 · have hla:rp t (f,w) c=(f,w):=by unfold rp;rw[if_pos e]
   rw[hla]
   generalize hW l z w=A at *
   generalize gW l z w=B at *
   generalize cn w l=C at *
   exact wF
 · obtain ⟨x,hx⟩:∃ x:Nat,t c=x:=⟨(t c).toNat,by omega⟩
   have hxl:x<l:=by have:=ht c hcl;omega
   have hzx:=hz x hxl
   have hfx:=hf x hxl
   have es:bP .i64 (f x) (Int.ofNat 1)=f x-1:=ui (by show _≤f x-1;omega) (by show f x-1≤_;omega)
   have hla:rp t (f,w) c=(uI f x (f x-1),if f x-1=0 then ji w x else w):=by unfold rp;rw[if_neg e,hx,Int.toNat_natCast]
   rw[hla]
   simp only[hx,mV,es,AR,IA]
   by_cases e0:f x-1=0
   · have hwx:w x=false:=by
      cases hw:w x with
      | false=>rfl
      | true=>have:=hv x hxl hw;omega
     rw[if_pos e0,← vZ hxl,← Ah hxl,← zY (z:=z) hxl hwx]
     generalize hW l z w=A at *
     generalize gW l z w=B at *
     generalize cn w l=C at *
     generalize uI f x (f x-1)=Y at *
     exact wF
   · rw[if_neg e0]
     generalize hW l z w=A at *
     generalize gW l z w=B at *
     generalize cn w l=C at *
     generalize uI f x (f x-1)=Y at *
     exact wF
theorem K5 (v m j c:Nat) (o:Nat→Int) (hj:j<m) (hm:m<2000) (hl:l≤30) (hc:o j=(c:Int)) (hcl:c<l) (ht:∀ i,i<l→t i<l) (hz:∀ i,i<l→1≤z i) (hf:∀ i,i<l→-900≤f i∧f i≤900) (hv:∀ i,i<l→w i=true→f i≤0):∃ x,exec (bx n 85 118) (part Try.f85 [1,1,1,1,1,1,1,0,0,1,0,1,1,0,1,0,0]) (fC y s l t k d g h m o (j:Nat)) (gh (s+1) l t k d g T z f (hW l z w) (gW l z w) (cn w l) (v,.dead) (0,.row (.I .i64 [0,0]))::G)=some x∧(x.1=.normal∧tidy (an (gh (s+1) l t k d g T z f (hW l z w) (gW l z w) (cn w l) (v,.dead) (0,.row (.I .i64 [0,0]))::G)) x.2.1 x.2.2=(fC y s l t k d g h m o ((j+1:Nat):Int),(gh (s+1) l t k d g T z (rp t (f,w) c).1 (hW l z (rp t (f,w) c).2) (gW l z (rp t (f,w) c).2) (cn (rp t (f,w) c).2 l) (v,.dead) (0,.row (.I .i64 [0,0]))::G))):=by
 refine aF (Im n y s l k t d g z f (hW l z w) (gW l z w) (cn w l) h T (j:Nat) v m o G) (aw _) (af _ _) (ag _ _) ?_
 rw[dJ (j:=j) (by omega)]
 simp only[mV,hc]
 by_cases e:t c<0
 · have hla:rp t (f,w) c=(f,w):=by unfold rp;rw[if_pos e]
   rw[hla]
   generalize hW l z w=A at *
   generalize gW l z w=B at *
   generalize cn w l=C at *
   exact wF
 · obtain ⟨x,hx⟩:∃ x:Nat,t c=x:=⟨(t c).toNat,by omega⟩
   have hxl:x<l:=by have:=ht c hcl;omega
   have hzx:=hz x hxl
   have hfx:=hf x hxl
   have es:bP .i64 (f x) (Int.ofNat 1)=f x-1:=ui (by show _≤f x-1;omega) (by show f x-1≤_;omega)
   have hla:rp t (f,w) c=(uI f x (f x-1),if f x-1=0 then ji w x else w):=by unfold rp;rw[if_neg e,hx,Int.toNat_natCast]
   rw[hla]
   simp only[hx,mV,es,AR,IA]
   by_cases e0:f x-1=0
   · have hwx:w x=false:=by
      cases hw:w x with
      | false=>rfl
      | true=>have:=hv x hxl hw;omega
     rw[if_pos e0,← vZ hxl,← Ah hxl,← zY (z:=z) hxl hwx]
     generalize hW l z w=A at *
     generalize gW l z w=B at *
     generalize cn w l=C at *
     generalize uI f x (f x-1)=Y at *
     exact wF
   · rw[if_neg e0]
     generalize hW l z w=A at *
     generalize gW l z w=B at *
     generalize cn w l=C at *
     generalize uI f x (f x-1)=Y at *
     exact wF
def cP (t:Nat→Int) (o:Nat→Int) (st:(Nat→Int)×(Nat→Bool)):Nat→(Nat→Int)×(Nat→Bool)
 | 0=>st
 | j+1=>rp t (cP t o st j) (o j).toNat
theorem HW (v m:Nat) (o:Nat→Int) (hm:m<2000) (hl:l≤30) (ho:∀ j,j<m→0≤o j∧o j<l) (ht:∀ i,i<l→t i<l) (hz:∀ i,i<l→1≤z i) (hf:∀ j,j<m→∀ i,i<l→-900≤(cP t o (f,w) j).1 i∧(cP t o (f,w) j).1 i≤900) (hv:∀ j,j<m→∀ i,i<l→(cP t o (f,w) j).2 i=true→(cP t o (f,w) j).1 i≤0):exec (bx n 85 118) (.block 6 (.loop (part Try.f85 [1,1,1,1,1,1,1,0,0,1,0,1,1,0,1,0,0]))) (fC y s l t k d g h m o 0) (ep (s+1) l t k d g T z f (hW l z w) (gW l z w) (cn w l) (v,.dead)::G)=some (.normal,fC y s l t k d g h m o (Int.ofNat m)++[(79,.bool false)],(ep (s+1) l t k d g T z (cP t o (f,w) m).1 (hW l z (cP t o (f,w) m).2) (gW l z (cP t o (f,w) m).2) (cn (cP t o (f,w) m).2 l) (v,.dead)::G)):=by
 refine jG (n:=n) (f:=85) (nt:=118) (c:=part Try.f85 [1,1,1,1,1,1,1,0,0,1,0,1,1,0,1,0,0]) 6 (fun j=>fC y s l t k d g h m o (j:Nat)) (fun j=>(ep (s+1) l t k d g T z (cP t o (f,w) j).1 (hW l z (cP t o (f,w) j).2) (gW l z (cP t o (f,w) j).2) (cn (cP t o (f,w) j).2 l) (v,.dead)::G)) m _ (by omega) (fun j hj=>?_) ?_
 · obtain ⟨h1,h2⟩:=ho j hj
   exact K4 n y s l k t d g z (cP t o (f,w) j).1 h T (cP t o (f,w) j).2 G v m j (o j).toNat o hj hm hl (by omega) (by omega) ht hz (hf j hj) (hv j hj)
 · exact eV (Il n y s l k t d g z (cP t o (f,w) m).1 (hW l z (cP t o (f,w) m).2) (gW l z (cP t o (f,w) m).2) (cn (cP t o (f,w) m).2 l) h T (Int.ofNat m) v m o G) (aw _) (af _ _) (ag _ _) (by first | (simp (disch:=omega) only[nV,nW];done) | (simp (disch:=omega) only[nV,nW];omega))
theorem HX (v m:Nat) (o:Nat→Int) (hm:m<2000) (hl:l≤30) (ho:∀ j,j<m→0≤o j∧o j<l) (ht:∀ i,i<l→t i<l) (hz:∀ i,i<l→1≤z i) (hf:∀ j,j<m→∀ i,i<l→-900≤(cP t o (f,w) j).1 i∧(cP t o (f,w) j).1 i≤900) (hv:∀ j,j<m→∀ i,i<l→(cP t o (f,w) j).2 i=true→(cP t o (f,w) j).1 i≤0):exec (bx n 85 118) (.block 6 (.loop (part Try.f85 [1,1,1,1,1,1,1,0,0,1,0,1,1,0,1,0,0]))) (fC y s l t k d g h m o 0) (gh (s+1) l t k d g T z f (hW l z w) (gW l z w) (cn w l) (v,.dead) (0,.row (.I .i64 [0,0]))::G)=some (.normal,fC y s l t k d g h m o (Int.ofNat m)++[(79,.bool false)],(gh (s+1) l t k d g T z (cP t o (f,w) m).1 (hW l z (cP t o (f,w) m).2) (gW l z (cP t o (f,w) m).2) (cn (cP t o (f,w) m).2 l) (v,.dead) (0,.row (.I .i64 [0,0]))::G)):=by
 refine jG (n:=n) (f:=85) (nt:=118) (c:=part Try.f85 [1,1,1,1,1,1,1,0,0,1,0,1,1,0,1,0,0]) 6 (fun j=>fC y s l t k d g h m o (j:Nat)) (fun j=>(gh (s+1) l t k d g T z (cP t o (f,w) j).1 (hW l z (cP t o (f,w) j).2) (gW l z (cP t o (f,w) j).2) (cn (cP t o (f,w) j).2 l) (v,.dead) (0,.row (.I .i64 [0,0]))::G)) m _ (by omega) (fun j hj=>?_) ?_
 · obtain ⟨h1,h2⟩:=ho j hj
   exact K5 n y s l k t d g z (cP t o (f,w) j).1 h T (cP t o (f,w) j).2 G v m j (o j).toNat o hj hm hl (by omega) (by omega) ht hz (hf j hj) (hv j hj)
 · exact eV (Im n y s l k t d g z (cP t o (f,w) m).1 (hW l z (cP t o (f,w) m).2) (gW l z (cP t o (f,w) m).2) (cn (cP t o (f,w) m).2 l) h T (Int.ofNat m) v m o G) (aw _) (af _ _) (ag _ _) (by first | (simp (disch:=omega) only[nV,nW];done) | (simp (disch:=omega) only[nV,nW];omega))
end
end Go.Eng
end
