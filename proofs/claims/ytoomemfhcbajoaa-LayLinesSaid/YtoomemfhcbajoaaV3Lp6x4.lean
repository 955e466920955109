/- Lay: those that wait, as a map of steps. -/
import Derived.Test.YtoomemfhcbajoaaV3Lb14x10
import Derived.Test.YtoomemfhcbajoaaV3Lb22x2
set_option linter.unusedVariables false
set_option linter.unusedSimpArgs false
set_option maxRecDepth 100000
section
namespace Go.Eng
def hW (l:Nat) (z:Nat→Int) (w:Nat→Bool):List Int→Bool:=fun k=>match k with
 | [a,b]=>decide (0≤b∧b<l) && (w b.toNat && decide (a=z b.toNat))
 | _=>false
def gW (l:Nat) (z:Nat→Int) (w:Nat→Bool):List Int→Int:=fun k=>if hW l z w k=true then 1 else 0
theorem iP {l:Nat} {z:Nat→Int} {w:Nat→Bool} {a b:Int}:hW l z w [a,b]=true↔∃ i:Nat,i<l∧w i=true∧b=i∧a=z i:=by
 show (decide (0≤b∧b<l) && (w b.toNat && decide (a=z b.toNat)))=true↔_
 simp only[Bool.and_eq_true,decide_eq_true_eq]
 constructor
 · rintro ⟨⟨h1,h2⟩,h3,h4⟩
   exact ⟨b.toNat,by omega,h3,by omega,h4⟩
 · rintro ⟨i,h1,h2,rfl,rfl⟩
   refine ⟨by omega,?_,?_⟩
   · rw[Int.toNat_natCast];exact h2
   · rw[Int.toNat_natCast]
theorem we {l:Nat} {z:Nat→Int} {w:Nat→Bool} {k:List Int} (h:hW l z w k=true):∃ a b,k=[a,b]:=by
 unfold hW at h
 split at h
 · exact ⟨_,_,rfl⟩
 · cases h
theorem uH (w:Nat→Bool):∀ l,((List.range l).filter w).length=cn w l
 | 0=>rfl
 | l+1=>by
   rw[List.range_succ,List.filter_append,List.length_append,uH w l]
   show _=cn w l+(w l).toNat
   cases h:w l<;>simp[List.filter_cons,h]
theorem QK (l:Nat) (z:Nat→Int) (w:Nat→Bool):∃ es,vM (.str 2) es (hW l z w) (gW l z w) (cn w l):=by
 refine ⟨((List.range l).filter w).map fun i=>(dD (.str 2) [z i,(i:Int)],.int .i64 1),?_,fun j hj=>?_,fun n hn=>?_,fun n hn=>?_,fun i j hi hj e=>?_⟩
 · rw[List.length_map,uH]
 · simp only[List.length_map] at hj
   have hm:((List.range l).filter w)[j] ∈ (List.range l).filter w:=List.getElem_mem hj
   generalize he:((List.range l).filter w)[j]=i at hm
   rw[List.mem_filter,List.mem_range] at hm
   refine ⟨[z i,(i:Int)],?_,iP.2 ⟨i,hm.1,hm.2,rfl,rfl⟩⟩
   have hg:gW l z w [z i,(i:Int)]=1:=by unfold gW;rw[if_pos (iP.2 ⟨i,hm.1,hm.2,rfl,rfl⟩)]
   rw[hg,List.getD_eq_getElem?_getD,List.getElem?_map,List.getElem?_eq_getElem hj,he];rfl
 · obtain ⟨a,b,rfl⟩:=we hn
   obtain ⟨i,h1,h2,rfl,rfl⟩:=iP.1 hn
   refine ⟨rfl,?_⟩
   have hm:i ∈ (List.range l).filter w:=List.mem_filter.2 ⟨List.mem_range.2 h1,h2⟩
   obtain ⟨j,hj,he⟩:=List.getElem_of_mem hm
   refine ⟨j,by rw[List.length_map];exact hj,?_⟩
   rw[List.getD_eq_getElem?_getD,List.getElem?_map,List.getElem?_eq_getElem hj,he];rfl
 · unfold gW
   rw[if_neg (by rw[hn];decide)]
 · simp only[List.length_map] at hi hj
   rw[List.getD_eq_getElem?_getD,List.getElem?_map,List.getElem?_eq_getElem hi,List.getD_eq_getElem?_getD,List.getElem?_map,List.getElem?_eq_getElem hj] at e
   have e:dD (.str 2) [z (((List.range l).filter w)[i]),((((List.range l).filter w)[i]:Nat):Int)]=dD (.str 2) [z (((List.range l).filter w)[j]),((((List.range l).filter w)[j]:Nat):Int)]:=e
   unfold dD at e
   simp only[AV.agg.injEq,Row.I.injEq,List.cons.injEq,and_true,true_and] at e
   have hn:((List.range l).filter w).Nodup:=List.nodup_range.filter _
   have hp:=List.pairwise_iff_getElem.1 hn
   rcases Nat.lt_trichotomy i j with c | c | c
   · exact absurd (by omega) (hp i j hi hj c)
   · exact c
   · exact absurd (by omega) (hp j i hj hi c)
theorem Jx (l:Nat) (z:Nat→Int) (w:Nat→Bool):vN (hW l z w) ((kr z w l).map fun i=>(z i,(i:Int))):=by
 have h:=j9 z w l
 cases hm:kr z w l with
 | none =>
   rw[hm] at h
   intro a b
   cases c:hW l z w [a,b] with
   | false=>rfl
   | true =>
     obtain ⟨i,h1,h2,_⟩:=iP.1 c
     have:=h i h1
     rw[h2] at this;cases this
 | some i =>
   rw[hm] at h
   obtain ⟨h1,h2,h3⟩:=h
   refine ⟨iP.2 ⟨i,h1,h2,rfl,rfl⟩,fun a b hab=>?_⟩
   obtain ⟨j,j1,j2,rfl,rfl⟩:=iP.1 hab
   have:=h3 j j1 j2
   cases c:fb (z j) (j:Int) (z i) (i:Int) with
   | false=>rfl
   | true =>
     have:=(oR _ _ _ _).1 c
     exfalso
     omega
theorem wc {l:Nat} {z:Nat→Int} {w:Nat→Bool} {c:Nat} (hc:c<l):ml (hW l z w) [z c,(c:Int)] true=hW l z (je w c):=by
 rw[mn]
 funext k
 show (if k=[z c,(c:Int)] then true else hW l z w k)=hW l z (je w c) k
 by_cases e:k=[z c,(c:Int)]
 · subst e
   rw[if_pos rfl]
   exact (iP.2 ⟨c,hc,by unfold je;rw[if_pos rfl],rfl,rfl⟩).symm
 · rw [if_neg e]
   by_cases hk:∃ a b,k=[a,b]
   · obtain ⟨a,b,rfl⟩:=hk
     rw[Bool.eq_iff_iff,iP,iP]
     constructor
     · rintro ⟨i,h1,h2,rfl,rfl⟩
       exact ⟨i,h1,by unfold je;split<;>first | rfl | exact h2,rfl,rfl⟩
     · rintro ⟨i,h1,h2,rfl,rfl⟩
       unfold je at h2
       by_cases ei:i=c
       · subst ei;exact absurd rfl e
       · rw[if_neg ei] at h2
         exact ⟨i,h1,h2,rfl,rfl⟩
   · have f:∀ w,hW l z w k=false:=fun w=>by
      cases h:hW l z w k with
      | false=>rfl
      | true=>exact absurd (we h) hk
     rw[f,f]
theorem Ar {l:Nat} {z:Nat→Int} {w:Nat→Bool} {c:Nat}:ml (hW l z w) [z c,(c:Int)] false=hW l z (m4 w c):=by
 rw[mn]
 funext k
 show (if k=[z c,(c:Int)] then false else hW l z w k)=hW l z (m4 w c) k
 by_cases hk:∃ a b,k=[a,b]
 · obtain ⟨a,b,rfl⟩:=hk
   by_cases e:[a,b]=[z c,(c:Int)]
   · rw[if_pos e]
     symm
     cases h:hW l z (m4 w c) [a,b] with
     | false=>rfl
     | true =>
       obtain ⟨i,h1,h2,h3,h4⟩:=iP.1 h
       simp only[List.cons.injEq,and_true] at e
       have ei:i=c:=by omega
       unfold m4 at h2
       rw[if_pos ei] at h2;cases h2
   · rw[if_neg e,Bool.eq_iff_iff,iP,iP]
     constructor
     · rintro ⟨i,h1,h2,rfl,rfl⟩
       refine ⟨i,h1,?_,rfl,rfl⟩
       have:i≠c:=fun ei=>by subst ei;exact e rfl
       unfold m4;rw[if_neg this];exact h2
     · rintro ⟨i,h1,h2,rfl,rfl⟩
       unfold m4 at h2
       by_cases ei:i=c
       · rw[if_pos ei] at h2;cases h2
       · rw[if_neg ei] at h2
         exact ⟨i,h1,h2,rfl,rfl⟩
 · have f:∀ w,hW l z w k=false:=fun w=>by
    cases h:hW l z w k with
    | false=>rfl
    | true=>exact absurd (we h) hk
   rw[f,f]
   split<;>rfl
theorem EL {l:Nat} {z:Nat→Int} {w:Nat→Bool} {c:Nat} (hc:c<l):hW l z w [z c,(c:Int)]=w c:=by
 cases h:w c with
 | true=>exact iP.2 ⟨c,hc,h,rfl,rfl⟩
 | false =>
   cases h2:hW l z w [z c,(c:Int)] with
   | false=>rfl
   | true =>
     obtain ⟨i,_,h3,h4,_⟩:=iP.1 h2
     have:i=c:=by omega
     rw[this,h] at h3;cases h3
theorem Aq {l:Nat} {z:Nat→Int} {w:Nat→Bool} {c:Nat} (hc:c<l):mq (gW l z w) [z c,(c:Int)] 1=gW l z (je w c):=by
 rw[tn]
 funext k
 have h:=congrFun (wc (z:=z) (w:=w) hc) k
 rw[mn] at h
 have h:(if k=[z c,(c:Int)] then true else hW l z w k)=hW l z (je w c) k:=h
 show (if k=[z c,(c:Int)] then 1 else gW l z w k)=gW l z (je w c) k
 unfold gW
 rw[← h]
 by_cases e:k=[z c,(c:Int)]
 · rw[if_pos e,if_pos e,if_pos rfl]
 · rw[if_neg e,if_neg e]
theorem EJ {l:Nat} {z:Nat→Int} {w:Nat→Bool} {c:Nat}:mq (gW l z w) [z c,(c:Int)] 0=gW l z (m4 w c):=by
 rw[tn]
 funext k
 have h:=congrFun (Ar (l:=l) (z:=z) (w:=w) (c:=c)) k
 rw[mn] at h
 have h:(if k=[z c,(c:Int)] then false else hW l z w k)=hW l z (m4 w c) k:=h
 show (if k=[z c,(c:Int)] then 0 else gW l z w k)=gW l z (m4 w c) k
 unfold gW
 rw[← h]
 by_cases e:k=[z c,(c:Int)]
 · rw[if_pos e,if_pos e,if_neg (by decide)]
 · rw[if_neg e,if_neg e]
theorem z9 {l:Nat} {z:Nat→Int} {w:Nat→Bool} {c:Nat} (hc:c<l) (hw:w c=false):r9 (hW l z w [z c,(c:Int)]) (cn w l)=cn (je w c) l:=by
 rw[xD,EL hc,hw]
 show cn w l+1=_
 rw[ib (p:=w) (q:=je w c) (i:=c) hw (by unfold je;rw[if_pos rfl]) (fun j _ hj=>by unfold je;rw[if_neg hj]) hc]
theorem Eb {l:Nat} {z:Nat→Int} {w:Nat→Bool} {c:Nat} (hc:c<l) (hw:w c=true):uK (hW l z w [z c,(c:Int)]) (cn w l)=cn (m4 w c) l:=by
 rw[xE,EL hc,hw]
 show cn w l-1=_
 have:=ib (p:=m4 w c) (q:=w) (i:=c) (n:=l) (by unfold m4;rw[if_pos rfl]) hw (fun j _ hj=>by unfold m4;rw[if_neg hj]) hc
 omega
end Go.Eng
end
section
namespace Go.Eng
open Go.Proofs
noncomputable def f74 (s l:Nat) (t:Nat→Int) (k:Nat) (d g:Nat→Int):AV:=.fn (.func 74) [dv s l t k d g] []
noncomputable def ug (s l:Nat) (t:Nat→Int) (k:Nat) (d g:Nat→Int):aW:=⟨false,[(0,.row (.G [f74 s l t k d g]))]⟩
noncomputable def Nj (A:AV) (k:Nat) (T:Int) (y:Nat→Int) (args:List AV) (H:aa):Tr (AV×aa) :=
 match args with
 | [B,.fn (.func 88) [] [.ptr 0 1 0 0]]=>match H with
   | ⟨lk,b0::(0,.row (.I .i64 [T']))::bs⟩::r=>.reqP (B=A∧T'=T) (.ok (bP k y false,H))
   | _=>.bad
 | _=>.bad
noncomputable def bS (s l:Nat) (t:Nat→Int) (k:Nat) (d g:Nat→Int) (T:Int) (z f:Nat→Int) (hs:List Int→Bool) (gs:List Int→Int) (c:Nat):aW:=⟨false,[(0,.row (.G [f74 s l t k d g])),HY T,(0,.row (.M [.arr .i64 z 30])),(0,.row (.M [.arr .i64 f 30])),(0,.fmap (.str 2) hs gs c)]⟩
noncomputable def oF (y s l:Nat) (t:Nat→Int) (k:Nat) (d g:Nat→Int) (h j:Int):ao:=[(0,.yld 1 y),(1,.ptrT (some 1) (.G [dv s l t k d g]) 0),(2,.ptrT none (.I .i64 [h]) 0),(6,.ptr 0 2 0 0),(7,.ptr 0 3 0 0),(8,.map 0 4),(39,.int .i64 (Int.ofNat l)),(40,.int .i64 j)]
noncomputable def fJ (y s l:Nat) (t:Nat→Int) (k:Nat) (d g:Nat→Int) (h:Int):ao:=[(0,.yld 1 y),(1,.ptrT (some 1) (.G [dv s l t k d g]) 0),(2,.ptrT none (.I .i64 [h]) 0),(6,.ptr 0 2 0 0),(7,.ptr 0 3 0 0),(8,.map 0 4),(10,.fn (.func 89) [] [])]
theorem Tc (n:Nat) (i e T:Int) (L:aW) (lk:Bool) (b0:Nat×ak) (bs:List (Nat×ak)) (H:aa):aZ Try.prog (cd n) 100000 88 Try.f88 (KtL.kt 88) (il aH n 0) aN aO [(.int .i64 i,none),(.int .i64 e,none),(.ptr 1 1 0 0,none)] (L::⟨lk,b0::HY T::bs⟩::H) =
 Tr.ok ((AV.int .i64 (yM e T),none),L::{ lock:=lk,bs:=b0::(0,ak.row (Row.I .i64 [T]))::bs } :: H):=by kernel_rfl
theorem Ta (n s l k:Nat) (t d g:Nat→Int) (y:Nat→Int) (H:aa) (T:Int):aZ Try.prog (cd n) 100000 86 Try.f86 (KtL.kt 86) (il (Ag aH 74 [dv (s+2) l t k d g,.fn (.func 87) [] [.ptr 0 0 0 0]] (Ls T::aB::ug s l t k d g::H) (.ok (bP k y false,Ls T::aB::ug s l t k d g::H))) n 0) aN aO [(.int .i64 T,none),(.ptr 1 0 0 0,none)] (aB::ug s l t k d g::H) =
 (fun (Z0:Row)=>((fun (Z1:aW)=>Tr.reqP ([AV.ptrT (some (Nat.succ (Nat.succ s))) Z0 0,AV.fn (Fn.func 87) [] [AV.ptr 0 0 0 0]]=[AV.ptrT (some (Nat.succ (Nat.succ s))) Z0 0,AV.fn (Fn.func 87) [] [AV.ptr 0 0 0 0]]∧{ lock:=false,bs:=[(0,ak.row (Row.I .i64 [T]))] } :: aB::Z1::H={ lock:=false,bs:=[(0,ak.row (Row.I .i64 [T]))] } :: aB::Z1::H) (Tr.ok ((AV.slcT none (Row.M [ah.arr .i64 y k]) 1 k false,none),aB::Z1::H))) { lock:=false,bs:=[(0,ak.row (Row.G [AV.fn (Fn.func 74) [AV.ptrT (some s) Z0 0] []]))] })) (Row.M [ah.one (AV.slcT none (Row.M [ah.arr .i64 t l]) 1 l false),ah.one (AV.slcT none (Row.M [ah.arr .i64 d k]) 1 k false),ah.arr .i64 g 30]):=by kernel_rfl
theorem Ma (n y s l k:Nat) (t d g z f:Nat→Int) (hs:List Int→Bool) (gs:List Int→Int) (c:Nat) (h T j:Int) (G:aa):aQ (bt n 85 118) (il aH n 0) aN aO (part Try.f85 [1,1,1,1,1,0,1,0,0]) (hints (oF y s l t k d g h j)) (bS (s+1) l t k d g T z f hs gs c::G) =
 (fun (Z0:Row)=>((fun (Z1:aI)=>((fun (Z2:aW)=>Tr.ite (bV j (Int.ofNat l)) (Tr.req (cS j 30) (Tr.req (cu 0 0) (Tr.req (cJ (ar 0 j 1) 30) (Tr.ite (bJ (f (ar 0 j 1)) (Int.ofNat 0)) (Tr.req (cS j 30) (Tr.req (cu 0 0) (Tr.req (cJ (ar 0 j 1) 30) (Tr.ok (Ex.normal,Z1,{ lock:=false,bs:=[(0,ak.row (Row.G [AV.fn (Fn.func 74) [AV.ptrT (some (Nat.succ s)) Z0 0] []])),(0,ak.row (Row.I .i64 [T])),(0,ak.row (Row.M [ah.arr .i64 z 30])),(0,ak.row (Row.M [ah.arr .i64 f 30])),(0,ak.fmap (KK.str 2) (ml hs [z (ar 0 j 1),j] true) (mq gs [z (ar 0 j 1),j] (Int.ofNat 1)) (r9 (hs [z (ar 0 j 1),j]) c))] } :: G))))) (Tr.ok (Ex.normal,Z1,Z2::G)))))) (Tr.ok (Ex.exit 0,[(0,AV.yld 1 y,none),(1,AV.ptrT (some 1) (Row.G [AV.ptrT (some s) Z0 0]) 0,none),(2,AV.ptrT none (Row.I .i64 [h]) 0,none),(6,AV.ptr 0 2 0 0,none),(7,AV.ptr 0 3 0 0,none),(8,AV.map 0 4,none),(39,AV.int .i64 (Int.ofNat l),none),(40,AV.int .i64 j,none),(41,AV.bool false,some 1)],Z2::G))) { lock:=false,bs:=[(0,ak.row (Row.G [AV.fn (Fn.func 74) [AV.ptrT (some (Nat.succ s)) Z0 0] []])),(0,ak.row (Row.I .i64 [T])),(0,ak.row (Row.M [ah.arr .i64 z 30])),(0,ak.row (Row.M [ah.arr .i64 f 30])),(0,ak.fmap (KK.str 2) hs gs c)] })) [(0,AV.yld 1 y,none),(1,AV.ptrT (some 1) (Row.G [AV.ptrT (some s) Z0 0]) 0,none),(2,AV.ptrT none (Row.I .i64 [h]) 0,none),(6,AV.ptr 0 2 0 0,none),(7,AV.ptr 0 3 0 0,none),(8,AV.map 0 4,none),(39,AV.int .i64 (Int.ofNat l),none),(40,AV.int .i64 (bE .i64 j (Int.ofNat 1)),none)])) (Row.M [ah.one (AV.slcT none (Row.M [ah.arr .i64 t l]) 1 l false),ah.one (AV.slcT none (Row.M [ah.arr .i64 d k]) 1 k false),ah.arr .i64 g 30]):=by kernel_rfl
theorem OV (n y s l k:Nat) (t d g z f:Nat→Int) (hs:List Int→Bool) (gs:List Int→Int) (c:Nat) (h T:Int) (G:aa):aQ (bt n 85 118) (il aH n 0) (bZ aN 4 [] [] .bad) aO (part Try.f85 [1,1,1,1,1,1,1,0,0]) (hints (fJ y s l t k d g h)) (bS (s+1) l t k d g T z f hs gs c::G) =
 (fun (Z0:Row)=>((fun (Z1:aW)=>Tr.ite (bV (Int.ofNat 0) (Int.ofNat c)) (Tr.reqP ([(0,AV.yld 1 y),(1,AV.ptrT (some 1) (Row.G [AV.ptrT (some s) Z0 0]) 0),(2,AV.ptrT none (Row.I .i64 [h]) 0),(6,AV.ptr 0 2 0 0),(7,AV.ptr 0 3 0 0),(8,AV.map 0 4),(10,AV.fn (Fn.func 89) [] []),(11,AV.nils)]=[]∧Z1::G=[]) Tr.bad) (Tr.ok (Ex.exit 2,[(0,AV.yld 1 y,none),(1,AV.ptrT (some 1) (Row.G [AV.ptrT (some s) Z0 0]) 0,none),(2,AV.ptrT none (Row.I .i64 [h]) 0,none),(6,AV.ptr 0 2 0 0,none),(7,AV.ptr 0 3 0 0,none),(8,AV.map 0 4,none),(10,AV.fn (Fn.func 89) [] [],none),(56,AV.bool false,some 1)],Z1::G))) { lock:=false,bs:=[(0,ak.row (Row.G [AV.fn (Fn.func 74) [AV.ptrT (some (Nat.succ s)) Z0 0] []])),(0,ak.row (Row.I .i64 [T])),(0,ak.row (Row.M [ah.arr .i64 z 30])),(0,ak.row (Row.M [ah.arr .i64 f 30])),(0,ak.fmap (KK.str 2) hs gs c)] })) (Row.M [ah.one (AV.slcT none (Row.M [ah.arr .i64 t l]) 1 l false),ah.one (AV.slcT none (Row.M [ah.arr .i64 d k]) 1 k false),ah.arr .i64 g 30]):=by kernel_rfl
end Go.Eng
end
section
namespace Go.Eng
open Go.Proofs
theorem QC (n:Nat) (i e T:Int) (L:aW) (lk:Bool) (b0:Nat×ak) (bs:List (Nat×ak)) (H:aa):cd (n+1) (.fn 88) [.int .i64 i,.int .i64 e,.ptr 1 1 0 0] (L::⟨lk,b0::HY T::bs⟩::H)=some (.int .i64 (min e T),L::⟨lk,b0::HY T::bs⟩::H):=by
 refine aL (n:=n) Try.func88 rfl rfl rfl (Tc n i e T L lk b0 bs H) (av _) (af _ _) (ag _ _) ?_
 rw[o5]
 exact wF
section
variable (n s l k:Nat) (t d g:Nat→Int) (H:aa)
theorem QA (T:Int) (h0:0<k) (hk:k≤1000):cd (n+3) (.fn 86) [.int .i64 T,.ptr 1 0 0 0] (aB::ug s l t k d g::H)=some (bP k (aA (kJ (fun i=>min (d i) T) k)) false,aB::ug s l t k d g::H):=by
 refine aL (n:=n+2) Try.func86 rfl rfl rfl (Ta (n+2) s l k t d g (aA (kJ (fun i=>min (d i) T) k)) H T) (aS _ (n+2) (ie (aG _) (fun x hy=>by
  rw[← Tr.ab hy]
  exact M9 (n+1) (s+2) l k t d g (fun i e=>min e T) _ h0 hk (fun i e L=>QB n _ i e T L)))) (af _ _) (ag _ _) ?_
 generalize aA (kJ (fun i=>min (d i) T) k)=Y at *
 exact wF
theorem Jf {c:py} {T:Int} (hc:c.Ok (cd (n+2))) (h0:0<k) (hk:k≤1000):(jf c 74 (Nj (dv s l t k d g) k T (aA (kJ (fun i=>min (d i) T) k)))).Ok (cd (n+2)):=by
 refine jN hc (fun args H x hx=>?_)
 unfold Nj at hx
 split at hx
 · split at hx
   · obtain ⟨⟨rfl,rfl⟩,h2⟩:=Tr.db hx
     rw[← Tr.ab h2]
     exact Na (n+1) s l k 1 t d g (fun i e=>min e _) _ h0 hk (fun i e L=>QC n i e _ L _ _ _ _)
   · exact (Tr.ae hx).elim
 · exact (Tr.ae hx).elim
end
def w0 (f:Nat→Int) (j:Nat):Nat→Bool:=fun i=>decide (i<j) && decide (f i=0)
theorem My (f:Nat→Int) (j:Nat):w0 f j j=false:=by unfold w0;simp
theorem Kc {f:Nat→Int} {j:Nat} (h:f j=0):w0 f (j+1)=je (w0 f j) j:=by
 funext i
 unfold w0 je
 by_cases e:i=j
 · subst e;rw[if_pos rfl];simp[h]
 · rw[if_neg e,decide_eq_decide.2 (show i<j+1↔i<j by omega)]
theorem HR {f:Nat→Int} {j:Nat} (h:¬ f j=0):w0 f (j+1)=w0 f j:=by
 funext i
 unfold w0
 by_cases e:i=j
 · subst e;simp[h]
 · rw[decide_eq_decide.2 (show i<j+1↔i<j by omega)]
theorem Bs {l:Nat} {z:Nat→Int} {w:Nat→Bool} (hw:∀ i,i<l→w i=false):hW l z w=fun _=>false:=by
 funext k
 cases hk:hW l z w k with
 | false=>rfl
 | true =>
   obtain ⟨a,b,rfl⟩:=we hk
   obtain ⟨i,h1,h2,_⟩:=iP.1 hk
   rw[hw i h1] at h2;cases h2
theorem GG {l:Nat} {z:Nat→Int} {w:Nat→Bool} (hw:∀ i,i<l→w i=false):gW l z w=fun _=>0:=by
 funext k
 unfold gW
 rw[Bs hw];rfl
section
variable (n y s l k:Nat) (t d g z f:Nat→Int) (h T:Int) (G:aa)
theorem N8 (hl:l≤30):exec (bt n 85 118) (.block 0 (.loop (part Try.f85 [1,1,1,1,1,0,1,0,0]))) (oF y s l t k d g h 0) (bS (s+1) l t k d g T z f (fun _=>false) (fun _=>0) 0::G)=some (.normal,oF y s l t k d g h (Int.ofNat l)++[(41,.bool false)],bS (s+1) l t k d g T z f (hW l z (w0 f l)) (gW l z (w0 f l)) (cn (w0 f l) l)::G):=by
 have hw:∀ i,i<l→w0 f 0 i=false:=fun i _=>by unfold w0;simp
 suffices hx:exec (bt n 85 118) (.block 0 (.loop (part Try.f85 [1,1,1,1,1,0,1,0,0]))) (oF y s l t k d g h 0) (bS (s+1) l t k d g T z f (hW l z (w0 f 0)) (gW l z (w0 f 0)) (cn (w0 f 0) l)::G)=some (.normal,oF y s l t k d g h (Int.ofNat l)++[(41,.bool false)],bS (s+1) l t k d g T z f (hW l z (w0 f l)) (gW l z (w0 f l)) (cn (w0 f l) l)::G) from by
  rw[Bs (z:=z) hw,GG (z:=z) hw,mB hw] at hx
  exact hx
 refine jD (n:=n) (f:=85) (nt:=118) (c:=part Try.f85 [1,1,1,1,1,0,1,0,0]) 0 (fun j=>oF y s l t k d g h (j:Nat)) (fun j=>bS (s+1) l t k d g T z f (hW l z (w0 f j)) (gW l z (w0 f j)) (cn (w0 f j) l)::G) l _ (by omega) (fun j hj=>?_) ?_
 · refine aK (Ma n y s l k t d g z f (hW l z (w0 f j)) (gW l z (w0 f j)) (cn (w0 f j) l) h T (j:Nat) G) (av _) (af _ _) (ag _ _) ?_
   show Tr.all _ (fun x=>_∧tidy _ _ _=(oF y s l t k d g h ((j+1:Nat):Int),bS (s+1) l t k d g T z f (hW l z (w0 f (j+1))) (gW l z (w0 f (j+1))) (cn (w0 f (j+1)) l)::G))
   rw[dx (j:=j) (by omega)]
   simp only[jo]
   by_cases e:f j=0
   · rw[Kc e,← wc hj,← Aq hj,← z9 (z:=z) hj (My f j)]
     generalize hW l z (w0 f j)=A at *
     generalize gW l z (w0 f j)=B at *
     generalize cn (w0 f j) l=C at *
     exact wF
   · rw[HR e]
     generalize hW l z (w0 f j)=A at *
     generalize gW l z (w0 f j)=B at *
     generalize cn (w0 f j) l=C at *
     exact wF
 · exact cW (Ma n y s l k t d g z f (hW l z (w0 f l)) (gW l z (w0 f l)) (cn (w0 f l) l) h T (Int.ofNat l) G) (av _) (af _ _) (ag _ _) (by first | (simp (disch:=omega) only[nV,nW];done) | (simp (disch:=omega) only[nV,nW];omega))
end
end Go.Eng
end
section
namespace Go.Eng
open Go.Proofs
noncomputable def eB (s l:Nat) (t:Nat→Int) (k:Nat) (d g:Nat→Int) (T:Int) (z f:Nat→Int) (hs:List Int→Bool) (gs:List Int→Int) (c:Nat) (b:Nat×ak):aW:=⟨false,[(0,.row (.G [f74 s l t k d g])),HY T,(0,.row (.M [.arr .i64 z 30])),(0,.row (.M [.arr .i64 f 30])),(0,.fmap (.str 2) hs gs c),b]⟩
noncomputable def gn (s l:Nat) (t:Nat→Int) (k:Nat) (d g:Nat→Int) (T:Int) (z f:Nat→Int) (hs:List Int→Bool) (gs:List Int→Int) (c:Nat) (b b2:Nat×ak):aW:=⟨false,[(0,.row (.G [f74 s l t k d g])),HY T,(0,.row (.M [.arr .i64 z 30])),(0,.row (.M [.arr .i64 f 30])),(0,.fmap (.str 2) hs gs c),b,b2]⟩
noncomputable def ey (y s l:Nat) (t:Nat→Int) (k:Nat) (d g:Nat→Int) (h:Int) (o:AV):ao:=[(0,.yld 1 y),(1,.ptrT (some 1) (.G [dv s l t k d g]) 0),(2,.ptrT none (.I .i64 [h]) 0),(6,.ptr 0 2 0 0),(7,.ptr 0 3 0 0),(8,.map 0 4),(10,.fn (.func 89) [] []),(11,o)]
noncomputable def Kk (P:(List Int→Bool)→(List Int→Int)→Nat→Prop) (a b:Int) (x:Bool) (args:List AV) (H:aa):Tr (AV×aa) :=
 match args with
 | [.map 0 4,.fn (.func 89) [] []]=>match H with
   | ⟨lk,b0::b1::b2::b3::(0,.fmap (.str 2) hs gs c)::bs⟩::r=>.reqP (P hs gs c) (.ok (.tup [.agg (.I .i64 [a,b]),.bool x],H))
   | _=>.bad
 | _=>.bad
theorem Mb (n y s l k:Nat) (t d g z f:Nat→Int) (hs:List Int→Bool) (gs:List Int→Int) (c:Nat) (h T:Int) (P:(List Int→Bool)→(List Int→Int)→Nat→Prop) (a b:Int) (x:Bool) (G:aa):aQ (bt n 85 118) (il (jf aH 90 (Kk P a b x)) n 0) aN aO (part Try.f85 [1,1,1,1,1,1,1,0,0,1,0,1,0,0,0]) (hints (ey y s l t k d g h .nils)) (bS (s+1) l t k d g T z f hs gs c::G) =
 (fun (Z0:Row)=>((fun (Z1:Nat×ak)=>((fun (Z2:Nat×AV×Option Nat)=>Tr.ite (bV (Int.ofNat 0) h) (Tr.reqP (P hs gs c) (Tr.ite (ay x) (Tr.ok (Ex.exit 4,[(0,AV.yld 1 y,none),Z2,(2,AV.ptrT none (Row.I .i64 [h]) 0,none),(6,AV.ptr 0 2 0 0,none),(7,AV.ptr 0 3 0 0,none),(8,AV.map 0 4,none),(10,AV.fn (Fn.func 89) [] [],none),(11,AV.nils,none),(12,AV.ptr 0 5 0 0,none),(68,AV.bool true,some 1)],{ lock:=false,bs:=[Z1,(0,ak.row (Row.I .i64 [T])),(0,ak.row (Row.M [ah.arr .i64 z 30])),(0,ak.row (Row.M [ah.arr .i64 f 30])),(0,ak.fmap (KK.str 2) hs gs c),(0,ak.row (Row.I .i64 [a,b]))] } :: G)) (Tr.req (gx 0 1 8) (Tr.req (cu 0 0) (Tr.req (ik 1 1) (Tr.ok (Ex.normal,[(0,AV.yld 1 y,none),Z2,(2,AV.ptrT none (Row.I .i64 [h]) 0,none),(6,AV.ptr 0 2 0 0,none),(7,AV.ptr 0 3 0 0,none),(8,AV.map 0 4,none),(10,AV.fn (Fn.func 89) [] [],none),(11,AV.slc 0 7 0 0 1 1 none,none)],{ lock:=false,bs:=[Z1,(0,ak.row (Row.I .i64 [T])),(0,ak.row (Row.M [ah.arr .i64 z 30])),(0,ak.row (Row.M [ah.arr .i64 f 30])),(0,ak.fmap (KK.str 2) (ml hs [a,b] false) (mq gs [a,b] (Int.ofNat 0)) (uK (hs [a,b]) c)),(0,ak.row (Row.I .i64 [a,b])),(0,ak.row (Row.I .i64 [b])),(0,ak.row (Row.M [ah.arr .i64 (aA [b]) 1]))] } :: G))))))) (Tr.ok (Ex.exit 4,[(0,AV.yld 1 y,none),Z2,(2,AV.ptrT none (Row.I .i64 [h]) 0,none),(6,AV.ptr 0 2 0 0,none),(7,AV.ptr 0 3 0 0,none),(8,AV.map 0 4,none),(10,AV.fn (Fn.func 89) [] [],none),(11,AV.nils,none),(60,AV.bool false,some 1)],{ lock:=false,bs:=[Z1,(0,ak.row (Row.I .i64 [T])),(0,ak.row (Row.M [ah.arr .i64 z 30])),(0,ak.row (Row.M [ah.arr .i64 f 30])),(0,ak.fmap (KK.str 2) hs gs c)] } :: G))) (1,AV.ptrT (some 1) (Row.G [AV.ptrT (some s) Z0 0]) 0,none))) (0,ak.row (Row.G [AV.fn (Fn.func 74) [AV.ptrT (some (Nat.succ s)) Z0 0] []])))) (Row.M [ah.one (AV.slcT none (Row.M [ah.arr .i64 t l]) 1 l false),ah.one (AV.slcT none (Row.M [ah.arr .i64 d k]) 1 k false),ah.arr .i64 g 30]):=by kernel_rfl
theorem FQ (n y s l k:Nat) (t d g z f:Nat→Int) (hs:List Int→Bool) (gs:List Int→Int) (c:Nat) (h T:Int) (P:(List Int→Bool)→(List Int→Int)→Nat→Prop) (a b:Int) (x:Bool) (v m:Nat) (o:Nat→Int) (G:aa):aQ (bt n 85 118) (il (jf aH 90 (Kk P a b x)) n 0) aN aO (part Try.f85 [1,1,1,1,1,1,1,0,0,1,0,1,0,0,0]) (hints (ey y s l t k d g h (.slc 0 5 v 0 1 m none))) (eB (s+1) l t k d g T z f hs gs c (v,.row (.M [.arr .i64 o m]))::G) =
 (fun (Z0:Row)=>((fun (Z1:Nat×ak)=>((fun (Z2:Nat×AV×Option Nat)=>Tr.ite (bV (Int.ofNat m) h) (Tr.reqP (P hs gs c) (Tr.ite (ay x) (Tr.ok (Ex.exit 4,[(0,AV.yld 1 y,none),Z2,(2,AV.ptrT none (Row.I .i64 [h]) 0,none),(6,AV.ptr 0 2 0 0,none),(7,AV.ptr 0 3 0 0,none),(8,AV.map 0 4,none),(10,AV.fn (Fn.func 89) [] [],none),(11,AV.slc 0 5 v 0 1 m none,none),(12,AV.ptr 0 6 0 0,none),(68,AV.bool true,some 1)],{ lock:=false,bs:=[Z1,(0,ak.row (Row.I .i64 [T])),(0,ak.row (Row.M [ah.arr .i64 z 30])),(0,ak.row (Row.M [ah.arr .i64 f 30])),(0,ak.fmap (KK.str 2) hs gs c),(v,ak.row (Row.M [ah.arr .i64 o m])),(0,ak.row (Row.I .i64 [a,b]))] } :: G)) (Tr.req (gx m 1 8) (Tr.req (cu 0 0) (Tr.req (ik 1 1) (Tr.req (cu v v) (Tr.req (cu (bY 0 m) m) (Tr.ok (Ex.normal,[(0,AV.yld 1 y,none),Z2,(2,AV.ptrT none (Row.I .i64 [h]) 0,none),(6,AV.ptr 0 2 0 0,none),(7,AV.ptr 0 3 0 0,none),(8,AV.map 0 4,none),(10,AV.fn (Fn.func 89) [] [],none),(11,AV.slc 0 5 (Nat.succ v) 0 1 (bY m 1) none,none)],{ lock:=false,bs:=[Z1,(0,ak.row (Row.I .i64 [T])),(0,ak.row (Row.M [ah.arr .i64 z 30])),(0,ak.row (Row.M [ah.arr .i64 f 30])),(0,ak.fmap (KK.str 2) (ml hs [a,b] false) (mq gs [a,b] (Int.ofNat 0)) (uK (hs [a,b]) c)),(Nat.succ v,ak.row (Row.M [ah.arr .i64 (lO (dE o 0) m (aA [b])) (bY m 1)])),(0,ak.row (Row.I .i64 [a,b])),(0,ak.row (Row.I .i64 [b]))] } :: G))))))))) (Tr.ok (Ex.exit 4,[(0,AV.yld 1 y,none),Z2,(2,AV.ptrT none (Row.I .i64 [h]) 0,none),(6,AV.ptr 0 2 0 0,none),(7,AV.ptr 0 3 0 0,none),(8,AV.map 0 4,none),(10,AV.fn (Fn.func 89) [] [],none),(11,AV.slc 0 5 v 0 1 m none,none),(60,AV.bool false,some 1)],{ lock:=false,bs:=[Z1,(0,ak.row (Row.I .i64 [T])),(0,ak.row (Row.M [ah.arr .i64 z 30])),(0,ak.row (Row.M [ah.arr .i64 f 30])),(0,ak.fmap (KK.str 2) hs gs c),(v,ak.row (Row.M [ah.arr .i64 o m]))] } :: G))) (1,AV.ptrT (some 1) (Row.G [AV.ptrT (some s) Z0 0]) 0,none))) (0,ak.row (Row.G [AV.fn (Fn.func 74) [AV.ptrT (some (Nat.succ s)) Z0 0] []])))) (Row.M [ah.one (AV.slcT none (Row.M [ah.arr .i64 t l]) 1 l false),ah.one (AV.slcT none (Row.M [ah.arr .i64 d k]) 1 k false),ah.arr .i64 g 30]):=by kernel_rfl
def bu (l:Nat) (z:Nat→Int) (w:Nat→Bool):Nat→List Nat×(Nat→Bool)
 | 0=>([],w)
 | m+1=>match kr z (bu l z w m).2 l with
   | none=>bu l z w m
   | some i=>((bu l z w m).1++[i],m4 (bu l z w m).2 i)
def eY (l:Nat) (z:Nat→Int) (w:Nat→Bool) (m:Nat):List Int:=(bu l z w m).1.map fun (i:Nat)=>(i:Int)
section
variable {l:Nat} {z:Nat→Int} {w:Nat→Bool}
theorem fk {m i:Nat} (h:kr z (bu l z w m).2 l=some i):bu l z w (m+1)=((bu l z w m).1++[i],m4 (bu l z w m).2 i):=by
 show (match kr z (bu l z w m).2 l with | none=>_ | some i=>_)=_
 rw[h]
theorem o8 {m:Nat} (h:kr z (bu l z w m).2 l=none):bu l z w (m+1)=bu l z w m:=by
 show (match kr z (bu l z w m).2 l with | none=>_ | some i=>_)=_
 rw[h]
theorem nM:∀ H,∃ r,r≤H∧(∀ j,j<r→∃ i,kr z (bu l z w j).2 l=some i)∧bu l z w H=bu l z w r∧(r=H∨kr z (bu l z w r).2 l=none)
 | 0=>⟨0,Nat.le_refl _,fun j hj=>by omega,rfl,.inl rfl⟩
 | H + 1=>by
   obtain ⟨r,h1,h2,h3,h4⟩:=nM H
   cases hm:kr z (bu l z w H).2 l with
   | none =>
     refine ⟨r,by omega,h2,by rw[o8 hm,h3],.inr ?_⟩
     rw[← h3];exact hm
   | some i =>
     rcases h4 with rfl | h4
     · refine ⟨r+1,by omega,fun j hj=>?_,rfl,.inl rfl⟩
       by_cases e:j=r
       · subst e;exact ⟨i,hm⟩
       · exact h2 j (by omega)
     · rw[← h3,hm] at h4;cases h4
theorem s3:∀ m,(∀ j,j<m→∃ i,kr z (bu l z w j).2 l=some i)→(eY l z w m).length=m
 | 0,_=>rfl
 | m+1,h=>by
   obtain ⟨i,hi⟩:=h m (by omega)
   have ih:=s3 m (fun j hj=>h j (by omega))
   unfold eY at ih ⊢
   rw[List.length_map] at ih
   rw[fk hi,List.length_map,List.length_append,ih]
   rfl
theorem y8 {m i:Nat} (h:kr z (bu l z w m).2 l=some i):eY l z w (m+1)=eY l z w m++[(i:Int)]:=by
 unfold eY
 rw[fk h,List.map_append]
 rfl
theorem mK {w:Nat→Bool} {i:Nat} (h:kr z w l=some i):i<l∧w i=true:=by
 have:=j9 z w l
 rw[h] at this
 exact ⟨this.1,this.2.1⟩
end
def F4 (l:Nat) (z:Nat→Int) (w:Nat→Bool):(List Int→Bool)→(List Int→Int)→Nat→Prop:=fun hs gs c=>hs=hW l z w∧gs=gW l z w∧c=cn w l
theorem Ap {n:Nat} {l:Nat} {z:Nat→Int} {w:Nat→Bool} {a b:Int} {x:Bool} (h:OD ((kr z w l).map fun i=>(z i,(i:Int)))=.tup [.agg (.I .i64 [a,b]),.bool x]):(jf aH 90 (Kk (F4 l z w) a b x)).Ok (cd (n+2)):=by
 refine jN (aG _) (fun args H x hx=>?_)
 unfold Kk at hx
 split at hx
 · split at hx
   · obtain ⟨⟨rfl,rfl,rfl⟩,h2⟩:=Tr.db hx
     rw[← Tr.ab h2,← h]
     obtain ⟨es,hE⟩:=QK l z w
     exact QE n 4 _ rfl hE (Jx l z w)
   · exact (Tr.ae hx).elim
 · exact (Tr.ae hx).elim
noncomputable def MG:Nat→AV
 | 0=>.nils
 | q+1=>.slc 0 5 q 0 1 (q+1) none
noncomputable def sH (s l:Nat) (t:Nat→Int) (k:Nat) (d g:Nat→Int) (T:Int) (z f:Nat→Int) (w:Nat→Bool):Nat→aW
 | 0=>bS s l t k d g T z f (hW l z w) (gW l z w) (cn w l)
 | q+1=>eB s l t k d g T z f (hW l z (bu l z w (q+1)).2) (gW l z (bu l z w (q+1)).2) (cn (bu l z w (q+1)).2 l) (q,.row (.M [.arr .i64 (aA (eY l z w (q+1))) (q+1)]))
section
variable (n y s l k:Nat) (t d g z f:Nat→Int) (h T:Int) (w:Nat→Bool) (G:aa)
theorem Ox (i:Nat) (hi:kr z w l=some i) (hh:0<h):∃ x,exec (bt (n+2) 85 118) (part Try.f85 [1,1,1,1,1,1,1,0,0,1,0,1,0,0,0]) (ey y s l t k d g h .nils) (bS (s+1) l t k d g T z f (hW l z w) (gW l z w) (cn w l)::G)=some x∧(x.1=.normal∧tidy (al (bS (s+1) l t k d g T z f (hW l z w) (gW l z w) (cn w l)::G)) x.2.1 x.2.2=(ey y s l t k d g h (.slc 0 5 0 0 1 1 none),eB (s+1) l t k d g T z f (hW l z (m4 w i)) (gW l z (m4 w i)) (cn (m4 w i) l) (0,.row (.M [.arr .i64 (aA [(i:Int)]) 1]))::G)):=by
 obtain ⟨hl,hw⟩:=mK hi
 refine aK (Mb (n+2) y s l k t d g z f (hW l z w) (gW l z w) (cn w l) h T (F4 l z w) (z i) (i:Int) true G) (aS _ (n+2) (Ap (by rw[hi];rfl))) (af _ _) (ag _ _) ?_
 rw[← Ar,← EJ,← Eb (z:=z) hl hw]
 have hp:F4 l z w (hW l z w) (gW l z w) (cn w l):=⟨rfl,rfl,rfl⟩
 generalize F4 l z w=P at *
 generalize hW l z w=A at *
 generalize gW l z w=B at *
 generalize cn w l=C at *
 repeat' first | (refine Tr.bx (fun hc=>?_) (fun hc=>?_)<;>(try simp (disch:=omega) only[nV,nW,hp] at hc)<;>try omega) | (refine Tr.cL ?_ ?_;· (try simp (disch:=omega) only[nV,nW,hp]);try omega) | (refine Tr.bn ?_ ?_;· first | exact trivial | rfl | exact ⟨rfl,rfl⟩ | exact ⟨rfl,rfl,rfl⟩ | (simp (disch:=omega) only[nV,nW,hp];done) | ((try simp (disch:=omega) only[nV,nW,hp]);omega)) | fail
 all_goals first
  | exact Tr.bk ⟨rfl,rfl⟩
  | fail
theorem Oy (i q:Nat) (o:List Int) (ho:o.length=q+1) (hi:kr z w l=some i) (hh:(q+1:Nat)<h) (hq:q<1000):∃ x,exec (bt (n+2) 85 118) (part Try.f85 [1,1,1,1,1,1,1,0,0,1,0,1,0,0,0]) (ey y s l t k d g h (.slc 0 5 q 0 1 (q+1) none)) (eB (s+1) l t k d g T z f (hW l z w) (gW l z w) (cn w l) (q,.row (.M [.arr .i64 (aA o) (q+1)]))::G)=some x∧(x.1=.normal∧tidy (al (bS (s+1) l t k d g T z f (hW l z w) (gW l z w) (cn w l)::G)) x.2.1 x.2.2=(ey y s l t k d g h (.slc 0 5 (q+1) 0 1 (q+1+1) none),eB (s+1) l t k d g T z f (hW l z (m4 w i)) (gW l z (m4 w i)) (cn (m4 w i) l) (q+1,.row (.M [.arr .i64 (aA (o++[(i:Int)])) (q+1+1)]))::G)):=by
 obtain ⟨hl,hw⟩:=mK hi
 refine aK (FQ (n+2) y s l k t d g z f (hW l z w) (gW l z w) (cn w l) h T (F4 l z w) (z i) (i:Int) true q (q+1) (aA o) G) (aS _ (n+2) (Ap (by rw[hi];rfl))) (af _ _) (ag _ _) ?_
 have hap:=wu o (i:Int)
 rw[ho] at hap
 have ea:bY (q+1) 1=q+1+1:=bH _ _
 rw[← Ar,← EJ,← Eb (z:=z) hl hw]
 simp only[hap,ea]
 have hp:F4 l z w (hW l z w) (gW l z w) (cn w l):=⟨rfl,rfl,rfl⟩
 generalize F4 l z w=P at *
 generalize hW l z w=A at *
 generalize gW l z w=B at *
 generalize cn w l=C at *
 generalize aA (o++[(i:Int)])=Y2 at *
 generalize aA o=Y at *
 repeat' first | (refine Tr.bx (fun hc=>?_) (fun hc=>?_)<;>(try simp (disch:=omega) only[nV,nW,hp] at hc)<;>try omega) | (refine Tr.cL ?_ ?_;· (try simp (disch:=omega) only[nV,nW,hp]);try omega) | (refine Tr.bn ?_ ?_;· first | exact trivial | rfl | exact ⟨rfl,rfl⟩ | exact ⟨rfl,rfl,rfl⟩ | (simp (disch:=omega) only[nV,nW,hp];done) | ((try simp (disch:=omega) only[nV,nW,hp]);omega)) | fail
 all_goals first
  | exact Tr.bk ⟨rfl,rfl⟩
  | fail
end
end Go.Eng
end
