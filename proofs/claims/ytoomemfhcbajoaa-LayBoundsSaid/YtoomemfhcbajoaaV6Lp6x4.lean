/- Lay: those that wait, as a map of steps. -/
import Derived.Test.YtoomemfhcbajoaaV6Lb16x7
import Derived.Test.YtoomemfhcbajoaaV6Lb22x2
set_option linter.unusedVariables false
set_option linter.unusedSimpArgs false
set_option maxRecDepth 100000
section
namespace Go.Eng
def hW (l:Nat) (z:Nat→Int) (w:Nat→Bool):List Int→Bool:=fun k=>match k with
 | [a,b]=>decide (0≤b∧b<l) && (w b.toNat && decide (a=z b.toNat))
 | _=>false
def gW (l:Nat) (z:Nat→Int) (w:Nat→Bool):List Int→Int:=fun k=>if hW l z w k=true then 1 else 0
theorem jk {l:Nat} {z:Nat→Int} {w:Nat→Bool} {a b:Int}:hW l z w [a,b]=true↔∃ i:Nat,i<l∧w i=true∧b=i∧a=z i:=by
 show (decide (0≤b∧b<l) && (w b.toNat && decide (a=z b.toNat)))=true↔_
 simp only[Bool.and_eq_true,decide_eq_true_eq]
 constructor
 · rintro ⟨⟨h1,h2⟩,h3,h4⟩
   exact ⟨b.toNat,by omega,h3,by omega,h4⟩
 · rintro ⟨i,h1,h2,rfl,rfl⟩
   refine ⟨by omega,?_,?_⟩
   · rw[Int.toNat_natCast];exact h2
   · rw[Int.toNat_natCast]
theorem xf {l:Nat} {z:Nat→Int} {w:Nat→Bool} {k:List Int} (h:hW l z w k=true):∃ a b,k=[a,b]:=by
 unfold hW at h
 split at h
 · exact ⟨_,_,rfl⟩
 · cases h
theorem vB (w:Nat→Bool):∀ l,((List.range l).filter w).length=cn w l
 | 0=>rfl
 | l+1=>by
   rw[List.range_succ,List.filter_append,List.length_append,vB w l]
   show _=cn w l+(w l).toNat
   cases h:w l<;>simp[List.filter_cons,h]
theorem SS (l:Nat) (z:Nat→Int) (w:Nat→Bool):∃ es,wI (.str 2) es (hW l z w) (gW l z w) (cn w l):=by
 refine ⟨((List.range l).filter w).map fun i=>(dL (.str 2) [z i,(i:Int)],.int .i64 1),?_,fun j hj=>?_,fun n hn=>?_,fun n hn=>?_,fun i j hi hj e=>?_⟩
 · rw[List.length_map,vB]
 · simp only[List.length_map] at hj
   have hm:((List.range l).filter w)[j] ∈ (List.range l).filter w:=List.getElem_mem hj
   generalize he:((List.range l).filter w)[j]=i at hm
   rw[List.mem_filter,List.mem_range] at hm
   refine ⟨[z i,(i:Int)],?_,jk.2 ⟨i,hm.1,hm.2,rfl,rfl⟩⟩
   have hg:gW l z w [z i,(i:Int)]=1:=by unfold gW;rw[if_pos (jk.2 ⟨i,hm.1,hm.2,rfl,rfl⟩)]
   rw[hg,List.getD_eq_getElem?_getD,List.getElem?_map,List.getElem?_eq_getElem hj,he];rfl
 · obtain ⟨a,b,rfl⟩:=xf hn
   obtain ⟨i,h1,h2,rfl,rfl⟩:=jk.1 hn
   refine ⟨rfl,?_⟩
   have hm:i ∈ (List.range l).filter w:=List.mem_filter.2 ⟨List.mem_range.2 h1,h2⟩
   obtain ⟨j,hj,he⟩:=List.getElem_of_mem hm
   refine ⟨j,by rw[List.length_map];exact hj,?_⟩
   rw[List.getD_eq_getElem?_getD,List.getElem?_map,List.getElem?_eq_getElem hj,he];rfl
 · unfold gW
   rw[if_neg (by rw[hn];decide)]
 · simp only[List.length_map] at hi hj
   rw[List.getD_eq_getElem?_getD,List.getElem?_map,List.getElem?_eq_getElem hi,List.getD_eq_getElem?_getD,List.getElem?_map,List.getElem?_eq_getElem hj] at e
   have e:dL (.str 2) [z (((List.range l).filter w)[i]),((((List.range l).filter w)[i]:Nat):Int)]=dL (.str 2) [z (((List.range l).filter w)[j]),((((List.range l).filter w)[j]:Nat):Int)]:=e
   unfold dL at e
   simp only[AV.agg.injEq,Row.I.injEq,List.cons.injEq,and_true,true_and] at e
   have hn:((List.range l).filter w).Nodup:=List.nodup_range.filter _
   have hp:=List.pairwise_iff_getElem.1 hn
   rcases Nat.lt_trichotomy i j with c | c | c
   · exact absurd (by omega) (hp i j hi hj c)
   · exact c
   · exact absurd (by omega) (hp j i hj hi c)
theorem KN (l:Nat) (z:Nat→Int) (w:Nat→Bool):wJ (hW l z w) ((kK z w l).map fun i=>(z i,(i:Int))):=by
 have h:=ky z w l
 cases hm:kK z w l with
 | none =>
   rw[hm] at h
   intro a b
   cases c:hW l z w [a,b] with
   | false=>rfl
   | true =>
     obtain ⟨i,h1,h2,_⟩:=jk.1 c
     have:=h i h1
     rw[h2] at this;cases this
 | some i =>
   rw[hm] at h
   obtain ⟨h1,h2,h3⟩:=h
   refine ⟨jk.2 ⟨i,h1,h2,rfl,rfl⟩,fun a b hab=>?_⟩
   obtain ⟨j,j1,j2,rfl,rfl⟩:=jk.1 hab
   have:=h3 j j1 j2
   cases c:ft (z j) (j:Int) (z i) (i:Int) with
   | false=>rfl
   | true =>
     have:=(po _ _ _ _).1 c
     exfalso
     omega
theorem xe {l:Nat} {z:Nat→Int} {w:Nat→Bool} {c:Nat} (hc:c<l):mN (hW l z w) [z c,(c:Int)] true=hW l z (jA w c):=by
 rw[mO]
 funext k
 show (if k=[z c,(c:Int)] then true else hW l z w k)=hW l z (jA w c) k
 by_cases e:k=[z c,(c:Int)]
 · subst e
   rw[if_pos rfl]
   exact (jk.2 ⟨c,hc,by unfold jA;rw[if_pos rfl],rfl,rfl⟩).symm
 · rw [if_neg e]
   by_cases hk:∃ a b,k=[a,b]
   · obtain ⟨a,b,rfl⟩:=hk
     rw[Bool.eq_iff_iff,jk,jk]
     constructor
     · rintro ⟨i,h1,h2,rfl,rfl⟩
       exact ⟨i,h1,by unfold jA;split<;>first | rfl | exact h2,rfl,rfl⟩
     · rintro ⟨i,h1,h2,rfl,rfl⟩
       unfold jA at h2
       by_cases ei:i=c
       · subst ei;exact absurd rfl e
       · rw[if_neg ei] at h2
         exact ⟨i,h1,h2,rfl,rfl⟩
   · have f:∀ w,hW l z w k=false:=fun w=>by
      cases h:hW l z w k with
      | false=>rfl
      | true=>exact absurd (xf h) hk
     rw[f,f]
theorem Bi {l:Nat} {z:Nat→Int} {w:Nat→Bool} {c:Nat}:mN (hW l z w) [z c,(c:Int)] false=hW l z (nz w c):=by
 rw[mO]
 funext k
 show (if k=[z c,(c:Int)] then false else hW l z w k)=hW l z (nz w c) k
 by_cases hk:∃ a b,k=[a,b]
 · obtain ⟨a,b,rfl⟩:=hk
   by_cases e:[a,b]=[z c,(c:Int)]
   · rw[if_pos e]
     symm
     cases h:hW l z (nz w c) [a,b] with
     | false=>rfl
     | true =>
       obtain ⟨i,h1,h2,h3,h4⟩:=jk.1 h
       simp only[List.cons.injEq,and_true] at e
       have ei:i=c:=by omega
       unfold nz at h2
       rw[if_pos ei] at h2;cases h2
   · rw[if_neg e,Bool.eq_iff_iff,jk,jk]
     constructor
     · rintro ⟨i,h1,h2,rfl,rfl⟩
       refine ⟨i,h1,?_,rfl,rfl⟩
       have:i≠c:=fun ei=>by subst ei;exact e rfl
       unfold nz;rw[if_neg this];exact h2
     · rintro ⟨i,h1,h2,rfl,rfl⟩
       unfold nz at h2
       by_cases ei:i=c
       · rw[if_pos ei] at h2;cases h2
       · rw[if_neg ei] at h2
         exact ⟨i,h1,h2,rfl,rfl⟩
 · have f:∀ w,hW l z w k=false:=fun w=>by
    cases h:hW l z w k with
    | false=>rfl
    | true=>exact absurd (xf h) hk
   rw[f,f]
   split<;>rfl
theorem FY {l:Nat} {z:Nat→Int} {w:Nat→Bool} {c:Nat} (hc:c<l):hW l z w [z c,(c:Int)]=w c:=by
 cases h:w c with
 | true=>exact jk.2 ⟨c,hc,h,rfl,rfl⟩
 | false =>
   cases h2:hW l z w [z c,(c:Int)] with
   | false=>rfl
   | true =>
     obtain ⟨i,_,h3,h4,_⟩:=jk.1 h2
     have:i=c:=by omega
     rw[this,h] at h3;cases h3
theorem Bh {l:Nat} {z:Nat→Int} {w:Nat→Bool} {c:Nat} (hc:c<l):mP (gW l z w) [z c,(c:Int)] 1=gW l z (jA w c):=by
 rw[uf]
 funext k
 have h:=congrFun (xe (z:=z) (w:=w) hc) k
 rw[mO] at h
 have h:(if k=[z c,(c:Int)] then true else hW l z w k)=hW l z (jA w c) k:=h
 show (if k=[z c,(c:Int)] then 1 else gW l z w k)=gW l z (jA w c) k
 unfold gW
 rw[← h]
 by_cases e:k=[z c,(c:Int)]
 · rw[if_pos e,if_pos e,if_pos rfl]
 · rw[if_neg e,if_neg e]
theorem FW {l:Nat} {z:Nat→Int} {w:Nat→Bool} {c:Nat}:mP (gW l z w) [z c,(c:Int)] 0=gW l z (nz w c):=by
 rw[uf]
 funext k
 have h:=congrFun (Bi (l:=l) (z:=z) (w:=w) (c:=c)) k
 rw[mO] at h
 have h:(if k=[z c,(c:Int)] then false else hW l z w k)=hW l z (nz w c) k:=h
 show (if k=[z c,(c:Int)] then 0 else gW l z w k)=gW l z (nz w c) k
 unfold gW
 rw[← h]
 by_cases e:k=[z c,(c:Int)]
 · rw[if_pos e,if_pos e,if_neg (by decide)]
 · rw[if_neg e,if_neg e]
theorem AZ {l:Nat} {z:Nat→Int} {w:Nat→Bool} {c:Nat} (hc:c<l) (hw:w c=false):sF (hW l z w [z c,(c:Int)]) (cn w l)=cn (jA w c) l:=by
 rw[yu,FY hc,hw]
 show cn w l+1=_
 rw[gT (p:=w) (q:=jA w c) (i:=c) hw (by unfold jA;rw[if_pos rfl]) (fun j _ hj=>by unfold jA;rw[if_neg hj]) hc]
theorem Ff {l:Nat} {z:Nat→Int} {w:Nat→Bool} {c:Nat} (hc:c<l) (hw:w c=true):vD (hW l z w [z c,(c:Int)]) (cn w l)=cn (nz w c) l:=by
 rw[yv,FY hc,hw]
 show cn w l-1=_
 have:=gT (p:=nz w c) (q:=w) (i:=c) (n:=l) (by unfold nz;rw[if_pos rfl]) hw (fun j _ hj=>by unfold nz;rw[if_neg hj]) hc
 omega
end Go.Eng
end
section
namespace Go.Eng
open Go.Proofs
noncomputable def f74 (s l:Nat) (t:Nat→Int) (k:Nat) (d g:Nat→Int):AV:=.fn (.func 74) [dy s l t k d g] []
noncomputable def u9 (s l:Nat) (t:Nat→Int) (k:Nat) (d g:Nat→Int):aT:=⟨false,[(0,.row (.G [f74 s l t k d g]))]⟩
noncomputable def Pa (A:AV) (k:Nat) (T:Int) (y:Nat→Int) (args:List AV) (H:aa):Tr (AV×aa) :=
 match args with
 | [B,.fn (.func 88) [] [.ptr 0 1 0 0]]=>match H with
   | ⟨lk,b0::(0,.row (.I .i64 [T']))::bs⟩::r=>.reqP (B=A∧T'=T) (.ok (b6 k y false,H))
   | _=>.bad
 | _=>.bad
noncomputable def bW (s l:Nat) (t:Nat→Int) (k:Nat) (d g:Nat→Int) (T:Int) (z f:Nat→Int) (hs:List Int→Bool) (gs:List Int→Int) (c:Nat):aT:=⟨false,[(0,.row (.G [f74 s l t k d g])),yg T,(0,.row (.M [.arr .i64 z 30])),(0,.row (.M [.arr .i64 f 30])),(0,.fmap (.str 2) hs gs c)]⟩
noncomputable def pb (y s l:Nat) (t:Nat→Int) (k:Nat) (d g:Nat→Int) (h j:Int):aq:=[(0,.yld 1 y),(1,.ptrT (some 1) (.G [dy s l t k d g]) 0),(2,.ptrT none (.I .i64 [h]) 0),(6,.ptr 0 2 0 0),(7,.ptr 0 3 0 0),(8,.map 0 4),(39,.int .i64 (Int.ofNat l)),(40,.int .i64 j)]
noncomputable def fZ (y s l:Nat) (t:Nat→Int) (k:Nat) (d g:Nat→Int) (h:Int):aq:=[(0,.yld 1 y),(1,.ptrT (some 1) (.G [dy s l t k d g]) 0),(2,.ptrT none (.I .i64 [h]) 0),(6,.ptr 0 2 0 0),(7,.ptr 0 3 0 0),(8,.map 0 4),(10,.fn (.func 89) [] [])]
theorem Vm (n:Nat) (i e T:Int) (L:aT) (lk:Bool) (b0:Nat×ai) (bs:List (Nat×ai)) (H:aa):aX Try.prog (cd n) 100000 88 Try.f88 (KtL.kt 88) (il aE n 0) aG aH [(.int .i64 i,none),(.int .i64 e,none),(.ptr 1 1 0 0,none)] (L::⟨lk,b0::yg T::bs⟩::H) =
 Tr.ok ((AV.int .i64 (jV e T),none),L::{ lock:=lk,bs:=b0::(0,ai.row (Row.I .i64 [T]))::bs } :: H):=by kernel_rfl
theorem Vk (n s l k:Nat) (t d g:Nat→Int) (y:Nat→Int) (H:aa) (T:Int):aX Try.prog (cd n) 100000 86 Try.f86 (KtL.kt 86) (il (uG aE 74 [dy (s+2) l t k d g,.fn (.func 87) [] [.ptr 0 0 0 0]] (Hi T::av::u9 s l t k d g::H) (.ok (b6 k y false,Hi T::av::u9 s l t k d g::H))) n 0) aG aH [(.int .i64 T,none),(.ptr 1 0 0 0,none)] (av::u9 s l t k d g::H) =
 (fun (Z0:Row)=>((fun (Z1:aT)=>Tr.reqP ([AV.ptrT (some (Nat.succ (Nat.succ s))) Z0 0,AV.fn (Fn.func 87) [] [AV.ptr 0 0 0 0]]=[AV.ptrT (some (Nat.succ (Nat.succ s))) Z0 0,AV.fn (Fn.func 87) [] [AV.ptr 0 0 0 0]]∧{ lock:=false,bs:=[(0,ai.row (Row.I .i64 [T]))] } :: av::Z1::H={ lock:=false,bs:=[(0,ai.row (Row.I .i64 [T]))] } :: av::Z1::H) (Tr.ok ((AV.slcT none (Row.M [ah.arr .i64 y k]) 1 k false,none),av::Z1::H))) { lock:=false,bs:=[(0,ai.row (Row.G [AV.fn (Fn.func 74) [AV.ptrT (some s) Z0 0] []]))] })) (Row.M [ah.one (AV.slcT none (Row.M [ah.arr .i64 t l]) 1 l false),ah.one (AV.slcT none (Row.M [ah.arr .i64 d k]) 1 k false),ah.arr .i64 g 30]):=by kernel_rfl
theorem NX (n y s l k:Nat) (t d g z f:Nat→Int) (hs:List Int→Bool) (gs:List Int→Int) (c:Nat) (h T j:Int) (G:aa):aJ (bn n 85 118) (il aE n 0) aG aH (part Try.f85 [1,1,1,1,1,0,1,0,0]) (hints (pb y s l t k d g h j)) (bW (s+1) l t k d g T z f hs gs c::G) =
 (fun (Z0:Row)=>((fun (Z1:aN)=>((fun (Z2:aT)=>Tr.ite (bK j (Int.ofNat l)) (Tr.req (cE j 30) (Tr.req (b9 0 0) (Tr.req (cr (au 0 j 1) 30) (Tr.ite (b7 (f (au 0 j 1)) (Int.ofNat 0)) (Tr.req (cE j 30) (Tr.req (b9 0 0) (Tr.req (cr (au 0 j 1) 30) (Tr.ok (Ex.normal,Z1,{ lock:=false,bs:=[(0,ai.row (Row.G [AV.fn (Fn.func 74) [AV.ptrT (some (Nat.succ s)) Z0 0] []])),(0,ai.row (Row.I .i64 [T])),(0,ai.row (Row.M [ah.arr .i64 z 30])),(0,ai.row (Row.M [ah.arr .i64 f 30])),(0,ai.fmap (KK.str 2) (mN hs [z (au 0 j 1),j] true) (mP gs [z (au 0 j 1),j] (Int.ofNat 1)) (sF (hs [z (au 0 j 1),j]) c))] } :: G))))) (Tr.ok (Ex.normal,Z1,Z2::G)))))) (Tr.ok (Ex.exit 0,[(0,AV.yld 1 y,none),(1,AV.ptrT (some 1) (Row.G [AV.ptrT (some s) Z0 0]) 0,none),(2,AV.ptrT none (Row.I .i64 [h]) 0,none),(6,AV.ptr 0 2 0 0,none),(7,AV.ptr 0 3 0 0,none),(8,AV.map 0 4,none),(39,AV.int .i64 (Int.ofNat l),none),(40,AV.int .i64 j,none),(41,AV.bool false,some 1)],Z2::G))) { lock:=false,bs:=[(0,ai.row (Row.G [AV.fn (Fn.func 74) [AV.ptrT (some (Nat.succ s)) Z0 0] []])),(0,ai.row (Row.I .i64 [T])),(0,ai.row (Row.M [ah.arr .i64 z 30])),(0,ai.row (Row.M [ah.arr .i64 f 30])),(0,ai.fmap (KK.str 2) hs gs c)] })) [(0,AV.yld 1 y,none),(1,AV.ptrT (some 1) (Row.G [AV.ptrT (some s) Z0 0]) 0,none),(2,AV.ptrT none (Row.I .i64 [h]) 0,none),(6,AV.ptr 0 2 0 0,none),(7,AV.ptr 0 3 0 0,none),(8,AV.map 0 4,none),(39,AV.int .i64 (Int.ofNat l),none),(40,AV.int .i64 (bA .i64 j (Int.ofNat 1)),none)])) (Row.M [ah.one (AV.slcT none (Row.M [ah.arr .i64 t l]) 1 l false),ah.one (AV.slcT none (Row.M [ah.arr .i64 d k]) 1 k false),ah.arr .i64 g 30]):=by kernel_rfl
theorem QW (n y s l k:Nat) (t d g z f:Nat→Int) (hs:List Int→Bool) (gs:List Int→Int) (c:Nat) (h T:Int) (G:aa):aJ (bn n 85 118) (il aE n 0) (bS aG 4 [] [] .bad) aH (part Try.f85 [1,1,1,1,1,1,1,0,0]) (hints (fZ y s l t k d g h)) (bW (s+1) l t k d g T z f hs gs c::G) =
 (fun (Z0:Row)=>((fun (Z1:aT)=>Tr.ite (bK (Int.ofNat 0) (Int.ofNat c)) (Tr.reqP ([(0,AV.yld 1 y),(1,AV.ptrT (some 1) (Row.G [AV.ptrT (some s) Z0 0]) 0),(2,AV.ptrT none (Row.I .i64 [h]) 0),(6,AV.ptr 0 2 0 0),(7,AV.ptr 0 3 0 0),(8,AV.map 0 4),(10,AV.fn (Fn.func 89) [] []),(11,AV.nils)]=[]∧Z1::G=[]) Tr.bad) (Tr.ok (Ex.exit 2,[(0,AV.yld 1 y,none),(1,AV.ptrT (some 1) (Row.G [AV.ptrT (some s) Z0 0]) 0,none),(2,AV.ptrT none (Row.I .i64 [h]) 0,none),(6,AV.ptr 0 2 0 0,none),(7,AV.ptr 0 3 0 0,none),(8,AV.map 0 4,none),(10,AV.fn (Fn.func 89) [] [],none),(56,AV.bool false,some 1)],Z1::G))) { lock:=false,bs:=[(0,ai.row (Row.G [AV.fn (Fn.func 74) [AV.ptrT (some (Nat.succ s)) Z0 0] []])),(0,ai.row (Row.I .i64 [T])),(0,ai.row (Row.M [ah.arr .i64 z 30])),(0,ai.row (Row.M [ah.arr .i64 f 30])),(0,ai.fmap (KK.str 2) hs gs c)] })) (Row.M [ah.one (AV.slcT none (Row.M [ah.arr .i64 t l]) 1 l false),ah.one (AV.slcT none (Row.M [ah.arr .i64 d k]) 1 k false),ah.arr .i64 g 30]):=by kernel_rfl
end Go.Eng
end
section
namespace Go.Eng
open Go.Proofs
theorem SJ (n:Nat) (i e T:Int) (L:aT) (lk:Bool) (b0:Nat×ai) (bs:List (Nat×ai)) (H:aa):cd (n+1) (.fn 88) [.int .i64 i,.int .i64 e,.ptr 1 1 0 0] (L::⟨lk,b0::yg T::bs⟩::H)=some (.int .i64 (min e T),L::⟨lk,b0::yg T::bs⟩::H):=by
 refine aD (n:=n) Try.func88 rfl rfl rfl (Vm n i e T L lk b0 bs H) (ao _) (af _ _) (ag _ _) ?_
 rw[jq]
 exact wF
section
variable (n s l k:Nat) (t d g:Nat→Int) (H:aa)
theorem SH (T:Int) (h0:0<k) (hk:k≤1000):cd (n+3) (.fn 86) [.int .i64 T,.ptr 1 0 0 0] (av::u9 s l t k d g::H)=some (b6 k (ay (dM (fun i=>min (d i) T) k)) false,av::u9 s l t k d g::H):=by
 refine aD (n:=n+2) Try.func86 rfl rfl rfl (Vk (n+2) s l k t d g (ay (dM (fun i=>min (d i) T) k)) H T) (aO _ (n+2) (dQ (aF _) (fun x hy=>by
  rw[← Tr.ab hy]
  exact OW (n+1) (s+2) l k t d g (fun i e=>min e T) _ h0 hk (fun i e L=>SI n _ i e T L)))) (af _ _) (ag _ _) ?_
 generalize ay (dM (fun i=>min (d i) T) k)=Y at *
 exact wF
theorem Kv {c:nw} {T:Int} (hc:c.Ok (cd (n+2))) (h0:0<k) (hk:k≤1000):(gu c 74 (Pa (dy s l t k d g) k T (ay (dM (fun i=>min (d i) T) k)))).Ok (cd (n+2)):=by
 refine im hc (fun args H x hx=>?_)
 unfold Pa at hx
 split at hx
 · split at hx
   · obtain ⟨⟨rfl,rfl⟩,h2⟩:=Tr.c8 hx
     rw[← Tr.ab h2]
     exact OX (n+1) s l k 1 t d g (fun i e=>min e _) _ h0 hk (fun i e L=>SJ n i e _ L _ _ _ _)
   · exact (Tr.ae hx).elim
 · exact (Tr.ae hx).elim
end
def w0 (f:Nat→Int) (j:Nat):Nat→Bool:=fun i=>decide (i<j) && decide (f i=0)
theorem Om (f:Nat→Int) (j:Nat):w0 f j j=false:=by unfold w0;simp
theorem LA {f:Nat→Int} {j:Nat} (h:f j=0):w0 f (j+1)=jA (w0 f j) j:=by
 funext i
 unfold w0 jA
 by_cases e:i=j
 · subst e;rw[if_pos rfl];simp[h]
 · rw[if_neg e,decide_eq_decide.2 (show i<j+1↔i<j by omega)]
theorem I7 {f:Nat→Int} {j:Nat} (h:¬ f j=0):w0 f (j+1)=w0 f j:=by
 funext i
 unfold w0
 by_cases e:i=j
 · subst e;simp[h]
 · rw[decide_eq_decide.2 (show i<j+1↔i<j by omega)]
theorem Cj {l:Nat} {z:Nat→Int} {w:Nat→Bool} (hw:∀ i,i<l→w i=false):hW l z w=fun _=>false:=by
 funext k
 cases hk:hW l z w k with
 | false=>rfl
 | true =>
   obtain ⟨a,b,rfl⟩:=xf hk
   obtain ⟨i,h1,h2,_⟩:=jk.1 hk
   rw[hw i h1] at h2;cases h2
theorem HU {l:Nat} {z:Nat→Int} {w:Nat→Bool} (hw:∀ i,i<l→w i=false):gW l z w=fun _=>0:=by
 funext k
 unfold gW
 rw[Cj hw];rfl
section
variable (n y s l k:Nat) (t d g z f:Nat→Int) (h T:Int) (G:aa)
theorem P5 (hl:l≤30):exec (bn n 85 118) (.block 0 (.loop (part Try.f85 [1,1,1,1,1,0,1,0,0]))) (pb y s l t k d g h 0) (bW (s+1) l t k d g T z f (fun _=>false) (fun _=>0) 0::G)=some (.normal,pb y s l t k d g h (Int.ofNat l)++[(41,.bool false)],bW (s+1) l t k d g T z f (hW l z (w0 f l)) (gW l z (w0 f l)) (cn (w0 f l) l)::G):=by
 have hw:∀ i,i<l→w0 f 0 i=false:=fun i _=>by unfold w0;simp
 suffices hx:exec (bn n 85 118) (.block 0 (.loop (part Try.f85 [1,1,1,1,1,0,1,0,0]))) (pb y s l t k d g h 0) (bW (s+1) l t k d g T z f (hW l z (w0 f 0)) (gW l z (w0 f 0)) (cn (w0 f 0) l)::G)=some (.normal,pb y s l t k d g h (Int.ofNat l)++[(41,.bool false)],bW (s+1) l t k d g T z f (hW l z (w0 f l)) (gW l z (w0 f l)) (cn (w0 f l) l)::G) from by
  rw[Cj (z:=z) hw,HU (z:=z) hw,mW hw] at hx
  exact hx
 refine jf (n:=n) (f:=85) (nt:=118) (c:=part Try.f85 [1,1,1,1,1,0,1,0,0]) 0 (fun j=>pb y s l t k d g h (j:Nat)) (fun j=>bW (s+1) l t k d g T z f (hW l z (w0 f j)) (gW l z (w0 f j)) (cn (w0 f j) l)::G) l _ (by omega) (fun j hj=>?_) ?_
 · refine aB (NX n y s l k t d g z f (hW l z (w0 f j)) (gW l z (w0 f j)) (cn (w0 f j) l) h T (j:Nat) G) (ao _) (af _ _) (ag _ _) ?_
   show Tr.all _ (fun x=>_∧tidy _ _ _=(pb y s l t k d g h ((j+1:Nat):Int),bW (s+1) l t k d g T z f (hW l z (w0 f (j+1))) (gW l z (w0 f (j+1))) (cn (w0 f (j+1)) l)::G))
   rw[c7 (j:=j) (by omega)]
   simp only[iS]
   by_cases e:f j=0
   · rw[LA e,← xe hj,← Bh hj,← AZ (z:=z) hj (Om f j)]
     generalize hW l z (w0 f j)=A at *
     generalize gW l z (w0 f j)=B at *
     generalize cn (w0 f j) l=C at *
     exact wF
   · rw[I7 e]
     generalize hW l z (w0 f j)=A at *
     generalize gW l z (w0 f j)=B at *
     generalize cn (w0 f j) l=C at *
     exact wF
 · exact cO (NX n y s l k t d g z f (hW l z (w0 f l)) (gW l z (w0 f l)) (cn (w0 f l) l) h T (Int.ofNat l) G) (ao _) (af _ _) (ag _ _) (by first | (simp (disch:=omega) only[nV,nW];done) | (simp (disch:=omega) only[nV,nW];omega))
end
end Go.Eng
end
section
namespace Go.Eng
open Go.Proofs
noncomputable def eN (s l:Nat) (t:Nat→Int) (k:Nat) (d g:Nat→Int) (T:Int) (z f:Nat→Int) (hs:List Int→Bool) (gs:List Int→Int) (c:Nat) (b:Nat×ai):aT:=⟨false,[(0,.row (.G [f74 s l t k d g])),yg T,(0,.row (.M [.arr .i64 z 30])),(0,.row (.M [.arr .i64 f 30])),(0,.fmap (.str 2) hs gs c),b]⟩
noncomputable def gH (s l:Nat) (t:Nat→Int) (k:Nat) (d g:Nat→Int) (T:Int) (z f:Nat→Int) (hs:List Int→Bool) (gs:List Int→Int) (c:Nat) (b b2:Nat×ai):aT:=⟨false,[(0,.row (.G [f74 s l t k d g])),yg T,(0,.row (.M [.arr .i64 z 30])),(0,.row (.M [.arr .i64 f 30])),(0,.fmap (.str 2) hs gs c),b,b2]⟩
noncomputable def eL (y s l:Nat) (t:Nat→Int) (k:Nat) (d g:Nat→Int) (h:Int) (o:AV):aq:=[(0,.yld 1 y),(1,.ptrT (some 1) (.G [dy s l t k d g]) 0),(2,.ptrT none (.I .i64 [h]) 0),(6,.ptr 0 2 0 0),(7,.ptr 0 3 0 0),(8,.map 0 4),(10,.fn (.func 89) [] []),(11,o)]
noncomputable def LG (P:(List Int→Bool)→(List Int→Int)→Nat→Prop) (a b:Int) (x:Bool) (args:List AV) (H:aa):Tr (AV×aa) :=
 match args with
 | [.map 0 4,.fn (.func 89) [] []]=>match H with
   | ⟨lk,b0::b1::b2::b3::(0,.fmap (.str 2) hs gs c)::bs⟩::r=>.reqP (P hs gs c) (.ok (.tup [.agg (.I .i64 [a,b]),.bool x],H))
   | _=>.bad
 | _=>.bad
theorem NY (n y s l k:Nat) (t d g z f:Nat→Int) (hs:List Int→Bool) (gs:List Int→Int) (c:Nat) (h T:Int) (P:(List Int→Bool)→(List Int→Int)→Nat→Prop) (a b:Int) (x:Bool) (G:aa):aJ (bn n 85 118) (il (gu aE 90 (LG P a b x)) n 0) aG aH (part Try.f85 [1,1,1,1,1,1,1,0,0,1,0,1,0,0,0]) (hints (eL y s l t k d g h .nils)) (bW (s+1) l t k d g T z f hs gs c::G) =
 (fun (Z0:Row)=>((fun (Z1:Nat×ai)=>((fun (Z2:Nat×AV×Option Nat)=>Tr.ite (bK (Int.ofNat 0) h) (Tr.reqP (P hs gs c) (Tr.ite (aP x) (Tr.ok (Ex.exit 4,[(0,AV.yld 1 y,none),Z2,(2,AV.ptrT none (Row.I .i64 [h]) 0,none),(6,AV.ptr 0 2 0 0,none),(7,AV.ptr 0 3 0 0,none),(8,AV.map 0 4,none),(10,AV.fn (Fn.func 89) [] [],none),(11,AV.nils,none),(12,AV.ptr 0 5 0 0,none),(68,AV.bool true,some 1)],{ lock:=false,bs:=[Z1,(0,ai.row (Row.I .i64 [T])),(0,ai.row (Row.M [ah.arr .i64 z 30])),(0,ai.row (Row.M [ah.arr .i64 f 30])),(0,ai.fmap (KK.str 2) hs gs c),(0,ai.row (Row.I .i64 [a,b]))] } :: G)) (Tr.req (eO 0 1 8) (Tr.req (b9 0 0) (Tr.req (gM 1 1) (Tr.ok (Ex.normal,[(0,AV.yld 1 y,none),Z2,(2,AV.ptrT none (Row.I .i64 [h]) 0,none),(6,AV.ptr 0 2 0 0,none),(7,AV.ptr 0 3 0 0,none),(8,AV.map 0 4,none),(10,AV.fn (Fn.func 89) [] [],none),(11,AV.slc 0 7 0 0 1 1 none,none)],{ lock:=false,bs:=[Z1,(0,ai.row (Row.I .i64 [T])),(0,ai.row (Row.M [ah.arr .i64 z 30])),(0,ai.row (Row.M [ah.arr .i64 f 30])),(0,ai.fmap (KK.str 2) (mN hs [a,b] false) (mP gs [a,b] (Int.ofNat 0)) (vD (hs [a,b]) c)),(0,ai.row (Row.I .i64 [a,b])),(0,ai.row (Row.I .i64 [b])),(0,ai.row (Row.M [ah.arr .i64 (ay [b]) 1]))] } :: G))))))) (Tr.ok (Ex.exit 4,[(0,AV.yld 1 y,none),Z2,(2,AV.ptrT none (Row.I .i64 [h]) 0,none),(6,AV.ptr 0 2 0 0,none),(7,AV.ptr 0 3 0 0,none),(8,AV.map 0 4,none),(10,AV.fn (Fn.func 89) [] [],none),(11,AV.nils,none),(60,AV.bool false,some 1)],{ lock:=false,bs:=[Z1,(0,ai.row (Row.I .i64 [T])),(0,ai.row (Row.M [ah.arr .i64 z 30])),(0,ai.row (Row.M [ah.arr .i64 f 30])),(0,ai.fmap (KK.str 2) hs gs c)] } :: G))) (1,AV.ptrT (some 1) (Row.G [AV.ptrT (some s) Z0 0]) 0,none))) (0,ai.row (Row.G [AV.fn (Fn.func 74) [AV.ptrT (some (Nat.succ s)) Z0 0] []])))) (Row.M [ah.one (AV.slcT none (Row.M [ah.arr .i64 t l]) 1 l false),ah.one (AV.slcT none (Row.M [ah.arr .i64 d k]) 1 k false),ah.arr .i64 g 30]):=by kernel_rfl
theorem GW (n y s l k:Nat) (t d g z f:Nat→Int) (hs:List Int→Bool) (gs:List Int→Int) (c:Nat) (h T:Int) (P:(List Int→Bool)→(List Int→Int)→Nat→Prop) (a b:Int) (x:Bool) (v m:Nat) (o:Nat→Int) (G:aa):aJ (bn n 85 118) (il (gu aE 90 (LG P a b x)) n 0) aG aH (part Try.f85 [1,1,1,1,1,1,1,0,0,1,0,1,0,0,0]) (hints (eL y s l t k d g h (.slc 0 5 v 0 1 m none))) (eN (s+1) l t k d g T z f hs gs c (v,.row (.M [.arr .i64 o m]))::G) =
 (fun (Z0:Row)=>((fun (Z1:Nat×ai)=>((fun (Z2:Nat×AV×Option Nat)=>Tr.ite (bK (Int.ofNat m) h) (Tr.reqP (P hs gs c) (Tr.ite (aP x) (Tr.ok (Ex.exit 4,[(0,AV.yld 1 y,none),Z2,(2,AV.ptrT none (Row.I .i64 [h]) 0,none),(6,AV.ptr 0 2 0 0,none),(7,AV.ptr 0 3 0 0,none),(8,AV.map 0 4,none),(10,AV.fn (Fn.func 89) [] [],none),(11,AV.slc 0 5 v 0 1 m none,none),(12,AV.ptr 0 6 0 0,none),(68,AV.bool true,some 1)],{ lock:=false,bs:=[Z1,(0,ai.row (Row.I .i64 [T])),(0,ai.row (Row.M [ah.arr .i64 z 30])),(0,ai.row (Row.M [ah.arr .i64 f 30])),(0,ai.fmap (KK.str 2) hs gs c),(v,ai.row (Row.M [ah.arr .i64 o m])),(0,ai.row (Row.I .i64 [a,b]))] } :: G)) (Tr.req (eO m 1 8) (Tr.req (b9 0 0) (Tr.req (gM 1 1) (Tr.req (b9 v v) (Tr.req (b9 (bO 0 m) m) (Tr.ok (Ex.normal,[(0,AV.yld 1 y,none),Z2,(2,AV.ptrT none (Row.I .i64 [h]) 0,none),(6,AV.ptr 0 2 0 0,none),(7,AV.ptr 0 3 0 0,none),(8,AV.map 0 4,none),(10,AV.fn (Fn.func 89) [] [],none),(11,AV.slc 0 5 (Nat.succ v) 0 1 (bO m 1) none,none)],{ lock:=false,bs:=[Z1,(0,ai.row (Row.I .i64 [T])),(0,ai.row (Row.M [ah.arr .i64 z 30])),(0,ai.row (Row.M [ah.arr .i64 f 30])),(0,ai.fmap (KK.str 2) (mN hs [a,b] false) (mP gs [a,b] (Int.ofNat 0)) (vD (hs [a,b]) c)),(Nat.succ v,ai.row (Row.M [ah.arr .i64 (kO (dD o 0) m (ay [b])) (bO m 1)])),(0,ai.row (Row.I .i64 [a,b])),(0,ai.row (Row.I .i64 [b]))] } :: G))))))))) (Tr.ok (Ex.exit 4,[(0,AV.yld 1 y,none),Z2,(2,AV.ptrT none (Row.I .i64 [h]) 0,none),(6,AV.ptr 0 2 0 0,none),(7,AV.ptr 0 3 0 0,none),(8,AV.map 0 4,none),(10,AV.fn (Fn.func 89) [] [],none),(11,AV.slc 0 5 v 0 1 m none,none),(60,AV.bool false,some 1)],{ lock:=false,bs:=[Z1,(0,ai.row (Row.I .i64 [T])),(0,ai.row (Row.M [ah.arr .i64 z 30])),(0,ai.row (Row.M [ah.arr .i64 f 30])),(0,ai.fmap (KK.str 2) hs gs c),(v,ai.row (Row.M [ah.arr .i64 o m]))] } :: G))) (1,AV.ptrT (some 1) (Row.G [AV.ptrT (some s) Z0 0]) 0,none))) (0,ai.row (Row.G [AV.fn (Fn.func 74) [AV.ptrT (some (Nat.succ s)) Z0 0] []])))) (Row.M [ah.one (AV.slcT none (Row.M [ah.arr .i64 t l]) 1 l false),ah.one (AV.slcT none (Row.M [ah.arr .i64 d k]) 1 k false),ah.arr .i64 g 30]):=by kernel_rfl
def bx (l:Nat) (z:Nat→Int) (w:Nat→Bool):Nat→List Nat×(Nat→Bool)
 | 0=>([],w)
 | m+1=>match kK z (bx l z w m).2 l with
   | none=>bx l z w m
   | some i=>((bx l z w m).1++[i],nz (bx l z w m).2 i)
def fp (l:Nat) (z:Nat→Int) (w:Nat→Bool) (m:Nat):List Int:=(bx l z w m).1.map fun (i:Nat)=>(i:Int)
section
variable {l:Nat} {z:Nat→Int} {w:Nat→Bool}
theorem fG {m i:Nat} (h:kK z (bx l z w m).2 l=some i):bx l z w (m+1)=((bx l z w m).1++[i],nz (bx l z w m).2 i):=by
 show (match kK z (bx l z w m).2 l with | none=>_ | some i=>_)=_
 rw[h]
theorem pD {m:Nat} (h:kK z (bx l z w m).2 l=none):bx l z w (m+1)=bx l z w m:=by
 show (match kK z (bx l z w m).2 l with | none=>_ | some i=>_)=_
 rw[h]
theorem mJ:∀ H,∃ r,r≤H∧(∀ j,j<r→∃ i,kK z (bx l z w j).2 l=some i)∧bx l z w H=bx l z w r∧(r=H∨kK z (bx l z w r).2 l=none)
 | 0=>⟨0,Nat.le_refl _,fun j hj=>by omega,rfl,.inl rfl⟩
 | H + 1=>by
   obtain ⟨r,h1,h2,h3,h4⟩:=mJ H
   cases hm:kK z (bx l z w H).2 l with
   | none =>
     refine ⟨r,by omega,h2,by rw[pD hm,h3],.inr ?_⟩
     rw[← h3];exact hm
   | some i =>
     rcases h4 with rfl | h4
     · refine ⟨r+1,by omega,fun j hj=>?_,rfl,.inl rfl⟩
       by_cases e:j=r
       · subst e;exact ⟨i,hm⟩
       · exact h2 j (by omega)
     · rw[← h3,hm] at h4;cases h4
theorem tP:∀ m,(∀ j,j<m→∃ i,kK z (bx l z w j).2 l=some i)→(fp l z w m).length=m
 | 0,_=>rfl
 | m+1,h=>by
   obtain ⟨i,hi⟩:=h m (by omega)
   have ih:=tP m (fun j hj=>h j (by omega))
   unfold fp at ih ⊢
   rw[List.length_map] at ih
   rw[fG hi,List.length_map,List.length_append,ih]
   rfl
theorem zX {m i:Nat} (h:kK z (bx l z w m).2 l=some i):fp l z w (m+1)=fp l z w m++[(i:Int)]:=by
 unfold fp
 rw[fG h,List.map_append]
 rfl
theorem m8 {w:Nat→Bool} {i:Nat} (h:kK z w l=some i):i<l∧w i=true:=by
 have:=ky z w l
 rw[h] at this
 exact ⟨this.1,this.2.1⟩
end
def Hh (l:Nat) (z:Nat→Int) (w:Nat→Bool):(List Int→Bool)→(List Int→Int)→Nat→Prop:=fun hs gs c=>hs=hW l z w∧gs=gW l z w∧c=cn w l
theorem Bg {n:Nat} {l:Nat} {z:Nat→Int} {w:Nat→Bool} {a b:Int} {x:Bool} (h:Qx ((kK z w l).map fun i=>(z i,(i:Int)))=.tup [.agg (.I .i64 [a,b]),.bool x]):(gu aE 90 (LG (Hh l z w) a b x)).Ok (cd (n+2)):=by
 refine im (aF _) (fun args H x hx=>?_)
 unfold LG at hx
 split at hx
 · split at hx
   · obtain ⟨⟨rfl,rfl,rfl⟩,h2⟩:=Tr.c8 hx
     rw[← Tr.ab h2,← h]
     obtain ⟨es,hE⟩:=SS l z w
     exact SL n 4 _ rfl hE (KN l z w)
   · exact (Tr.ae hx).elim
 · exact (Tr.ae hx).elim
noncomputable def Ov:Nat→AV
 | 0=>.nils
 | q+1=>.slc 0 5 q 0 1 (q+1) none
noncomputable def tu (s l:Nat) (t:Nat→Int) (k:Nat) (d g:Nat→Int) (T:Int) (z f:Nat→Int) (w:Nat→Bool):Nat→aT
 | 0=>bW s l t k d g T z f (hW l z w) (gW l z w) (cn w l)
 | q+1=>eN s l t k d g T z f (hW l z (bx l z w (q+1)).2) (gW l z (bx l z w (q+1)).2) (cn (bx l z w (q+1)).2 l) (q,.row (.M [.arr .i64 (ay (fp l z w (q+1))) (q+1)]))
section
variable (n y s l k:Nat) (t d g z f:Nat→Int) (h T:Int) (w:Nat→Bool) (G:aa)
theorem Qr (i:Nat) (hi:kK z w l=some i) (hh:0<h):∃ x,exec (bn (n+2) 85 118) (part Try.f85 [1,1,1,1,1,1,1,0,0,1,0,1,0,0,0]) (eL y s l t k d g h .nils) (bW (s+1) l t k d g T z f (hW l z w) (gW l z w) (cn w l)::G)=some x∧(x.1=.normal∧tidy (al (bW (s+1) l t k d g T z f (hW l z w) (gW l z w) (cn w l)::G)) x.2.1 x.2.2=(eL y s l t k d g h (.slc 0 5 0 0 1 1 none),eN (s+1) l t k d g T z f (hW l z (nz w i)) (gW l z (nz w i)) (cn (nz w i) l) (0,.row (.M [.arr .i64 (ay [(i:Int)]) 1]))::G)):=by
 obtain ⟨hl,hw⟩:=m8 hi
 refine aB (NY (n+2) y s l k t d g z f (hW l z w) (gW l z w) (cn w l) h T (Hh l z w) (z i) (i:Int) true G) (aO _ (n+2) (Bg (by rw[hi];rfl))) (af _ _) (ag _ _) ?_
 rw[← Bi,← FW,← Ff (z:=z) hl hw]
 have hp:Hh l z w (hW l z w) (gW l z w) (cn w l):=⟨rfl,rfl,rfl⟩
 generalize Hh l z w=P at *
 generalize hW l z w=A at *
 generalize gW l z w=B at *
 generalize cn w l=C at *
 repeat' first | (refine Tr.bm (fun hc=>?_) (fun hc=>?_)<;>(try simp (disch:=omega) only[nV,nW,hp] at hc)<;>try omega) | (refine Tr.cA ?_ ?_;· (try simp (disch:=omega) only[nV,nW,hp]);try omega) | (refine Tr.ba ?_ ?_;· first | exact trivial | rfl | exact ⟨rfl,rfl⟩ | exact ⟨rfl,rfl,rfl⟩ | (simp (disch:=omega) only[nV,nW,hp];done) | ((try simp (disch:=omega) only[nV,nW,hp]);omega)) | fail
 all_goals first
  | exact Tr.bf ⟨rfl,rfl⟩
  | fail
theorem Qs (i q:Nat) (o:List Int) (ho:o.length=q+1) (hi:kK z w l=some i) (hh:(q+1:Nat)<h) (hq:q<1000):∃ x,exec (bn (n+2) 85 118) (part Try.f85 [1,1,1,1,1,1,1,0,0,1,0,1,0,0,0]) (eL y s l t k d g h (.slc 0 5 q 0 1 (q+1) none)) (eN (s+1) l t k d g T z f (hW l z w) (gW l z w) (cn w l) (q,.row (.M [.arr .i64 (ay o) (q+1)]))::G)=some x∧(x.1=.normal∧tidy (al (bW (s+1) l t k d g T z f (hW l z w) (gW l z w) (cn w l)::G)) x.2.1 x.2.2=(eL y s l t k d g h (.slc 0 5 (q+1) 0 1 (q+1+1) none),eN (s+1) l t k d g T z f (hW l z (nz w i)) (gW l z (nz w i)) (cn (nz w i) l) (q+1,.row (.M [.arr .i64 (ay (o++[(i:Int)])) (q+1+1)]))::G)):=by
 obtain ⟨hl,hw⟩:=m8 hi
 refine aB (GW (n+2) y s l k t d g z f (hW l z w) (gW l z w) (cn w l) h T (Hh l z w) (z i) (i:Int) true q (q+1) (ay o) G) (aO _ (n+2) (Bg (by rw[hi];rfl))) (af _ _) (ag _ _) ?_
 have hap:=CD o (i:Int)
 rw[ho] at hap
 have ea:bO (q+1) 1=q+1+1:=bH _ _
 rw[← Bi,← FW,← Ff (z:=z) hl hw]
 simp only[hap,ea]
 have hp:Hh l z w (hW l z w) (gW l z w) (cn w l):=⟨rfl,rfl,rfl⟩
 generalize Hh l z w=P at *
 generalize hW l z w=A at *
 generalize gW l z w=B at *
 generalize cn w l=C at *
 generalize ay (o++[(i:Int)])=Y2 at *
 generalize ay o=Y at *
 repeat' first | (refine Tr.bm (fun hc=>?_) (fun hc=>?_)<;>(try simp (disch:=omega) only[nV,nW,hp] at hc)<;>try omega) | (refine Tr.cA ?_ ?_;· (try simp (disch:=omega) only[nV,nW,hp]);try omega) | (refine Tr.ba ?_ ?_;· first | exact trivial | rfl | exact ⟨rfl,rfl⟩ | exact ⟨rfl,rfl,rfl⟩ | (simp (disch:=omega) only[nV,nW,hp];done) | ((try simp (disch:=omega) only[nV,nW,hp]);omega)) | fail
 all_goals first
  | exact Tr.bf ⟨rfl,rfl⟩
  | fail
end
end Go.Eng
end
