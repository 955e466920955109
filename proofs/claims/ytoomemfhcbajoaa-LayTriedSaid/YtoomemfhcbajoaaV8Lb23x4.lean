/- Lay: pick. -/
import Derived.Test.YtoomemfhcbajoaaV8Lb14x11
import Derived.Test.YtoomemfhcbajoaaV8EngRnFx5
set_option linter.unusedVariables false
set_option linter.unusedSimpArgs false
set_option maxRecDepth 100000
section
namespace Go.Eng
open Go.Proofs
noncomputable def rI (x y:Int):Nat×ak:=(0,.row (.I .i64 [x,y]))
noncomputable def f89:AV:=.fn (.func 89) [] []
noncomputable def HN (i:Nat) (x:Bool):aq:=[(0,.map 1 i),(1,f89),(4,.ptr 0 0 0 0),(6,.ptr 0 1 0 0),(7,.bool x)]
noncomputable def KI (i:Nat):aq:=[(0,.map 1 i),(1,f89),(4,.ptr 0 0 0 0),(6,.ptr 0 1 0 0),(7,.bool false),(9,.map 1 i),(10,.ptr 0 2 0 0)]
noncomputable def KJ:aq:=[(1,f89),(4,.ptr 0 0 0 0),(6,.ptr 0 1 0 0),(7,.bool true),(10,.ptr 0 2 0 0)]
noncomputable def ME (L:Int→Int→Int→Int→Bool):List AV→Option (Prop×AV)
 | [.agg (.I .i64 [a,b]),.agg (.I .i64 [x,y])]=>some (True,.bool (L a b x y))
 | _=>none
theorem NP (n i:Nat) (H:aa):aN (bA n 90 26) (il aQ n 0) aT aU (Rf.cA [0] Rf.ey) (hints [(0,.map 1 i),(1,f89)]) (aG::H) =
 Tr.ok (Ex.normal,[(0,AV.map 1 i,none),(1,AV.fn (Fn.func 89) [] [],none),(4,AV.ptr 0 0 0 0,none)],{ lock:=false,bs:=[(0,ak.row (Row.I .i64 [Int.ofNat 0,Int.ofNat 0]))] } :: H):=by kernel_rfl
theorem RS (n:Nat) (a b x y:Int) (H:aa):bz Try.prog (cd n) 100000 89 Try.f89 (KtL.kt 89) (il aQ n 0) aT aU [(.agg (.I .i64 [a,b]),none),(.agg (.I .i64 [x,y]),none)] H =
 Tr.ite (bx (dX a x)) (Tr.ok ((AV.bool (cF a x),none),H)) (Tr.ok ((AV.bool (cF b y),none),H)):=by kernel_rfl
theorem NQ (n i:Nat) (H:aa):aN (bA n 90 26) (il aQ n 0) aT aU (Rf.cA [1,0] Rf.ey) (hints [(0,.map 1 i),(1,f89),(4,.ptr 0 0 0 0)]) (⟨false,[rI 0 0]⟩::H) =
 Tr.ok (Ex.normal,[(0,AV.map 1 i,none),(1,AV.fn (Fn.func 89) [] [],none),(4,AV.ptr 0 0 0 0,none),(6,AV.ptr 0 1 0 0,none)],{ lock:=false,bs:=[(0,ak.row (Row.I .i64 [Int.ofNat 0,Int.ofNat 0])),(0,ak.row (Row.I .i64 [Int.ofNat 0,Int.ofNat 0]))] } :: H):=by kernel_rfl
theorem NR (n i:Nat) (H:aa):aN (bA n 90 26) (il aQ n 0) aT aU (Rf.cA [1,1,0] Rf.ey) (hints [(0,.map 1 i),(1,f89),(4,.ptr 0 0 0 0),(6,.ptr 0 1 0 0)]) (⟨false,[rI 0 0,rI 0 0]⟩::H) =
 Tr.ok (Ex.normal,[(0,AV.map 1 i,none),(1,AV.fn (Fn.func 89) [] [],none),(4,AV.ptr 0 0 0 0,none),(6,AV.ptr 0 1 0 0,none),(7,AV.bool false,some 1)],{ lock:=false,bs:=[(0,ak.row (Row.I .i64 [Int.ofNat 0,Int.ofNat 0])),(0,ak.row (Row.I .i64 [Int.ofNat 0,Int.ofNat 0]))] } :: H):=by kernel_rfl
theorem NS (n i:Nat) (H:aa):Rf.cO.Lh (bA n 90 26) (il aQ n 0) (hints (HN i false)) (⟨false,[rI 0 0,rI 0 0]⟩::H) =
 Tr.ok ([(0,AV.map 1 i,none),(1,AV.fn (Fn.func 89) [] [],none),(4,AV.ptr 0 0 0 0,none),(6,AV.ptr 0 1 0 0,none),(7,AV.bool false,none),(9,AV.map 1 i,none)],{ lock:=false,bs:=[(0,ak.row (Row.I .i64 [Int.ofNat 0,Int.ofNat 0])),(0,ak.row (Row.I .i64 [Int.ofNat 0,Int.ofNat 0]))] } :: H):=by kernel_rfl
theorem Le (n i:Nat) (R:aa) (a b v:Int):Rf.bu.sO (bA n 90 26) (il aQ n 0) aT aU 2 3 (.agg (.I .i64 [a,b]),.int .i64 v) (hints (KI i)) (⟨false,[rI 0 0,rI 0 0,(0,.dead)]⟩::R) =
 Tr.ite (bx false) (Tr.ok ([(1,AV.fn (Fn.func 89) [] [],none),(4,AV.ptr 0 0 0 0,none),(6,AV.ptr 0 1 0 0,none),(7,AV.bool true,some 1),(10,AV.ptr 0 2 0 0,none)],{ lock:=false,bs:=[(0,ak.row (Row.I .i64 [Int.ofNat 0,Int.ofNat 0])),(0,ak.row (Row.I .i64 [a,b])),(0,ak.dead)] } :: R)) Tr.bad:=by kernel_rfl
theorem HZ (n:Nat) (R:aa) (a b v x y:Int) (L:Int→Int→Int→Int→Bool):Rf.bu.sO (bA n 90 26) (il (FN aQ 89 (ME L)) n 0) aT aU 2 3 (.agg (.I .i64 [a,b]),.int .i64 v) (hints KJ) (⟨false,[rI 0 0,rI x y,(0,.dead)]⟩::R) =
 (fun (Z0:aC)=>((fun (Z1:aV)=>Tr.ite (bx true) (Tr.ok (Z0,Z1::R)) (Tr.reqP True (Tr.ite (L a b x y) (Tr.ok (Z0,Z1::R)) (Tr.ok ([(1,AV.fn (Fn.func 89) [] [],none),(4,AV.ptr 0 0 0 0,none),(6,AV.ptr 0 1 0 0,none),(7,AV.bool true,none),(10,AV.ptr 0 2 0 0,none)],{ lock:=false,bs:=[(0,ak.row (Row.I .i64 [Int.ofNat 0,Int.ofNat 0])),(0,ak.row (Row.I .i64 [x,y])),(0,ak.dead)] } :: R))))) { lock:=false,bs:=[(0,ak.row (Row.I .i64 [Int.ofNat 0,Int.ofNat 0])),(0,ak.row (Row.I .i64 [a,b])),(0,ak.dead)] })) [(1,AV.fn (Fn.func 89) [] [],none),(4,AV.ptr 0 0 0 0,none),(6,AV.ptr 0 1 0 0,none),(7,AV.bool true,some 1),(10,AV.ptr 0 2 0 0,none)]:=by kernel_rfl
theorem Lc (n i:Nat) (R:aa):Rf.bu.x8 (bA n 90 26) (il aQ n 0) (hints (KI i)) (⟨false,[rI 0 0,rI 0 0,(0,.dead)]⟩::R) =
 Tr.ok ([(0,AV.map 1 i,none),(1,AV.fn (Fn.func 89) [] [],none),(4,AV.ptr 0 0 0 0,none),(6,AV.ptr 0 1 0 0,none),(7,AV.bool false,none),(9,AV.map 1 i,none),(10,AV.ptr 0 2 0 0,none),(11,AV.tup [AV.bool false],none),(12,AV.bool false,none)],{ lock:=false,bs:=[(0,ak.row (Row.I .i64 [Int.ofNat 0,Int.ofNat 0])),(0,ak.row (Row.I .i64 [Int.ofNat 0,Int.ofNat 0])),(0,ak.dead)] } :: R):=by kernel_rfl
theorem Ld (n:Nat) (R:aa) (x y:Int):Rf.bu.x8 (bA n 90 26) (il aQ n 0) (hints KJ) (⟨false,[rI 0 0,rI x y,(0,.dead)]⟩::R) =
 Tr.ok ([(1,AV.fn (Fn.func 89) [] [],none),(4,AV.ptr 0 0 0 0,none),(6,AV.ptr 0 1 0 0,none),(7,AV.bool true,none),(10,AV.ptr 0 2 0 0,none),(11,AV.tup [AV.bool false],none),(12,AV.bool false,none)],{ lock:=false,bs:=[(0,ak.row (Row.I .i64 [Int.ofNat 0,Int.ofNat 0])),(0,ak.row (Row.I .i64 [x,y])),(0,ak.dead)] } :: R):=by kernel_rfl
theorem Lf (n i:Nat) (R:aa):aN (bA n 90 26) (il aQ n 0) aT aU Rf.pick.suf (hints (KI i++[(11,.tup [.bool false]),(12,.bool false)])) (⟨false,[rI 0 0,rI 0 0,(0,.dead)]⟩::R) =
 Tr.ok (Ex.ret,[(4,AV.ptr 0 0 0 0,none),(5,AV.bool false,none)],{ lock:=false,bs:=[(0,ak.row (Row.I .i64 [Int.ofNat 0,Int.ofNat 0])),(0,ak.row (Row.I .i64 [Int.ofNat 0,Int.ofNat 0])),(0,ak.dead)] } :: R):=by kernel_rfl
theorem Lg (n:Nat) (R:aa) (x y:Int):aN (bA n 90 26) (il aQ n 0) aT aU Rf.pick.suf (hints (KJ++[(11,.tup [.bool false]),(12,.bool false)])) (⟨false,[rI 0 0,rI x y,(0,.dead)]⟩::R) =
 Tr.ok (Ex.ret,[(4,AV.ptr 0 0 0 0,none),(5,AV.bool true,none)],{ lock:=false,bs:=[(0,ak.row (Row.I .i64 [x,y])),(0,ak.row (Row.I .i64 [x,y])),(0,ak.dead)] } :: R):=by kernel_rfl
def eX (a b x y:Int):Bool:=if a=x then decide (b<y) else decide (a<x)
theorem Ps (n:Nat) (a b x y:Int) (H:aa):cd (n+1) (.fn 89) [.agg (.I .i64 [a,b]),.agg (.I .i64 [x,y])] H=some (.bool (eX a b x y),H):=by
 refine aR (n:=n) Try.func89 rfl rfl rfl (RS n a b x y H) (aB _) (af _ _) (ag _ _) ?_
 rw[eH,eH]
 unfold eX
 by_cases c:a=x
 · rw[if_pos c]
   exact wF
 · rw[if_neg c]
   exact wF
theorem Er (n:Nat):(FN aQ 89 (ME eX)).Ok (cd (n+1)):=by
 refine rP (aX _) (fun args p v hg hp H=>?_)
 unfold ME at hg
 split at hg
 · simp only[nP] at hg
   obtain ⟨_,rfl⟩:=hg
   exact Ps n _ _ _ _ H
 · cases hg
def BI (o:Option (Int×Int)) (e:Int×Int×Int):Option (Int×Int) :=
 match o with
 | none=>some (e.1,e.2.1)
 | some m=>if eX e.1 e.2.1 m.1 m.2=true then some (e.1,e.2.1) else some m
noncomputable def J5 (e:Int×Int×Int):AV×AV:=(.agg (.I .i64 [e.1,e.2.1]),.int .i64 e.2.2)
noncomputable def DA (i:Nat) (o:Option (Int×Int)):aq×aV :=
 match o with
 | none=>(KI i,⟨false,[rI 0 0,rI 0 0,(0,.dead)]⟩)
 | some m=>(KJ,⟨false,[rI 0 0,rI m.1 m.2,(0,.dead)]⟩)
theorem Fm {L:bm} {cx:Cx} {callR:bB} {bl:gN} {rg:rr} {k n:Nat} {kv:AV×AV} {fr fr':aq} {l l':aV} {R:aa} {T:Tr (aC×aa)} (e:L.sO cx callR bl rg k n kv (hints fr) (l::R)=T) (hC:callR.Ok cx.call) (hB:bl.Ok cx L.rest) (hR:rg.Ok cx L.rest)
 (h:T.all fun y=>strip y.1=fr'∧y.2=l'::R):dG L cx k n R kv (fr,l)=some (fr',l'):=by
 obtain ⟨y,h1,h2,h3⟩:=h
 have:=bm.Dl hC hB hR (by rw[e];exact h1)
 rw[gT,h2,h3] at this
 unfold dG
 rw[this]
theorem NV (n i:Nat) (R:aa) (o:Option (Int×Int)) (e:Int×Int×Int):dG Rf.bu (bA (n+1) 90 26) 2 3 R (J5 e) (DA i o)=some (DA i (BI o e)):=by
 obtain ⟨a,b,v⟩:=e
 cases o with
 | none =>
   refine Fm (Le (n+1) i R a b v) (aB _) (af _ _) (ag _ _) ?_
   exact wF
 | some m =>
   obtain ⟨x,y⟩:=m
   have hm:BI (some (x,y)) (a,b,v)=if eX a b x y=true then some (a,b) else some (x,y):=rfl
   rw[hm]
   by_cases c:eX a b x y=true
   · rw[if_pos c]
     refine Fm (HZ (n+1) R a b v x y eX) (bj _ (n+1) (Er n)) (af _ _) (ag _ _) ?_
     rw[c]
     exact wF
   · rw[if_neg c]
     refine Fm (HZ (n+1) R a b v x y eX) (bj _ (n+1) (Er n)) (af _ _) (ag _ _) ?_
     rw[show eX a b x y=false by cases h:eX a b x y with
      | true=>exact absurd h c
      | false=>rfl]
     exact wF
theorem Ek (n i:Nat) (R:aa):∀ (l:List (Int×Int×Int)) (o:Option (Int×Int)),fc Rf.bu (bA (n+1) 90 26) 2 3 R (l.map J5) (DA i o)=some (DA i (l.foldl BI o))
 | [],o=>rfl
 | e::l,o=>by
   show (match dG Rf.bu (bA (n+1) 90 26) 2 3 R (J5 e) (DA i o) with
    | some t=>fc Rf.bu (bA (n+1) 90 26) 2 3 R (l.map J5) t
    | none=>none)=_
   rw[NV]
   exact Ek n i R l (BI o e)
noncomputable def Gh (i:Nat) (o:Option (Int×Int)):aq×aV :=
 match o with
 | none=>(KI i++[(11,.tup [.bool false]),(12,.bool false)],⟨false,[rI 0 0,rI 0 0,(0,.dead)]⟩)
 | some m=>(KJ++[(11,.tup [.bool false]),(12,.bool false)],⟨false,[rI 0 0,rI m.1 m.2,(0,.dead)]⟩)
theorem Bu {L:bm} {cx:Cx} {callR:bB} {fr:aq} {H:aa} {T:Tr (aC×aa)} (e:L.x8 cx callR (hints fr) H=T) (hC:callR.Ok cx.call) {y:aq×aa} (h:T.all fun z=>(strip z.1,z.2)=y):L.last cx fr H=some y:=by
 obtain ⟨z,h1,rfl⟩:=h
 have:=bm.ED hC (by rw[e];exact h1)
 rw[gT] at this;exact this
theorem Nv (n i:Nat) (R:aa) (o:Option (Int×Int)):Rf.bu.last (bA n 90 26) (DA i o).1 ((DA i o).2::R)=some ((Gh i o).1,(Gh i o).2::R):=by
 cases o with
 | none=>exact Bu (Lc n i R) (aB _) (Tr.bc rfl)
 | some m=>exact Bu (Ld n R m.1 m.2) (aB _) (Tr.bc rfl)
theorem EG (a b:Int):eX a b a b=false:=by unfold eX;rw[if_pos rfl];exact decide_eq_false (by omega)
theorem yc {a b x y:Int} (h1:eX a b x y=false) (h2:eX x y a b=false):a=x∧b=y:=by
 unfold eX at h1 h2
 by_cases c:a=x
 · rw[if_pos c] at h1
   rw[if_pos c.symm] at h2
   simp only[decide_eq_false_iff_not] at h1 h2
   omega
 · rw[if_neg c] at h1
   rw[if_neg (fun e=>c e.symm)] at h2
   simp only[decide_eq_false_iff_not] at h1 h2
   omega
theorem oH (a b x y:Int):eX a b x y=true↔a<x∨(a=x∧b<y):=by
 unfold eX
 by_cases c:a=x
 · rw[if_pos c,decide_eq_true_eq];omega
 · rw[if_neg c,decide_eq_true_eq];omega
theorem yb {a b x y u v:Int} (h1:eX a b x y=false) (h2:eX u v x y=true):eX a b u v=false:=by
 cases c:eX a b u v with
 | false=>rfl
 | true =>
   exfalso
   have c:=(oH _ _ _ _).1 c
   have h2:=(oH _ _ _ _).1 h2
   have:eX a b x y=true:=(oH _ _ _ _).2 (by omega)
   rw[h1] at this;cases this
theorem BJ:∀ (l:List (Int×Int×Int)) (o:Option (Int×Int)),(l.foldl BI o=none↔o=none∧l=[])∧∀ m,l.foldl BI o=some m→((o=some m∨∃ e ∈ l,(e.1,e.2.1)=m)∧(∀ e ∈ l,eX e.1 e.2.1 m.1 m.2=false)∧∀ p,o=some p→eX p.1 p.2 m.1 m.2=false)
 | [],o=>⟨⟨fun h=>⟨h,rfl⟩,fun h=>h.1⟩,fun m hm=>⟨.inl hm,fun e he=>(by cases he),fun p hp=>(by
   have hm:o=some m:=hm
   rw[hm] at hp;cases hp;exact EG _ _)⟩⟩
 | e :: l, o=>by
   obtain ⟨i1,i2⟩:=BJ l (BI o e)
   have hne:BI o e≠none:=by unfold BI;split<;>(try split)<;>simp
   refine ⟨⟨fun h=>absurd (i1.1 h).1 hne,fun h=>by cases h.2⟩,fun m hm=>?_⟩
   obtain ⟨j1,j2,j3⟩:=i2 m hm
   have hk:(BI o e=some (e.1,e.2.1)∧∀ p,o=some p→eX e.1 e.2.1 p.1 p.2=true)∨∃ p,o=some p∧BI o e=some p∧eX e.1 e.2.1 p.1 p.2=false:=by
    cases o with
    | none=>exact .inl ⟨rfl,fun p hp=>by cases hp⟩
    | some p =>
      have hx:BI (some p) e=if eX e.1 e.2.1 p.1 p.2=true then some (e.1,e.2.1) else some p:=rfl
      by_cases c:eX e.1 e.2.1 p.1 p.2=true
      · rw[if_pos c] at hx
        exact .inl ⟨hx,fun q hq=>by cases hq;exact c⟩
      · rw[if_neg c] at hx
        exact .inr ⟨p,rfl,hx,by cases h:eX e.1 e.2.1 p.1 p.2 with
         | true=>exact absurd h c
         | false=>rfl⟩
   rcases hk with ⟨h1,h2⟩ | ⟨p,rfl,h1,h2⟩
   · have h3:=j3 _ h1
     refine ⟨.inr ?_,fun x hx=>?_,fun p hp=>?_⟩
     · rcases j1 with j1 | ⟨x,hx,rfl⟩
       · rw[h1] at j1
         exact ⟨e,by simp,Option.some.inj j1⟩
       · exact ⟨x,by simp[hx],rfl⟩
     · rcases List.mem_cons.1 hx with rfl | hx
       · exact h3
       · exact j2 x hx
     · have h4:=h2 p hp
       cases c:eX p.1 p.2 m.1 m.2 with
       | false=>rfl
       | true =>
         exfalso
         have:=yb (a:=e.1) (b:=e.2.1) (x:=m.1) (y:=m.2) (u:=p.1) (v:=p.2) h3 c
         rw[h4] at this;cases this
   · have h3:=j3 _ h1
     refine ⟨?_,fun x hx=>?_,fun q hq=>by cases hq;exact h3⟩
     · rcases j1 with j1 | ⟨x,hx,rfl⟩
       · rw[h1] at j1;exact .inl j1
       · exact .inr ⟨x,by simp[hx],rfl⟩
     · rcases List.mem_cons.1 hx with rfl | hx
       · cases c:eX x.1 x.2.1 m.1 m.2 with
         | false=>rfl
         | true =>
           exfalso
           have:=yb (a:=p.1) (b:=p.2) (x:=m.1) (y:=m.2) (u:=x.1) (v:=x.2.1) h3 c
           have h5:=yc this h2
           rw[h5.1,h5.2,c] at h3;cases h3
       · exact j2 x hx
theorem yt:∀ (n:Nat) (vs:List Nat),vs.Nodup→(∀ j ∈ vs,j<n)→vs.length≤n
 | 0,vs,_,h=>by
   cases vs with
   | nil=>exact Nat.le_refl _
   | cons a r=>have:=h a (by simp);omega
 | n+1,vs,hn,h=>by
   have h1:=yt n (vs.erase n) (hn.erase n) (fun j hj=>by
    rw[hn.mem_erase_iff] at hj
    have:=h j hj.2
    omega)
   rw[List.length_erase] at h1
   split at h1<;>omega
theorem Gn {vs:List Nat} {n:Nat} (hn:vs.Nodup) (hl:vs.length=n) (hb:∀ j ∈ vs,j<n) {j:Nat} (hj:j<n):j ∈ vs:=by
 apply Classical.byContradiction
 intro hc
 have:=yt n (j::vs) (List.nodup_cons.2 ⟨hc,hn⟩) (fun i hi=>by
  rcases List.mem_cons.1 hi with rfl | hi
  · exact hj
  · exact hb i hi)
 simp only[List.length_cons] at this
 omega
theorem Kw {es:List (AV×AV)} {h:List Int→Bool} {g:List Int→Int} {c:Nat} (hE:vr (.str 2) es h g c):∀ vs:List Nat,(∀ j ∈ vs,j<es.length) →
 ∃ l:List (Int×Int×Int),(vs.map fun j=>(es.map fun e=>(fq (0+1) e.1,fq (0+1) e.2)).getD j (.undef,.undef))=l.map J5∧(∀ e ∈ l,h [e.1,e.2.1]=true)∧(∀ j ∈ vs,∀ n,(es.getD j (.undef,.undef)).1=dy (.str 2) n→∃ e ∈ l,n=[e.1,e.2.1])∧l.length=vs.length
 | [],_=>⟨[],rfl,fun e he=>(by cases he),fun j hj=>(by cases hj),rfl⟩
 | j :: vs,hv=>by
   obtain ⟨l,l1,l2,l3,l4⟩:=Kw hE vs (fun i hi=>hv i (List.mem_cons_of_mem _ hi))
   have hj:=hv j (by simp)
   obtain ⟨n,e1,e2⟩:=hE.ent j hj
   have hf:=hE.fit e2
   have hlen:n.length=2:=Nat.eq_of_beq_eq_true hf
   obtain ⟨a,b,rfl⟩:∃ a b,n=[a,b]:=by
    match n,hlen with
    | [a,b],_=>exact ⟨a,b,rfl⟩
   refine ⟨(a,b,g [a,b])::l,?_,fun e he=>?_,fun i hi n' hn'=>?_,by simp[l4]⟩
   · rw[List.map_cons,List.map_cons,l1]
     congr 1
     have:(es.map fun e=>(fq (0+1) e.1,fq (0+1) e.2)).getD j (.undef,.undef)=(fq (0+1) (es.getD j (.undef,.undef)).1,fq (0+1) (es.getD j (.undef,.undef)).2):=by
      simp[List.getD_eq_getElem?_getD,List.getElem?_eq_getElem hj]
     rw[this,e1];rfl
   · rcases List.mem_cons.1 he with rfl | he
     · exact e2
     · exact l2 e he
   · rcases List.mem_cons.1 hi with rfl | hi
     · rw[e1] at hn'
       have hn':dy (.str 2) [a,b]=dy (.str 2) n':=hn'
       have:[a,b]=n':=by unfold dy at hn';simpa using hn'
       exact ⟨(a,b,g [a,b]),by simp,this.symm⟩
     · obtain ⟨e,he,h'⟩:=l3 i hi n' hn'
       exact ⟨e,by simp[he],h'⟩
def vt (h:List Int→Bool) (o:Option (Int×Int)):Prop :=
 match o with
 | none=>∀ a b,h [a,b]=false
 | some m=>h [m.1,m.2]=true∧∀ a b,h [a,b]=true→eX a b m.1 m.2=false
theorem Gm {es:List (AV×AV)} {h:List Int→Bool} {g:List Int→Int} {c:Nat} (hE:vr (.str 2) es h g c) {o:Option (Int×Int)} (ho:vt h o) {vs:List Nat} (v1:vs.Nodup) (v2:vs.length=es.length) (v3:∀ j ∈ vs,j<es.length) :
 ∃ l:List (Int×Int×Int),(vs.map fun j=>(es.map fun e=>(fq (0+1) e.1,fq (0+1) e.2)).getD j (.undef,.undef))=l.map J5∧l.foldl BI none=o:=by
 obtain ⟨l,l1,l2,l3,l4⟩:=Kw hE vs v3
 refine ⟨l,l1,?_⟩
 obtain ⟨s1,s2⟩:=BJ l none
 have cov:∀ a b,h [a,b]=true→∃ e ∈ l,(a,b)=(e.1,e.2.1):=fun a b hab=>by
  obtain ⟨_,j,j1,j2⟩:=hE.all _ hab
  obtain ⟨e,he,e2⟩:=l3 j (Gn v1 v2 v3 j1) _ j2
  refine ⟨e,he,?_⟩
  simp only[List.cons.injEq,and_true] at e2
  rw[e2.1,e2.2]
 cases o with
 | none =>
   cases l with
   | nil=>rfl
   | cons e l =>
     have:=l2 e (by simp)
     rw[ho] at this;cases this
 | some m =>
   obtain ⟨h1,h2⟩:=ho
   obtain ⟨e,he,e2⟩:=cov m.1 m.2 h1
   cases hf:l.foldl BI none with
   | none =>
     have:=(s1.1 hf).2
     rw[this] at he;cases he
   | some m' =>
     obtain ⟨t1,t2,_⟩:=s2 m' hf
     rcases t1 with t1 | ⟨x,hx,rfl⟩
     · cases t1
     have a1:=t2 e he
     have a2:=h2 x.1 x.2.1 (l2 x hx)
     rw[← (Prod.mk.inj e2).1,← (Prod.mk.inj e2).2] at a1
     obtain ⟨b1,b2⟩:=yc a1 a2
     have e5:(x.1,x.2.1)=m:=Prod.ext b1.symm b2.symm
     rw[e5]
noncomputable def NT (o:Option (Int×Int)):AV :=
 match o with
 | none=>.tup [.agg (.I .i64 [0,0]),.bool false]
 | some m=>.tup [.agg (.I .i64 [m.1,m.2]),.bool true]
section
variable (n i:Nat) (H:aa)
theorem Ov (o:Option (Int×Int)):∃ b,exec (bA n 90 26) Rf.pick.suf (Gh i o).1 ((Gh i o).2::H)=some (.ret,[(4,.ptr 0 0 0 0),(5,.bool b)],⟨false,[rI (o.getD (0,0)).1 (o.getD (0,0)).2,rI (o.getD (0,0)).1 (o.getD (0,0)).2,(0,.dead)]⟩::H)∧b=o.isSome:=by
 cases o with
 | none =>
   obtain ⟨x,hx,rfl⟩:=aO (Q:=fun x=>x=(.ret,[(4,.ptr 0 0 0 0),(5,.bool false)],(⟨false,[rI 0 0,rI 0 0,(0,.dead)]⟩:aV)::H)) (Lf n i H) (aB n) (af _ _) (ag _ _) (Tr.bc rfl)
   exact ⟨false,hx,rfl⟩
 | some m =>
   obtain ⟨x,hx,rfl⟩:=aO (Q:=fun x=>x=(.ret,[(4,.ptr 0 0 0 0),(5,.bool true)],(⟨false,[rI m.1 m.2,rI m.1 m.2,(0,.dead)]⟩:aV)::H)) (Lg n H m.1 m.2) (aB n) (af _ _) (ag _ _) (Tr.bc rfl)
   exact ⟨true,hx,rfl⟩
theorem Ha {h:List Int→Bool} {g:List Int→Int} {c:Nat} {es:List (AV×AV)} (hg:ao H 0 i=(0,.fmap (.str 2) h g c)) (hE:vr (.str 2) es h g c) {o:Option (Int×Int)} (ho:vt h o) :
 jY (bA (n+1) 90 26) Rf.cO Rf.bu (HN i false) (⟨false,[rI 0 0,rI 0 0]⟩::H)=some ((Gh i o).1,(Gh i o).2::H):=by
 have hp:dj (bA (n+1) 90 26).P (bA (n+1) 90 26).nt (bA (n+1) 90 26).call Rf.cO.ops0 Rf.cO.pre (HN i false) (⟨false,[rI 0 0,rI 0 0]⟩::H)=some ([(0,.map 1 i),(1,f89),(4,.ptr 0 0 0 0),(6,.ptr 0 1 0 0),(7,.bool false),(9,.map 1 i)],⟨false,[rI 0 0,rI 0 0]⟩::H):=by
  have:=cw.G8 (S:=Rf.cO) (cx:=bA (n+1) 90 26) (callR:=il aQ (n+1) 0) (aB _) (fr:=hints (HN i false)) (H:=⟨false,[rI 0 0,rI 0 0]⟩::H) (by rw[NS];rfl)
  rw[gT] at this
  exact this
 have hg1:ao ((⟨false,[rI 0 0,rI 0 0]⟩:aV)::H) 1 i=(0,.fmap (.str 2) h g c):=hg
 have hm:Rf.cO.m=9:=rfl
 have hit:Rf.bu.it=10:=rfl
 have r1:lZ (bA (n+1) 90 26) Rf.cO Rf.bu (HN i false) (⟨false,[rI 0 0,rI 0 0]⟩::H)=none:=by
  unfold lZ
  rw[hp];rfl
 have r2:j4 (bA (n+1) 90 26) Rf.cO Rf.bu (HN i false) (⟨false,[rI 0 0,rI 0 0]⟩::H)=none:=by
  unfold j4
  rw[hp]
  show (match ao ((⟨false,[rI 0 0,rI 0 0]⟩:aV)::H) 1 i with
   | (0,.map es)=>_
   | _=>none)=none
  rw[hg1];rfl
 have hends:wZ (bA (n+1) 90 26) Rf.bu 0 2 (av H) (DA i none) (.str 2) h g c (Gh i o):=by
  refine ⟨rfl,fun es hE vs v1 v2 v3=>?_⟩
  obtain ⟨l,l1,l2⟩:=Gm hE ho v1 v2 v3
  refine ⟨DA i o,?_,Nv (n+1) i _ o⟩
  rw[l1,Ek,l2]
 have r3:j5 (bA (n+1) 90 26) Rf.cO Rf.bu (HN i false) (⟨false,[rI 0 0,rI 0 0]⟩::H)=some ((Gh i o).1,(Gh i o).2::H):=by
  unfold j5
  rw[hp]
  show (match ao ((⟨false,[rI 0 0,rI 0 0]⟩:aV)::H) 1 i with
   | (0,.fmap q h g c)=>@dite _ (∃ y,wZ (bA (n+1) 90 26) Rf.bu 0 2 (av H) (DA i none) q h g c y) (Classical.propDecidable _) (fun hx=>some ((Classical.choose hx).1,(Classical.choose hx).2::H)) (fun _=>none)
   | _=>none)=_
  rw[hg1]
  refine (dif_pos (show ∃ y,wZ (bA (n+1) 90 26) Rf.bu 0 2 (av H) (DA i none) (.str 2) h g c y from ⟨_,hends⟩)).trans ?_
  have hc:=Classical.choose_spec (show ∃ y,wZ (bA (n+1) 90 26) Rf.bu 0 2 (av H) (DA i none) (.str 2) h g c y from ⟨_,hends⟩)
  obtain ⟨s1,e1,e2⟩:=hc.2 es hE (List.range es.length) List.nodup_range (by simp) (fun j hj=>by simpa using hj)
  obtain ⟨s2,f1,f2⟩:=hends.2 es hE (List.range es.length) List.nodup_range (by simp) (fun j hj=>by simpa using hj)
  rw[e1] at f1
  obtain rfl:=Option.some.inj f1
  rw[e2] at f2
  simp only[Option.some.injEq,Prod.mk.injEq,List.cons.injEq,and_true] at f2
  rw[f2.1,f2.2]
 unfold jY jZ
 rw[r1,r2,r3]
theorem Pt {h:List Int→Bool} {g:List Int→Int} {c:Nat} {es:List (AV×AV)} (hg:ao H 0 i=(0,.fmap (.str 2) h g c)) (hE:vr (.str 2) es h g c) {o:Option (Int×Int)} (ho:vt h o) :
 cd (n+2) (.fn 90) [.map 0 i,f89] H=some (NT o,H):=by
 have e26:Try.f90.ntmps=26:=by kernel_rfl
 have er:Try.f90.results.toList=Try.f90.results.toList:=rfl
 obtain ⟨xa,ha,rfl⟩:=aO (Q:=fun x=>x=(.normal,[(0,.map 1 i),(1,f89),(4,.ptr 0 0 0 0)],(⟨false,[rI 0 0]⟩:aV)::H)) (NP (n+1) i H) (aB _) (af _ _) (ag _ _) (Tr.bc rfl)
 obtain ⟨xb,hb,rfl⟩:=aO (Q:=fun x=>x=(.normal,[(0,.map 1 i),(1,f89),(4,.ptr 0 0 0 0),(6,.ptr 0 1 0 0)],(⟨false,[rI 0 0,rI 0 0]⟩:aV)::H)) (NQ (n+1) i H) (aB _) (af _ _) (ag _ _) (Tr.bc rfl)
 obtain ⟨xc,hc,rfl⟩:=aO (Q:=fun x=>x=(.normal,HN i false,(⟨false,[rI 0 0,rI 0 0]⟩:aV)::H)) (NR (n+1) i H) (aB _) (af _ _) (ag _ _) (Tr.bc rfl)
 have hr:=Ha n i H hg hE ho
 obtain ⟨b,hs,hbb⟩:=Ov (n+1) i H o
 have hpc:fp (bA (n+1) 90 26) Rf.pick.S Rf.pick.L Rf.pick.suf Rf.pick.pre [(0,.map 1 i),(1,f89)] (aG::H)=some (.ret,[(4,.ptr 0 0 0 0),(5,.bool b)],⟨false,[rI (o.getD (0,0)).1 (o.getD (0,0)).2,rI (o.getD (0,0)).1 (o.getD (0,0)).2,(0,.dead)]⟩::H):=by
  show fp (bA (n+1) 90 26) Rf.cO Rf.bu Rf.pick.suf [Rf.cA [0] Rf.ey,Rf.cA [1,0] Rf.ey,Rf.cA [1,1,0] Rf.ey] _ _=_
  unfold fp
  rw[cZ,ha]
  dsimp only
  unfold fp
  rw[cZ,hb]
  dsimp only
  unfold fp
  rw[cZ,hc]
  dsimp only
  unfold fp
  rw[hr]
  dsimp only
  rw[cZ]
  exact hs
 have ho2:sE (cd (n+1)) 90 [.map 0 i,f89] H=some (NT o,H):=by
  show sJ Try.prog KtL.kt 100000 Rf.pick (cd (n+1)) [.map 0 i,f89] H=_
  unfold sJ
  rw[show Try.prog.funcs[Rf.pick.f]?=some Try.f90 from Try.func90]
  dsimp only
  rw[if_pos (by rw[e26];rfl),e26]
  rw[show fp (⟨Try.prog,cd (n+1),100000,Rf.pick.f,26,KtL.kt Rf.pick.f,none⟩:Cx) Rf.pick.S Rf.pick.L Rf.pick.suf Rf.pick.pre (fU 0 [.map 0 i,f89]) (⟨false,[]⟩::H)=_ from hpc]
  dsimp only
  rw[hbb]
  cases o with
  | none=>kernel_rfl
  | some m=>kernel_rfl
 unfold cd
 rw[show cI Try.prog sE KtL.kt 100000 (n+1+1) (.fn 90) [.map 0 i,f89] H=(match sE (cd (n+1)) 90 [.map 0 i,f89] H with
  | some r=>some r
  | none=>_) from rfl,ho2]
end
end Go.Eng
end
section
namespace Go.Eng
def hW (l:Nat) (z:Nat→Int) (w:Nat→Bool):List Int→Bool:=fun k=>match k with
 | [a,b]=>decide (0≤b∧b<l) && (w b.toNat && decide (a=z b.toNat))
 | _=>false
def gW (l:Nat) (z:Nat→Int) (w:Nat→Bool):List Int→Int:=fun k=>if hW l z w k=true then 1 else 0
theorem iM {l:Nat} {z:Nat→Int} {w:Nat→Bool} {a b:Int}:hW l z w [a,b]=true↔∃ i:Nat,i<l∧w i=true∧b=i∧a=z i:=by
 show (decide (0≤b∧b<l) && (w b.toNat && decide (a=z b.toNat)))=true↔_
 simp only[Bool.and_eq_true,decide_eq_true_eq]
 constructor
 · rintro ⟨⟨h1,h2⟩,h3,h4⟩
   exact ⟨b.toNat,by omega,h3,by omega,h4⟩
 · rintro ⟨i,h1,h2,rfl,rfl⟩
   refine ⟨by omega,?_,?_⟩
   · rw[Int.toNat_natCast];exact h2
   · rw[Int.toNat_natCast]
theorem vR {l:Nat} {z:Nat→Int} {w:Nat→Bool} {k:List Int} (h:hW l z w k=true):∃ a b,k=[a,b]:=by
 unfold hW at h
 split at h
 · exact ⟨_,_,rfl⟩
 · cases h
theorem uh (w:Nat→Bool):∀ l,((List.range l).filter w).length=cn w l
 | 0=>rfl
 | l+1=>by
   rw[List.range_succ,List.filter_append,List.length_append,uh w l]
   show _=cn w l+(w l).toNat
   cases h:w l<;>simp[List.filter_cons,h]
theorem Pz (l:Nat) (z:Nat→Int) (w:Nat→Bool):∃ es,vr (.str 2) es (hW l z w) (gW l z w) (cn w l):=by
 refine ⟨((List.range l).filter w).map fun i=>(dy (.str 2) [z i,(i:Int)],.int .i64 1),?_,fun j hj=>?_,fun n hn=>?_,fun n hn=>?_,fun i j hi hj e=>?_⟩
 · rw[List.length_map,uh]
 · simp only[List.length_map] at hj
   have hm:((List.range l).filter w)[j] ∈ (List.range l).filter w:=List.getElem_mem hj
   generalize he:((List.range l).filter w)[j]=i at hm
   rw[List.mem_filter,List.mem_range] at hm
   refine ⟨[z i,(i:Int)],?_,iM.2 ⟨i,hm.1,hm.2,rfl,rfl⟩⟩
   have hg:gW l z w [z i,(i:Int)]=1:=by unfold gW;rw[if_pos (iM.2 ⟨i,hm.1,hm.2,rfl,rfl⟩)]
   rw[hg,List.getD_eq_getElem?_getD,List.getElem?_map,List.getElem?_eq_getElem hj,he];rfl
 · obtain ⟨a,b,rfl⟩:=vR hn
   obtain ⟨i,h1,h2,rfl,rfl⟩:=iM.1 hn
   refine ⟨rfl,?_⟩
   have hm:i ∈ (List.range l).filter w:=List.mem_filter.2 ⟨List.mem_range.2 h1,h2⟩
   obtain ⟨j,hj,he⟩:=List.getElem_of_mem hm
   refine ⟨j,by rw[List.length_map];exact hj,?_⟩
   rw[List.getD_eq_getElem?_getD,List.getElem?_map,List.getElem?_eq_getElem hj,he];rfl
 · unfold gW
   rw[if_neg (by rw[hn];decide)]
 · simp only[List.length_map] at hi hj
   rw[List.getD_eq_getElem?_getD,List.getElem?_map,List.getElem?_eq_getElem hi,List.getD_eq_getElem?_getD,List.getElem?_map,List.getElem?_eq_getElem hj] at e
   have e:dy (.str 2) [z (((List.range l).filter w)[i]),((((List.range l).filter w)[i]:Nat):Int)]=dy (.str 2) [z (((List.range l).filter w)[j]),((((List.range l).filter w)[j]:Nat):Int)]:=e
   unfold dy at e
   simp only[AV.agg.injEq,Row.I.injEq,List.cons.injEq,and_true,true_and] at e
   have hn:((List.range l).filter w).Nodup:=List.nodup_range.filter _
   have hp:=List.pairwise_iff_getElem.1 hn
   rcases Nat.lt_trichotomy i j with c | c | c
   · exact absurd (by omega) (hp i j hi hj c)
   · exact c
   · exact absurd (by omega) (hp j i hj hi c)
theorem Jg (l:Nat) (z:Nat→Int) (w:Nat→Bool):vt (hW l z w) ((kd z w l).map fun i=>(z i,(i:Int))):=by
 have h:=jW z w l
 cases hm:kd z w l with
 | none =>
   rw[hm] at h
   intro a b
   cases c:hW l z w [a,b] with
   | false=>rfl
   | true =>
     obtain ⟨i,h1,h2,_⟩:=iM.1 c
     have:=h i h1
     rw[h2] at this;cases this
 | some i =>
   rw[hm] at h
   obtain ⟨h1,h2,h3⟩:=h
   refine ⟨iM.2 ⟨i,h1,h2,rfl,rfl⟩,fun a b hab=>?_⟩
   obtain ⟨j,j1,j2,rfl,rfl⟩:=iM.1 hab
   have:=h3 j j1 j2
   cases c:eX (z j) (j:Int) (z i) (i:Int) with
   | false=>rfl
   | true =>
     have:=(oH _ _ _ _).1 c
     exfalso
     omega
theorem vQ {l:Nat} {z:Nat→Int} {w:Nat→Bool} {c:Nat} (hc:c<l):l6 (hW l z w) [z c,(c:Int)] true=hW l z (ja w c):=by
 rw[l7]
 funext k
 show (if k=[z c,(c:Int)] then true else hW l z w k)=hW l z (ja w c) k
 by_cases e:k=[z c,(c:Int)]
 · subst e
   rw[if_pos rfl]
   exact (iM.2 ⟨c,hc,by unfold ja;rw[if_pos rfl],rfl,rfl⟩).symm
 · rw [if_neg e]
   by_cases hk:∃ a b,k=[a,b]
   · obtain ⟨a,b,rfl⟩:=hk
     rw[Bool.eq_iff_iff,iM,iM]
     constructor
     · rintro ⟨i,h1,h2,rfl,rfl⟩
       exact ⟨i,h1,by unfold ja;split<;>first | rfl | exact h2,rfl,rfl⟩
     · rintro ⟨i,h1,h2,rfl,rfl⟩
       unfold ja at h2
       by_cases ei:i=c
       · subst ei;exact absurd rfl e
       · rw[if_neg ei] at h2
         exact ⟨i,h1,h2,rfl,rfl⟩
   · have f:∀ w,hW l z w k=false:=fun w=>by
      cases h:hW l z w k with
      | false=>rfl
      | true=>exact absurd (vR h) hk
     rw[f,f]
theorem z3 {l:Nat} {z:Nat→Int} {w:Nat→Bool} {c:Nat}:l6 (hW l z w) [z c,(c:Int)] false=hW l z (mR w c):=by
 rw[l7]
 funext k
 show (if k=[z c,(c:Int)] then false else hW l z w k)=hW l z (mR w c) k
 by_cases hk:∃ a b,k=[a,b]
 · obtain ⟨a,b,rfl⟩:=hk
   by_cases e:[a,b]=[z c,(c:Int)]
   · rw[if_pos e]
     symm
     cases h:hW l z (mR w c) [a,b] with
     | false=>rfl
     | true =>
       obtain ⟨i,h1,h2,h3,h4⟩:=iM.1 h
       simp only[List.cons.injEq,and_true] at e
       have ei:i=c:=by omega
       unfold mR at h2
       rw[if_pos ei] at h2;cases h2
   · rw[if_neg e,Bool.eq_iff_iff,iM,iM]
     constructor
     · rintro ⟨i,h1,h2,rfl,rfl⟩
       refine ⟨i,h1,?_,rfl,rfl⟩
       have:i≠c:=fun ei=>by subst ei;exact e rfl
       unfold mR;rw[if_neg this];exact h2
     · rintro ⟨i,h1,h2,rfl,rfl⟩
       unfold mR at h2
       by_cases ei:i=c
       · rw[if_pos ei] at h2;cases h2
       · rw[if_neg ei] at h2
         exact ⟨i,h1,h2,rfl,rfl⟩
 · have f:∀ w,hW l z w k=false:=fun w=>by
    cases h:hW l z w k with
    | false=>rfl
    | true=>exact absurd (vR h) hk
   rw[f,f]
   split<;>rfl
theorem Eu {l:Nat} {z:Nat→Int} {w:Nat→Bool} {c:Nat} (hc:c<l):hW l z w [z c,(c:Int)]=w c:=by
 cases h:w c with
 | true=>exact iM.2 ⟨c,hc,h,rfl,rfl⟩
 | false =>
   cases h2:hW l z w [z c,(c:Int)] with
   | false=>rfl
   | true =>
     obtain ⟨i,_,h3,h4,_⟩:=iM.1 h2
     have:i=c:=by omega
     rw[this,h] at h3;cases h3
theorem zZ {l:Nat} {z:Nat→Int} {w:Nat→Bool} {c:Nat} (hc:c<l):l8 (gW l z w) [z c,(c:Int)] 1=gW l z (ja w c):=by
 rw[sV]
 funext k
 have h:=congrFun (vQ (z:=z) (w:=w) hc) k
 rw[l7] at h
 have h:(if k=[z c,(c:Int)] then true else hW l z w k)=hW l z (ja w c) k:=h
 show (if k=[z c,(c:Int)] then 1 else gW l z w k)=gW l z (ja w c) k
 unfold gW
 rw[← h]
 by_cases e:k=[z c,(c:Int)]
 · rw[if_pos e,if_pos e,if_pos rfl]
 · rw[if_neg e,if_neg e]
theorem Es {l:Nat} {z:Nat→Int} {w:Nat→Bool} {c:Nat}:l8 (gW l z w) [z c,(c:Int)] 0=gW l z (mR w c):=by
 rw[sV]
 funext k
 have h:=congrFun (z3 (l:=l) (z:=z) (w:=w) (c:=c)) k
 rw[l7] at h
 have h:(if k=[z c,(c:Int)] then false else hW l z w k)=hW l z (mR w c) k:=h
 show (if k=[z c,(c:Int)] then 0 else gW l z w k)=gW l z (mR w c) k
 unfold gW
 rw[← h]
 by_cases e:k=[z c,(c:Int)]
 · rw[if_pos e,if_pos e,if_neg (by decide)]
 · rw[if_neg e,if_neg e]
theorem zK {l:Nat} {z:Nat→Int} {w:Nat→Bool} {c:Nat} (hc:c<l) (hw:w c=false):rM (hW l z w [z c,(c:Int)]) (cn w l)=cn (ja w c) l:=by
 rw[xi,Eu hc,hw]
 show cn w l+1=_
 rw[g8 (p:=w) (q:=ja w c) (i:=c) hw (by unfold ja;rw[if_pos rfl]) (fun j _ hj=>by unfold ja;rw[if_neg hj]) hc]
theorem DW {l:Nat} {z:Nat→Int} {w:Nat→Bool} {c:Nat} (hc:c<l) (hw:w c=true):uj (hW l z w [z c,(c:Int)]) (cn w l)=cn (mR w c) l:=by
 rw[xj,Eu hc,hw]
 show cn w l-1=_
 have:=g8 (p:=mR w c) (q:=w) (i:=c) (n:=l) (by unfold mR;rw[if_pos rfl]) hw (fun j _ hj=>by unfold mR;rw[if_neg hj]) hc
 omega
end Go.Eng
end
section
namespace Go.Eng
open Go.Proofs
noncomputable def f74 (s l:Nat) (t:Nat→Int) (k:Nat) (d g:Nat→Int):AV:=.fn (.func 74) [dK s l t k d g] []
noncomputable def tI (s l:Nat) (t:Nat→Int) (k:Nat) (d g:Nat→Int):aV:=⟨false,[(0,.row (.G [f74 s l t k d g]))]⟩
noncomputable def MD (A:AV) (k:Nat) (T:Int) (y:Nat→Int) (args:List AV) (H:aa):Tr (AV×aa) :=
 match args with
 | [B,.fn (.func 88) [] [.ptr 0 1 0 0]]=>match H with
   | ⟨lk,b0::(0,.row (.I .i64 [T']))::bs⟩::r=>.reqP (B=A∧T'=T) (.ok (dc k y false,H))
   | _=>.bad
 | _=>.bad
noncomputable def bM (s l:Nat) (t:Nat→Int) (k:Nat) (d g:Nat→Int) (T:Int) (z f:Nat→Int) (hs:List Int→Bool) (gs:List Int→Int) (c:Nat):aV:=⟨false,[(0,.row (.G [f74 s l t k d g])),HH T,(0,.row (.M [.arr .i64 z 30])),(0,.row (.M [.arr .i64 f 30])),(0,.fmap (.str 2) hs gs c)]⟩
noncomputable def ou (y s l:Nat) (t:Nat→Int) (k:Nat) (d g:Nat→Int) (h j:Int):aq:=[(0,.yld 1 y),(1,.ptrT (some 1) (.G [dK s l t k d g]) 0),(2,.ptrT none (.I .i64 [h]) 0),(6,.ptr 0 2 0 0),(7,.ptr 0 3 0 0),(8,.map 0 4),(39,.int .i64 (Int.ofNat l)),(40,.int .i64 j)]
noncomputable def fD (y s l:Nat) (t:Nat→Int) (k:Nat) (d g:Nat→Int) (h:Int):aq:=[(0,.yld 1 y),(1,.ptrT (some 1) (.G [dK s l t k d g]) 0),(2,.ptrT none (.I .i64 [h]) 0),(6,.ptr 0 2 0 0),(7,.ptr 0 3 0 0),(8,.map 0 4),(10,.fn (.func 89) [] [])]
theorem RR (n:Nat) (i e T:Int) (L:aV) (lk:Bool) (b0:Nat×ak) (bs:List (Nat×ak)) (H:aa):bz Try.prog (cd n) 100000 88 Try.f88 (KtL.kt 88) (il aQ n 0) aT aU [(.int .i64 i,none),(.int .i64 e,none),(.ptr 1 1 0 0,none)] (L::⟨lk,b0::HH T::bs⟩::H) =
 Tr.ok ((AV.int .i64 (yn e T),none),L::{ lock:=lk,bs:=b0::(0,ak.row (Row.I .i64 [T]))::bs } :: H):=by kernel_rfl
theorem RP (n s l k:Nat) (t d g:Nat→Int) (y:Nat→Int) (H:aa) (T:Int):bz Try.prog (cd n) 100000 86 Try.f86 (KtL.kt 86) (il (A5 aQ 74 [dK (s+2) l t k d g,.fn (.func 87) [] [.ptr 0 0 0 0]] (K7 T::aG::tI s l t k d g::H) (.ok (dc k y false,K7 T::aG::tI s l t k d g::H))) n 0) aT aU [(.int .i64 T,none),(.ptr 1 0 0 0,none)] (aG::tI s l t k d g::H) =
 (fun (Z0:Row)=>((fun (Z1:aV)=>Tr.reqP ([AV.ptrT (some (Nat.succ (Nat.succ s))) Z0 0,AV.fn (Fn.func 87) [] [AV.ptr 0 0 0 0]]=[AV.ptrT (some (Nat.succ (Nat.succ s))) Z0 0,AV.fn (Fn.func 87) [] [AV.ptr 0 0 0 0]]∧{ lock:=false,bs:=[(0,ak.row (Row.I .i64 [T]))] } :: aG::Z1::H={ lock:=false,bs:=[(0,ak.row (Row.I .i64 [T]))] } :: aG::Z1::H) (Tr.ok ((AV.slcT none (Row.M [ah.arr .i64 y k]) 1 k false,none),aG::Z1::H))) { lock:=false,bs:=[(0,ak.row (Row.G [AV.fn (Fn.func 74) [AV.ptrT (some s) Z0 0] []]))] })) (Row.M [ah.one (AV.slcT none (Row.M [ah.arr .i64 t l]) 1 l false),ah.one (AV.slcT none (Row.M [ah.arr .i64 d k]) 1 k false),ah.arr .i64 g 30]):=by kernel_rfl
theorem LF (n y s l k:Nat) (t d g z f:Nat→Int) (hs:List Int→Bool) (gs:List Int→Int) (c:Nat) (h T j:Int) (G:aa):aN (bA n 85 118) (il aQ n 0) aT aU (part Try.f85 [1,1,1,1,1,0,1,0,0]) (hints (ou y s l t k d g h j)) (bM (s+1) l t k d g T z f hs gs c::G) =
 (fun (Z0:Row)=>((fun (Z1:aC)=>((fun (Z2:aV)=>Tr.ite (cF j (Int.ofNat l)) (Tr.req (dJ j 30) (Tr.req (cT 0 0) (Tr.req (dg (aA 0 j 1) 30) (Tr.ite (dX (f (aA 0 j 1)) (Int.ofNat 0)) (Tr.req (dJ j 30) (Tr.req (cT 0 0) (Tr.req (dg (aA 0 j 1) 30) (Tr.ok (Ex.normal,Z1,{ lock:=false,bs:=[(0,ak.row (Row.G [AV.fn (Fn.func 74) [AV.ptrT (some (Nat.succ s)) Z0 0] []])),(0,ak.row (Row.I .i64 [T])),(0,ak.row (Row.M [ah.arr .i64 z 30])),(0,ak.row (Row.M [ah.arr .i64 f 30])),(0,ak.fmap (KK.str 2) (l6 hs [z (aA 0 j 1),j] true) (l8 gs [z (aA 0 j 1),j] (Int.ofNat 1)) (rM (hs [z (aA 0 j 1),j]) c))] } :: G))))) (Tr.ok (Ex.normal,Z1,Z2::G)))))) (Tr.ok (Ex.exit 0,[(0,AV.yld 1 y,none),(1,AV.ptrT (some 1) (Row.G [AV.ptrT (some s) Z0 0]) 0,none),(2,AV.ptrT none (Row.I .i64 [h]) 0,none),(6,AV.ptr 0 2 0 0,none),(7,AV.ptr 0 3 0 0,none),(8,AV.map 0 4,none),(39,AV.int .i64 (Int.ofNat l),none),(40,AV.int .i64 j,none),(41,AV.bool false,some 1)],Z2::G))) { lock:=false,bs:=[(0,ak.row (Row.G [AV.fn (Fn.func 74) [AV.ptrT (some (Nat.succ s)) Z0 0] []])),(0,ak.row (Row.I .i64 [T])),(0,ak.row (Row.M [ah.arr .i64 z 30])),(0,ak.row (Row.M [ah.arr .i64 f 30])),(0,ak.fmap (KK.str 2) hs gs c)] })) [(0,AV.yld 1 y,none),(1,AV.ptrT (some 1) (Row.G [AV.ptrT (some s) Z0 0]) 0,none),(2,AV.ptrT none (Row.I .i64 [h]) 0,none),(6,AV.ptr 0 2 0 0,none),(7,AV.ptr 0 3 0 0,none),(8,AV.map 0 4,none),(39,AV.int .i64 (Int.ofNat l),none),(40,AV.int .i64 (bf .i64 j (Int.ofNat 1)),none)])) (Row.M [ah.one (AV.slcT none (Row.M [ah.arr .i64 t l]) 1 l false),ah.one (AV.slcT none (Row.M [ah.arr .i64 d k]) 1 k false),ah.arr .i64 g 30]):=by kernel_rfl
theorem N8 (n y s l k:Nat) (t d g z f:Nat→Int) (hs:List Int→Bool) (gs:List Int→Int) (c:Nat) (h T:Int) (G:aa):aN (bA n 85 118) (il aQ n 0) (dp aT 4 [] [] .bad) aU (part Try.f85 [1,1,1,1,1,1,1,0,0]) (hints (fD y s l t k d g h)) (bM (s+1) l t k d g T z f hs gs c::G) =
 (fun (Z0:Row)=>((fun (Z1:aV)=>Tr.ite (cF (Int.ofNat 0) (Int.ofNat c)) (Tr.reqP ([(0,AV.yld 1 y),(1,AV.ptrT (some 1) (Row.G [AV.ptrT (some s) Z0 0]) 0),(2,AV.ptrT none (Row.I .i64 [h]) 0),(6,AV.ptr 0 2 0 0),(7,AV.ptr 0 3 0 0),(8,AV.map 0 4),(10,AV.fn (Fn.func 89) [] []),(11,AV.nils)]=[]∧Z1::G=[]) Tr.bad) (Tr.ok (Ex.exit 2,[(0,AV.yld 1 y,none),(1,AV.ptrT (some 1) (Row.G [AV.ptrT (some s) Z0 0]) 0,none),(2,AV.ptrT none (Row.I .i64 [h]) 0,none),(6,AV.ptr 0 2 0 0,none),(7,AV.ptr 0 3 0 0,none),(8,AV.map 0 4,none),(10,AV.fn (Fn.func 89) [] [],none),(56,AV.bool false,some 1)],Z1::G))) { lock:=false,bs:=[(0,ak.row (Row.G [AV.fn (Fn.func 74) [AV.ptrT (some (Nat.succ s)) Z0 0] []])),(0,ak.row (Row.I .i64 [T])),(0,ak.row (Row.M [ah.arr .i64 z 30])),(0,ak.row (Row.M [ah.arr .i64 f 30])),(0,ak.fmap (KK.str 2) hs gs c)] })) (Row.M [ah.one (AV.slcT none (Row.M [ah.arr .i64 t l]) 1 l false),ah.one (AV.slcT none (Row.M [ah.arr .i64 d k]) 1 k false),ah.arr .i64 g 30]):=by kernel_rfl
end Go.Eng
end
section
namespace Go.Eng
open Go.Proofs
theorem Pr (n:Nat) (i e T:Int) (L:aV) (lk:Bool) (b0:Nat×ak) (bs:List (Nat×ak)) (H:aa):cd (n+1) (.fn 88) [.int .i64 i,.int .i64 e,.ptr 1 1 0 0] (L::⟨lk,b0::HH T::bs⟩::H)=some (.int .i64 (min e T),L::⟨lk,b0::HH T::bs⟩::H):=by
 refine aR (n:=n) Try.func88 rfl rfl rfl (RR n i e T L lk b0 bs H) (aB _) (af _ _) (ag _ _) ?_
 rw[oQ]
 exact wF
section
variable (n s l k:Nat) (t d g:Nat→Int) (H:aa)
theorem Pp (T:Int) (h0:0<k) (hk:k≤1000):cd (n+3) (.fn 86) [.int .i64 T,.ptr 1 0 0 0] (aG::tI s l t k d g::H)=some (dc k (aK (kz (fun i=>min (d i) T) k)) false,aG::tI s l t k d g::H):=by
 refine aR (n:=n+2) Try.func86 rfl rfl rfl (RP (n+2) s l k t d g (aK (kz (fun i=>min (d i) T) k)) H T) (bj _ (n+2) (iG (aX _) (fun x hy=>by
  rw[← Tr.ab hy]
  exact Mt (n+1) (s+2) l k t d g (fun i e=>min e T) _ h0 hk (fun i e L=>Pq n _ i e T L)))) (af _ _) (ag _ _) ?_
 generalize aK (kz (fun i=>min (d i) T) k)=Y at *
 exact wF
theorem IY {c:pf} {T:Int} (hc:c.Ok (cd (n+2))) (h0:0<k) (hk:k≤1000):(jb c 74 (MD (dK s l t k d g) k T (aK (kz (fun i=>min (d i) T) k)))).Ok (cd (n+2)):=by
 refine jG hc (fun args H x hx=>?_)
 unfold MD at hx
 split at hx
 · split at hx
   · obtain ⟨⟨rfl,rfl⟩,h2⟩:=Tr.cY hx
     rw[← Tr.ab h2]
     exact Mv (n+1) s l k 1 t d g (fun i e=>min e _) _ h0 hk (fun i e L=>Pr n i e _ L _ _ _ _)
   · exact (Tr.ae hx).elim
 · exact (Tr.ae hx).elim
end
def w0 (f:Nat→Int) (j:Nat):Nat→Bool:=fun i=>decide (i<j) && decide (f i=0)
theorem L0 (f:Nat→Int) (j:Nat):w0 f j j=false:=by unfold w0;simp
theorem JY {f:Nat→Int} {j:Nat} (h:f j=0):w0 f (j+1)=ja (w0 f j) j:=by
 funext i
 unfold w0 ja
 by_cases e:i=j
 · subst e;rw[if_pos rfl];simp[h]
 · rw[if_neg e,decide_eq_decide.2 (show i<j+1↔i<j by omega)]
theorem Hv {f:Nat→Int} {j:Nat} (h:¬ f j=0):w0 f (j+1)=w0 f j:=by
 funext i
 unfold w0
 by_cases e:i=j
 · subst e;simp[h]
 · rw[decide_eq_decide.2 (show i<j+1↔i<j by omega)]
theorem Bh {l:Nat} {z:Nat→Int} {w:Nat→Bool} (hw:∀ i,i<l→w i=false):hW l z w=fun _=>false:=by
 funext k
 cases hk:hW l z w k with
 | false=>rfl
 | true =>
   obtain ⟨a,b,rfl⟩:=vR hk
   obtain ⟨i,h1,h2,_⟩:=iM.1 hk
   rw[hw i h1] at h2;cases h2
theorem Gq {l:Nat} {z:Nat→Int} {w:Nat→Bool} (hw:∀ i,i<l→w i=false):gW l z w=fun _=>0:=by
 funext k
 unfold gW
 rw[Bh hw];rfl
section
variable (n y s l k:Nat) (t d g z f:Nat→Int) (h T:Int) (G:aa)
theorem Ns (hl:l≤30):exec (bA n 85 118) (.block 0 (.loop (part Try.f85 [1,1,1,1,1,0,1,0,0]))) (ou y s l t k d g h 0) (bM (s+1) l t k d g T z f (fun _=>false) (fun _=>0) 0::G)=some (.normal,ou y s l t k d g h (Int.ofNat l)++[(41,.bool false)],bM (s+1) l t k d g T z f (hW l z (w0 f l)) (gW l z (w0 f l)) (cn (w0 f l) l)::G):=by
 have hw:∀ i,i<l→w0 f 0 i=false:=fun i _=>by unfold w0;simp
 suffices hx:exec (bA n 85 118) (.block 0 (.loop (part Try.f85 [1,1,1,1,1,0,1,0,0]))) (ou y s l t k d g h 0) (bM (s+1) l t k d g T z f (hW l z (w0 f 0)) (gW l z (w0 f 0)) (cn (w0 f 0) l)::G)=some (.normal,ou y s l t k d g h (Int.ofNat l)++[(41,.bool false)],bM (s+1) l t k d g T z f (hW l z (w0 f l)) (gW l z (w0 f l)) (cn (w0 f l) l)::G) from by
  rw[Bh (z:=z) hw,Gq (z:=z) hw,kr hw] at hx
  exact hx
 refine ot (n:=n) (f:=85) (nt:=118) (c:=part Try.f85 [1,1,1,1,1,0,1,0,0]) 0 (fun j=>ou y s l t k d g h (j:Nat)) (fun j=>bM (s+1) l t k d g T z f (hW l z (w0 f j)) (gW l z (w0 f j)) (cn (w0 f j) l)::G) l _ (by omega) (fun j hj=>?_) ?_
 · refine aO (LF n y s l k t d g z f (hW l z (w0 f j)) (gW l z (w0 f j)) (cn (w0 f j) l) h T (j:Nat) G) (aB _) (af _ _) (ag _ _) ?_
   show Tr.all _ (fun x=>_∧tidy _ _ _=(ou y s l t k d g h ((j+1:Nat):Int),bM (s+1) l t k d g T z f (hW l z (w0 f (j+1))) (gW l z (w0 f (j+1))) (cn (w0 f (j+1)) l)::G))
   rw[ft (j:=j) (by omega)]
   simp only[nj]
   by_cases e:f j=0
   · rw[JY e,← vQ hj,← zZ hj,← zK (z:=z) hj (L0 f j)]
     generalize hW l z (w0 f j)=A at *
     generalize gW l z (w0 f j)=B at *
     generalize cn (w0 f j) l=C at *
     exact wF
   · rw[Hv e]
     generalize hW l z (w0 f j)=A at *
     generalize gW l z (w0 f j)=B at *
     generalize cn (w0 f j) l=C at *
     exact wF
 · exact hJ (LF n y s l k t d g z f (hW l z (w0 f l)) (gW l z (w0 f l)) (cn (w0 f l) l) h T (Int.ofNat l) G) (aB _) (af _ _) (ag _ _) (by first | (simp (disch:=omega) only[nV,nW];done) | (simp (disch:=omega) only[nV,nW];omega))
end
end Go.Eng
end
