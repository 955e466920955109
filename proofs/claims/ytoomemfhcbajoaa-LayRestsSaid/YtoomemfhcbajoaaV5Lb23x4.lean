/- Lay: pick. -/
import Derived.Test.YtoomemfhcbajoaaV5Lb18x4
import Derived.Test.YtoomemfhcbajoaaV5EngRnFx5
import Derived.Test.YtoomemfhcbajoaaV5Lb14x7
set_option linter.unusedVariables false
set_option linter.unusedSimpArgs false
set_option maxRecDepth 100000
section
namespace Go.Eng
open Go.Proofs
noncomputable def rI (x y:Int):Nat×ai:=(0,.row (.I .i64 [x,y]))
noncomputable def f89:AV:=.fn (.func 89) [] []
noncomputable def HR (i:Nat) (x:Bool):ar:=[(0,.map 1 i),(1,f89),(4,.ptr 0 0 0 0),(6,.ptr 0 1 0 0),(7,.bool x)]
noncomputable def KR (i:Nat):ar:=[(0,.map 1 i),(1,f89),(4,.ptr 0 0 0 0),(6,.ptr 0 1 0 0),(7,.bool false),(9,.map 1 i),(10,.ptr 0 2 0 0)]
noncomputable def KS:ar:=[(1,f89),(4,.ptr 0 0 0 0),(6,.ptr 0 1 0 0),(7,.bool true),(10,.ptr 0 2 0 0)]
noncomputable def MU (L:Int→Int→Int→Int→Bool):List AV→Option (Prop×AV)
 | [.agg (.I .i64 [a,b]),.agg (.I .i64 [x,y])]=>some (True,.bool (L a b x y))
 | _=>none
theorem N5 (n i:Nat) (H:aa):aG (bx n 90 26) (il aK n 0) aO aP (Rf.cL [0] Rf.ey) (hints [(0,.map 1 i),(1,f89)]) (aD::H) =
 Tr.ok (Ex.normal,[(0,AV.map 1 i,none),(1,AV.fn (Fn.func 89) [] [],none),(4,AV.ptr 0 0 0 0,none)],{ lock:=false,bs:=[(0,ai.row (Row.I .i64 [Int.ofNat 0,Int.ofNat 0]))] } :: H):=by kernel_rfl
theorem SC (n:Nat) (a b x y:Int) (H:aa):bn Try.prog (cd n) 100000 89 Try.f89 (KtL.kt 89) (il aK n 0) aO aP [(.agg (.I .i64 [a,b]),none),(.agg (.I .i64 [x,y]),none)] H =
 Tr.ite (ba (cQ a x)) (Tr.ok ((AV.bool (cq a x),none),H)) (Tr.ok ((AV.bool (cq b y),none),H)):=by kernel_rfl
theorem N6 (n i:Nat) (H:aa):aG (bx n 90 26) (il aK n 0) aO aP (Rf.cL [1,0] Rf.ey) (hints [(0,.map 1 i),(1,f89),(4,.ptr 0 0 0 0)]) (⟨false,[rI 0 0]⟩::H) =
 Tr.ok (Ex.normal,[(0,AV.map 1 i,none),(1,AV.fn (Fn.func 89) [] [],none),(4,AV.ptr 0 0 0 0,none),(6,AV.ptr 0 1 0 0,none)],{ lock:=false,bs:=[(0,ai.row (Row.I .i64 [Int.ofNat 0,Int.ofNat 0])),(0,ai.row (Row.I .i64 [Int.ofNat 0,Int.ofNat 0]))] } :: H):=by kernel_rfl
theorem N7 (n i:Nat) (H:aa):aG (bx n 90 26) (il aK n 0) aO aP (Rf.cL [1,1,0] Rf.ey) (hints [(0,.map 1 i),(1,f89),(4,.ptr 0 0 0 0),(6,.ptr 0 1 0 0)]) (⟨false,[rI 0 0,rI 0 0]⟩::H) =
 Tr.ok (Ex.normal,[(0,AV.map 1 i,none),(1,AV.fn (Fn.func 89) [] [],none),(4,AV.ptr 0 0 0 0,none),(6,AV.ptr 0 1 0 0,none),(7,AV.bool false,some 1)],{ lock:=false,bs:=[(0,ai.row (Row.I .i64 [Int.ofNat 0,Int.ofNat 0])),(0,ai.row (Row.I .i64 [Int.ofNat 0,Int.ofNat 0]))] } :: H):=by kernel_rfl
theorem N8 (n i:Nat) (H:aa):Rf.cZ.Ls (bx n 90 26) (il aK n 0) (hints (HR i false)) (⟨false,[rI 0 0,rI 0 0]⟩::H) =
 Tr.ok ([(0,AV.map 1 i,none),(1,AV.fn (Fn.func 89) [] [],none),(4,AV.ptr 0 0 0 0,none),(6,AV.ptr 0 1 0 0,none),(7,AV.bool false,none),(9,AV.map 1 i,none)],{ lock:=false,bs:=[(0,ai.row (Row.I .i64 [Int.ofNat 0,Int.ofNat 0])),(0,ai.row (Row.I .i64 [Int.ofNat 0,Int.ofNat 0]))] } :: H):=by kernel_rfl
theorem Lp (n i:Nat) (R:aa) (a b v:Int):Rf.bz.s3 (bx n 90 26) (il aK n 0) aO aP 2 3 (.agg (.I .i64 [a,b]),.int .i64 v) (hints (KR i)) (⟨false,[rI 0 0,rI 0 0,(0,.dead)]⟩::R) =
 Tr.ite (ba false) (Tr.ok ([(1,AV.fn (Fn.func 89) [] [],none),(4,AV.ptr 0 0 0 0,none),(6,AV.ptr 0 1 0 0,none),(7,AV.bool true,some 1),(10,AV.ptr 0 2 0 0,none)],{ lock:=false,bs:=[(0,ai.row (Row.I .i64 [Int.ofNat 0,Int.ofNat 0])),(0,ai.row (Row.I .i64 [a,b])),(0,ai.dead)] } :: R)) Tr.bad:=by kernel_rfl
theorem H8 (n:Nat) (R:aa) (a b v x y:Int) (L:Int→Int→Int→Int→Bool):Rf.bz.s3 (bx n 90 26) (il (xC aK 89 (MU L)) n 0) aO aP 2 3 (.agg (.I .i64 [a,b]),.int .i64 v) (hints KS) (⟨false,[rI 0 0,rI x y,(0,.dead)]⟩::R) =
 (fun (Z0:aE)=>((fun (Z1:aU)=>Tr.ite (ba true) (Tr.ok (Z0,Z1::R)) (Tr.reqP True (Tr.ite (L a b x y) (Tr.ok (Z0,Z1::R)) (Tr.ok ([(1,AV.fn (Fn.func 89) [] [],none),(4,AV.ptr 0 0 0 0,none),(6,AV.ptr 0 1 0 0,none),(7,AV.bool true,none),(10,AV.ptr 0 2 0 0,none)],{ lock:=false,bs:=[(0,ai.row (Row.I .i64 [Int.ofNat 0,Int.ofNat 0])),(0,ai.row (Row.I .i64 [x,y])),(0,ai.dead)] } :: R))))) { lock:=false,bs:=[(0,ai.row (Row.I .i64 [Int.ofNat 0,Int.ofNat 0])),(0,ai.row (Row.I .i64 [a,b])),(0,ai.dead)] })) [(1,AV.fn (Fn.func 89) [] [],none),(4,AV.ptr 0 0 0 0,none),(6,AV.ptr 0 1 0 0,none),(7,AV.bool true,some 1),(10,AV.ptr 0 2 0 0,none)]:=by kernel_rfl
theorem Ln (n i:Nat) (R:aa):Rf.bz.yp (bx n 90 26) (il aK n 0) (hints (KR i)) (⟨false,[rI 0 0,rI 0 0,(0,.dead)]⟩::R) =
 Tr.ok ([(0,AV.map 1 i,none),(1,AV.fn (Fn.func 89) [] [],none),(4,AV.ptr 0 0 0 0,none),(6,AV.ptr 0 1 0 0,none),(7,AV.bool false,none),(9,AV.map 1 i,none),(10,AV.ptr 0 2 0 0,none),(11,AV.tup [AV.bool false],none),(12,AV.bool false,none)],{ lock:=false,bs:=[(0,ai.row (Row.I .i64 [Int.ofNat 0,Int.ofNat 0])),(0,ai.row (Row.I .i64 [Int.ofNat 0,Int.ofNat 0])),(0,ai.dead)] } :: R):=by kernel_rfl
theorem Lo (n:Nat) (R:aa) (x y:Int):Rf.bz.yp (bx n 90 26) (il aK n 0) (hints KS) (⟨false,[rI 0 0,rI x y,(0,.dead)]⟩::R) =
 Tr.ok ([(1,AV.fn (Fn.func 89) [] [],none),(4,AV.ptr 0 0 0 0,none),(6,AV.ptr 0 1 0 0,none),(7,AV.bool true,none),(10,AV.ptr 0 2 0 0,none),(11,AV.tup [AV.bool false],none),(12,AV.bool false,none)],{ lock:=false,bs:=[(0,ai.row (Row.I .i64 [Int.ofNat 0,Int.ofNat 0])),(0,ai.row (Row.I .i64 [x,y])),(0,ai.dead)] } :: R):=by kernel_rfl
theorem Lq (n i:Nat) (R:aa):aG (bx n 90 26) (il aK n 0) aO aP Rf.pick.suf (hints (KR i++[(11,.tup [.bool false]),(12,.bool false)])) (⟨false,[rI 0 0,rI 0 0,(0,.dead)]⟩::R) =
 Tr.ok (Ex.ret,[(4,AV.ptr 0 0 0 0,none),(5,AV.bool false,none)],{ lock:=false,bs:=[(0,ai.row (Row.I .i64 [Int.ofNat 0,Int.ofNat 0])),(0,ai.row (Row.I .i64 [Int.ofNat 0,Int.ofNat 0])),(0,ai.dead)] } :: R):=by kernel_rfl
theorem Lr (n:Nat) (R:aa) (x y:Int):aG (bx n 90 26) (il aK n 0) aO aP Rf.pick.suf (hints (KS++[(11,.tup [.bool false]),(12,.bool false)])) (⟨false,[rI 0 0,rI x y,(0,.dead)]⟩::R) =
 Tr.ok (Ex.ret,[(4,AV.ptr 0 0 0 0,none),(5,AV.bool true,none)],{ lock:=false,bs:=[(0,ai.row (Row.I .i64 [x,y])),(0,ai.row (Row.I .i64 [x,y])),(0,ai.dead)] } :: R):=by kernel_rfl
def eW (a b x y:Int):Bool:=if a=x then decide (b<y) else decide (a<x)
theorem P6 (n:Nat) (a b x y:Int) (H:aa):cd (n+1) (.fn 89) [.agg (.I .i64 [a,b]),.agg (.I .i64 [x,y])] H=some (.bool (eW a b x y),H):=by
 refine aS (n:=n) Try.func89 rfl rfl rfl (SC n a b x y H) (aw _) (af _ _) (ag _ _) ?_
 rw[eY,eY]
 unfold eW
 by_cases c:a=x
 · rw[if_pos c]
   exact wF
 · rw[if_neg c]
   exact wF
theorem Er (n:Nat):(xC aK 89 (MU eW)).Ok (cd (n+1)):=by
 refine np (aR _) (fun args p v hg hp H=>?_)
 unfold MU at hg
 split at hg
 · simp only[nP] at hg
   obtain ⟨_,rfl⟩:=hg
   exact P6 n _ _ _ _ H
 · cases hg
def BM (o:Option (Int×Int)) (e:Int×Int×Int):Option (Int×Int) :=
 match o with
 | none=>some (e.1,e.2.1)
 | some m=>if eW e.1 e.2.1 m.1 m.2=true then some (e.1,e.2.1) else some m
noncomputable def Ka (e:Int×Int×Int):AV×AV:=(.agg (.I .i64 [e.1,e.2.1]),.int .i64 e.2.2)
noncomputable def DB (i:Nat) (o:Option (Int×Int)):ar×aU :=
 match o with
 | none=>(KR i,⟨false,[rI 0 0,rI 0 0,(0,.dead)]⟩)
 | some m=>(KS,⟨false,[rI 0 0,rI m.1 m.2,(0,.dead)]⟩)
theorem Fo {L:bp} {cx:Cx} {callR:bE} {bl:gv} {rg:ri} {k n:Nat} {kv:AV×AV} {fr fr':ar} {l l':aU} {R:aa} {T:Tr (aE×aa)} (e:L.s3 cx callR bl rg k n kv (hints fr) (l::R)=T) (hC:callR.Ok cx.call) (hB:bl.Ok cx L.rest) (hR:rg.Ok cx L.rest)
 (h:T.all fun y=>strip y.1=fr'∧y.2=l'::R):dN L cx k n R kv (fr,l)=some (fr',l'):=by
 obtain ⟨y,h1,h2,h3⟩:=h
 have:=bp.Dl hC hB hR (by rw[e];exact h1)
 rw[g8,h2,h3] at this
 unfold dN
 rw[this]
theorem Ob (n i:Nat) (R:aa) (o:Option (Int×Int)) (e:Int×Int×Int):dN Rf.bz (bx (n+1) 90 26) 2 3 R (Ka e) (DB i o)=some (DB i (BM o e)):=by
 obtain ⟨a,b,v⟩:=e
 cases o with
 | none =>
   refine Fo (Lp (n+1) i R a b v) (aw _) (af _ _) (ag _ _) ?_
   exact wF
 | some m =>
   obtain ⟨x,y⟩:=m
   have hm:BM (some (x,y)) (a,b,v)=if eW a b x y=true then some (a,b) else some (x,y):=rfl
   rw[hm]
   by_cases c:eW a b x y=true
   · rw[if_pos c]
     refine Fo (H8 (n+1) R a b v x y eW) (aX _ (n+1) (Er n)) (af _ _) (ag _ _) ?_
     rw[c]
     exact wF
   · rw[if_neg c]
     refine Fo (H8 (n+1) R a b v x y eW) (aX _ (n+1) (Er n)) (af _ _) (ag _ _) ?_
     rw[show eW a b x y=false by cases h:eW a b x y with
      | true=>exact absurd h c
      | false=>rfl]
     exact wF
theorem Eh (n i:Nat) (R:aa):∀ (l:List (Int×Int×Int)) (o:Option (Int×Int)),fb Rf.bz (bx (n+1) 90 26) 2 3 R (l.map Ka) (DB i o)=some (DB i (l.foldl BM o))
 | [],o=>rfl
 | e::l,o=>by
   show (match dN Rf.bz (bx (n+1) 90 26) 2 3 R (Ka e) (DB i o) with
    | some t=>fb Rf.bz (bx (n+1) 90 26) 2 3 R (l.map Ka) t
    | none=>none)=_
   rw[Ob]
   exact Eh n i R l (BM o e)
noncomputable def Gi (i:Nat) (o:Option (Int×Int)):ar×aU :=
 match o with
 | none=>(KR i++[(11,.tup [.bool false]),(12,.bool false)],⟨false,[rI 0 0,rI 0 0,(0,.dead)]⟩)
 | some m=>(KS++[(11,.tup [.bool false]),(12,.bool false)],⟨false,[rI 0 0,rI m.1 m.2,(0,.dead)]⟩)
theorem Bz {L:bp} {cx:Cx} {callR:bE} {fr:ar} {H:aa} {T:Tr (aE×aa)} (e:L.yp cx callR (hints fr) H=T) (hC:callR.Ok cx.call) {y:ar×aa} (h:T.all fun z=>(strip z.1,z.2)=y):L.last cx fr H=some y:=by
 obtain ⟨z,h1,rfl⟩:=h
 have:=bp.ED hC (by rw[e];exact h1)
 rw[g8] at this;exact this
theorem NN (n i:Nat) (R:aa) (o:Option (Int×Int)):Rf.bz.last (bx n 90 26) (DB i o).1 ((DB i o).2::R)=some ((Gi i o).1,(Gi i o).2::R):=by
 cases o with
 | none=>exact Bz (Ln n i R) (aw _) (Tr.bg rfl)
 | some m=>exact Bz (Lo n R m.1 m.2) (aw _) (Tr.bg rfl)
theorem EH (a b:Int):eW a b a b=false:=by unfold eW;rw[if_pos rfl];exact decide_eq_false (by omega)
theorem yu {a b x y:Int} (h1:eW a b x y=false) (h2:eW x y a b=false):a=x∧b=y:=by
 unfold eW at h1 h2
 by_cases c:a=x
 · rw[if_pos c] at h1
   rw[if_pos c.symm] at h2
   simp only[decide_eq_false_iff_not] at h1 h2
   omega
 · rw[if_neg c] at h1
   rw[if_neg (fun e=>c e.symm)] at h2
   simp only[decide_eq_false_iff_not] at h1 h2
   omega
theorem oO (a b x y:Int):eW a b x y=true↔a<x∨(a=x∧b<y):=by
 unfold eW
 by_cases c:a=x
 · rw[if_pos c,decide_eq_true_eq];omega
 · rw[if_neg c,decide_eq_true_eq];omega
theorem yt {a b x y u v:Int} (h1:eW a b x y=false) (h2:eW u v x y=true):eW a b u v=false:=by
 cases c:eW a b u v with
 | false=>rfl
 | true =>
   exfalso
   have c:=(oO _ _ _ _).1 c
   have h2:=(oO _ _ _ _).1 h2
   have:eW a b x y=true:=(oO _ _ _ _).2 (by omega)
   rw[h1] at this;cases this
theorem BN:∀ (l:List (Int×Int×Int)) (o:Option (Int×Int)),(l.foldl BM o=none↔o=none∧l=[])∧∀ m,l.foldl BM o=some m→((o=some m∨∃ e ∈ l,(e.1,e.2.1)=m)∧(∀ e ∈ l,eW e.1 e.2.1 m.1 m.2=false)∧∀ p,o=some p→eW p.1 p.2 m.1 m.2=false)
 | [],o=>⟨⟨fun h=>⟨h,rfl⟩,fun h=>h.1⟩,fun m hm=>⟨.inl hm,fun e he=>(by cases he),fun p hp=>(by
   have hm:o=some m:=hm
   rw[hm] at hp;cases hp;exact EH _ _)⟩⟩
 | e :: l, o=>by
   obtain ⟨i1,i2⟩:=BN l (BM o e)
   have hne:BM o e≠none:=by unfold BM;split<;>(try split)<;>simp
   refine ⟨⟨fun h=>absurd (i1.1 h).1 hne,fun h=>by cases h.2⟩,fun m hm=>?_⟩
   obtain ⟨j1,j2,j3⟩:=i2 m hm
   have hk:(BM o e=some (e.1,e.2.1)∧∀ p,o=some p→eW e.1 e.2.1 p.1 p.2=true)∨∃ p,o=some p∧BM o e=some p∧eW e.1 e.2.1 p.1 p.2=false:=by
    cases o with
    | none=>exact .inl ⟨rfl,fun p hp=>by cases hp⟩
    | some p =>
      have hx:BM (some p) e=if eW e.1 e.2.1 p.1 p.2=true then some (e.1,e.2.1) else some p:=rfl
      by_cases c:eW e.1 e.2.1 p.1 p.2=true
      · rw[if_pos c] at hx
        exact .inl ⟨hx,fun q hq=>by cases hq;exact c⟩
      · rw[if_neg c] at hx
        exact .inr ⟨p,rfl,hx,by cases h:eW e.1 e.2.1 p.1 p.2 with
         | true=>exact absurd h c
         | false=>rfl⟩
   rcases hk with ⟨h1,h2⟩ | ⟨p,rfl,h1,h2⟩
   · have h3:=j3 _ h1
     refine ⟨.inr ?_,fun x hx=>?_,fun p hp=>?_⟩
     · rcases j1 with j1 | ⟨x,hx,rfl⟩
       · rw[h1] at j1
         exact ⟨e,by simp,Option.some.inj j1⟩
       · exact ⟨x,by simp[hx],rfl⟩
     · rcases List.mem_cons.1 hx with rfl | hx
       · exact h3
       · exact j2 x hx
     · have h4:=h2 p hp
       cases c:eW p.1 p.2 m.1 m.2 with
       | false=>rfl
       | true =>
         exfalso
         have:=yt (a:=e.1) (b:=e.2.1) (x:=m.1) (y:=m.2) (u:=p.1) (v:=p.2) h3 c
         rw[h4] at this;cases this
   · have h3:=j3 _ h1
     refine ⟨?_,fun x hx=>?_,fun q hq=>by cases hq;exact h3⟩
     · rcases j1 with j1 | ⟨x,hx,rfl⟩
       · rw[h1] at j1;exact .inl j1
       · exact .inr ⟨x,by simp[hx],rfl⟩
     · rcases List.mem_cons.1 hx with rfl | hx
       · cases c:eW x.1 x.2.1 m.1 m.2 with
         | false=>rfl
         | true =>
           exfalso
           have:=yt (a:=p.1) (b:=p.2) (x:=m.1) (y:=m.2) (u:=x.1) (v:=x.2.1) h3 c
           have h5:=yu this h2
           rw[h5.1,h5.2,c] at h3;cases h3
       · exact j2 x hx
theorem yK:∀ (n:Nat) (vs:List Nat),vs.Nodup→(∀ j ∈ vs,j<n)→vs.length≤n
 | 0,vs,_,h=>by
   cases vs with
   | nil=>exact Nat.le_refl _
   | cons a r=>have:=h a (by simp);omega
 | n+1,vs,hn,h=>by
   have h1:=yK n (vs.erase n) (hn.erase n) (fun j hj=>by
    rw[hn.mem_erase_iff] at hj
    have:=h j hj.2
    omega)
   rw[List.length_erase] at h1
   split at h1<;>omega
theorem Gp {vs:List Nat} {n:Nat} (hn:vs.Nodup) (hl:vs.length=n) (hb:∀ j ∈ vs,j<n) {j:Nat} (hj:j<n):j ∈ vs:=by
 apply Classical.byContradiction
 intro hc
 have:=yK n (j::vs) (List.nodup_cons.2 ⟨hc,hn⟩) (fun i hi=>by
  rcases List.mem_cons.1 hi with rfl | hi
  · exact hj
  · exact hb i hi)
 simp only[List.length_cons] at this
 omega
theorem KD {es:List (AV×AV)} {h:List Int→Bool} {g:List Int→Int} {c:Nat} (hE:vE (.str 2) es h g c):∀ vs:List Nat,(∀ j ∈ vs,j<es.length) →
 ∃ l:List (Int×Int×Int),(vs.map fun j=>(es.map fun e=>(fm (0+1) e.1,fm (0+1) e.2)).getD j (.undef,.undef))=l.map Ka∧(∀ e ∈ l,h [e.1,e.2.1]=true)∧(∀ j ∈ vs,∀ n,(es.getD j (.undef,.undef)).1=dG (.str 2) n→∃ e ∈ l,n=[e.1,e.2.1])∧l.length=vs.length
 | [],_=>⟨[],rfl,fun e he=>(by cases he),fun j hj=>(by cases hj),rfl⟩
 | j :: vs,hv=>by
   obtain ⟨l,l1,l2,l3,l4⟩:=KD hE vs (fun i hi=>hv i (List.mem_cons_of_mem _ hi))
   have hj:=hv j (by simp)
   obtain ⟨n,e1,e2⟩:=hE.ent j hj
   have hf:=hE.fit e2
   have hlen:n.length=2:=Nat.eq_of_beq_eq_true hf
   obtain ⟨a,b,rfl⟩:∃ a b,n=[a,b]:=by
    match n,hlen with
    | [a,b],_=>exact ⟨a,b,rfl⟩
   refine ⟨(a,b,g [a,b])::l,?_,fun e he=>?_,fun i hi n' hn'=>?_,by simp[l4]⟩
   · rw[List.map_cons,List.map_cons,l1]
     congr 1
     have:(es.map fun e=>(fm (0+1) e.1,fm (0+1) e.2)).getD j (.undef,.undef)=(fm (0+1) (es.getD j (.undef,.undef)).1,fm (0+1) (es.getD j (.undef,.undef)).2):=by
      simp[List.getD_eq_getElem?_getD,List.getElem?_eq_getElem hj]
     rw[this,e1];rfl
   · rcases List.mem_cons.1 he with rfl | he
     · exact e2
     · exact l2 e he
   · rcases List.mem_cons.1 hi with rfl | hi
     · rw[e1] at hn'
       have hn':dG (.str 2) [a,b]=dG (.str 2) n':=hn'
       have:[a,b]=n':=by unfold dG at hn';simpa using hn'
       exact ⟨(a,b,g [a,b]),by simp,this.symm⟩
     · obtain ⟨e,he,h'⟩:=l3 i hi n' hn'
       exact ⟨e,by simp[he],h'⟩
def vF (h:List Int→Bool) (o:Option (Int×Int)):Prop :=
 match o with
 | none=>∀ a b,h [a,b]=false
 | some m=>h [m.1,m.2]=true∧∀ a b,h [a,b]=true→eW a b m.1 m.2=false
theorem Gn {es:List (AV×AV)} {h:List Int→Bool} {g:List Int→Int} {c:Nat} (hE:vE (.str 2) es h g c) {o:Option (Int×Int)} (ho:vF h o) {vs:List Nat} (v1:vs.Nodup) (v2:vs.length=es.length) (v3:∀ j ∈ vs,j<es.length) :
 ∃ l:List (Int×Int×Int),(vs.map fun j=>(es.map fun e=>(fm (0+1) e.1,fm (0+1) e.2)).getD j (.undef,.undef))=l.map Ka∧l.foldl BM none=o:=by
 obtain ⟨l,l1,l2,l3,l4⟩:=KD hE vs v3
 refine ⟨l,l1,?_⟩
 obtain ⟨s1,s2⟩:=BN l none
 have cov:∀ a b,h [a,b]=true→∃ e ∈ l,(a,b)=(e.1,e.2.1):=fun a b hab=>by
  obtain ⟨_,j,j1,j2⟩:=hE.all _ hab
  obtain ⟨e,he,e2⟩:=l3 j (Gp v1 v2 v3 j1) _ j2
  refine ⟨e,he,?_⟩
  simp only[List.cons.injEq,and_true] at e2
  rw[e2.1,e2.2]
 cases o with
 | none =>
   cases l with
   | nil=>rfl
   | cons e l =>
     have:=l2 e (by simp)
     rw[ho] at this;cases this
 | some m =>
   obtain ⟨h1,h2⟩:=ho
   obtain ⟨e,he,e2⟩:=cov m.1 m.2 h1
   cases hf:l.foldl BM none with
   | none =>
     have:=(s1.1 hf).2
     rw[this] at he;cases he
   | some m' =>
     obtain ⟨t1,t2,_⟩:=s2 m' hf
     rcases t1 with t1 | ⟨x,hx,rfl⟩
     · cases t1
     have a1:=t2 e he
     have a2:=h2 x.1 x.2.1 (l2 x hx)
     rw[← (Prod.mk.inj e2).1,← (Prod.mk.inj e2).2] at a1
     obtain ⟨b1,b2⟩:=yu a1 a2
     have e5:(x.1,x.2.1)=m:=Prod.ext b1.symm b2.symm
     rw[e5]
noncomputable def N9 (o:Option (Int×Int)):AV :=
 match o with
 | none=>.tup [.agg (.I .i64 [0,0]),.bool false]
 | some m=>.tup [.agg (.I .i64 [m.1,m.2]),.bool true]
section
variable (n i:Nat) (H:aa)
theorem OZ (o:Option (Int×Int)):∃ b,exec (bx n 90 26) Rf.pick.suf (Gi i o).1 ((Gi i o).2::H)=some (.ret,[(4,.ptr 0 0 0 0),(5,.bool b)],⟨false,[rI (o.getD (0,0)).1 (o.getD (0,0)).2,rI (o.getD (0,0)).1 (o.getD (0,0)).2,(0,.dead)]⟩::H)∧b=o.isSome:=by
 cases o with
 | none =>
   obtain ⟨x,hx,rfl⟩:=aF (Q:=fun x=>x=(.ret,[(4,.ptr 0 0 0 0),(5,.bool false)],(⟨false,[rI 0 0,rI 0 0,(0,.dead)]⟩:aU)::H)) (Lq n i H) (aw n) (af _ _) (ag _ _) (Tr.bg rfl)
   exact ⟨false,hx,rfl⟩
 | some m =>
   obtain ⟨x,hx,rfl⟩:=aF (Q:=fun x=>x=(.ret,[(4,.ptr 0 0 0 0),(5,.bool true)],(⟨false,[rI m.1 m.2,rI m.1 m.2,(0,.dead)]⟩:aU)::H)) (Lr n H m.1 m.2) (aw n) (af _ _) (ag _ _) (Tr.bg rfl)
   exact ⟨true,hx,rfl⟩
theorem Hg {h:List Int→Bool} {g:List Int→Int} {c:Nat} {es:List (AV×AV)} (hg:aq H 0 i=(0,.fmap (.str 2) h g c)) (hE:vE (.str 2) es h g c) {o:Option (Int×Int)} (ho:vF h o) :
 ka (bx (n+1) 90 26) Rf.cZ Rf.bz (HR i false) (⟨false,[rI 0 0,rI 0 0]⟩::H)=some ((Gi i o).1,(Gi i o).2::H):=by
 have hp:dw (bx (n+1) 90 26).P (bx (n+1) 90 26).nt (bx (n+1) 90 26).call Rf.cZ.ops0 Rf.cZ.pre (HR i false) (⟨false,[rI 0 0,rI 0 0]⟩::H)=some ([(0,.map 1 i),(1,f89),(4,.ptr 0 0 0 0),(6,.ptr 0 1 0 0),(7,.bool false),(9,.map 1 i)],⟨false,[rI 0 0,rI 0 0]⟩::H):=by
  have:=cK.Hd (S:=Rf.cZ) (cx:=bx (n+1) 90 26) (callR:=il aK (n+1) 0) (aw _) (fr:=hints (HR i false)) (H:=⟨false,[rI 0 0,rI 0 0]⟩::H) (by rw[N8];rfl)
  rw[g8] at this
  exact this
 have hg1:aq ((⟨false,[rI 0 0,rI 0 0]⟩:aU)::H) 1 i=(0,.fmap (.str 2) h g c):=hg
 have hm:Rf.cZ.m=9:=rfl
 have hit:Rf.bz.it=10:=rfl
 have r1:me (bx (n+1) 90 26) Rf.cZ Rf.bz (HR i false) (⟨false,[rI 0 0,rI 0 0]⟩::H)=none:=by
  unfold me
  rw[hp];rfl
 have r2:kd (bx (n+1) 90 26) Rf.cZ Rf.bz (HR i false) (⟨false,[rI 0 0,rI 0 0]⟩::H)=none:=by
  unfold kd
  rw[hp]
  show (match aq ((⟨false,[rI 0 0,rI 0 0]⟩:aU)::H) 1 i with
   | (0,.map es)=>_
   | _=>none)=none
  rw[hg1];rfl
 have hends:xt (bx (n+1) 90 26) Rf.bz 0 2 (az H) (DB i none) (.str 2) h g c (Gi i o):=by
  refine ⟨rfl,fun es hE vs v1 v2 v3=>?_⟩
  obtain ⟨l,l1,l2⟩:=Gn hE ho v1 v2 v3
  refine ⟨DB i o,?_,NN (n+1) i _ o⟩
  rw[l1,Eh,l2]
 have r3:ke (bx (n+1) 90 26) Rf.cZ Rf.bz (HR i false) (⟨false,[rI 0 0,rI 0 0]⟩::H)=some ((Gi i o).1,(Gi i o).2::H):=by
  unfold ke
  rw[hp]
  show (match aq ((⟨false,[rI 0 0,rI 0 0]⟩:aU)::H) 1 i with
   | (0,.fmap q h g c)=>@dite _ (∃ y,xt (bx (n+1) 90 26) Rf.bz 0 2 (az H) (DB i none) q h g c y) (Classical.propDecidable _) (fun hx=>some ((Classical.choose hx).1,(Classical.choose hx).2::H)) (fun _=>none)
   | _=>none)=_
  rw[hg1]
  refine (dif_pos (show ∃ y,xt (bx (n+1) 90 26) Rf.bz 0 2 (az H) (DB i none) (.str 2) h g c y from ⟨_,hends⟩)).trans ?_
  have hc:=Classical.choose_spec (show ∃ y,xt (bx (n+1) 90 26) Rf.bz 0 2 (az H) (DB i none) (.str 2) h g c y from ⟨_,hends⟩)
  obtain ⟨s1,e1,e2⟩:=hc.2 es hE (List.range es.length) List.nodup_range (by simp) (fun j hj=>by simpa using hj)
  obtain ⟨s2,f1,f2⟩:=hends.2 es hE (List.range es.length) List.nodup_range (by simp) (fun j hj=>by simpa using hj)
  rw[e1] at f1
  obtain rfl:=Option.some.inj f1
  rw[e2] at f2
  simp only[Option.some.injEq,Prod.mk.injEq,List.cons.injEq,and_true] at f2
  rw[f2.1,f2.2]
 unfold ka kb
 rw[r1,r2,r3]
theorem P7 {h:List Int→Bool} {g:List Int→Int} {c:Nat} {es:List (AV×AV)} (hg:aq H 0 i=(0,.fmap (.str 2) h g c)) (hE:vE (.str 2) es h g c) {o:Option (Int×Int)} (ho:vF h o) :
 cd (n+2) (.fn 90) [.map 0 i,f89] H=some (N9 o,H):=by
 have e26:Try.f90.ntmps=26:=by kernel_rfl
 have er:Try.f90.results.toList=Try.f90.results.toList:=rfl
 obtain ⟨xa,ha,rfl⟩:=aF (Q:=fun x=>x=(.normal,[(0,.map 1 i),(1,f89),(4,.ptr 0 0 0 0)],(⟨false,[rI 0 0]⟩:aU)::H)) (N5 (n+1) i H) (aw _) (af _ _) (ag _ _) (Tr.bg rfl)
 obtain ⟨xb,hb,rfl⟩:=aF (Q:=fun x=>x=(.normal,[(0,.map 1 i),(1,f89),(4,.ptr 0 0 0 0),(6,.ptr 0 1 0 0)],(⟨false,[rI 0 0,rI 0 0]⟩:aU)::H)) (N6 (n+1) i H) (aw _) (af _ _) (ag _ _) (Tr.bg rfl)
 obtain ⟨xc,hc,rfl⟩:=aF (Q:=fun x=>x=(.normal,HR i false,(⟨false,[rI 0 0,rI 0 0]⟩:aU)::H)) (N7 (n+1) i H) (aw _) (af _ _) (ag _ _) (Tr.bg rfl)
 have hr:=Hg n i H hg hE ho
 obtain ⟨b,hs,hbb⟩:=OZ (n+1) i H o
 have hpc:fk (bx (n+1) 90 26) Rf.pick.S Rf.pick.L Rf.pick.suf Rf.pick.pre [(0,.map 1 i),(1,f89)] (aD::H)=some (.ret,[(4,.ptr 0 0 0 0),(5,.bool b)],⟨false,[rI (o.getD (0,0)).1 (o.getD (0,0)).2,rI (o.getD (0,0)).1 (o.getD (0,0)).2,(0,.dead)]⟩::H):=by
  show fk (bx (n+1) 90 26) Rf.cZ Rf.bz Rf.pick.suf [Rf.cL [0] Rf.ey,Rf.cL [1,0] Rf.ey,Rf.cL [1,1,0] Rf.ey] _ _=_
  unfold fk
  rw[df,ha]
  dsimp only
  unfold fk
  rw[df,hb]
  dsimp only
  unfold fk
  rw[df,hc]
  dsimp only
  unfold fk
  rw[hr]
  dsimp only
  rw[df]
  exact hs
 have ho2:sP (cd (n+1)) 90 [.map 0 i,f89] H=some (N9 o,H):=by
  show sV Try.prog KtL.kt 100000 Rf.pick (cd (n+1)) [.map 0 i,f89] H=_
  unfold sV
  rw[show Try.prog.funcs[Rf.pick.f]?=some Try.f90 from Try.func90]
  dsimp only
  rw[if_pos (by rw[e26];rfl),e26]
  rw[show fk (⟨Try.prog,cd (n+1),100000,Rf.pick.f,26,KtL.kt Rf.pick.f,none⟩:Cx) Rf.pick.S Rf.pick.L Rf.pick.suf Rf.pick.pre (fT 0 [.map 0 i,f89]) (⟨false,[]⟩::H)=_ from hpc]
  dsimp only
  rw[hbb]
  cases o with
  | none=>kernel_rfl
  | some m=>kernel_rfl
 unfold cd
 rw[show cT Try.prog sP KtL.kt 100000 (n+1+1) (.fn 90) [.map 0 i,f89] H=(match sP (cd (n+1)) 90 [.map 0 i,f89] H with
  | some r=>some r
  | none=>_) from rfl,ho2]
end
end Go.Eng
end
section
namespace Go.Eng
def hW (l:Nat) (z:Nat→Int) (w:Nat→Bool):List Int→Bool:=fun k=>match k with
 | [a,b]=>decide (0≤b∧b<l) && (w b.toNat && decide (a=z b.toNat))
 | _=>false
def gW (l:Nat) (z:Nat→Int) (w:Nat→Bool):List Int→Int:=fun k=>if hW l z w k=true then 1 else 0
theorem iU {l:Nat} {z:Nat→Int} {w:Nat→Bool} {a b:Int}:hW l z w [a,b]=true↔∃ i:Nat,i<l∧w i=true∧b=i∧a=z i:=by
 show (decide (0≤b∧b<l) && (w b.toNat && decide (a=z b.toNat)))=true↔_
 simp only[Bool.and_eq_true,decide_eq_true_eq]
 constructor
 · rintro ⟨⟨h1,h2⟩,h3,h4⟩
   exact ⟨b.toNat,by omega,h3,by omega,h4⟩
 · rintro ⟨i,h1,h2,rfl,rfl⟩
   refine ⟨by omega,?_,?_⟩
   · rw[Int.toNat_natCast];exact h2
   · rw[Int.toNat_natCast]
theorem v5 {l:Nat} {z:Nat→Int} {w:Nat→Bool} {k:List Int} (h:hW l z w k=true):∃ a b,k=[a,b]:=by
 unfold hW at h
 split at h
 · exact ⟨_,_,rfl⟩
 · cases h
theorem uy (w:Nat→Bool):∀ l,((List.range l).filter w).length=cn w l
 | 0=>rfl
 | l+1=>by
   rw[List.range_succ,List.filter_append,List.length_append,uy w l]
   show _=cn w l+(w l).toNat
   cases h:w l<;>simp[List.filter_cons,h]
theorem Qc (l:Nat) (z:Nat→Int) (w:Nat→Bool):∃ es,vE (.str 2) es (hW l z w) (gW l z w) (cn w l):=by
 refine ⟨((List.range l).filter w).map fun i=>(dG (.str 2) [z i,(i:Int)],.int .i64 1),?_,fun j hj=>?_,fun n hn=>?_,fun n hn=>?_,fun i j hi hj e=>?_⟩
 · rw[List.length_map,uy]
 · simp only[List.length_map] at hj
   have hm:((List.range l).filter w)[j] ∈ (List.range l).filter w:=List.getElem_mem hj
   generalize he:((List.range l).filter w)[j]=i at hm
   rw[List.mem_filter,List.mem_range] at hm
   refine ⟨[z i,(i:Int)],?_,iU.2 ⟨i,hm.1,hm.2,rfl,rfl⟩⟩
   have hg:gW l z w [z i,(i:Int)]=1:=by unfold gW;rw[if_pos (iU.2 ⟨i,hm.1,hm.2,rfl,rfl⟩)]
   rw[hg,List.getD_eq_getElem?_getD,List.getElem?_map,List.getElem?_eq_getElem hj,he];rfl
 · obtain ⟨a,b,rfl⟩:=v5 hn
   obtain ⟨i,h1,h2,rfl,rfl⟩:=iU.1 hn
   refine ⟨rfl,?_⟩
   have hm:i ∈ (List.range l).filter w:=List.mem_filter.2 ⟨List.mem_range.2 h1,h2⟩
   obtain ⟨j,hj,he⟩:=List.getElem_of_mem hm
   refine ⟨j,by rw[List.length_map];exact hj,?_⟩
   rw[List.getD_eq_getElem?_getD,List.getElem?_map,List.getElem?_eq_getElem hj,he];rfl
 · unfold gW
   rw[if_neg (by rw[hn];decide)]
 · simp only[List.length_map] at hi hj
   rw[List.getD_eq_getElem?_getD,List.getElem?_map,List.getElem?_eq_getElem hi,List.getD_eq_getElem?_getD,List.getElem?_map,List.getElem?_eq_getElem hj] at e
   have e:dG (.str 2) [z (((List.range l).filter w)[i]),((((List.range l).filter w)[i]:Nat):Int)]=dG (.str 2) [z (((List.range l).filter w)[j]),((((List.range l).filter w)[j]:Nat):Int)]:=e
   unfold dG at e
   simp only[AV.agg.injEq,Row.I.injEq,List.cons.injEq,and_true,true_and] at e
   have hn:((List.range l).filter w).Nodup:=List.nodup_range.filter _
   have hp:=List.pairwise_iff_getElem.1 hn
   rcases Nat.lt_trichotomy i j with c | c | c
   · exact absurd (by omega) (hp i j hi hj c)
   · exact c
   · exact absurd (by omega) (hp j i hj hi c)
theorem Jk (l:Nat) (z:Nat→Int) (w:Nat→Bool):vF (hW l z w) ((kn z w l).map fun i=>(z i,(i:Int))):=by
 have h:=j8 z w l
 cases hm:kn z w l with
 | none =>
   rw[hm] at h
   intro a b
   cases c:hW l z w [a,b] with
   | false=>rfl
   | true =>
     obtain ⟨i,h1,h2,_⟩:=iU.1 c
     have:=h i h1
     rw[h2] at this;cases this
 | some i =>
   rw[hm] at h
   obtain ⟨h1,h2,h3⟩:=h
   refine ⟨iU.2 ⟨i,h1,h2,rfl,rfl⟩,fun a b hab=>?_⟩
   obtain ⟨j,j1,j2,rfl,rfl⟩:=iU.1 hab
   have:=h3 j j1 j2
   cases c:eW (z j) (j:Int) (z i) (i:Int) with
   | false=>rfl
   | true =>
     have:=(oO _ _ _ _).1 c
     exfalso
     omega
theorem vZ {l:Nat} {z:Nat→Int} {w:Nat→Bool} {c:Nat} (hc:c<l):mg (hW l z w) [z c,(c:Int)] true=hW l z (ji w c):=by
 rw[mh]
 funext k
 show (if k=[z c,(c:Int)] then true else hW l z w k)=hW l z (ji w c) k
 by_cases e:k=[z c,(c:Int)]
 · subst e
   rw[if_pos rfl]
   exact (iU.2 ⟨c,hc,by unfold ji;rw[if_pos rfl],rfl,rfl⟩).symm
 · rw [if_neg e]
   by_cases hk:∃ a b,k=[a,b]
   · obtain ⟨a,b,rfl⟩:=hk
     rw[Bool.eq_iff_iff,iU,iU]
     constructor
     · rintro ⟨i,h1,h2,rfl,rfl⟩
       exact ⟨i,h1,by unfold ji;split<;>first | rfl | exact h2,rfl,rfl⟩
     · rintro ⟨i,h1,h2,rfl,rfl⟩
       unfold ji at h2
       by_cases ei:i=c
       · subst ei;exact absurd rfl e
       · rw[if_neg ei] at h2
         exact ⟨i,h1,h2,rfl,rfl⟩
   · have f:∀ w,hW l z w k=false:=fun w=>by
      cases h:hW l z w k with
      | false=>rfl
      | true=>exact absurd (v5 h) hk
     rw[f,f]
theorem Ai {l:Nat} {z:Nat→Int} {w:Nat→Bool} {c:Nat}:mg (hW l z w) [z c,(c:Int)] false=hW l z (mZ w c):=by
 rw[mh]
 funext k
 show (if k=[z c,(c:Int)] then false else hW l z w k)=hW l z (mZ w c) k
 by_cases hk:∃ a b,k=[a,b]
 · obtain ⟨a,b,rfl⟩:=hk
   by_cases e:[a,b]=[z c,(c:Int)]
   · rw[if_pos e]
     symm
     cases h:hW l z (mZ w c) [a,b] with
     | false=>rfl
     | true =>
       obtain ⟨i,h1,h2,h3,h4⟩:=iU.1 h
       simp only[List.cons.injEq,and_true] at e
       have ei:i=c:=by omega
       unfold mZ at h2
       rw[if_pos ei] at h2;cases h2
   · rw[if_neg e,Bool.eq_iff_iff,iU,iU]
     constructor
     · rintro ⟨i,h1,h2,rfl,rfl⟩
       refine ⟨i,h1,?_,rfl,rfl⟩
       have:i≠c:=fun ei=>by subst ei;exact e rfl
       unfold mZ;rw[if_neg this];exact h2
     · rintro ⟨i,h1,h2,rfl,rfl⟩
       unfold mZ at h2
       by_cases ei:i=c
       · rw[if_pos ei] at h2;cases h2
       · rw[if_neg ei] at h2
         exact ⟨i,h1,h2,rfl,rfl⟩
 · have f:∀ w,hW l z w k=false:=fun w=>by
    cases h:hW l z w k with
    | false=>rfl
    | true=>exact absurd (v5 h) hk
   rw[f,f]
   split<;>rfl
theorem Eu {l:Nat} {z:Nat→Int} {w:Nat→Bool} {c:Nat} (hc:c<l):hW l z w [z c,(c:Int)]=w c:=by
 cases h:w c with
 | true=>exact iU.2 ⟨c,hc,h,rfl,rfl⟩
 | false =>
   cases h2:hW l z w [z c,(c:Int)] with
   | false=>rfl
   | true =>
     obtain ⟨i,_,h3,h4,_⟩:=iU.1 h2
     have:i=c:=by omega
     rw[this,h] at h3;cases h3
theorem Ah {l:Nat} {z:Nat→Int} {w:Nat→Bool} {c:Nat} (hc:c<l):mi (gW l z w) [z c,(c:Int)] 1=gW l z (ji w c):=by
 rw[s9]
 funext k
 have h:=congrFun (vZ (z:=z) (w:=w) hc) k
 rw[mh] at h
 have h:(if k=[z c,(c:Int)] then true else hW l z w k)=hW l z (ji w c) k:=h
 show (if k=[z c,(c:Int)] then 1 else gW l z w k)=gW l z (ji w c) k
 unfold gW
 rw[← h]
 by_cases e:k=[z c,(c:Int)]
 · rw[if_pos e,if_pos e,if_pos rfl]
 · rw[if_neg e,if_neg e]
theorem Es {l:Nat} {z:Nat→Int} {w:Nat→Bool} {c:Nat}:mi (gW l z w) [z c,(c:Int)] 0=gW l z (mZ w c):=by
 rw[s9]
 funext k
 have h:=congrFun (Ai (l:=l) (z:=z) (w:=w) (c:=c)) k
 rw[mh] at h
 have h:(if k=[z c,(c:Int)] then false else hW l z w k)=hW l z (mZ w c) k:=h
 show (if k=[z c,(c:Int)] then 0 else gW l z w k)=gW l z (mZ w c) k
 unfold gW
 rw[← h]
 by_cases e:k=[z c,(c:Int)]
 · rw[if_pos e,if_pos e,if_neg (by decide)]
 · rw[if_neg e,if_neg e]
theorem zY {l:Nat} {z:Nat→Int} {w:Nat→Bool} {c:Nat} (hc:c<l) (hw:w c=false):rX (hW l z w [z c,(c:Int)]) (cn w l)=cn (ji w c) l:=by
 rw[xA,Eu hc,hw]
 show cn w l+1=_
 rw[ie (p:=w) (q:=ji w c) (i:=c) hw (by unfold ji;rw[if_pos rfl]) (fun j _ hj=>by unfold ji;rw[if_neg hj]) hc]
theorem DW {l:Nat} {z:Nat→Int} {w:Nat→Bool} {c:Nat} (hc:c<l) (hw:w c=true):uA (hW l z w [z c,(c:Int)]) (cn w l)=cn (mZ w c) l:=by
 rw[xB,Eu hc,hw]
 show cn w l-1=_
 have:=ie (p:=mZ w c) (q:=w) (i:=c) (n:=l) (by unfold mZ;rw[if_pos rfl]) hw (fun j _ hj=>by unfold mZ;rw[if_neg hj]) hc
 omega
end Go.Eng
end
section
namespace Go.Eng
open Go.Proofs
noncomputable def f74 (s l:Nat) (t:Nat→Int) (k:Nat) (d g:Nat→Int):AV:=.fn (.func 74) [dC s l t k d g] []
noncomputable def tW (s l:Nat) (t:Nat→Int) (k:Nat) (d g:Nat→Int):aU:=⟨false,[(0,.row (.G [f74 s l t k d g]))]⟩
noncomputable def MT (A:AV) (k:Nat) (T:Int) (y:Nat→Int) (args:List AV) (H:aa):Tr (AV×aa) :=
 match args with
 | [B,.fn (.func 88) [] [.ptr 0 1 0 0]]=>match H with
   | ⟨lk,b0::(0,.row (.I .i64 [T']))::bs⟩::r=>.reqP (B=A∧T'=T) (.ok (b7 k y false,H))
   | _=>.bad
 | _=>.bad
noncomputable def bV (s l:Nat) (t:Nat→Int) (k:Nat) (d g:Nat→Int) (T:Int) (z f:Nat→Int) (hs:List Int→Bool) (gs:List Int→Int) (c:Nat):aU:=⟨false,[(0,.row (.G [f74 s l t k d g])),vK T,(0,.row (.M [.arr .i64 z 30])),(0,.row (.M [.arr .i64 f 30])),(0,.fmap (.str 2) hs gs c)]⟩
noncomputable def oE (y s l:Nat) (t:Nat→Int) (k:Nat) (d g:Nat→Int) (h j:Int):ar:=[(0,.yld 1 y),(1,.ptrT (some 1) (.G [dC s l t k d g]) 0),(2,.ptrT none (.I .i64 [h]) 0),(6,.ptr 0 2 0 0),(7,.ptr 0 3 0 0),(8,.map 0 4),(39,.int .i64 (Int.ofNat l)),(40,.int .i64 j)]
noncomputable def fB (y s l:Nat) (t:Nat→Int) (k:Nat) (d g:Nat→Int) (h:Int):ar:=[(0,.yld 1 y),(1,.ptrT (some 1) (.G [dC s l t k d g]) 0),(2,.ptrT none (.I .i64 [h]) 0),(6,.ptr 0 2 0 0),(7,.ptr 0 3 0 0),(8,.map 0 4),(10,.fn (.func 89) [] [])]
theorem SB (n:Nat) (i e T:Int) (L:aU) (lk:Bool) (b0:Nat×ai) (bs:List (Nat×ai)) (H:aa):bn Try.prog (cd n) 100000 88 Try.f88 (KtL.kt 88) (il aK n 0) aO aP [(.int .i64 i,none),(.int .i64 e,none),(.ptr 1 1 0 0,none)] (L::⟨lk,b0::vK T::bs⟩::H) =
 Tr.ok ((AV.int .i64 (ub e T),none),L::{ lock:=lk,bs:=b0::(0,ai.row (Row.I .i64 [T]))::bs } :: H):=by kernel_rfl
theorem Sz (n s l k:Nat) (t d g:Nat→Int) (y:Nat→Int) (H:aa) (T:Int):bn Try.prog (cd n) 100000 86 Try.f86 (KtL.kt 86) (il (z9 aK 74 [dC (s+2) l t k d g,.fn (.func 87) [] [.ptr 0 0 0 0]] (Li T::aD::tW s l t k d g::H) (.ok (b7 k y false,Li T::aD::tW s l t k d g::H))) n 0) aO aP [(.int .i64 T,none),(.ptr 1 0 0 0,none)] (aD::tW s l t k d g::H) =
 (fun (Z0:Row)=>((fun (Z1:aU)=>Tr.reqP ([AV.ptrT (some (Nat.succ (Nat.succ s))) Z0 0,AV.fn (Fn.func 87) [] [AV.ptr 0 0 0 0]]=[AV.ptrT (some (Nat.succ (Nat.succ s))) Z0 0,AV.fn (Fn.func 87) [] [AV.ptr 0 0 0 0]]∧{ lock:=false,bs:=[(0,ai.row (Row.I .i64 [T]))] } :: aD::Z1::H={ lock:=false,bs:=[(0,ai.row (Row.I .i64 [T]))] } :: aD::Z1::H) (Tr.ok ((AV.slcT none (Row.M [ah.arr .i64 y k]) 1 k false,none),aD::Z1::H))) { lock:=false,bs:=[(0,ai.row (Row.G [AV.fn (Fn.func 74) [AV.ptrT (some s) Z0 0] []]))] })) (Row.M [ah.one (AV.slcT none (Row.M [ah.arr .i64 t l]) 1 l false),ah.one (AV.slcT none (Row.M [ah.arr .i64 d k]) 1 k false),ah.arr .i64 g 30]):=by kernel_rfl
theorem LS (n y s l k:Nat) (t d g z f:Nat→Int) (hs:List Int→Bool) (gs:List Int→Int) (c:Nat) (h T j:Int) (G:aa):aG (bx n 85 118) (il aK n 0) aO aP (part Try.f85 [1,1,1,1,1,0,1,0,0]) (hints (oE y s l t k d g h j)) (bV (s+1) l t k d g T z f hs gs c::G) =
 (fun (Z0:Row)=>((fun (Z1:aE)=>((fun (Z2:aU)=>Tr.ite (cq j (Int.ofNat l)) (Tr.req (dv j 30) (Tr.req (bM 0 0) (Tr.req (c9 (ay 0 j 1) 30) (Tr.ite (cQ (f (ay 0 j 1)) (Int.ofNat 0)) (Tr.req (dv j 30) (Tr.req (bM 0 0) (Tr.req (c9 (ay 0 j 1) 30) (Tr.ok (Ex.normal,Z1,{ lock:=false,bs:=[(0,ai.row (Row.G [AV.fn (Fn.func 74) [AV.ptrT (some (Nat.succ s)) Z0 0] []])),(0,ai.row (Row.I .i64 [T])),(0,ai.row (Row.M [ah.arr .i64 z 30])),(0,ai.row (Row.M [ah.arr .i64 f 30])),(0,ai.fmap (KK.str 2) (mg hs [z (ay 0 j 1),j] true) (mi gs [z (ay 0 j 1),j] (Int.ofNat 1)) (rX (hs [z (ay 0 j 1),j]) c))] } :: G))))) (Tr.ok (Ex.normal,Z1,Z2::G)))))) (Tr.ok (Ex.exit 0,[(0,AV.yld 1 y,none),(1,AV.ptrT (some 1) (Row.G [AV.ptrT (some s) Z0 0]) 0,none),(2,AV.ptrT none (Row.I .i64 [h]) 0,none),(6,AV.ptr 0 2 0 0,none),(7,AV.ptr 0 3 0 0,none),(8,AV.map 0 4,none),(39,AV.int .i64 (Int.ofNat l),none),(40,AV.int .i64 j,none),(41,AV.bool false,some 1)],Z2::G))) { lock:=false,bs:=[(0,ai.row (Row.G [AV.fn (Fn.func 74) [AV.ptrT (some (Nat.succ s)) Z0 0] []])),(0,ai.row (Row.I .i64 [T])),(0,ai.row (Row.M [ah.arr .i64 z 30])),(0,ai.row (Row.M [ah.arr .i64 f 30])),(0,ai.fmap (KK.str 2) hs gs c)] })) [(0,AV.yld 1 y,none),(1,AV.ptrT (some 1) (Row.G [AV.ptrT (some s) Z0 0]) 0,none),(2,AV.ptrT none (Row.I .i64 [h]) 0,none),(6,AV.ptr 0 2 0 0,none),(7,AV.ptr 0 3 0 0,none),(8,AV.map 0 4,none),(39,AV.int .i64 (Int.ofNat l),none),(40,AV.int .i64 (br .i64 j (Int.ofNat 1)),none)])) (Row.M [ah.one (AV.slcT none (Row.M [ah.arr .i64 t l]) 1 l false),ah.one (AV.slcT none (Row.M [ah.arr .i64 d k]) 1 k false),ah.arr .i64 g 30]):=by kernel_rfl
theorem Oy (n y s l k:Nat) (t d g z f:Nat→Int) (hs:List Int→Bool) (gs:List Int→Int) (c:Nat) (h T:Int) (G:aa):aG (bx n 85 118) (il aK n 0) (cX aO 4 [] [] .bad) aP (part Try.f85 [1,1,1,1,1,1,1,0,0]) (hints (fB y s l t k d g h)) (bV (s+1) l t k d g T z f hs gs c::G) =
 (fun (Z0:Row)=>((fun (Z1:aU)=>Tr.ite (cq (Int.ofNat 0) (Int.ofNat c)) (Tr.reqP ([(0,AV.yld 1 y),(1,AV.ptrT (some 1) (Row.G [AV.ptrT (some s) Z0 0]) 0),(2,AV.ptrT none (Row.I .i64 [h]) 0),(6,AV.ptr 0 2 0 0),(7,AV.ptr 0 3 0 0),(8,AV.map 0 4),(10,AV.fn (Fn.func 89) [] []),(11,AV.nils)]=[]∧Z1::G=[]) Tr.bad) (Tr.ok (Ex.exit 2,[(0,AV.yld 1 y,none),(1,AV.ptrT (some 1) (Row.G [AV.ptrT (some s) Z0 0]) 0,none),(2,AV.ptrT none (Row.I .i64 [h]) 0,none),(6,AV.ptr 0 2 0 0,none),(7,AV.ptr 0 3 0 0,none),(8,AV.map 0 4,none),(10,AV.fn (Fn.func 89) [] [],none),(56,AV.bool false,some 1)],Z1::G))) { lock:=false,bs:=[(0,ai.row (Row.G [AV.fn (Fn.func 74) [AV.ptrT (some (Nat.succ s)) Z0 0] []])),(0,ai.row (Row.I .i64 [T])),(0,ai.row (Row.M [ah.arr .i64 z 30])),(0,ai.row (Row.M [ah.arr .i64 f 30])),(0,ai.fmap (KK.str 2) hs gs c)] })) (Row.M [ah.one (AV.slcT none (Row.M [ah.arr .i64 t l]) 1 l false),ah.one (AV.slcT none (Row.M [ah.arr .i64 d k]) 1 k false),ah.arr .i64 g 30]):=by kernel_rfl
end Go.Eng
end
section
namespace Go.Eng
open Go.Proofs
theorem P5 (n:Nat) (i e T:Int) (L:aU) (lk:Bool) (b0:Nat×ai) (bs:List (Nat×ai)) (H:aa):cd (n+1) (.fn 88) [.int .i64 i,.int .i64 e,.ptr 1 1 0 0] (L::⟨lk,b0::vK T::bs⟩::H)=some (.int .i64 (min e T),L::⟨lk,b0::vK T::bs⟩::H):=by
 refine aS (n:=n) Try.func88 rfl rfl rfl (SB n i e T L lk b0 bs H) (aw _) (af _ _) (ag _ _) ?_
 rw[j7]
 exact wF
section
variable (n s l k:Nat) (t d g:Nat→Int) (H:aa)
theorem P3 (T:Int) (h0:0<k) (hk:k≤1000):cd (n+3) (.fn 86) [.int .i64 T,.ptr 1 0 0 0] (aD::tW s l t k d g::H)=some (b7 k (al (bC (fun i=>min (d i) T) k)) false,aD::tW s l t k d g::H):=by
 refine aS (n:=n+2) Try.func86 rfl rfl rfl (Sz (n+2) s l k t d g (al (bC (fun i=>min (d i) T) k)) H T) (aX _ (n+2) (ig (aR _) (fun x hy=>by
  rw[← Tr.ab hy]
  exact MI (n+1) (s+2) l k t d g (fun i e=>min e T) _ h0 hk (fun i e L=>P4 n _ i e T L)))) (af _ _) (ag _ _) ?_
 generalize al (bC (fun i=>min (d i) T) k)=Y at *
 exact wF
theorem I2 {c:n5} {T:Int} (hc:c.Ok (cd (n+2))) (h0:0<k) (hk:k≤1000):(gY c 74 (MT (dC s l t k d g) k T (al (bC (fun i=>min (d i) T) k)))).Ok (cd (n+2)):=by
 refine iN hc (fun args H x hx=>?_)
 unfold MT at hx
 split at hx
 · split at hx
   · obtain ⟨⟨rfl,rfl⟩,h2⟩:=Tr.cW hx
     rw[← Tr.ab h2]
     exact MJ (n+1) s l k 1 t d g (fun i e=>min e _) _ h0 hk (fun i e L=>P5 n i e _ L _ _ _ _)
   · exact (Tr.ae hx).elim
 · exact (Tr.ae hx).elim
end
def w0 (f:Nat→Int) (j:Nat):Nat→Bool:=fun i=>decide (i<j) && decide (f i=0)
theorem Me (f:Nat→Int) (j:Nat):w0 f j j=false:=by unfold w0;simp
theorem J2 {f:Nat→Int} {j:Nat} (h:f j=0):w0 f (j+1)=ji (w0 f j) j:=by
 funext i
 unfold w0 ji
 by_cases e:i=j
 · subst e;rw[if_pos rfl];simp[h]
 · rw[if_neg e,decide_eq_decide.2 (show i<j+1↔i<j by omega)]
theorem HH {f:Nat→Int} {j:Nat} (h:¬ f j=0):w0 f (j+1)=w0 f j:=by
 funext i
 unfold w0
 by_cases e:i=j
 · subst e;simp[h]
 · rw[decide_eq_decide.2 (show i<j+1↔i<j by omega)]
theorem Bq {l:Nat} {z:Nat→Int} {w:Nat→Bool} (hw:∀ i,i<l→w i=false):hW l z w=fun _=>false:=by
 funext k
 cases hk:hW l z w k with
 | false=>rfl
 | true =>
   obtain ⟨a,b,rfl⟩:=v5 hk
   obtain ⟨i,h1,h2,_⟩:=iU.1 hk
   rw[hw i h1] at h2;cases h2
theorem Gt {l:Nat} {z:Nat→Int} {w:Nat→Bool} (hw:∀ i,i<l→w i=false):gW l z w=fun _=>0:=by
 funext k
 unfold gW
 rw[Bq hw];rfl
section
variable (n y s l k:Nat) (t d g z f:Nat→Int) (h T:Int) (G:aa)
theorem NK (hl:l≤30):exec (bx n 85 118) (.block 0 (.loop (part Try.f85 [1,1,1,1,1,0,1,0,0]))) (oE y s l t k d g h 0) (bV (s+1) l t k d g T z f (fun _=>false) (fun _=>0) 0::G)=some (.normal,oE y s l t k d g h (Int.ofNat l)++[(41,.bool false)],bV (s+1) l t k d g T z f (hW l z (w0 f l)) (gW l z (w0 f l)) (cn (w0 f l) l)::G):=by
 have hw:∀ i,i<l→w0 f 0 i=false:=fun i _=>by unfold w0;simp
 suffices hx:exec (bx n 85 118) (.block 0 (.loop (part Try.f85 [1,1,1,1,1,0,1,0,0]))) (oE y s l t k d g h 0) (bV (s+1) l t k d g T z f (hW l z (w0 f 0)) (gW l z (w0 f 0)) (cn (w0 f 0) l)::G)=some (.normal,oE y s l t k d g h (Int.ofNat l)++[(41,.bool false)],bV (s+1) l t k d g T z f (hW l z (w0 f l)) (gW l z (w0 f l)) (cn (w0 f l) l)::G) from by
  rw[Bq (z:=z) hw,Gt (z:=z) hw,oi hw] at hx
  exact hx
 refine jG (n:=n) (f:=85) (nt:=118) (c:=part Try.f85 [1,1,1,1,1,0,1,0,0]) 0 (fun j=>oE y s l t k d g h (j:Nat)) (fun j=>bV (s+1) l t k d g T z f (hW l z (w0 f j)) (gW l z (w0 f j)) (cn (w0 f j) l)::G) l _ (by omega) (fun j hj=>?_) ?_
 · refine aF (LS n y s l k t d g z f (hW l z (w0 f j)) (gW l z (w0 f j)) (cn (w0 f j) l) h T (j:Nat) G) (aw _) (af _ _) (ag _ _) ?_
   show Tr.all _ (fun x=>_∧tidy _ _ _=(oE y s l t k d g h ((j+1:Nat):Int),bV (s+1) l t k d g T z f (hW l z (w0 f (j+1))) (gW l z (w0 f (j+1))) (cn (w0 f (j+1)) l)::G))
   rw[dJ (j:=j) (by omega)]
   simp only[mV]
   by_cases e:f j=0
   · rw[J2 e,← vZ hj,← Ah hj,← zY (z:=z) hj (Me f j)]
     generalize hW l z (w0 f j)=A at *
     generalize gW l z (w0 f j)=B at *
     generalize cn (w0 f j) l=C at *
     exact wF
   · rw[HH e]
     generalize hW l z (w0 f j)=A at *
     generalize gW l z (w0 f j)=B at *
     generalize cn (w0 f j) l=C at *
     exact wF
 · exact eV (LS n y s l k t d g z f (hW l z (w0 f l)) (gW l z (w0 f l)) (cn (w0 f l) l) h T (Int.ofNat l) G) (aw _) (af _ _) (ag _ _) (by first | (simp (disch:=omega) only[nV,nW];done) | (simp (disch:=omega) only[nV,nW];omega))
end
end Go.Eng
end
