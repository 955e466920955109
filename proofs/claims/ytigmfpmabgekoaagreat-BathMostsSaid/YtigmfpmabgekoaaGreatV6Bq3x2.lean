/- Bath: slices.Compact of a row of the caller's. -/
import Derived.Test.YtigmfpmabgekoaaGreatV6Be1x17
set_option linter.unusedVariables false
set_option linter.unusedSimpArgs false
set_option maxRecDepth 100000
section
namespace Go.Eng
open Go.Proofs
noncomputable def m6 (v m:Nat) (k:Int):au:=[(0,.slc 1 0 v 0 1 m none),(3,.int .i64 k)]
noncomputable def ql (v m o len:Nat) (k j:Int):au:=[(0,.slc 1 0 v 0 1 m none),(3,.int .i64 k),(4,.slc 1 0 v o 1 len none),(5,.int .i64 j)]
theorem KG (n v m o len:Nat) (a:Nat→Int) (H:aa) (k j:Int):aP (bt n 97 61) (il aT n 0) a6 a7 (part Tryz.f97 [1,1,0,1,0,0,1,0,0,1,0,1,0,1,0,0]) (hints (ql v m o len k j)) (aH::⟨false,[(v,.row (.M [.arr .i64 a m]))]⟩::H) =
 Tr.ite (cP j (Int.ofNat len)) (Tr.req (dY j len) (Tr.req (dJ v v) (Tr.req (bX (aD o j 1) m) (Tr.req (dY (cD .i64 j (Int.ofNat 1)) len) (Tr.req (dJ v v) (Tr.req (bX (aD o (cD .i64 j (Int.ofNat 1)) 1) m) (Tr.ite (dQ (eU (a (aD o j 1)) (a (aD o (cD .i64 j (Int.ofNat 1)) 1)))) (Tr.req (dY j len) (Tr.req (dJ v v) (Tr.req (bX (aD o j 1) m) (Tr.req (dY k m) (Tr.req (dJ v v) (Tr.req (bX (aD 0 k 1) m) (Tr.ok (Ex.normal,[(0,AV.slc 1 0 v 0 1 m none,none),(3,AV.int .i64 (bk .i64 k (Int.ofNat 1)),none),(4,AV.slc 1 0 v o 1 len none,none),(5,AV.int .i64 (bk .i64 j (Int.ofNat 1)),none)],aH::{ lock:=false,bs:=[(v,al.row (Row.M [aW.arr .i64 (fS a (aD 0 k 1) (a (aD o j 1))) m]))] } :: H)))))))) (Tr.ok (Ex.normal,[(0,AV.slc 1 0 v 0 1 m none,none),(3,AV.int .i64 k,none),(4,AV.slc 1 0 v o 1 len none,none),(5,AV.int .i64 (bk .i64 j (Int.ofNat 1)),none)],aH::{ lock:=false,bs:=[(v,al.row (Row.M [aW.arr .i64 a m]))] } :: H))))))))) (Tr.ok (Ex.exit 2,[(0,AV.slc 1 0 v 0 1 m none,none),(3,AV.int .i64 k,none),(4,AV.slc 1 0 v o 1 len none,none),(5,AV.int .i64 j,none),(32,AV.bool false,some 1)],aH::{ lock:=false,bs:=[(v,al.row (Row.M [aW.arr .i64 a m]))] } :: H)):=by kernel_rfl
theorem Hi (n v m:Nat) (a:Nat→Int) (H:aa) (k:Int):aP (bt n 97 61) (il aT n 0) (mT a6 2) a7 (part Tryz.f97 [1,1,0,1,0,0]) (hints (m6 v m k)) (aH::⟨false,[(v,.row (.M [.arr .i64 a m]))]⟩::H) =
 Tr.ite (cP k (Int.ofNat m)) (Tr.req (dY k m) (Tr.req (dJ v v) (Tr.req (bX (aD 0 k 1) m) (Tr.req (dY (cD .i64 k (Int.ofNat 1)) m) (Tr.req (dJ v v) (Tr.req (bX (aD 0 (cD .i64 k (Int.ofNat 1)) 1) m) (Tr.ite (eU (a (aD 0 k 1)) (a (aD 0 (cD .i64 k (Int.ofNat 1)) 1))) (Tr.req (nT k m) Tr.bad) (Tr.ok (Ex.normal,[(0,AV.slc 1 0 v 0 1 m none,none),(3,AV.int .i64 (bk .i64 k (Int.ofNat 1)),none)],aH::{ lock:=false,bs:=[(v,al.row (Row.M [aW.arr .i64 a m]))] } :: H))))))))) (Tr.ok (Ex.exit 0,[(0,AV.slc 1 0 v 0 1 m none,none),(3,AV.int .i64 k,none),(13,AV.bool false,some 1)],aH::{ lock:=false,bs:=[(v,al.row (Row.M [aW.arr .i64 a m]))] } :: H)):=by kernel_rfl
theorem Nv (n v m o len:Nat) (a b:Nat→Int) (H:aa) (k x:Int):aP (bt n 97 61) (il aT n 0) (eT a6 2 (ql v m o len k (Int.ofNat 1)) (aH::⟨false,[(v,.row (.M [.arr .i64 a m]))]⟩::H) (.ok (.normal,hints (ql v m o len x (Int.ofNat len)++[(32,.bool false)]),aH::⟨false,[(v,.row (.M [.arr .i64 b m]))]⟩::H))) a7 (part Tryz.f97 [1,1,0,1,0,0]) (hints (m6 v m k)) (aH::⟨false,[(v,.row (.M [.arr .i64 a m]))]⟩::H) =
 (fun (Z0:bo)=>Tr.ite (cP k (Int.ofNat m)) (Tr.req (dY k m) (Tr.req (dJ v v) (Tr.req (bX (aD 0 k 1) m) (Tr.req (dY (cD .i64 k (Int.ofNat 1)) m) (Tr.req (dJ v v) (Tr.req (bX (aD 0 (cD .i64 k (Int.ofNat 1)) 1) m) (Tr.ite (eU (a (aD 0 k 1)) (a (aD 0 (cD .i64 k (Int.ofNat 1)) 1))) (Tr.req (nT k m) (Tr.reqP ([(0,AV.slc 1 0 v 0 1 m none),(3,AV.int .i64 k),(4,AV.slc 1 0 v (aq 0 (gI k)) 1 (p8 m (gI k)) none),(5,AV.int .i64 (Int.ofNat 1))]=[(0,AV.slc 1 0 v 0 1 m none),(3,AV.int .i64 k),(4,AV.slc 1 0 v o 1 len none),(5,AV.int .i64 (Int.ofNat 1))]∧aH::Z0::H=aH::Z0::H) (Tr.req (nT x m) (Tr.req (bX 0 (p8 m (gI x))) (Tr.req (dJ v v) (Tr.req (qu (aq 0 (gI x)) (p8 m (gI x)) 0 m) (Tr.req (nT x m) (Tr.ok (Ex.ret,[(2,AV.slc 1 0 v 0 1 (gI x) none,none)],aH::{ lock:=false,bs:=[(v,al.row (Row.M [aW.arr .i64 (gN b (aq 0 (gI x)) (fun x=>Int.ofNat 0) (p8 m (gI x))) m]))] } :: H))))))))) (Tr.ok (Ex.normal,[(0,AV.slc 1 0 v 0 1 m none,none),(3,AV.int .i64 (bk .i64 k (Int.ofNat 1)),none)],aH::Z0::H))))))))) (Tr.ok (Ex.exit 0,[(0,AV.slc 1 0 v 0 1 m none,none),(3,AV.int .i64 k,none),(13,AV.bool false,some 1)],aH::Z0::H))) { lock:=false,bs:=[(v,al.row (Row.M [aW.arr .i64 a m]))] }:=by kernel_rfl
theorem NP (n v m:Nat) (a b:Nat→Int) (H:aa) (x:Nat):bK Tryz.prog (cd n) 100000 97 Tryz.f97 (KtB.kt 97) (il aT n 0) (eT a6 0 (m6 v m (Int.ofNat 1)) (aH::⟨false,[(v,.row (.M [.arr .i64 a m]))]⟩::H) (.ok (.ret,hints [(2,.slc 1 0 v 0 1 x none)],aH::⟨false,[(v,.row (.M [.arr .i64 b m]))]⟩::H))) a7 [(.slc 0 0 v 0 1 m none,none)] (⟨false,[(v,.row (.M [.arr .i64 a m]))]⟩::H) =
 (fun (Z0:bo)=>Tr.ite (cP (Int.ofNat m) (Int.ofNat 2)) (Tr.ok ((AV.slc 0 0 v 0 1 m none,none),Z0::H)) (Tr.reqP ([(0,AV.slc 1 0 v 0 1 m none),(3,AV.int .i64 (Int.ofNat 1))]=[(0,AV.slc 1 0 v 0 1 m none),(3,AV.int .i64 (Int.ofNat 1))]∧aH::Z0::H=aH::Z0::H) (Tr.ok ((AV.slc 0 0 v 0 1 x none,none),{ lock:=false,bs:=[(v,al.row (Row.M [aW.arr .i64 b m]))] } :: H)))) { lock:=false,bs:=[(v,al.row (Row.M [aW.arr .i64 a m]))] }:=by kernel_rfl
theorem NR (n v m:Nat) (a:Nat→Int) (H:aa):bK Tryz.prog (cd n) 100000 97 Tryz.f97 (KtB.kt 97) (il aT n 0) (mT a6 0) a7 [(.slc 0 0 v 0 1 m none,none)] (⟨false,[(v,.row (.M [.arr .i64 a m]))]⟩::H) =
 Tr.ite (cP (Int.ofNat m) (Int.ofNat 2)) (Tr.ok ((AV.slc 0 0 v 0 1 m none,none),{ lock:=false,bs:=[(v,al.row (Row.M [aW.arr .i64 a m]))] } :: H)) Tr.bad:=by kernel_rfl
theorem NQ (n v m:Nat) (a:Nat→Int) (H:aa):bK Tryz.prog (cd n) 100000 97 Tryz.f97 (KtB.kt 97) (il aT n 0) (eT a6 0 (m6 v m (Int.ofNat 1)) (aH::⟨false,[(v,.row (.M [.arr .i64 a m]))]⟩::H) (.ok (.normal,hints (m6 v m (Int.ofNat m)++[(13,.bool false)]),aH::⟨false,[(v,.row (.M [.arr .i64 a m]))]⟩::H))) a7 [(.slc 0 0 v 0 1 m none,none)] (⟨false,[(v,.row (.M [.arr .i64 a m]))]⟩::H) =
 (fun (Z0:bo)=>Tr.ite (cP (Int.ofNat m) (Int.ofNat 2)) (Tr.ok ((AV.slc 0 0 v 0 1 m none,none),Z0::H)) (Tr.reqP ([(0,AV.slc 1 0 v 0 1 m none),(3,AV.int .i64 (Int.ofNat 1))]=[(0,AV.slc 1 0 v 0 1 m none),(3,AV.int .i64 (Int.ofNat 1))]∧aH::Z0::H=aH::Z0::H) (Tr.ok ((AV.slc 0 0 v 0 1 m none,none),Z0::H)))) { lock:=false,bs:=[(v,al.row (Row.M [aW.arr .i64 a m]))] }:=by kernel_rfl
theorem N5:∀ b,(0,b) ∈ aV (bQ Tryz.f97)→b=.loop (part Tryz.f97 [1,1,0,1,0,0]):=gM (by kernel_rfl)
theorem Ln:∀ b,(2,b) ∈ aV (part Tryz.f97 [1,1,0,1,0,0])→b=.loop (part Tryz.f97 [1,1,0,1,0,0,1,0,0,1,0,1,0,1,0,0]):=gM (by kernel_rfl)
def nG (a:Nat→Int):Nat→List Int
 | 0=>[]
 | j+1=>if j=0∨a j≠a (j-1) then nG a j++[a j] else nG a j
noncomputable def gK (a:Nat→Int) (k0:Nat):Nat→(Nat→Int)×Nat
 | 0=>(a,k0)
 | i+1=>if (gK a k0 i).1 (k0+(i+1))≠(gK a k0 i).1 (k0+i) then (fS (gK a k0 i).1 (gK a k0 i).2 ((gK a k0 i).1 (k0+(i+1))),(gK a k0 i).2+1) else gK a k0 i
theorem vo (a:Nat→Int):∀ j,(nG a j).length≤j
 | 0=>Nat.le_refl _
 | j+1=>by
   have:=vo a j
   unfold nG
   split
   · rw[List.length_append,List.length_singleton];omega
   · omega
theorem vp (a:Nat→Int):∀ k,(∀ j,j+1<k→a (j+1)≠a j)→nG a k=(List.range k).map a
 | 0,_=>rfl
 | k + 1,h=>by
   unfold nG
   rw[if_pos,vp a k (fun j hj=>h j (by omega)),List.range_succ,List.map_append]
   · rfl
   · by_cases e:k=0
     · exact .inl e
     · have:=h (k-1) (by omega)
       rw[show k-1+1=k by omega] at this
       exact .inr this
theorem l8 {a:Nat→Int} {k0:Nat} (hk:1≤k0) (hd:a k0=a (k0-1)) (hn:∀ j,j+1<k0→a (j+1)≠a j):∀ i,(gK a k0 i).2=(nG a (k0+i+1)).length∧(∀ x,x<(gK a k0 i).2→(gK a k0 i).1 x=(nG a (k0+i+1)).getD x 0)∧(∀ x,k0+i≤x→(gK a k0 i).1 x=a x)∧(gK a k0 i).2≤k0+i
 | 0 => by
   have e:nG a (k0+0+1)=nG a k0:=by
    have hnc:¬(k0=0∨a k0≠a (k0-1)):=by
     rintro (c | c)
     · omega
     · exact c hd
    exact if_neg hnc
   rw[e,vp a k0 hn]
   refine ⟨by simp[gK],fun x hx=>?_,fun x _=>rfl,Nat.le_refl _⟩
   have hx:x<k0:=hx
   rw[List.getD_eq_getElem?_getD,List.getElem?_map,List.getElem?_range hx]
   rfl
 | i + 1=>by
   obtain ⟨i1,i2,i3,i4⟩:=l8 hk hd hn i
   have r1:=i3 (k0+(i+1)) (by omega)
   have r2:=i3 (k0+i) (Nat.le_refl _)
   have e:nG a (k0+(i+1)+1)=if a (k0+(i+1))≠a (k0+i) then nG a (k0+i+1)++[a (k0+(i+1))] else nG a (k0+i+1):=by
    show (if k0+(i+1)=0∨a (k0+(i+1))≠a (k0+(i+1)-1) then nG a (k0+(i+1))++_ else nG a (k0+(i+1)))=_
    rw[show k0+(i+1)-1=k0+i by omega,show k0+(i+1)=k0+i+1 by omega]
    by_cases c:a (k0+i+1)≠a (k0+i)
    · rw[if_pos (.inr c),if_pos c]
    · rw[if_neg (by rintro (d | d);omega;exact c d),if_neg c]
   have es:gK a k0 (i+1)=if a (k0+(i+1))≠a (k0+i) then (fS (gK a k0 i).1 (gK a k0 i).2 (a (k0+(i+1))),(gK a k0 i).2+1) else gK a k0 i:=by
    show (if (gK a k0 i).1 (k0+(i+1))≠(gK a k0 i).1 (k0+i) then (fS (gK a k0 i).1 (gK a k0 i).2 ((gK a k0 i).1 (k0+(i+1))),_) else _)=_
    rw[r1,r2]
   rw[e,es]
   by_cases c:a (k0+(i+1))≠a (k0+i)
   · rw[if_pos c,if_pos c]
     refine ⟨by rw[List.length_append,List.length_singleton,i1],fun x hx=>?_,fun x hx=>?_,by show (gK a k0 i).2+1≤_;omega⟩
     · have hx:x<(gK a k0 i).2+1:=hx
       show fS _ _ _ x=_
       rw[kS]
       dsimp only
       rw[List.getD_eq_getElem?_getD]
       by_cases ex:x=(gK a k0 i).2
       · rw[if_pos ex,List.getElem?_append_right (by omega),← i1,ex,Nat.sub_self];rfl
       · rw[if_neg ex,i2 x (by omega),List.getElem?_append_left (by omega),List.getD_eq_getElem?_getD]
     · show fS _ _ _ x=_
       rw[kS]
       dsimp only
       rw[if_neg (by omega)]
       exact i3 x (by omega)
   · rw[if_neg c,if_neg c]
     exact ⟨i1,i2,fun x hx=>i3 x (by omega),by omega⟩
section
variable (n v m:Nat) (a:Nat→Int) (H:aa)
theorem MQ (k0:Nat) (hk:1≤k0) (hm:k0<m) (h2:m≤1000) (hd:a k0=a (k0-1)) (hn:∀ j,j+1<k0→a (j+1)≠a j):exec (bt n 97 61) (.block 2 (.loop (part Tryz.f97 [1,1,0,1,0,0,1,0,0,1,0,1,0,1,0,0]))) (ql v m k0 (m-k0) (k0:Nat) (Int.ofNat 1)) (aH::⟨false,[(v,.row (.M [.arr .i64 a m]))]⟩::H) =
 some (.normal,ql v m k0 (m-k0) ((gK a k0 (m-k0-1)).2:Nat) (Int.ofNat (m-k0))++[(32,.bool false)],aH::⟨false,[(v,.row (.M [.arr .i64 (gK a k0 (m-k0-1)).1 m]))]⟩::H):=by
 refine iR 2 (fun j=>ql v m k0 (m-k0) ((gK a k0 j).2:Nat) ((j+1:Nat):Int)) (fun j=>aH::⟨false,[(v,.row (.M [.arr .i64 (gK a k0 j).1 m]))]⟩::H) (m-k0-1) (ql v m k0 (m-k0) ((gK a k0 (m-k0-1)).2:Nat) (Int.ofNat (m-k0))++[(32,.bool false)],aH::⟨false,[(v,.row (.M [.arr .i64 (gK a k0 (m-k0-1)).1 m]))]⟩::H) (by omega) (fun j hj=>?_) ?_
 · obtain ⟨_,_,_,i4⟩:=l8 hk hd hn j
   have es:gK a k0 (j+1)=if (gK a k0 j).1 (k0+(j+1))≠(gK a k0 j).1 (k0+j) then (fS (gK a k0 j).1 (gK a k0 j).2 ((gK a k0 j).1 (k0+(j+1))),(gK a k0 j).2+1) else gK a k0 j:=rfl
   generalize gK a k0 (j+1)=T at *
   generalize gK a k0 j=S0 at *
   obtain ⟨r,k⟩:=S0
   dsimp only at es i4 ⊢
   refine az (KG n v m k0 (m-k0) r H (k:Nat) ((j+1:Nat):Int)) (aB n) (af _ _) (ag _ _) ?_
   have e1:aD k0 ((j+1:Nat):Int) 1=k0+(j+1):=by rw[bS];omega
   have e2:cD .i64 ((j+1:Nat):Int) (Int.ofNat 1)=(j:Int):=by rw[db,show Int.ofNat 1=1 from rfl,dv (by omega) (by omega)];omega
   have e3:aD k0 (j:Int) 1=k0+j:=by rw[bS];omega
   have e4:aD 0 (k:Int) 1=k:=Dx k
   have e5:bk .i64 ((j+1:Nat):Int) (Int.ofNat 1)=((j+1+1:Nat):Int):=lx (by omega)
   have e6:bk .i64 (k:Int) (Int.ofNat 1)=((k+1:Nat):Int):=lx (by omega)
   rw[e1,e2,e3,e4,e5,e6,bR]
   by_cases c:r (k0+(j+1))=r (k0+j)
   · rw[if_neg (by simpa using c)] at es
     subst es
     rw[show (r (k0+(j+1)) == r (k0+j))=true from beq_iff_eq.2 c]
     exact wF
   · rw[if_pos c] at es
     subst es
     rw[show (r (k0+(j+1)) == r (k0+j))=false from beq_eq_false_iff_ne.2 c]
     exact wF
 · obtain ⟨_,_,_,i4⟩:=l8 hk hd hn (m-k0-1)
   rw[show m-k0-1+1=m-k0 by omega]
   obtain ⟨x,h1,rfl⟩:=az (Q:=fun x=>x=(.exit 2,ql v m k0 (m-k0) ((gK a k0 (m-k0-1)).2:Nat) (Int.ofNat (m-k0))++[(32,.bool false)],aH::⟨false,[(v,.row (.M [.arr .i64 (gK a k0 (m-k0-1)).1 m]))]⟩::H)) (KG n v m k0 (m-k0) (gK a k0 (m-k0-1)).1 H ((gK a k0 (m-k0-1)).2:Nat) (Int.ofNat (m-k0))) (aB n) (af _ _) (ag _ _) (by
    exact wF)
   exact h1
theorem HY {n f nt:Nat} {c:Code} (id:Nat) (F:Nat→au) (G:Nat→aa) (N:Nat) (p:Nat→Bool) (X:Nat→au×aa) (Y:au×aa) (hN:N<99999)
 (hs:∀ j,j<N→(∀ i,i<j→p i=false)→∃ x,exec (bt n f nt) c (F j) (G j)=some x∧if p j=true then x=(.ret,X j) else x.1=.normal∧tidy (an (G 0)) x.2.1 x.2.2=(F (j+1),G (j+1)))
 (he:exec (bt n f nt) c (F N) (G N)=some (.exit id,Y)):exec (bt n f nt) (.block id (.loop c)) (F 0) (G 0)=some (cond (lB p N) (.ret,X (fN p N 0)) (.normal,Y)):=by
 cases hc:lB p N with
 | false =>
   have hno:∀ j,j<N→p j=false:=fun j hj=>by
    cases h:p j with
    | false=>rfl
    | true=>rw[(ko p N).2 ⟨j,hj,h⟩] at hc;cases hc
   refine iR id F G N Y hN (fun j hj=>?_) he
   obtain ⟨x,h1,h2⟩:=hs j hj (fun i hi=>hno i (by omega))
   rw[if_neg (by rw[hno j hj];decide)] at h2
   exact ⟨x,h1,h2⟩
 | true =>
   have hJ:=oi hc
   obtain ⟨_,_,k3,k4⟩:=oj p N 0
   have k4:=k4 (by omega)
   have k3:∀ i,i<fN p N 0→p i=false:=fun i hi=>k3 i (Nat.zero_le _) hi
   obtain ⟨x,h1,h2⟩:=hs _ hJ k3
   rw[if_pos k4] at h2
   subst h2
   have e0:lB (fun _=>false) (fN p N 0)=false:=by
    cases h:lB (fun _=>false) (fN p N 0) with
    | false=>rfl
    | true=>obtain ⟨_,_,h⟩:=(ko _ _).1 h;cases h
   have key:=pJ (body:=exec (bt n f nt) c) (n:=an (G 0)) F G (fN p N 0) (fun _=>false) (fun _=>(.ret,X (fN p N 0)))
    (fun j hj _=>by
      obtain ⟨x,h1,h2⟩:=hs j (by omega) (fun i hi=>k3 i (by omega))
      rw[if_neg (by rw[k3 j hj];decide)] at h2
      obtain ⟨e,f1,g1⟩:=x
      obtain ⟨rfl,h3⟩:=h2
      exact ⟨_,_,h1,h3⟩)
    (fun j hj hp=>by cases hp) ⟨h1,by simp⟩ (fN p N 0) 0 100000 (by omega) (by omega)
   exact fX (fun id' h=>by cases h) key
noncomputable def tm (a:Nat→Int) (m j:Nat):Nat:=(gK a (j+1) (m-(j+1)-1)).2
noncomputable def EM (a:Nat→Int) (m j:Nat):Nat→Int:=gN (gK a (j+1) (m-(j+1)-1)).1 (tm a m j) (fun x=>Int.ofNat 0) (m-tm a m j)
def BI (a:Nat→Int) (j:Nat):Bool:=decide (a (j+1)=a j)
theorem Qq (hm:2≤m) (h2:m≤1000):exec (bt n 97 61) (.block 0 (.loop (part Tryz.f97 [1,1,0,1,0,0]))) (m6 v m (Int.ofNat 1)) (aH::⟨false,[(v,.row (.M [.arr .i64 a m]))]⟩::H) =
 some (cond (lB (BI a) (m-1)) (.ret,[(2,.slc 1 0 v 0 1 (tm a m (fN (BI a) (m-1) 0)) none)],aH::⟨false,[(v,.row (.M [.arr .i64 (EM a m (fN (BI a) (m-1) 0)) m]))]⟩::H) (.normal,m6 v m (Int.ofNat m)++[(13,.bool false)],aH::⟨false,[(v,.row (.M [.arr .i64 a m]))]⟩::H)):=by
 have key:∀ j,j<m-1→(∀ i,i<j→BI a i=false)→∃ x,exec (bt n 97 61) (part Tryz.f97 [1,1,0,1,0,0]) (m6 v m ((j+1:Nat):Int)) (aH::⟨false,[(v,.row (.M [.arr .i64 a m]))]⟩::H)=some x∧if BI a j=true then x=(.ret,[(2,.slc 1 0 v 0 1 (tm a m j) none)],aH::⟨false,[(v,.row (.M [.arr .i64 (EM a m j) m]))]⟩::H) else x.1=.normal∧tidy (an (aH::⟨false,[(v,.row (.M [.arr .i64 a m]))]⟩::H)) x.2.1 x.2.2=(m6 v m ((j+1+1:Nat):Int),aH::⟨false,[(v,.row (.M [.arr .i64 a m]))]⟩::H):=by
  intro j hj hno
  have e2:cD .i64 ((j+1:Nat):Int) (Int.ofNat 1)=(j:Int):=by rw[db,show Int.ofNat 1=1 from rfl,dv (by omega) (by omega)];omega
  have e3:aD 0 ((j+1:Nat):Int) 1=j+1:=Dx (j+1)
  have e4:aD 0 (j:Int) 1=j:=Dx j
  have e5:bk .i64 ((j+1:Nat):Int) (Int.ofNat 1)=((j+1+1:Nat):Int):=lx (by omega)
  have e7:aq 0 (gI ((j+1:Nat):Int))=j+1:=by rw[ba,iN];omega
  have e8:p8 m (gI ((j+1:Nat):Int))=m-(j+1):=by rw[kN,iN];omega
  cases hp:BI a j with
  | true =>
    have hd:a (j+1)=a j:=of_decide_eq_true hp
    have hn:∀ i,i+1<j+1→a (i+1)≠a i:=fun i hi=>of_decide_eq_false (hno i (by omega))
    have hx:=MQ n v m a H (j+1) (by omega) (by omega) h2 hd hn
    obtain ⟨_,_,_,i4⟩:=l8 (a:=a) (k0:=j+1) (by omega) hd hn (m-(j+1)-1)
    have hK:tm a m j<m:=by unfold tm;omega
    have eK:(gK a (j+1) (m-(j+1)-1)).2=tm a m j:=rfl
    have e9:aq 0 (gI ((tm a m j:Nat):Int))=tm a m j:=by rw[ba,iN];omega
    have e10:p8 m (gI ((tm a m j:Nat):Int))=m-tm a m j:=by rw[kN,iN];omega
    have e11:gI ((tm a m j:Nat):Int)=tm a m j:=by rw[iN];omega
    obtain ⟨y,y1,y2⟩:=az (Q:=fun x=>x=(.ret,[(2,.slc 1 0 v 0 1 (tm a m j) none)],aH::⟨false,[(v,.row (.M [.arr .i64 (EM a m j) m]))]⟩::H)) (Nv n v m (j+1) (m-(j+1)) a (gK a (j+1) (m-(j+1)-1)).1 H ((j+1:Nat):Int) ((tm a m j:Nat):Int)) (aB n) (bu (af _ _) Ln (fun x hx2=>by rw[← Tr.ab hx2];simp only[fz.st,aN];exact hx)) (ag _ _) (by
     rw[e2,e3,e4,e5,e7,e8,e9,e10,e11,bR,show (a (j+1) == a j)=true from beq_iff_eq.2 hd]
     have eG:gN (gK a (j+1) (m-(j+1)-1)).1 (tm a m j) (fun x=>Int.ofNat 0) (m-tm a m j)=EM a m j:=rfl
     rw[eG]
     generalize EM a m j=G at *
     generalize tm a m j=K at *
     exact wF)
    exact ⟨y,y1,by rw[if_pos rfl];exact y2⟩
  | false =>
    have hd:a (j+1)≠a j:=of_decide_eq_false hp
    obtain ⟨y,y1,y2⟩:=az (Q:=fun x=>x.1=.normal∧tidy (an (aH::⟨false,[(v,.row (.M [.arr .i64 a m]))]⟩::H)) x.2.1 x.2.2=(m6 v m ((j+1+1:Nat):Int),aH::⟨false,[(v,.row (.M [.arr .i64 a m]))]⟩::H)) (Hi n v m a H ((j+1:Nat):Int)) (aB n) (fP (af _ _) 2) (ag _ _) (by
     rw[e2,e3,e4,e5,bR,show (a (j+1) == a j)=false from beq_eq_false_iff_ne.2 hd]
     exact wF)
    exact ⟨y,y1,by rw[if_neg (by decide)];exact y2⟩
 have he:exec (bt n 97 61) (part Tryz.f97 [1,1,0,1,0,0]) (m6 v m ((m-1+1:Nat):Int)) (aH::⟨false,[(v,.row (.M [.arr .i64 a m]))]⟩::H)=some (.exit 0,m6 v m (Int.ofNat m)++[(13,.bool false)],aH::⟨false,[(v,.row (.M [.arr .i64 a m]))]⟩::H):=by
  rw[show m-1+1=m by omega]
  obtain ⟨x,h1,rfl⟩:=az (Q:=fun x=>x=(.exit 0,m6 v m (Int.ofNat m)++[(13,.bool false)],aH::⟨false,[(v,.row (.M [.arr .i64 a m]))]⟩::H)) (Hi n v m a H (Int.ofNat m)) (aB n) (fP (af _ _) 2) (ag _ _) (by
   exact wF)
  exact h1
 exact HY 0 (fun j=>m6 v m ((j+1:Nat):Int)) (fun _=>aH::⟨false,[(v,.row (.M [.arr .i64 a m]))]⟩::H) (m-1) (BI a) (fun j=>([(2,.slc 1 0 v 0 1 (tm a m j) none)],aH::⟨false,[(v,.row (.M [.arr .i64 (EM a m j) m]))]⟩::H)) (m6 v m (Int.ofNat m)++[(13,.bool false)],aH::⟨false,[(v,.row (.M [.arr .i64 a m]))]⟩::H) (by omega) key he
end
theorem Ly (m:Nat) (a:Nat→Int) (hm:1≤m) (h2:m≤1000):∃ g,(∀ i,i<(nG a m).length→g i=(nG a m).getD i 0)∧∀ n v H,cd (n+1) (.fn 97) [.slc 0 0 v 0 1 m none] (⟨false,[(v,.row (.M [.arr .i64 a m]))]⟩::H)=some (.slc 0 0 v 0 1 (nG a m).length none,⟨false,[(v,.row (.M [.arr .i64 g m]))]⟩::H):=by
 by_cases h1:m<2
 · obtain rfl:m=1:=by omega
   have e:nG a 1=[a 0]:=rfl
   refine ⟨a,fun i hi=>?_,fun n v H=>?_⟩
   · rw[e] at hi ⊢
     simp at hi
     subst hi;rfl
   · rw[e]
     refine bw (n:=n) Tryz.func97 rfl rfl rfl (NR n v 1 a H) (aB n) (fP (af _ _) 0) (ag _ _) ?_
     exact wF
 have hx:=fun n v H=>Qq n v m a H (by omega) h2
 cases hc:lB (BI a) (m-1) with
 | false =>
   have hno:∀ j,j+1<m→a (j+1)≠a j:=fun j hj=>by
    have:=Fv (by rw[hc];decide) j (show j<m-1 by omega)
    exact of_decide_eq_false this
   have e:=vp a m hno
   have el:(nG a m).length=m:=by rw[e];simp
   rw[hc] at hx
   simp only[cond_false] at hx
   refine ⟨a,fun i hi=>?_,fun n v H=>?_⟩
   · rw[el] at hi
     rw[e,List.getD_eq_getElem?_getD,List.getElem?_map,List.getElem?_range hi];rfl
   · rw[el]
     refine bw (n:=n) Tryz.func97 rfl rfl rfl (NQ n v m a H) (aB n) (bu (af _ _) N5 (fun x h=>by rw[← Tr.ab h];simp only[fz.st,aN];exact hx n v H)) (ag _ _) ?_
     exact wF
 | true =>
   have hJ:=oi hc
   obtain ⟨_,_,k3,k4⟩:=oj (BI a) (m-1) 0
   have k4:=k4 (by omega)
   have hd:a (fN (BI a) (m-1) 0+1)=a (fN (BI a) (m-1) 0):=of_decide_eq_true k4
   have hn:∀ i,i+1<fN (BI a) (m-1) 0+1→a (i+1)≠a i:=fun i hi=>of_decide_eq_false (k3 i (Nat.zero_le _) (by omega))
   rw[hc] at hx
   simp only[cond_true] at hx
   generalize fN (BI a) (m-1) 0=J at *
   obtain ⟨i1,i2,_,i4⟩:=l8 (a:=a) (k0:=J+1) (by omega) hd hn (m-(J+1)-1)
   have eK:(gK a (J+1) (m-(J+1)-1)).2=tm a m J:=rfl
   rw[show J+1+(m-(J+1)-1)+1=m by omega] at i1 i2
   rw[eK] at i1 i2
   refine ⟨EM a m J,fun i hi=>?_,fun n v H=>?_⟩
   · rw[← i1] at hi
     unfold EM
     rw[nZ]
     unfold tz
     rw[if_neg (by omega)]
     exact i2 i hi
   · rw[← i1]
     refine bw (n:=n) Tryz.func97 rfl rfl rfl (NP n v m a (EM a m J) H (tm a m J)) (aB n) (bu (af _ _) N5 (fun x h=>by rw[← Tr.ab h];simp only[fz.st,aN];exact hx n v H)) (ag _ _) ?_
     generalize EM a m J=G at *
     generalize tm a m J=K at *
     exact wF
end Go.Eng
end
section
namespace Go.Eng
open Go.Proofs
noncomputable def sd (s l m:Nat) (y g:Nat→Int) (L:AV) (j:Int):au:=[(0,gY (s+1) l y),(3,L),(7,cQ m g false),(8,.int .i64 (Int.ofNat m)),(9,.int .i64 j)]
noncomputable def LJ (v k:Nat) (a b:Nat→Int) (args:List AV) (H:aa):Tr (AV×aa) :=
 match args with
 | [.slc 0 0 v' 0 1 k' none]=>match H with
   | ⟨lk,[(v2,.row (.M [.arr .i64 a' k2]))]⟩::r=>.reqP (lk=false∧v'=v∧k'=k∧v2=v∧k2=k∧a'=a) (.ok (.tup [],⟨false,[(v,.row (.M [.arr .i64 b k]))]⟩::r))
   | _=>.bad
 | _=>.bad
noncomputable def LK (v k k3:Nat) (a b:Nat→Int) (args:List AV) (H:aa):Tr (AV×aa) :=
 match args with
 | [.slc 0 0 v' 0 1 k' none]=>match H with
   | ⟨lk,[(v2,.row (.M [.arr .i64 a' k2]))]⟩::r=>.reqP (lk=false∧v'=v∧k'=k∧v2=v∧k2=k∧a'=a) (.ok (.slc 0 0 v 0 1 k3 none,⟨false,[(v,.row (.M [.arr .i64 b k]))]⟩::r))
   | _=>.bad
 | _=>.bad
theorem KD (n s l m:Nat) (y g:Nat→Int) (H:aa) (j:Int):aP (bt n 81 32) (il aT n 0) a6 a7 (part Tryz.f81 [1,1,0,1,0,0]) (hints (sd s l m y g .nils j)) (aH::H) =
 Tr.ite (cP j (Int.ofNat m)) (Tr.req (dY j m) (Tr.req (bX (aD 0 j 1) m) (Tr.req (dY (g (aD 0 j 1)) l) (Tr.req (bX (aq (aD 0 (g (aD 0 j 1)) 7) 5) (bg l 7)) (Tr.req (fO 0 1 8) (Tr.req (dJ 0 0) (Tr.req (gi 1 1) (Tr.ok (Ex.normal,[(0,AV.ptrT (some (Nat.succ s)) (Row.G [aO 7 l y]) 0,none),(3,AV.slc 0 1 0 0 1 1 none,none),(7,AV.slcT none (Row.M [aW.arr .i64 g m]) 1 m false,none),(8,AV.int .i64 (Int.ofNat m),none),(9,AV.int .i64 (bk .i64 j (Int.ofNat 1)),none)],{ lock:=false,bs:=[(0,al.row (Row.I .i64 [y (aq (aD 0 (g (aD 0 j 1)) 7) 5)])),(0,al.row (Row.M [aW.arr .i64 (aL [y (aq (aD 0 (g (aD 0 j 1)) 7) 5)]) 1]))] } :: H))))))))) (Tr.ok (Ex.exit 0,[(0,AV.ptrT (some (Nat.succ s)) (Row.G [aO 7 l y]) 0,none),(3,AV.nils,none),(7,AV.slcT none (Row.M [aW.arr .i64 g m]) 1 m false,none),(8,AV.int .i64 (Int.ofNat m),none),(9,AV.int .i64 j,none),(10,AV.bool false,some 1)],aH::H)):=by kernel_rfl
theorem KE (n s l m v k:Nat) (y g b:Nat→Int) (H:aa) (j:Int):aP (bt n 81 32) (il aT n 0) a6 a7 (part Tryz.f81 [1,1,0,1,0,0]) (hints (sd s l m y g (.slc 0 0 v 0 1 k none) j)) (⟨false,[(v,.row (.M [.arr .i64 b k]))]⟩::H) =
 Tr.ite (cP j (Int.ofNat m)) (Tr.req (dY j m) (Tr.req (bX (aD 0 j 1) m) (Tr.req (dY (g (aD 0 j 1)) l) (Tr.req (bX (aq (aD 0 (g (aD 0 j 1)) 7) 5) (bg l 7)) (Tr.req (fO k 1 8) (Tr.req (dJ 0 0) (Tr.req (gi 1 1) (Tr.req (dJ v v) (Tr.req (dJ (aq 0 k) k) (Tr.ok (Ex.normal,[(0,AV.ptrT (some (Nat.succ s)) (Row.G [aO 7 l y]) 0,none),(3,AV.slc 0 0 (Nat.succ v) 0 1 (aq k 1) none,none),(7,AV.slcT none (Row.M [aW.arr .i64 g m]) 1 m false,none),(8,AV.int .i64 (Int.ofNat m),none),(9,AV.int .i64 (bk .i64 j (Int.ofNat 1)),none)],{ lock:=false,bs:=[(Nat.succ v,al.row (Row.M [aW.arr .i64 (qN (qL b 0) k (aL [y (aq (aD 0 (g (aD 0 j 1)) 7) 5)])) (aq k 1)])),(0,al.row (Row.I .i64 [y (aq (aD 0 (g (aD 0 j 1)) 7) 5)]))] } :: H))))))))))) (Tr.ok (Ex.exit 0,[(0,AV.ptrT (some (Nat.succ s)) (Row.G [aO 7 l y]) 0,none),(3,AV.slc 0 0 v 0 1 k none,none),(7,AV.slcT none (Row.M [aW.arr .i64 g m]) 1 m false,none),(8,AV.int .i64 (Int.ofNat m),none),(9,AV.int .i64 j,none),(10,AV.bool false,some 1)],{ lock:=false,bs:=[(v,al.row (Row.M [aW.arr .i64 b k]))] } :: H)):=by kernel_rfl
theorem NN (n s l m v k k3:Nat) (y g a b c:Nat→Int) (H:aa):bK Tryz.prog (cd (n+1)) 100000 81 Tryz.f81 (KtB.kt 81) (il (iU (iU (ly aT 64 (gO (gY (s+1) l y) (cQ m g false))) 96 (LJ v k a b)) 97 (LK v k k3 b c)) n 1) (eT a6 0 (sd s l m y g .nils (Int.ofNat 0)) (aH::H) (.ok (.normal,hints (sd s l m y g (.slc 0 0 v 0 1 k none) (Int.ofNat m)++[(10,.bool false)]),⟨false,[(v,.row (.M [.arr .i64 a k]))]⟩::H))) a7 [(gY s l y,none)] H =
 (fun (Z0:au)=>Tr.reqP (AV.ptrT (some (Nat.succ s)) (Row.G [aO 7 l y]) 0=AV.ptrT (some (Nat.succ s)) (Row.G [aO 7 l y]) 0) (Tr.reqP (Z0=Z0∧aH::H=aH::H) (Tr.reqP (false=false∧v=v∧k=k∧v=v∧k=k∧a=a) (Tr.reqP (false=false∧v=v∧k=k∧v=v∧k=k∧b=b) (Tr.req (dJ v v) (Tr.req (qu 0 k3 0 k) (Tr.ok ((AV.fn (Fn.func 112) [] [AV.ptrT (some 0) (Row.G [AV.slcT none (Row.M [aW.arr .i64 (qL c 0) k3]) 1 k3 false]) 0],none),H)))))))) [(0,AV.ptrT (some (Nat.succ s)) (Row.G [aO 7 l y]) 0),(3,AV.nils),(7,AV.slcT none (Row.M [aW.arr .i64 g m]) 1 m false),(8,AV.int .i64 (Int.ofNat m)),(9,AV.int .i64 (Int.ofNat 0))]:=by kernel_rfl
theorem NM (n s l:Nat) (y:Nat→Int) (H:aa):bK Tryz.prog (cd (n+1)) 100000 81 Tryz.f81 (KtB.kt 81) (il (ly (ly aT 64 (gO (gY (s+1) l y) .nils)) 96 (gO .nils (.tup []))) n 1) a6 a7 [(gY s l y,none)] H =
 Tr.reqP (AV.ptrT (some (Nat.succ s)) (Row.G [aO 7 l y]) 0=AV.ptrT (some (Nat.succ s)) (Row.G [aO 7 l y]) 0) (Tr.reqP (AV.nils=AV.nils) (Tr.ok ((AV.fn (Fn.func 112) [] [AV.ptrT (some 0) (Row.G [AV.nils]) 0],none),H))):=by kernel_rfl
theorem Oo:∀ b,(0,b) ∈ aV (bQ Tryz.f81)→b=.loop (part Tryz.f81 [1,1,0,1,0,0]):=gM (by kernel_rfl)
def yf (z g:Nat→Int):Nat→List Int
 | 0=>[]
 | j+1=>yf z g j++[c5 z (g j).toNat]
theorem rl (z g:Nat→Int):∀ j,(yf z g j).length=j
 | 0=>rfl
 | j+1=>by
   show (yf z g j++[_]).length=j+1
   rw[List.length_append,rl z g j];rfl
theorem Lx (n:Nat) (H:aa):cd (n+6) (.fn 96) [.nils] H=some (.tup [],H):=by kernel_rfl
theorem OJ (n v k:Nat) (a:Nat→Int) (H:aa) (h1:0<k) (h2:k<4611686018427387904):cd (n+1) (.fn 96) [.slc 0 0 v 0 1 k none] (⟨false,[(v,.row (.M [.arr .i64 a k]))]⟩::H)=some (.tup [],⟨false,[(v,.row (.M [.arr .i64 (CD iL a 0 k) k]))]⟩::H):=by
 have hr:cX (⟨false,[(v,.row (.M [.arr .i64 a k]))]⟩::H) 0 0 v=some (.M [.arr .i64 a k]):=by
  show (if Nat.beq v v then some (Row.M [.arr .i64 a k]) else none)=_
  rw[if_pos (Nat.beq_refl v)]
 have:nv (cd n) 96 [.slc 0 0 v 0 1 k none] (⟨false,[(v,.row (.M [.arr .i64 a k]))]⟩::H)=some (.tup [],⟨false,[(v,.row (.M [.arr .i64 (CD iL a 0 k) k]))]⟩::H):=by
  show Cm iL [.slc 0 0 v 0 1 k none] (⟨false,[(v,.row (.M [.arr .i64 a k]))]⟩::H)=_
  simp only[Cm,hr]
  rw[if_pos ⟨rfl,h1,h2,by omega⟩]
  rfl
 unfold cd
 rw[show cC Tryz.prog nv KtB.kt 100000 (n+1) (.fn 96) [.slc 0 0 v 0 1 k none] (⟨false,[(v,.row (.M [.arr .i64 a k]))]⟩::H)=(match nv (cd n) 96 [.slc 0 0 v 0 1 k none] (⟨false,[(v,.row (.M [.arr .i64 a k]))]⟩::H) with
  | some r=>some r
  | none=>_) from rfl,this]
theorem H6 {n v k:Nat} {a b:Nat→Int} {t:nI} (ht:t.Ok (cd (n+1))) (h:∀ H,cd (n+1) (.fn 96) [.slc 0 0 v 0 1 k none] (⟨false,[(v,.row (.M [.arr .i64 a k]))]⟩::H)=some (.tup [],⟨false,[(v,.row (.M [.arr .i64 b k]))]⟩::H)):(iU t 96 (LJ v k a b)).Ok (cd (n+1)):=by
 refine ll ht (fun args H x hx=>?_)
 unfold LJ at hx
 split at hx
 · split at hx
   · obtain ⟨⟨rfl,rfl,rfl,rfl,rfl,rfl⟩,h2⟩:=Tr.dO hx
     rw[← Tr.ab h2]
     exact h _
   · exact (Tr.ae hx).elim
 · exact (Tr.ae hx).elim
theorem H7 {n v k k3:Nat} {a b:Nat→Int} {t:nI} (ht:t.Ok (cd (n+1))) (h:∀ H,cd (n+1) (.fn 97) [.slc 0 0 v 0 1 k none] (⟨false,[(v,.row (.M [.arr .i64 a k]))]⟩::H)=some (.slc 0 0 v 0 1 k3 none,⟨false,[(v,.row (.M [.arr .i64 b k]))]⟩::H)):(iU t 97 (LK v k k3 a b)).Ok (cd (n+1)):=by
 refine ll ht (fun args H x hx=>?_)
 unfold LK at hx
 split at hx
 · split at hx
   · obtain ⟨⟨rfl,rfl,rfl,rfl,rfl,rfl⟩,h2⟩:=Tr.dO hx
     rw[← Tr.ab h2]
     exact h _
   · exact (Tr.ae hx).elim
 · exact (Tr.ae hx).elim
section
variable (n s l m:Nat) (z g:Nat→Int) (H:aa)
theorem Qn (hl:l≤14) (hm:m≤14) (hg:∀ j,j<m→0≤g j∧g j<l):exec (bt n 81 32) (.block 0 (.loop (part Tryz.f81 [1,1,0,1,0,0]))) (sd s l m (oY z l) g .nils (Int.ofNat 0)) (aH::H)=some (.normal,sd s l m (oY z l) g (dW (yf z g m)) (Int.ofNat m)++[(10,.bool false)],I7 (yf z g m)::H):=by
 refine iR 0 (fun j=>sd s l m (oY z l) g (dW (yf z g j)) (j:Int)) (fun j=>I7 (yf z g j)::H) m (sd s l m (oY z l) g (dW (yf z g m)) (Int.ofNat m)++[(10,.bool false)],I7 (yf z g m)::H) (by omega) (fun j hj=>?_) ?_
 · have ej:bk .i64 (j:Int) (Int.ofNat 1)=((j+1:Nat):Int):=lx (by omega)
   have ei:aD 0 (j:Int) 1=j:=Dx j
   have eg:aD 0 (g j) 7=(g j).toNat*7:=by rw[bS];omega
   have hgj:=hg j hj
   have h5:oY z l ((g j).toNat*7+5)=c5 z (g j).toNat:=uM z (by omega) (by omega)
   have hd:yf z g (j+1)=yf z g j++[c5 z (g j).toNat]:=rfl
   have hlen:=rl z g j
   cases e:yf z g j with
   | nil =>
     rw[e] at hd
     refine az (KD n s l m (oY z l) g H (j:Int)) (aB n) (af _ _) (ag _ _) ?_
     simp only[ei,eg,ba]
     rw[ej,h5]
     rw[hd]
     clear hd
     generalize c5 z (g j).toNat=lo at *
     exact wF
   | cons a r =>
     rw[e] at hd hlen
     have e1:=mi (a::r) (c5 z (g j).toNat)
     simp only[List.length_cons] at hlen e1
     have e3:aq (r.length+1) 1=r.length+1+1:=by rw[ba]
     refine az (KE n s l m r.length (r.length+1) (oY z l) g (aL (a::r)) H (j:Int)) (aB n) (af _ _) (ag _ _) ?_
     simp only[ei,eg,ba] at e1 e3 ⊢
     rw[ej,h5,e1]
     have e4:(r++[c5 z (g j).toNat]).length=r.length+1:=by simp
     rw[hd]
     clear hd
     generalize c5 z (g j).toNat=lo at *
     repeat' first | (refine Tr.aj (fun hc=>?_) (fun hc=>?_)<;>(try simp (disch:=omega) only[nV,nW] at hc)<;>(try (exfalso;omega))) | (refine Tr.bm ?_ ?_;· ((try simp (disch:=omega) only[nV,nW]);try omega)) | (refine Tr.aF ?_ ?_;· first | exact trivial | rfl | exact ⟨rfl,rfl⟩ | exact ⟨trivial,rfl⟩ | exact ⟨rfl,by assumption⟩ | exact ⟨trivial,by assumption⟩ | exact ⟨rfl,rfl,rfl⟩ | (simp (disch:=omega) only[nV,nW];done) | ((try simp (disch:=omega) only[nV,nW]);omega)) | fail
     all_goals first
      | (refine Tr.ar ⟨rfl,?_⟩
         show _=(sd s l m (oY z l) g (.slc 0 0 (r++[lo]).length 0 1 ((r++[lo]).length+1) none) ((j+1:Nat):Int),(⟨false,[((r++[lo]).length,.row (.M [.arr .i64 (aL (a::r++[lo])) ((r++[lo]).length+1)]))]⟩:bo)::H)
         rw[e4];rfl)
      | fail
 · cases e:yf z g m with
   | nil =>
     obtain ⟨x,h1,rfl⟩:=az (Q:=fun x=>x=(.exit 0,sd s l m (oY z l) g .nils (Int.ofNat m)++[(10,.bool false)],aH::H)) (KD n s l m (oY z l) g H (Int.ofNat m)) (aB n) (af _ _) (ag _ _) (by
      exact wF)
     exact h1
   | cons a r =>
     obtain ⟨x,h1,rfl⟩:=az (Q:=fun x=>x=(.exit 0,sd s l m (oY z l) g (.slc 0 0 r.length 0 1 (r.length+1) none) (Int.ofNat m)++[(10,.bool false)],(⟨false,[(r.length,.row (.M [.arr .i64 (aL (a::r)) (r.length+1)]))]⟩:bo)::H)) (KE n s l m r.length (r.length+1) (oY z l) g (aL (a::r)) H (Int.ofNat m)) (aB n) (af _ _) (ag _ _) (by
      exact wF)
     exact h1
end
noncomputable def zu (l:Nat) (z:Nat→Int):List Int:=yf z (aL (dl (jy z) l)) (dl (jy z) l).length
noncomputable def cK (l:Nat) (z:Nat→Int):List Int:=nG (aL (iL (zu l z))) (dl (jy z) l).length
noncomputable def QX (A:AV):AV:=.fn (.func 112) [] [.ptrT (some 0) (.G [A]) 0]
theorem OD (l:Nat) (z:Nat→Int) (h:bY l z=0):∃ P,(∀ i,i<(cK l z).length→P i=(cK l z).getD i 0)∧∀ n s H,cd (n+8) (.fn 81) [gY s l (oY z l)] H=some (QX (if (cK l z).length=0 then .nils else cQ (cK l z).length P false),H):=by
 obtain ⟨hl,_⟩:=cM h
 have hlen:=ze (jy z) l
 cases e:dl (jy z) l with
 | nil =>
   have e2:cK l z=[]:=by unfold cK;rw[e];rfl
   rw[e2]
   refine ⟨fun _=>0,fun i hi=>by simp at hi,fun n s H=>?_⟩
   rw[if_pos (show ([]:List Int).length=0 from rfl)]
   refine bw (n:=n+7) Tryz.func81 rfl rfl rfl (NM (n+6) s l (oY z l) H) (iA _ (n+6) 1 (fun q=>HL (HL (bp _) (fun H=>by
    have:=Jh (n+2+q) (s+1) l z H h
    rw[e] at this
    rw[show n+6+q=n+2+q+4 by omega]
    exact this)) (fun H=>by rw[show n+6+q=n+q+6 by omega];exact Lx _ H))) (af _ _) (ag _ _) ?_
   exact wF
 | cons a0 r0 =>
   have em:(dl (jy z) l).length=r0.length+1:=by rw[e];rfl
   have hg:∀ j,j<r0.length+1→0≤aL (dl (jy z) l) j∧aL (dl (jy z) l) j<l:=fun j hj=>by
    have:=oG (dl (jy z) l) j (by omega)
    obtain ⟨i,h1,h2,_⟩:=(zf _ _ _).1 this
    omega
   have hx:=fun n s H=>Qn (n+7) s l (r0.length+1) z (aL (dl (jy z) l)) H (by omega) (by omega) hg
   have hlw:zu l z=yf z (aL (dl (jy z) l)) (r0.length+1):=by unfold zu;rw[em]
   have hA:=rl z (aL (dl (jy z) l)) (r0.length+1)
   have hpt:cK l z=nG (aL (iL (zu l z))) (r0.length+1):=by unfold cK;rw[em]
   rw[← hlw] at hx hA
   generalize hAA:zu l z=A at *
   cases A with
   | nil=>simp at hA
   | cons a r =>
     simp only[List.length_cons,Nat.add_right_cancel_iff] at hA
     obtain ⟨P,hP,hcp⟩:∃ P,(∀ i,i<(cK l z).length→P i=(cK l z).getD i 0)∧∀ q v H,cd (q+1) (.fn 97) [.slc 0 0 v 0 1 (r.length+1) none] (⟨false,[(v,.row (.M [.arr .i64 (aL (iL (a::r))) (r.length+1)]))]⟩::H)=some (.slc 0 0 v 0 1 (cK l z).length none,⟨false,[(v,.row (.M [.arr .i64 P (r.length+1)]))]⟩::H):=by
      rw[hpt,← hA]
      exact Ly _ _ (by omega) (by omega)
     refine ⟨P,hP,fun n s H=>?_⟩
     have hk:1≤(cK l z).length:=by
      rw[hpt]
      have:nG (aL (iL (a::r))) (r0.length+1)≠[]:=by
       have:∀ j,nG (aL (iL (a::r))) (j+1)≠[]:=by
        intro j
        induction j with
        | zero=>simp[nG]
        | succ j ih =>
          show (if _ then _ else _)≠[]
          split
          · simp
          · exact ih
       exact this _
      have:=List.length_pos_iff.2 this
      omega
     have hle:(cK l z).length≤r.length+1:=by rw[hpt,← hA];exact vo _ _
     rw[if_neg (by omega)]
     have hs0:P=qL P 0:=(gH P).symm
     have hrw:=IP (a::r)
     simp only[List.length_cons] at hrw
     refine bw (n:=n+7) Tryz.func81 rfl rfl rfl (NN (n+6) s l (r0.length+1) r.length (r.length+1) (cK l z).length (oY z l) (aL (dl (jy z) l)) (aL (a::r)) (aL (iL (a::r))) P H) (iA _ (n+6) 1 (fun q=>by
      rw[show n+6+q=n+5+q+1 by omega]
      refine H7 (H6 (HL (bp _) (fun H=>?_)) (fun H=>?_)) (fun H=>hcp _ _ H)
      · have:=Jh (n+2+q) (s+1) l z H h
        rw[show n+5+q+1=n+2+q+4 by omega]
        rw[this,e]
        show _=some (cQ (r0.length+1) (aL (a0::r0)) false,H)
        rfl
      · rw[← hrw]
        exact OJ _ _ _ _ H (by omega) (by omega))) (bu (af _ _) Oo (fun x hx2=>by rw[← Tr.ab hx2];simp only[fz.st,aN];exact hx n s H)) (ag _ _) ?_
     rw[gH]
     generalize cK l z=Q at *
     exact wF
end Go.Eng
end
