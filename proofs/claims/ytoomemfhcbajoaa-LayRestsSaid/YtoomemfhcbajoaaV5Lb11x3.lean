/- Lay: Last; levels and last turns as they are defined. -/
import Derived.Test.YtoomemfhcbajoaaV5Lb6x5
set_option linter.unusedVariables false
set_option linter.unusedSimpArgs false
set_option maxRecDepth 100000
section
namespace Go.Eng
open Go.Proofs
noncomputable def q8 (o:AV) (j:Int):ar:=[(1,.ptr 0 0 0 0),(3,o),(4,.int .i64 j)]
noncomputable def iq (o:AV) (j v c x:Int):ar:=[(1,.ptr 0 0 0 0),(3,o),(4,.int .i64 j),(5,.int .i64 v),(6,.int .i64 c),(7,.int .i64 x)]
noncomputable def pY (l:Nat) (t:Nat→Int) (k:Nat) (d:Nat→Int) (v m:Nat) (y:Nat→Int):aU:=⟨false,[IM l t k d,(v,.row (.M [.arr .i64 y m]))]⟩
noncomputable def iE (l:Nat) (t:Nat→Int) (k:Nat) (d:Nat→Int):aU:=⟨false,[IM l t k d]⟩
theorem Ig (n l k:Nat) (t d:Nat→Int) (H:aa) (j w c x:Int):aG (bx n 55 44) (il aK n 0) aO aP (part Try.f55 [1,1,0,1,0,0,1,0,0,1,0,1,0,0]) (hints (iq .nils j w c x)) (iE l t k d::H) =
 (fun (Z0:aU)=>Tr.ite (lH (Int.ofNat 0) x) (Tr.req (dv x k) (Tr.req (c9 (ay 0 x 1) k) (Tr.req (dv x l) (Tr.req (c9 (ay 0 x 1) l) (Tr.ok (Ex.normal,[(1,AV.ptr 0 0 0 0,none),(3,AV.nils,none),(4,AV.int .i64 j,none),(5,AV.int .i64 (ub w (bP .i64 (d (ay 0 x 1)) c)),none),(6,AV.int .i64 (br .i64 c (Int.ofNat 1)),none),(7,AV.int .i64 (t (ay 0 x 1)),none)],Z0::H)))))) (Tr.ok (Ex.exit 2,[(1,AV.ptr 0 0 0 0,none),(3,AV.nils,none),(4,AV.int .i64 j,none),(5,AV.int .i64 w,none),(6,AV.int .i64 c,none),(7,AV.int .i64 x,none),(22,AV.bool false,some 1)],Z0::H))) { lock:=false,bs:=[(0,ai.row (Row.G [AV.slcT none (Row.M [ah.arr .i64 t l]) 1 l false,AV.slcT none (Row.M [ah.arr .i64 d k]) 1 k false]))] }:=by kernel_rfl
theorem Oq (n l k:Nat) (t d:Nat→Int) (H:aa) (j w c x:Int):aG (bx n 55 44) (il aK n 0) (cX aO 2 (iq .nils j (d (ay 0 j 1)) 0 j) (iE l t k d::H) (.ok (.normal,hints (iq .nils j w c x++[(22,.bool false)]),iE l t k d::H))) aP (part Try.f55 [1,1,0,1,0,0]) (hints (q8 .nils j)) (iE l t k d::H) =
 (fun (Z0:Nat×ai)=>((fun (Z1:ar)=>Tr.ite (cq j (Int.ofNat l)) (Tr.req (dv j k) (Tr.req (c9 (ay 0 j 1) k) (Tr.reqP (Z1=Z1∧{ lock:=false,bs:=[Z0] } :: H={ lock:=false,bs:=[Z0] } :: H) (Tr.req (cF 0 1 8) (Tr.req (bM 0 0) (Tr.req (bY 1 1) (Tr.ok (Ex.normal,[(1,AV.ptr 0 0 0 0,none),(3,AV.slc 0 2 0 0 1 1 none,none),(4,AV.int .i64 (br .i64 j (Int.ofNat 1)),none)],{ lock:=false,bs:=[Z0,(0,ai.row (Row.I .i64 [w])),(0,ai.row (Row.M [ah.arr .i64 (al [w]) 1]))] } :: H)))))))) (Tr.ok (Ex.exit 0,[(1,AV.ptr 0 0 0 0,none),(3,AV.nils,none),(4,AV.int .i64 j,none),(12,AV.bool false,some 1)],{ lock:=false,bs:=[Z0] } :: H))) [(1,AV.ptr 0 0 0 0),(3,AV.nils),(4,AV.int .i64 j),(5,AV.int .i64 (d (ay 0 j 1))),(6,AV.int .i64 (Int.ofNat 0)),(7,AV.int .i64 j)])) (0,ai.row (Row.G [AV.slcT none (Row.M [ah.arr .i64 t l]) 1 l false,AV.slcT none (Row.M [ah.arr .i64 d k]) 1 k false])):=by kernel_rfl
theorem Ih (n l k:Nat) (t d:Nat→Int) (v m:Nat) (y:Nat→Int) (H:aa) (j w c x:Int):aG (bx n 55 44) (il aK n 0) aO aP (part Try.f55 [1,1,0,1,0,0,1,0,0,1,0,1,0,0]) (hints (iq (.slc 0 1 v 0 1 m none) j w c x)) (pY l t k d v m y::H) =
 (fun (Z0:aU)=>Tr.ite (lH (Int.ofNat 0) x) (Tr.req (dv x k) (Tr.req (c9 (ay 0 x 1) k) (Tr.req (dv x l) (Tr.req (c9 (ay 0 x 1) l) (Tr.ok (Ex.normal,[(1,AV.ptr 0 0 0 0,none),(3,AV.slc 0 1 v 0 1 m none,none),(4,AV.int .i64 j,none),(5,AV.int .i64 (ub w (bP .i64 (d (ay 0 x 1)) c)),none),(6,AV.int .i64 (br .i64 c (Int.ofNat 1)),none),(7,AV.int .i64 (t (ay 0 x 1)),none)],Z0::H)))))) (Tr.ok (Ex.exit 2,[(1,AV.ptr 0 0 0 0,none),(3,AV.slc 0 1 v 0 1 m none,none),(4,AV.int .i64 j,none),(5,AV.int .i64 w,none),(6,AV.int .i64 c,none),(7,AV.int .i64 x,none),(22,AV.bool false,some 1)],Z0::H))) { lock:=false,bs:=[(0,ai.row (Row.G [AV.slcT none (Row.M [ah.arr .i64 t l]) 1 l false,AV.slcT none (Row.M [ah.arr .i64 d k]) 1 k false])),(v,ai.row (Row.M [ah.arr .i64 y m]))] }:=by kernel_rfl
theorem Ot (n l k:Nat) (t d:Nat→Int) (v m:Nat) (y:Nat→Int) (H:aa) (j w c x:Int):aG (bx n 55 44) (il aK n 0) (cX aO 2 (iq (.slc 0 1 v 0 1 m none) j (d (ay 0 j 1)) 0 j) (pY l t k d v m y::H) (.ok (.normal,hints (iq (.slc 0 1 v 0 1 m none) j w c x++[(22,.bool false)]),pY l t k d v m y::H))) aP (part Try.f55 [1,1,0,1,0,0]) (hints (q8 (.slc 0 1 v 0 1 m none) j)) (pY l t k d v m y::H) =
 (fun (Z0:aU)=>((fun (Z1:ar)=>Tr.ite (cq j (Int.ofNat l)) (Tr.req (dv j k) (Tr.req (c9 (ay 0 j 1) k) (Tr.reqP (Z1=Z1∧Z0::H=Z0::H) (Tr.req (cF m 1 8) (Tr.req (bM 0 0) (Tr.req (bY 1 1) (Tr.req (bM v v) (Tr.req (bM (bB 0 m) m) (Tr.ok (Ex.normal,[(1,AV.ptr 0 0 0 0,none),(3,AV.slc 0 1 (Nat.succ v) 0 1 (bB m 1) none,none),(4,AV.int .i64 (br .i64 j (Int.ofNat 1)),none)],{ lock:=false,bs:=[(0,ai.row (Row.G [AV.slcT none (Row.M [ah.arr .i64 t l]) 1 l false,AV.slcT none (Row.M [ah.arr .i64 d k]) 1 k false])),(Nat.succ v,ai.row (Row.M [ah.arr .i64 (jO (bm y 0) m (al [w])) (bB m 1)])),(0,ai.row (Row.I .i64 [w]))] } :: H)))))))))) (Tr.ok (Ex.exit 0,[(1,AV.ptr 0 0 0 0,none),(3,AV.slc 0 1 v 0 1 m none,none),(4,AV.int .i64 j,none),(12,AV.bool false,some 1)],Z0::H))) [(1,AV.ptr 0 0 0 0),(3,AV.slc 0 1 v 0 1 m none),(4,AV.int .i64 j),(5,AV.int .i64 (d (ay 0 j 1))),(6,AV.int .i64 (Int.ofNat 0)),(7,AV.int .i64 j)])) { lock:=false,bs:=[(0,ai.row (Row.G [AV.slcT none (Row.M [ah.arr .i64 t l]) 1 l false,AV.slcT none (Row.M [ah.arr .i64 d k]) 1 k false])),(v,ai.row (Row.M [ah.arr .i64 y m]))] }:=by kernel_rfl
theorem Ou (n l k:Nat) (t d:Nat→Int) (v m:Nat) (y:Nat→Int) (H:aa) (j:Int):aG (bx n 55 44) (il aK n 0) (nh aO 2) aP (part Try.f55 [1,1,0,1,0,0]) (hints (q8 (.slc 0 1 v 0 1 m none) j)) (pY l t k d v m y::H) =
 Tr.ite (cq j (Int.ofNat l)) (Tr.req (dv j k) (Tr.req (c9 (ay 0 j 1) k) Tr.bad)) (Tr.ok (Ex.exit 0,[(1,AV.ptr 0 0 0 0,none),(3,AV.slc 0 1 v 0 1 m none,none),(4,AV.int .i64 j,none),(12,AV.bool false,some 1)],{ lock:=false,bs:=[(0,ai.row (Row.G [AV.slcT none (Row.M [ah.arr .i64 t l]) 1 l false,AV.slcT none (Row.M [ah.arr .i64 d k]) 1 k false])),(v,ai.row (Row.M [ah.arr .i64 y m]))] } :: H)):=by kernel_rfl
theorem Sk (n l k q:Nat) (t d y:Nat→Int) (H:aa):bn Try.prog (cd n) 100000 55 Try.f55 (KtL.kt 55) (il aK n 0) (cX aO 0 (q8 .nils 0) (iE l t k d::H) (.ok (.normal,hints (q8 (.slc 0 1 q 0 1 (q+1) none) (Int.ofNat l)++[(12,.bool false)]),pY l t k d q (q+1) y::H))) aP [(dx l t k d,none)] H =
 (fun (Z0:aU)=>Tr.reqP ([(1,AV.ptr 0 0 0 0),(3,AV.nils),(4,AV.int .i64 (Int.ofNat 0))]=[(1,AV.ptr 0 0 0 0),(3,AV.nils),(4,AV.int .i64 (Int.ofNat 0))]∧Z0::H=Z0::H) (Tr.req (bM q q) (Tr.req (iB 0 (Nat.succ q) 0 (Nat.succ q)) (Tr.ok ((AV.slcT none (Row.M [ah.arr .i64 (bm y 0) (Nat.succ q)]) 1 (Nat.succ q) false,none),H))))) { lock:=false,bs:=[(0,ai.row (Row.G [AV.slcT none (Row.M [ah.arr .i64 t l]) 1 l false,AV.slcT none (Row.M [ah.arr .i64 d k]) 1 k false]))] }:=by kernel_rfl
theorem Pz:∀ b,(0,b) ∈ aN (bO Try.f55)→b=.loop (part Try.f55 [1,1,0,1,0,0]):=gq (by kernel_rfl)
theorem Ki:∀ b,(2,b) ∈ aN (part Try.f55 [1,1,0,1,0,0])→b=.loop (part Try.f55 [1,1,0,1,0,0,1,0,0,1,0,1,0,0]):=gq (by kernel_rfl)
def bC (z:Nat→Int) (j:Nat):List Int:=(List.range j).map z
theorem Bj (z:Nat→Int) (j:Nat):(bC z j).length=j:=by simp[bC]
theorem Gl (z:Nat→Int) (j:Nat):bC z (j+1)=bC z j++[z j]:=by simp[bC,List.range_succ]
theorem jr (z:Nat→Int) (j:Nat):jO (bm (al (bC z j)) 0) j (al [z j])=al (bC z (j+1)):=by
 have:=wg (bC z j) (z j)
 rw[Bj,← Gl] at this;exact this
theorem lO (z:Nat→Int) {j i:Nat} (h:i<j):al (bC z j) i=z i:=by
 rw[Jo _ _ (by rw[Bj];exact h)];simp[bC]
noncomputable def Mi:Nat→AV
 | 0=>.nils
 | q+1=>.slc 0 1 q 0 1 (q+1) none
noncomputable def GO (l:Nat) (t:Nat→Int) (k:Nat) (d:Nat→Int) (z:Nat→Int):Nat→aU
 | 0=>iE l t k d
 | q+1=>pY l t k d q (q+1) (al (bC z (q+1)))
structure Fw (l:Nat) (t:Nat→Int):Prop where
 l30:l≤30
 tl:∀ j,j<l→t j<l
 cyc:iw l t=false
theorem Sh.fw {l k:Nat} {t d:Nat→Int} (h:Sh l t k d):Fw l t:=⟨h.l30,h.tl,h.cyc⟩
def Bd (l:Nat) (e:Nat→Int):Prop:=∀ j,j<l→-900≤e j∧e j≤900
theorem Sh.bd {l k:Nat} {t d:Nat→Int} (h:Sh l t k d):Bd l d:=fun j hj=>by
 have:=h.d1 j hj
 have:=h.d40 j hj
 omega
section
variable (n l k:Nat) (t d:Nat→Int) (H:aa)
theorem K2 (j:Nat) (h:Fw l t) (hk:k=l) (hb:Bd l d) (hj:j<l):exec (bx n 55 44) (.block 2 (.loop (part Try.f55 [1,1,0,1,0,0,1,0,0,1,0,1,0,0]))) (iq .nils (j:Nat) (d j) 0 (j:Nat)) (iE l t k d::H)=some (.normal,iq .nils (j:Nat) (fQ l t d j) (iW l t j:Nat) (bF t (iW l t j) (j:Nat))++[(22,.bool false)],iE l t k d::H):=by
 obtain ⟨e1,e2,e3⟩:=kF h.cyc j hj
 have hl:=h.l30
 refine jG (n:=n) (f:=55) (nt:=44) (c:=part Try.f55 [1,1,0,1,0,0,1,0,0,1,0,1,0,0]) 2 (fun p=>iq .nils (j:Nat) (rb t d j p) (p:Nat) (bF t p (j:Nat))) (fun _=>iE l t k d::H) (iW l t j) _ (by omega) (fun p hp=>?_) ?_
 · have h1:=e2 p hp
   have h2:=gN h.tl (show (j:Int)<l by omega) p
   have h3:=xf h1
   have h4:=hb (bF t p (j:Nat)).toNat (by omega)
   have h5:bP .i64 (d (bF t p (j:Nat)).toNat) (p:Int)=d (bF t p (j:Nat)).toNat-(p:Int):=ui (by omega) (by omega)
   refine aF (Ig n l k t d H (j:Nat) (rb t d j p) (p:Nat) (bF t p (j:Nat))) (aw n) (af _ _) (ag _ _) ?_
   rw[dJ (j:=p) (by omega),J9 h1,h5,j7]
   show Tr.all _ (fun r=>_∧tidy _ _ _=(iq .nils (j:Nat) (min (rb t d j p) (d (bF t p (j:Int)).toNat-(p:Int))) ((p+1:Nat):Int) (bF t (p+1) (j:Nat)),_))
   rw[h3]
   generalize min (rb t d j p) (d (bF t p (j:Int)).toNat-(p:Int))=V at *
   generalize bF t p (j:Nat)=x at *
   exact wF
 · obtain ⟨r,h1,rfl⟩:=aF (Q:=fun r=>r=(.exit 2,iq .nils (j:Nat) (fQ l t d j) (iW l t j:Nat) (bF t (iW l t j) (j:Nat))++[(22,.bool false)],iE l t k d::H)) (Ig n l k t d H (j:Nat) (fQ l t d j) (iW l t j:Nat) (bF t (iW l t j) (j:Nat))) (aw n) (af _ _) (ag _ _) (by
    refine Tr.bj (fun hc=>?_) (fun hc=>Tr.bg rfl)
    simp (disch:=omega) only[nV,nW] at hc;omega)
   exact h1
theorem K3 (v m:Nat) (y:Nat→Int) (j:Nat) (h:Fw l t) (hk:k=l) (hb:Bd l d) (hj:j<l):exec (bx n 55 44) (.block 2 (.loop (part Try.f55 [1,1,0,1,0,0,1,0,0,1,0,1,0,0]))) (iq (.slc 0 1 v 0 1 m none) (j:Nat) (d j) 0 (j:Nat)) (pY l t k d v m y::H)=some (.normal,iq (.slc 0 1 v 0 1 m none) (j:Nat) (fQ l t d j) (iW l t j:Nat) (bF t (iW l t j) (j:Nat))++[(22,.bool false)],pY l t k d v m y::H):=by
 obtain ⟨e1,e2,e3⟩:=kF h.cyc j hj
 have hl:=h.l30
 refine jG (n:=n) (f:=55) (nt:=44) (c:=part Try.f55 [1,1,0,1,0,0,1,0,0,1,0,1,0,0]) 2 (fun p=>iq (.slc 0 1 v 0 1 m none) (j:Nat) (rb t d j p) (p:Nat) (bF t p (j:Nat))) (fun _=>pY l t k d v m y::H) (iW l t j) _ (by omega) (fun p hp=>?_) ?_
 · have h1:=e2 p hp
   have h2:=gN h.tl (show (j:Int)<l by omega) p
   have h3:=xf h1
   have h4:=hb (bF t p (j:Nat)).toNat (by omega)
   have h5:bP .i64 (d (bF t p (j:Nat)).toNat) (p:Int)=d (bF t p (j:Nat)).toNat-(p:Int):=ui (by omega) (by omega)
   refine aF (Ih n l k t d v m y H (j:Nat) (rb t d j p) (p:Nat) (bF t p (j:Nat))) (aw n) (af _ _) (ag _ _) ?_
   rw[dJ (j:=p) (by omega),J9 h1,h5,j7]
   show Tr.all _ (fun r=>_∧tidy _ _ _=(iq (.slc 0 1 v 0 1 m none) (j:Nat) (min (rb t d j p) (d (bF t p (j:Int)).toNat-(p:Int))) ((p+1:Nat):Int) (bF t (p+1) (j:Nat)),_))
   rw[h3]
   generalize min (rb t d j p) (d (bF t p (j:Int)).toNat-(p:Int))=V at *
   generalize bF t p (j:Nat)=x at *
   exact wF
 · obtain ⟨r,h1,rfl⟩:=aF (Q:=fun r=>r=(.exit 2,iq (.slc 0 1 v 0 1 m none) (j:Nat) (fQ l t d j) (iW l t j:Nat) (bF t (iW l t j) (j:Nat))++[(22,.bool false)],pY l t k d v m y::H)) (Ih n l k t d v m y H (j:Nat) (fQ l t d j) (iW l t j:Nat) (bF t (iW l t j) (j:Nat))) (aw n) (af _ _) (ag _ _) (by
    refine Tr.bj (fun hc=>?_) (fun hc=>Tr.bg rfl)
    simp (disch:=omega) only[nV,nW] at hc;omega)
   exact h1
theorem RJ (h:Fw l t) (h0:0<l) (hk:k=l) (hb:Bd l d):exec (bx n 55 44) (.block 0 (.loop (part Try.f55 [1,1,0,1,0,0]))) (q8 .nils 0) (iE l t k d::H)=some (.normal,q8 (Mi l) (Int.ofNat l)++[(12,.bool false)],GO l t k d (fun i=>fQ l t d i) l::H):=by
 have hl:=h.l30
 refine jG (n:=n) (f:=55) (nt:=44) (c:=part Try.f55 [1,1,0,1,0,0]) 0 (fun j=>q8 (Mi j) (j:Nat)) (fun j=>GO l t k d (fun i=>fQ l t d i) j::H) l (q8 (Mi l) (Int.ofNat l)++[(12,.bool false)],GO l t k d (fun i=>fQ l t d i) l::H) (by omega) (fun j hj=>?_) ?_
 · cases j with
   | zero =>
     have hx:=K2 n l k t d H 0 h hk hb hj
     have he:=Oq n l k t d H (0:Nat) (fQ l t d 0) (iW l t 0:Nat) (bF t (iW l t 0) (0:Nat))
     rw[mV] at he
     refine aF he (aw n) (aW (af _ _) Ki (fun x hy=>bU hy hx)) (ag _ _) ?_
     show Tr.all _ (fun x=>_∧tidy _ _ _=(q8 (.slc 0 1 0 0 1 1 none) ((0+1:Nat):Int),pY l t k d 0 1 (al [fQ l t d 0])::H))
     rw[dJ (j:=0) (by omega)]
     generalize fQ l t d 0=W at *
     generalize iW l t 0=N at *
     exact wF
   | succ j =>
     have hx:=K3 n l k t d H j (j+1) (al (bC (fun i=>fQ l t d i) (j+1))) (j+1) h hk hb hj
     have he:=Ot n l k t d j (j+1) (al (bC (fun i=>fQ l t d i) (j+1))) H (j+1:Nat) (fQ l t d (j+1)) (iW l t (j+1):Nat) (bF t (iW l t (j+1)) (j+1:Nat))
     rw[mV] at he
     refine aF he (aw n) (aW (af _ _) Ki (fun x hy=>bU hy hx)) (ag _ _) ?_
     show Tr.all _ (fun x=>_∧tidy _ _ _=(q8 (.slc 0 1 (j+1) 0 1 (j+1+1) none) ((j+1+1:Nat):Int),pY l t k d (j+1) (j+1+1) (al (bC (fun i=>fQ l t d i) (j+1+1)))::H))
     have hap:=jr (fun i=>fQ l t d i) (j+1)
     have ea:bB (j+1) 1=j+1+1:=bD _ _
     try dsimp only at hap
     rw[dJ (j:=j+1) (by omega),hap,ea]
     generalize al (bC (fun i=>fQ l t d i) (j+1+1))=Y2 at *
     generalize al (bC (fun i=>fQ l t d i) (j+1))=Y at *
     generalize fQ l t d (j+1)=W at *
     generalize iW l t (j+1)=N at *
     exact wF
 · obtain ⟨q,rfl⟩:∃ q,l=q+1:=⟨l-1,by omega⟩
   obtain ⟨x,h1,rfl⟩:=aF (Q:=fun x=>x=(.exit 0,q8 (Mi (q+1)) (Int.ofNat (q+1))++[(12,.bool false)],GO (q+1) t k d (fun i=>fQ (q+1) t d i) (q+1)::H)) (Ou n (q+1) k t d q (q+1) (al (bC (fun i=>fQ (q+1) t d i) (q+1))) H (Int.ofNat (q+1))) (aw n) (eK (af _ _) 2) (ag _ _) (by
    refine Tr.bj (fun hc=>?_) (fun hc=>Tr.bg rfl)
    simp (disch:=omega) only[nV,nW] at hc;omega)
   exact h1
theorem PS (h:Fw l t) (h0:0<l) (hk:k=l) (hb:Bd l d):cd (n+1) (.fn 55) [dx l t k d] H=some (b7 l (al (bC (fun i=>fQ l t d i) l)) false,H):=by
 have hx:=RJ n l k t d H h h0 hk hb
 obtain ⟨q,rfl⟩:∃ q,l=q+1:=⟨l-1,by omega⟩
 refine aS (n:=n) Try.func55 rfl rfl rfl (Sk n (q+1) k q t d (al (bC (fun i=>fQ (q+1) t d i) (q+1))) H) (aw _) (aW (af _ _) Pz (fun x hy=>bU hy hx)) (ag _ _) ?_
 rw[di]
 generalize al (bC (fun i=>fQ (q+1) t d i) (q+1))=Y at *
 exact wF
end
end Go.Eng
end
section
namespace Go.Eng
open Go.Proofs
section
variable (n:Nat) (H:aa)
variable (l k:Nat) (t d:Nat→Int)
end
end Go.Eng
end
section
namespace Go.Eng
open Go.Proofs
noncomputable def Af (l:Nat) (z:Nat→Int) (h T c j:Int):ar:=[(1,.int .i64 h),(2,.int .i64 T),(7,b7 l z false),(8,.int .i64 c),(9,.int .i64 j)]
noncomputable def Ek (h j:Int):ar:=[(1,.int .i64 h),(2,.ptr 0 0 0 0),(5,.int .i64 j)]
theorem Pu (n l k:Nat) (t d g:Nat→Int) (W:Int→Int→Nat→(Nat→Int)→Bool) (h:Int) (H:aa):bn Try.prog (cd n) 100000 66 Try.f66 (KtL.kt 66) (il (gY (tX aK 51 [dx l t k d] (.tup [dC 0 l t k d g,.int .i64 0])) 56 (KV W)) n 0) aO aP [(dx l t k d,none),(.int .i64 h,none)] H =
 (fun (Z0:AV×Option Nat)=>((fun (Z1:List AV)=>((fun (Z2:AV×Option Nat)=>Tr.reqP (Z1=Z1) (Tr.ite (ba (cQ (Int.ofNat 0) (Int.ofNat 0))) (Tr.ok ((AV.tup [AV.nilp,AV.int .i64 (Int.ofNat 0)],none),H)) (Tr.ite (cq h (Int.ofNat 1)) (Tr.ite (ba false) (Tr.ok (Z2,H)) (Tr.ok (Z0,H))) (Tr.ite (cq (Int.ofNat 10) h) (Tr.ite (ba false) (Tr.ok (Z2,H)) (Tr.ok (Z0,H))) (Tr.ite (ba true) (Tr.ok (Z2,H)) (Tr.ok (Z0,H))))))) (AV.tup [AV.nilp,AV.int .i64 (Int.ofNat 2)],none))) [AV.agg (Row.G [AV.slcT none (Row.M [ah.arr .i64 t l]) 1 l false,AV.slcT none (Row.M [ah.arr .i64 d k]) 1 k false])])) (AV.tup [AV.ptrT (some 0) (Row.M [ah.one (AV.slcT none (Row.M [ah.arr .i64 t l]) 1 l false),ah.one (AV.slcT none (Row.M [ah.arr .i64 d k]) 1 k false),ah.arr .i64 g 30]) 0,AV.int .i64 (Int.ofNat 0)],none):=by kernel_rfl
theorem OP (n l k:Nat) (t d:Nat→Int) (e h:Int) (H:aa):bn Try.prog (cd n) 100000 66 Try.f66 (KtL.kt 66) (il (tX aK 51 [dx l t k d] (.tup [.nilp,.int .i64 e])) n 0) aO aP [(dx l t k d,none),(.int .i64 h,none)] H =
 (fun (Z0:List AV)=>Tr.reqP (Z0=Z0) (Tr.ite (ba (cQ e (Int.ofNat 0))) (Tr.ok ((AV.tup [AV.nilp,AV.int .i64 e],none),H)) Tr.bad)) [AV.agg (Row.G [AV.slcT none (Row.M [ah.arr .i64 t l]) 1 l false,AV.slcT none (Row.M [ah.arr .i64 d k]) 1 k false])]:=by kernel_rfl
theorem u64 (n l k:Nat) (t d:Nat→Int) (e h:Int) (H:aa):bn Try.prog (cd n) 100000 64 Try.f64 (KtL.kt 64) (il (tX aK 22 [dx l t k d] (.int .i64 e)) n 0) aO aP [(dx l t k d,none),(.int .i64 h,none)] H =
 (fun (Z0:List AV)=>Tr.reqP (Z0=Z0) (Tr.ite (ba (cQ e (Int.ofNat 0))) (Tr.reqP (Z0=Z0) (Tr.ok ((AV.int .i64 e,none),H))) (Tr.ite (cq h (Int.ofNat 1)) (Tr.ok ((AV.int .i64 (Int.ofNat 2),some 1),H)) (Tr.ite (cq (Int.ofNat 10) h) (Tr.ok ((AV.int .i64 (Int.ofNat 2),some 1),H)) (Tr.ok ((AV.int .i64 (Int.ofNat 0),some 1),H)))))) [AV.agg (Row.G [AV.slcT none (Row.M [ah.arr .i64 t l]) 1 l false,AV.slcT none (Row.M [ah.arr .i64 d k]) 1 k false])]:=by kernel_rfl
theorem t70 (n l k:Nat) (z:Nat→Int) (t d:Nat→Int) (H:aa) (h T c j:Int):aG (bx n 70 31) (il aK n 0) aO aP (part Try.f70 [1,1,1,0,1,0,0]) (hints (Af l z h T c j)) (iE l t k d::H) =
 (fun (Z0:aU)=>((fun (Z1:Nat×AV×Option Nat)=>Tr.ite (cq j (Int.ofNat l)) (Tr.req (dv j l) (Tr.req (c9 (ay 0 j 1) l) (Tr.ite (lH (z (ay 0 j 1)) T) (Tr.ok (Ex.normal,[(1,AV.int .i64 h,none),(2,AV.int .i64 T,none),Z1,(8,AV.int .i64 (br .i64 c (Int.ofNat 1)),none),(9,AV.int .i64 (br .i64 j (Int.ofNat 1)),none)],Z0::H)) (Tr.ok (Ex.normal,[(1,AV.int .i64 h,none),(2,AV.int .i64 T,none),Z1,(8,AV.int .i64 c,none),(9,AV.int .i64 (br .i64 j (Int.ofNat 1)),none)],Z0::H))))) (Tr.ok (Ex.exit 0,[(1,AV.int .i64 h,none),(2,AV.int .i64 T,none),Z1,(8,AV.int .i64 c,none),(9,AV.int .i64 j,none),(15,AV.bool false,some 1)],Z0::H))) (7,AV.slcT none (Row.M [ah.arr .i64 z l]) 1 l false,none))) { lock:=false,bs:=[(0,ai.row (Row.G [AV.slcT none (Row.M [ah.arr .i64 t l]) 1 l false,AV.slcT none (Row.M [ah.arr .i64 d k]) 1 k false]))] }:=by kernel_rfl
theorem Su (n l k:Nat) (z:Nat→Int) (t d:Nat→Int) (H:aa) (h T c:Int):bn Try.prog (cd n) 100000 70 Try.f70 (KtL.kt 70) (il (tX aK 55 [dx l t k d] (b7 l z false)) n 0) (cX aO 0 (Af l z h T 0 0) (iE l t k d::H) (.ok (.normal,hints (Af l z h T c (Int.ofNat l)++[(15,.bool false)]),iE l t k d::H))) aP [(dx l t k d,none),(.int .i64 h,none),(.int .i64 T,none)] H =
 (fun (Z0:Row)=>((fun (Z1:ar)=>Tr.reqP ([AV.agg Z0]=[AV.agg Z0]) (Tr.reqP (Z1=Z1∧{ lock:=false,bs:=[(0,ai.row Z0)] } :: H={ lock:=false,bs:=[(0,ai.row Z0)] } :: H) (Tr.ok ((AV.bool (cq (yF .i64 h T) c),none),H)))) [(1,AV.int .i64 h),(2,AV.int .i64 T),(7,AV.slcT none (Row.M [ah.arr .i64 z l]) 1 l false),(8,AV.int .i64 (Int.ofNat 0)),(9,AV.int .i64 (Int.ofNat 0))])) (Row.G [AV.slcT none (Row.M [ah.arr .i64 t l]) 1 l false,AV.slcT none (Row.M [ah.arr .i64 d k]) 1 k false]):=by kernel_rfl
theorem t65 (n l k:Nat) (t d:Nat→Int) (H:aa) (h j:Int) (b:Bool):aG (bx n 65 14) (il (tX aK 70 [dx l t k d,.int .i64 h,.int .i64 j] (.bool b)) n 0) aO aP (part Try.f65 [1,0,1,0,0]) (hints (Ek h j)) (iE l t k d::H) =
 (fun (Z0:Row)=>Tr.ite (lH j (Int.ofNat 40)) (Tr.reqP ([AV.agg Z0,AV.int .i64 h,AV.int .i64 j]=[AV.agg Z0,AV.int .i64 h,AV.int .i64 j]) (Tr.ite b (Tr.ok (Ex.ret,[(4,AV.bool false,some 1)],{ lock:=false,bs:=[(0,ai.row Z0)] } :: H)) (Tr.ok (Ex.normal,[(1,AV.int .i64 h,none),(2,AV.ptr 0 0 0 0,none),(5,AV.int .i64 (br .i64 j (Int.ofNat 1)),none)],{ lock:=false,bs:=[(0,ai.row Z0)] } :: H)))) (Tr.ok (Ex.exit 0,[(1,AV.int .i64 h,none),(2,AV.ptr 0 0 0 0,none),(5,AV.int .i64 j,none),(7,AV.bool false,some 1)],{ lock:=false,bs:=[(0,ai.row Z0)] } :: H))) (Row.G [AV.slcT none (Row.M [ah.arr .i64 t l]) 1 l false,AV.slcT none (Row.M [ah.arr .i64 d k]) 1 k false]):=by kernel_rfl
theorem Sr (n l k:Nat) (t d:Nat→Int) (H:aa) (h:Int) (b:Bool):bn Try.prog (cd n) 100000 65 Try.f65 (KtL.kt 65) (il aK n 0) (cX aO 0 (Ek h 0) (iE l t k d::H) (.ite b (.ok (.ret,[(4,.bool false,some 1)],iE l t k d::H)) (.ok (.normal,hints (Ek h 41++[(7,.bool false)]),iE l t k d::H)))) aP [(dx l t k d,none),(.int .i64 h,none)] H =
 (fun (Z0:aU)=>Tr.reqP ([(1,AV.int .i64 h),(2,AV.ptr 0 0 0 0),(5,AV.int .i64 (Int.ofNat 0))]=[(1,AV.int .i64 h),(2,AV.ptr 0 0 0 0),(5,AV.int .i64 (Int.ofNat 0))]∧Z0::H=Z0::H) (Tr.ite b (Tr.ok ((AV.bool false,some 1),H)) (Tr.ok ((AV.bool true,some 1),H)))) { lock:=false,bs:=[(0,ai.row (Row.G [AV.slcT none (Row.M [ah.arr .i64 t l]) 1 l false,AV.slcT none (Row.M [ah.arr .i64 d k]) 1 k false]))] }:=by kernel_rfl
theorem Se (n l k:Nat) (t d:Nat→Int) (H:aa) (h e:Int) (b:Bool):bn Try.prog (cd n) 100000 28 Try.f28 (KtL.kt 28) (il (tX (tX aK 64 [dx l t k d,.int .i64 h] (.int .i64 e)) 65 [dx l t k d,.int .i64 h] (.bool b)) n 0) aO aP [(dx l t k d,none),(.int .i64 h,none)] H =
 (fun (Z0:List AV)=>Tr.reqP (Z0=Z0) (Tr.ite (ba (cQ e (Int.ofNat 0))) (Tr.reqP (Z0=Z0) (Tr.ok ((AV.int .i64 e,none),H))) (Tr.reqP (Z0=Z0) (Tr.ite (ba b) (Tr.ok ((AV.int .i64 (Int.ofNat 13),some 1),H)) (Tr.ok ((AV.int .i64 (Int.ofNat 0),some 1),H)))))) [AV.agg (Row.G [AV.slcT none (Row.M [ah.arr .i64 t l]) 1 l false,AV.slcT none (Row.M [ah.arr .i64 d k]) 1 k false]),AV.int .i64 h]:=by kernel_rfl
theorem OH (n l k:Nat) (t d:Nat→Int) (H:aa) (h e:Int):bn Try.prog (cd n) 100000 28 Try.f28 (KtL.kt 28) (il (tX aK 64 [dx l t k d,.int .i64 h] (.int .i64 e)) n 0) aO aP [(dx l t k d,none),(.int .i64 h,none)] H =
 (fun (Z0:List AV)=>Tr.reqP (Z0=Z0) (Tr.ite (ba (cQ e (Int.ofNat 0))) (Tr.reqP (Z0=Z0) (Tr.ok ((AV.int .i64 e,none),H))) Tr.bad)) [AV.agg (Row.G [AV.slcT none (Row.M [ah.arr .i64 t l]) 1 l false,AV.slcT none (Row.M [ah.arr .i64 d k]) 1 k false]),AV.int .i64 h]:=by kernel_rfl
theorem So (n l k:Nat) (t d g:Nat→Int) (H:aa) (h a c:Int):bn Try.prog (cd n) 100000 61 Try.f61 (KtL.kt 61) (il (tX (tX aK 66 [dx l t k d,.int .i64 h] (.tup [dC 0 l t k d g,.int .i64 0])) 69 [dC 0 l t k d g,b7 k d false,.int .i64 h] (.int .i64 c)) n 0) aO aP [(dx l t k d,none),(.int .i64 h,none),(.int .i64 a,none)] H =
 (fun (Z0:Row)=>((fun (Z1:List AV)=>((fun (Z2:List AV)=>Tr.reqP (Z1=Z1) (Tr.ite (ba (cQ (Int.ofNat 0) (Int.ofNat 0))) (Tr.ok ((AV.tup [AV.nilp,AV.int .i64 (Int.ofNat 0)],none),H)) (Tr.ite (ba (cQ a (Int.ofNat 0))) (Tr.ok ((AV.tup [AV.nilp,AV.int .i64 a],none),H)) (Tr.reqP (Z2=Z2) (Tr.ite (lH (Int.ofNat 0) c) (Tr.ok ((AV.tup [AV.nilp,AV.int .i64 (Int.ofNat 13)],none),H)) (Tr.ok ((AV.tup [AV.ptrT (some 0) Z0 0,AV.int .i64 (Int.ofNat 0)],none),H))))))) [AV.ptrT (some 0) Z0 0,AV.slcT none (Row.M [ah.arr .i64 d k]) 1 k false,AV.int .i64 h])) [AV.agg (Row.G [AV.slcT none (Row.M [ah.arr .i64 t l]) 1 l false,AV.slcT none (Row.M [ah.arr .i64 d k]) 1 k false]),AV.int .i64 h])) (Row.M [ah.one (AV.slcT none (Row.M [ah.arr .i64 t l]) 1 l false),ah.one (AV.slcT none (Row.M [ah.arr .i64 d k]) 1 k false),ah.arr .i64 g 30]):=by kernel_rfl
theorem OO (n l k:Nat) (t d:Nat→Int) (H:aa) (h a e:Int):bn Try.prog (cd n) 100000 61 Try.f61 (KtL.kt 61) (il (tX aK 66 [dx l t k d,.int .i64 h] (.tup [.nilp,.int .i64 e])) n 0) aO aP [(dx l t k d,none),(.int .i64 h,none),(.int .i64 a,none)] H =
 (fun (Z0:List AV)=>Tr.reqP (Z0=Z0) (Tr.ite (ba (cQ e (Int.ofNat 0))) (Tr.ok ((AV.tup [AV.nilp,AV.int .i64 e],none),H)) (Tr.ite (ba (cQ a (Int.ofNat 0))) (Tr.ok ((AV.tup [AV.nilp,AV.int .i64 a],none),H)) Tr.bad))) [AV.agg (Row.G [AV.slcT none (Row.M [ah.arr .i64 t l]) 1 l false,AV.slcT none (Row.M [ah.arr .i64 d k]) 1 k false]),AV.int .i64 h]:=by kernel_rfl
theorem PD:∀ b,(0,b) ∈ aN (bO Try.f70)→b=.loop (part Try.f70 [1,1,1,0,1,0,0]):=gq (by kernel_rfl)
theorem PC:∀ b,(0,b) ∈ aN (bO Try.f65)→b=.loop (part Try.f65 [1,0,1,0,0]):=gq (by kernel_rfl)
theorem eV {n f nt:Nat} {c:Code} {callR:bE} {bl:gv} {rg:ri} {fr:ar} {H:aa} {b:Bool} {A:Tr nj} {y:nj} (e:aG (bx n f nt) callR bl rg c (hints fr) H=.ite b A (.ok y)) (hC:callR.Ok (cd n)) (hB:bl.Ok (bx n f nt) c) (hR:rg.Ok (bx n f nt) c) (hb:b=false):exec (bx n f nt) c fr H=some y.st:=by
 obtain ⟨x,h1,rfl⟩:=aF (Q:=fun x=>x=y.st) e hC hB hR (Tr.bj (fun h=>by rw[hb] at h;cases h) (fun _=>Tr.bg rfl))
 exact h1
def gp (l:Nat) (t:Nat→Int) (k:Nat) (d:Nat→Int) (h:Int):Int:=if mj l t k d=0 then (if h<1∨10<h then 2 else 0) else mj l t k d
theorem rN {l k:Nat} {t d:Nat→Int} {h:Int} (e:gp l t k d h=0):Sh l t k d∧1≤h∧h≤10:=by
 unfold gp at e
 by_cases c:mj l t k d=0
 · rw[if_pos c] at e
   refine ⟨vr c,?_⟩
   by_cases c2:h<1∨10<h
   · rw[if_pos c2] at e;omega
   · omega
 · rw[if_neg c] at e;exact absurd e c
theorem zW {l k:Nat} {t d:Nat→Int} {h:Int} (e:Sh l t k d) (h1:1≤h) (h2:h≤10):gp l t k d h=0:=by
 unfold gp
 rw[if_pos (FD e),if_neg (by omega)]
def ct (l:Nat) (t e:Nat→Int) (h:Int):Bool:=!fA (fun T=>uB l t e h (T:Nat)) 41
theorem vL (l:Nat) (t e:Nat→Int) (h:Int):(rZ l t e h<0↔ct l t e h=true)∧(0≤rZ l t e h↔ct l t e h=false):=by
 unfold rZ FU ct
 cases fA (fun T:Nat=>uB l t e h (T:Nat)) 41 with
 | true=>rw[if_pos rfl];constructor<;>simp<;>omega
 | false=>rw[if_neg (by decide)];constructor<;>simp
section
variable (n l k:Nat) (t d:Nat→Int) (H:aa) (h:Int)
theorem PY (e:gp l t k d h=0):cd (n+10) (.fn 66) [dx l t k d,.int .i64 h] H=some (.tup [JW 0 l t k d,.int .i64 0],H):=by
 obtain ⟨hs,h1,h2⟩:=rN e
 refine aS (n:=n+9) Try.func66 rfl rfl rfl (Pu (n+9) l k t d (c7 t l) Cr h H) (aX _ (n+9) (pK (c:=n+3) (b5 (aR _) (fun H=>Pk (n+1) l k t d H hs)))) (af _ _) (ag _ _) ?_
 unfold JW
 generalize c7 t l=g at *
 exact wF
theorem MD (e:gp l t k d h≠0):cd (n+10) (.fn 66) [dx l t k d,.int .i64 h] H=some (.tup [.nilp,.int .i64 (gp l t k d h)],H):=by
 by_cases c:mj l t k d=0
 · have hs:=vr c
   have ea:gp l t k d h=if h<1∨10<h then 2 else 0:=by unfold gp;rw[if_pos c]
   by_cases c2:h<1∨10<h
   · rw[ea,if_pos c2]
     refine aS (n:=n+9) Try.func66 rfl rfl rfl (Pu (n+9) l k t d (c7 t l) Cr h H) (aX _ (n+9) (pK (c:=n+3) (b5 (aR _) (fun H=>Pk (n+1) l k t d H hs)))) (af _ _) (ag _ _) ?_
     generalize c7 t l=g at *
     exact wF
   · rw[ea,if_neg c2] at e;exact absurd rfl e
 · have ea:gp l t k d h=mj l t k d:=by unfold gp;rw[if_neg c]
   rw[ea]
   refine aS (n:=n+9) Try.func66 rfl rfl rfl (OP (n+9) l k t d (mj l t k d) h H) (aX _ (n+9) (b5 (aR _) (fun H=>MB (n+1) l k t d H c))) (af _ _) (ag _ _) ?_
   generalize mj l t k d=e at *
   exact wF
theorem Po:cd (n+3) (.fn 64) [dx l t k d,.int .i64 h] H=some (.int .i64 (gp l t k d h),H):=by
 refine aS (n:=n+2) Try.func64 rfl rfl rfl (u64 (n+2) l k t d (mj l t k d) h H) (aX _ (n+2) (b5 (aR _) (fun H=>Ph n l k t d H))) (af _ _) (ag _ _) ?_
 have ea:gp l t k d h=if mj l t k d=0 then (if h<1∨10<h then 2 else 0) else mj l t k d:=rfl
 rw[ea]
 generalize mj l t k d=e at *
 by_cases c:e=0
 · rw[if_pos c]
   by_cases c2:h<1∨10<h
   · rw[if_pos c2]
     exact wF
   · rw[if_neg c2]
     exact wF
 · rw[if_neg c]
   exact wF
theorem RO (z:Nat→Int) (T:Int) (hl:l≤30):exec (bx n 70 31) (.block 0 (.loop (part Try.f70 [1,1,1,0,1,0,0]))) (Af l z h T 0 0) (iE l t k d::H)=some (.normal,Af l z h T (cn (fun i=>decide (z i≤T)) l:Nat) (Int.ofNat l)++[(15,.bool false)],iE l t k d::H):=by
 refine jG (n:=n) (f:=70) (nt:=31) (c:=part Try.f70 [1,1,1,0,1,0,0]) 0 (fun j=>Af l z h T (cn (fun i=>decide (z i≤T)) j:Nat) (j:Nat)) (fun _=>iE l t k d::H) l _ (by omega) (fun j hj=>?_) ?_
 · refine aF (t70 n l k z t d H h T (cn (fun i=>decide (z i≤T)) j:Nat) (j:Nat)) (aw n) (af _ _) (ag _ _) ?_
   have hle:=oh (fun i=>decide (z i≤T)) j
   show Tr.all _ (fun r=>_∧tidy _ _ _=(Af l z h T ((cn (fun i=>decide (z i≤T)) j+(decide (z j≤T)).toNat:Nat):Int) ((j+1:Nat):Int),_))
   rw[dJ (j:=j) (by omega),dJ (by omega)]
   simp only[mV]
   generalize cn (fun i=>decide (z i≤T)) j=C at *
   generalize z j=q at *
   by_cases c:q≤T
   · rw[decide_eq_true c]
     exact wF
   · rw[decide_eq_false c]
     exact wF
 · exact eV (t70 n l k z t d H h T (cn (fun i=>decide (z i≤T)) l:Nat) (Int.ofNat l)) (aw n) (af _ _) (ag _ _) (by first | (simp (disch:=omega) only[nV,nW];done) | (simp (disch:=omega) only[nV,nW];omega))
theorem Pp (e:Fw l t) (h0:0<l) (hk:k=l) (hb:Bd l d) (T:Int) (hh:-1000≤h*T∧h*T≤1000000):cd (n+2) (.fn 70) [dx l t k d,.int .i64 h,.int .i64 T] H=some (.bool (uB l t d h T),H):=by
 have hx:=RO (n+1) l k t d H h (al (bC (fun i=>fQ l t d i) l)) T e.l30
 rw[eB (q:=fun i=>decide (fQ l t d i≤T)) (fun j hj=>by rw[lO _ hj])] at hx
 refine aS (n:=n+1) Try.func70 rfl rfl rfl (Su (n+1) l k (al (bC (fun i=>fQ l t d i) l)) t d H h T (CH l t d T:Nat)) (aX _ (n+1) (b5 (aR _) (fun H=>PS n l k t d H e h0 hk hb))) (aW (af _ _) PD (fun x hy=>bU hy hx)) (ag _ _) ?_
 have em:yF .i64 h T=h*T:=by rw[mI];exact po (by omega) (by omega)
 rw[em,eY]
 unfold uB
 generalize al (bC (fun i=>fQ l t d i) l)=z at *
 exact wF
theorem PX (e:Fw l t) (h0:0<l) (hk:k=l) (hb:Bd l d) (hh:0≤h∧h≤1000):cd (n+3) (.fn 65) [dx l t k d,.int .i64 h] H=some (.bool (ct l t d h),H):=by
 have hx:=qu (n:=n+2) (f:=65) (nt:=14) (c:=part Try.f65 [1,0,1,0,0]) 0 (fun j=>Ek h (j:Nat)) (fun _=>iE l t k d::H) 41 (fun T=>uB l t d h (T:Nat)) (fun j=>([(4,.bool false)],iE l t k d::H)) (Ek h 41++[(7,.bool false)],iE l t k d::H) (by omega) (fun j hj=>?_) ?_
 · refine aS (n:=n+2) Try.func65 rfl rfl rfl (Sr (n+2) l k t d H h (fA (fun T=>uB l t d h (T:Nat)) 41)) (aw _) (aW (af _ _) PC (fun x hy=>jm hy hx)) (ag _ _) ?_
   unfold ct
   generalize fA (fun T:Nat=>uB l t d h (T:Nat)) 41=B at *
   cases B
   all_goals
    exact wF
 · have hm:0≤h*(j:Nat):=Int.mul_nonneg hh.1 (by omega)
   have hm2:h*(j:Nat)≤1000*1000:=Int.mul_le_mul hh.2 (by omega) (by omega) (by omega)
   refine aF (t65 (n+2) l k t d H h (j:Nat) (uB l t d h (j:Nat))) (aX _ (n+2) (b5 (aR _) (fun H=>Pp n l k t d H h e h0 hk hb (j:Nat) (by omega)))) (af _ _) (ag _ _) ?_
   show Tr.all _ (fun r=>if uB l t d h (j:Nat)=true then _ else _)
   rw[dJ (j:=j) (by omega)]
   generalize uB l t d h (j:Nat)=B at *
   cases B with
   | true =>
     simp only[if_true]
     exact wF
   | false =>
     simp only[Bool.false_eq_true,if_false]
     exact wF
 · exact eV (t65 (n+2) l k t d H h 41 (uB l t d h 41)) (aX _ (n+2) (b5 (aR _) (fun H=>Pp n l k t d H h e h0 hk hb 41 (by omega)))) (af _ _) (ag _ _) (by first | (simp (disch:=omega) only[nV,nW];done) | (simp (disch:=omega) only[nV,nW];omega))
def bQ:Int:=if gp l t k d h=0 then (if ct l t d h=true then 0 else 13) else gp l t k d h
theorem ru {l k:Nat} {t d:Nat→Int} {h:Int} (e:bQ l k t d h=0):gp l t k d h=0∧ct l t d h=true:=by
 unfold bQ at e
 by_cases c:gp l t k d h=0
 · rw[if_pos c] at e
   refine ⟨c,?_⟩
   by_cases c2:ct l t d h=true
   · exact c2
   · rw[if_neg c2] at e;omega
 · rw[if_neg c] at e;exact absurd e c
theorem PO:cd (n+4) (.fn 28) [dx l t k d,.int .i64 h] H=some (.int .i64 (bQ l k t d h),H):=by
 by_cases c:gp l t k d h=0
 · obtain ⟨hs,h1,h2⟩:=rN c
   have:=hs.l1
   have en:bQ l k t d h=if ct l t d h=true then 0 else 13:=by unfold bQ;rw[if_pos c]
   rw[en]
   refine aS (n:=n+3) Try.func28 rfl rfl rfl (Se (n+3) l k t d H h 0 (ct l t d h)) (aX _ (n+3) (b5 (b5 (aR _) (fun H=>by rw[Po,c])) (fun H=>PX n l k t d H h hs.fw (by omega) hs.kl hs.bd (by omega)))) (af _ _) (ag _ _) ?_
   generalize ct l t d h=B at *
   cases B
   all_goals
    exact wF
 · have en:bQ l k t d h=gp l t k d h:=by unfold bQ;rw[if_neg c]
   rw[en]
   refine aS (n:=n+3) Try.func28 rfl rfl rfl (OH (n+3) l k t d H h (gp l t k d h)) (aX _ (n+3) (b5 (aR _) (fun H=>Po n l k t d H h))) (af _ _) (ag _ _) ?_
   generalize gp l t k d h=e at *
   exact wF
theorem Pn (a:Int) (e:gp l t k d h=0):cd (n+11) (.fn 61) [dx l t k d,.int .i64 h,.int .i64 a] H=some (if a=0 then (if ct l t d h=true then .tup [JW 0 l t k d,.int .i64 0] else .tup [.nilp,.int .i64 13]) else .tup [.nilp,.int .i64 a],H):=by
 obtain ⟨hs,h1,h2⟩:=rN e
 refine aS (n:=n+10) Try.func61 rfl rfl rfl (So (n+10) l k t d (c7 t l) H h a (rZ l t d h)) (aX _ (n+10) (b5 (b5 (aR _) (fun H=>PY n l k t d H h e)) (fun H=>ME (n+6) 0 l k k t d _ d false H h hs.l30 hs.kl hs.tl hs.cyc hs.bd (by omega)))) (af _ _) (ag _ _) ?_
 obtain ⟨q1,q2⟩:=vL l t d h
 unfold JW
 generalize c7 t l=g at *
 generalize rZ l t d h=C at *
 by_cases c:a=0
 · rw[if_pos c]
   cases hB:ct l t d h with
   | true =>
     have:=q1.2 hB
     simp only[if_true]
     exact wF
   | false =>
     have:=q2.2 hB
     simp only[Bool.false_eq_true,if_false]
     exact wF
 · rw[if_neg c]
   exact wF
theorem MC (a:Int) (e:gp l t k d h≠0):cd (n+11) (.fn 61) [dx l t k d,.int .i64 h,.int .i64 a] H=some (.tup [.nilp,.int .i64 (gp l t k d h)],H):=by
 refine aS (n:=n+10) Try.func61 rfl rfl rfl (OO (n+10) l k t d H h a (gp l t k d h)) (aX _ (n+10) (b5 (aR _) (fun H=>MD n l k t d H h e))) (af _ _) (ag _ _) ?_
 generalize gp l t k d h=e at *
 exact wF
end
end Go.Eng
end
