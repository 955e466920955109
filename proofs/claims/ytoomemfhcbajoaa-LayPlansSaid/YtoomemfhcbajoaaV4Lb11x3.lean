/- Lay: Last; levels and last turns as they are defined. -/
import Derived.Test.YtoomemfhcbajoaaV4Lb6x5
set_option linter.unusedVariables false
set_option linter.unusedSimpArgs false
set_option maxRecDepth 100000
section
namespace Go.Eng
open Go.Proofs
noncomputable def rD (o:AV) (j:Int):ar:=[(1,.ptr 0 0 0 0),(3,o),(4,.int .i64 j)]
noncomputable def iH (o:AV) (j v c x:Int):ar:=[(1,.ptr 0 0 0 0),(3,o),(4,.int .i64 j),(5,.int .i64 v),(6,.int .i64 c),(7,.int .i64 x)]
noncomputable def qn (l:Nat) (t:Nat→Int) (k:Nat) (d:Nat→Int) (v m:Nat) (y:Nat→Int):aX:=⟨false,[Dq l t k d,(v,.row (.M [.arr .i64 y m]))]⟩
noncomputable def fx (l:Nat) (t:Nat→Int) (k:Nat) (d:Nat→Int):aX:=⟨false,[Dq l t k d]⟩
theorem Ji (n l k:Nat) (t d:Nat→Int) (H:aa) (j w c x:Int):aJ (bo n 55 44) (il aB n 0) aG aH (part Try.f55 [1,1,0,1,0,0,1,0,0,1,0,1,0,0]) (hints (iH .nils j w c x)) (fx l t k d::H) =
 (fun (Z0:aX)=>Tr.ite (lU (Int.ofNat 0) x) (Tr.req (b8 x k) (Tr.req (bV (an 0 x 1) k) (Tr.req (b8 x l) (Tr.req (bV (an 0 x 1) l) (Tr.ok (Ex.normal,[(1,AV.ptr 0 0 0 0,none),(3,AV.nils,none),(4,AV.int .i64 j,none),(5,AV.int .i64 (jv w (bC .i64 (d (an 0 x 1)) c)),none),(6,AV.int .i64 (bu .i64 c (Int.ofNat 1)),none),(7,AV.int .i64 (t (an 0 x 1)),none)],Z0::H)))))) (Tr.ok (Ex.exit 2,[(1,AV.ptr 0 0 0 0,none),(3,AV.nils,none),(4,AV.int .i64 j,none),(5,AV.int .i64 w,none),(6,AV.int .i64 c,none),(7,AV.int .i64 x,none),(22,AV.bool false,some 1)],Z0::H))) { lock:=false,bs:=[(0,ai.row (Row.G [AV.slcT none (Row.M [ah.arr .i64 t l]) 1 l false,AV.slcT none (Row.M [ah.arr .i64 d k]) 1 k false]))] }:=by kernel_rfl
theorem P4 (n l k:Nat) (t d:Nat→Int) (H:aa) (j w c x:Int):aJ (bo n 55 44) (il aB n 0) (bG aG 2 (iH .nils j (d (an 0 j 1)) 0 j) (fx l t k d::H) (.ok (.normal,hints (iH .nils j w c x++[(22,.bool false)]),fx l t k d::H))) aH (part Try.f55 [1,1,0,1,0,0]) (hints (rD .nils j)) (fx l t k d::H) =
 (fun (Z0:Nat×ai)=>((fun (Z1:ar)=>Tr.ite (bT j (Int.ofNat l)) (Tr.req (b8 j k) (Tr.req (bV (an 0 j 1) k) (Tr.reqP (Z1=Z1∧{ lock:=false,bs:=[Z0] } :: H={ lock:=false,bs:=[Z0] } :: H) (Tr.req (eD 0 1 8) (Tr.req (b6 0 0) (Tr.req (gH 1 1) (Tr.ok (Ex.normal,[(1,AV.ptr 0 0 0 0,none),(3,AV.slc 0 2 0 0 1 1 none,none),(4,AV.int .i64 (bu .i64 j (Int.ofNat 1)),none)],{ lock:=false,bs:=[Z0,(0,ai.row (Row.I .i64 [w])),(0,ai.row (Row.M [ah.arr .i64 (au [w]) 1]))] } :: H)))))))) (Tr.ok (Ex.exit 0,[(1,AV.ptr 0 0 0 0,none),(3,AV.nils,none),(4,AV.int .i64 j,none),(12,AV.bool false,some 1)],{ lock:=false,bs:=[Z0] } :: H))) [(1,AV.ptr 0 0 0 0),(3,AV.nils),(4,AV.int .i64 j),(5,AV.int .i64 (d (an 0 j 1))),(6,AV.int .i64 (Int.ofNat 0)),(7,AV.int .i64 j)])) (0,ai.row (Row.G [AV.slcT none (Row.M [ah.arr .i64 t l]) 1 l false,AV.slcT none (Row.M [ah.arr .i64 d k]) 1 k false])):=by kernel_rfl
theorem Jj (n l k:Nat) (t d:Nat→Int) (v m:Nat) (y:Nat→Int) (H:aa) (j w c x:Int):aJ (bo n 55 44) (il aB n 0) aG aH (part Try.f55 [1,1,0,1,0,0,1,0,0,1,0,1,0,0]) (hints (iH (.slc 0 1 v 0 1 m none) j w c x)) (qn l t k d v m y::H) =
 (fun (Z0:aX)=>Tr.ite (lU (Int.ofNat 0) x) (Tr.req (b8 x k) (Tr.req (bV (an 0 x 1) k) (Tr.req (b8 x l) (Tr.req (bV (an 0 x 1) l) (Tr.ok (Ex.normal,[(1,AV.ptr 0 0 0 0,none),(3,AV.slc 0 1 v 0 1 m none,none),(4,AV.int .i64 j,none),(5,AV.int .i64 (jv w (bC .i64 (d (an 0 x 1)) c)),none),(6,AV.int .i64 (bu .i64 c (Int.ofNat 1)),none),(7,AV.int .i64 (t (an 0 x 1)),none)],Z0::H)))))) (Tr.ok (Ex.exit 2,[(1,AV.ptr 0 0 0 0,none),(3,AV.slc 0 1 v 0 1 m none,none),(4,AV.int .i64 j,none),(5,AV.int .i64 w,none),(6,AV.int .i64 c,none),(7,AV.int .i64 x,none),(22,AV.bool false,some 1)],Z0::H))) { lock:=false,bs:=[(0,ai.row (Row.G [AV.slcT none (Row.M [ah.arr .i64 t l]) 1 l false,AV.slcT none (Row.M [ah.arr .i64 d k]) 1 k false])),(v,ai.row (Row.M [ah.arr .i64 y m]))] }:=by kernel_rfl
theorem P5 (n l k:Nat) (t d:Nat→Int) (v m:Nat) (y:Nat→Int) (H:aa) (j w c x:Int):aJ (bo n 55 44) (il aB n 0) (bG aG 2 (iH (.slc 0 1 v 0 1 m none) j (d (an 0 j 1)) 0 j) (qn l t k d v m y::H) (.ok (.normal,hints (iH (.slc 0 1 v 0 1 m none) j w c x++[(22,.bool false)]),qn l t k d v m y::H))) aH (part Try.f55 [1,1,0,1,0,0]) (hints (rD (.slc 0 1 v 0 1 m none) j)) (qn l t k d v m y::H) =
 (fun (Z0:aX)=>((fun (Z1:ar)=>Tr.ite (bT j (Int.ofNat l)) (Tr.req (b8 j k) (Tr.req (bV (an 0 j 1) k) (Tr.reqP (Z1=Z1∧Z0::H=Z0::H) (Tr.req (eD m 1 8) (Tr.req (b6 0 0) (Tr.req (gH 1 1) (Tr.req (b6 v v) (Tr.req (b6 (bN 0 m) m) (Tr.ok (Ex.normal,[(1,AV.ptr 0 0 0 0,none),(3,AV.slc 0 1 (Nat.succ v) 0 1 (bN m 1) none,none),(4,AV.int .i64 (bu .i64 j (Int.ofNat 1)),none)],{ lock:=false,bs:=[(0,ai.row (Row.G [AV.slcT none (Row.M [ah.arr .i64 t l]) 1 l false,AV.slcT none (Row.M [ah.arr .i64 d k]) 1 k false])),(Nat.succ v,ai.row (Row.M [ah.arr .i64 (kI (dC y 0) m (au [w])) (bN m 1)])),(0,ai.row (Row.I .i64 [w]))] } :: H)))))))))) (Tr.ok (Ex.exit 0,[(1,AV.ptr 0 0 0 0,none),(3,AV.slc 0 1 v 0 1 m none,none),(4,AV.int .i64 j,none),(12,AV.bool false,some 1)],Z0::H))) [(1,AV.ptr 0 0 0 0),(3,AV.slc 0 1 v 0 1 m none),(4,AV.int .i64 j),(5,AV.int .i64 (d (an 0 j 1))),(6,AV.int .i64 (Int.ofNat 0)),(7,AV.int .i64 j)])) { lock:=false,bs:=[(0,ai.row (Row.G [AV.slcT none (Row.M [ah.arr .i64 t l]) 1 l false,AV.slcT none (Row.M [ah.arr .i64 d k]) 1 k false])),(v,ai.row (Row.M [ah.arr .i64 y m]))] }:=by kernel_rfl
theorem P6 (n l k:Nat) (t d:Nat→Int) (v m:Nat) (y:Nat→Int) (H:aa) (j:Int):aJ (bo n 55 44) (il aB n 0) (lM aG 2) aH (part Try.f55 [1,1,0,1,0,0]) (hints (rD (.slc 0 1 v 0 1 m none) j)) (qn l t k d v m y::H) =
 Tr.ite (bT j (Int.ofNat l)) (Tr.req (b8 j k) (Tr.req (bV (an 0 j 1) k) Tr.bad)) (Tr.ok (Ex.exit 0,[(1,AV.ptr 0 0 0 0,none),(3,AV.slc 0 1 v 0 1 m none,none),(4,AV.int .i64 j,none),(12,AV.bool false,some 1)],{ lock:=false,bs:=[(0,ai.row (Row.G [AV.slcT none (Row.M [ah.arr .i64 t l]) 1 l false,AV.slcT none (Row.M [ah.arr .i64 d k]) 1 k false])),(v,ai.row (Row.M [ah.arr .i64 y m]))] } :: H)):=by kernel_rfl
theorem UG (n l k q:Nat) (t d y:Nat→Int) (H:aa):aT Try.prog (cd n) 100000 55 Try.f55 (KtL.kt 55) (il aB n 0) (bG aG 0 (rD .nils 0) (fx l t k d::H) (.ok (.normal,hints (rD (.slc 0 1 q 0 1 (q+1) none) (Int.ofNat l)++[(12,.bool false)]),qn l t k d q (q+1) y::H))) aH [(bw l t k d,none)] H =
 (fun (Z0:aX)=>Tr.reqP ([(1,AV.ptr 0 0 0 0),(3,AV.nils),(4,AV.int .i64 (Int.ofNat 0))]=[(1,AV.ptr 0 0 0 0),(3,AV.nils),(4,AV.int .i64 (Int.ofNat 0))]∧Z0::H=Z0::H) (Tr.req (b6 q q) (Tr.req (ga 0 (Nat.succ q) 0 (Nat.succ q)) (Tr.ok ((AV.slcT none (Row.M [ah.arr .i64 (dC y 0) (Nat.succ q)]) 1 (Nat.succ q) false,none),H))))) { lock:=false,bs:=[(0,ai.row (Row.G [AV.slcT none (Row.M [ah.arr .i64 t l]) 1 l false,AV.slcT none (Row.M [ah.arr .i64 d k]) 1 k false]))] }:=by kernel_rfl
theorem RD:∀ b,(0,b) ∈ aF (bh Try.f55)→b=.loop (part Try.f55 [1,1,0,1,0,0]):=dw (by kernel_rfl)
theorem Lw:∀ b,(2,b) ∈ aF (part Try.f55 [1,1,0,1,0,0])→b=.loop (part Try.f55 [1,1,0,1,0,0,1,0,0,1,0,1,0,0]):=dw (by kernel_rfl)
def fa (z:Nat→Int) (j:Nat):List Int:=(List.range j).map z
theorem B4 (z:Nat→Int) (j:Nat):(fa z j).length=j:=by simp[fa]
theorem Hm (z:Nat→Int) (j:Nat):fa z (j+1)=fa z j++[z j]:=by simp[fa,List.range_succ]
theorem rQ (z:Nat→Int) (j:Nat):kI (dC (au (fa z j)) 0) j (au [z j])=au (fa z (j+1)):=by
 have:=w6 (fa z j) (z j)
 rw[B4,← Hm] at this;exact this
theorem wK (z:Nat→Int) {j i:Nat} (h:i<j):au (fa z j) i=z i:=by
 rw[Ku _ _ (by rw[B4];exact h)];simp[fa]
noncomputable def NX:Nat→AV
 | 0=>.nils
 | q+1=>.slc 0 1 q 0 1 (q+1) none
noncomputable def HO (l:Nat) (t:Nat→Int) (k:Nat) (d:Nat→Int) (z:Nat→Int):Nat→aX
 | 0=>fx l t k d
 | q+1=>qn l t k d q (q+1) (au (fa z (q+1)))
structure Fw (l:Nat) (t:Nat→Int):Prop where
 l30:l≤30
 tl:∀ j,j<l→t j<l
 cyc:iL l t=false
theorem Sh.fw {l k:Nat} {t d:Nat→Int} (h:Sh l t k d):Fw l t:=⟨h.l30,h.tl,h.cyc⟩
def Bd (l:Nat) (e:Nat→Int):Prop:=∀ j,j<l→-900≤e j∧e j≤900
theorem Sh.bd {l k:Nat} {t d:Nat→Int} (h:Sh l t k d):Bd l d:=fun j hj=>by
 have:=h.d1 j hj
 have:=h.d40 j hj
 omega
section
variable (n l k:Nat) (t d:Nat→Int) (H:aa)
theorem Mi (j:Nat) (h:Fw l t) (hk:k=l) (hb:Bd l d) (hj:j<l):exec (bo n 55 44) (.block 2 (.loop (part Try.f55 [1,1,0,1,0,0,1,0,0,1,0,1,0,0]))) (iH .nils (j:Nat) (d j) 0 (j:Nat)) (fx l t k d::H)=some (.normal,iH .nils (j:Nat) (gN l t d j) (jk l t j:Nat) (bK t (jk l t j) (j:Nat))++[(22,.bool false)],fx l t k d::H):=by
 obtain ⟨e1,e2,e3⟩:=l6 h.cyc j hj
 have hl:=h.l30
 refine iM (n:=n) (f:=55) (nt:=44) (c:=part Try.f55 [1,1,0,1,0,0,1,0,0,1,0,1,0,0]) 2 (fun p=>iH .nils (j:Nat) (uM t d j p) (p:Nat) (bK t p (j:Nat))) (fun _=>fx l t k d::H) (jk l t j) _ (by omega) (fun p hp=>?_) ?_
 · have h1:=e2 p hp
   have h2:=iG h.tl (show (j:Int)<l by omega) p
   have h3:=xQ h1
   have h4:=hb (bK t p (j:Nat)).toNat (by omega)
   have h5:bC .i64 (d (bK t p (j:Nat)).toNat) (p:Int)=d (bK t p (j:Nat)).toNat-(p:Int):=qB (by omega) (by omega)
   refine aC (Ji n l k t d H (j:Nat) (uM t d j p) (p:Nat) (bK t p (j:Nat))) (al n) (af _ _) (ag _ _) ?_
   rw[cK (j:=p) (by omega),Ln h1,h5,iw]
   show Tr.all _ (fun r=>_∧tidy _ _ _=(iH .nils (j:Nat) (min (uM t d j p) (d (bK t p (j:Int)).toNat-(p:Int))) ((p+1:Nat):Int) (bK t (p+1) (j:Nat)),_))
   rw[h3]
   generalize min (uM t d j p) (d (bK t p (j:Int)).toNat-(p:Int))=V at *
   generalize bK t p (j:Nat)=x at *
   exact wF
 · obtain ⟨r,h1,rfl⟩:=aC (Q:=fun r=>r=(.exit 2,iH .nils (j:Nat) (gN l t d j) (jk l t j:Nat) (bK t (jk l t j) (j:Nat))++[(22,.bool false)],fx l t k d::H)) (Ji n l k t d H (j:Nat) (gN l t d j) (jk l t j:Nat) (bK t (jk l t j) (j:Nat))) (al n) (af _ _) (ag _ _) (by
    refine Tr.bk (fun hc=>?_) (fun hc=>Tr.bc rfl)
    simp (disch:=omega) only[nV,nW] at hc;omega)
   exact h1
theorem Mj (v m:Nat) (y:Nat→Int) (j:Nat) (h:Fw l t) (hk:k=l) (hb:Bd l d) (hj:j<l):exec (bo n 55 44) (.block 2 (.loop (part Try.f55 [1,1,0,1,0,0,1,0,0,1,0,1,0,0]))) (iH (.slc 0 1 v 0 1 m none) (j:Nat) (d j) 0 (j:Nat)) (qn l t k d v m y::H)=some (.normal,iH (.slc 0 1 v 0 1 m none) (j:Nat) (gN l t d j) (jk l t j:Nat) (bK t (jk l t j) (j:Nat))++[(22,.bool false)],qn l t k d v m y::H):=by
 obtain ⟨e1,e2,e3⟩:=l6 h.cyc j hj
 have hl:=h.l30
 refine iM (n:=n) (f:=55) (nt:=44) (c:=part Try.f55 [1,1,0,1,0,0,1,0,0,1,0,1,0,0]) 2 (fun p=>iH (.slc 0 1 v 0 1 m none) (j:Nat) (uM t d j p) (p:Nat) (bK t p (j:Nat))) (fun _=>qn l t k d v m y::H) (jk l t j) _ (by omega) (fun p hp=>?_) ?_
 · have h1:=e2 p hp
   have h2:=iG h.tl (show (j:Int)<l by omega) p
   have h3:=xQ h1
   have h4:=hb (bK t p (j:Nat)).toNat (by omega)
   have h5:bC .i64 (d (bK t p (j:Nat)).toNat) (p:Int)=d (bK t p (j:Nat)).toNat-(p:Int):=qB (by omega) (by omega)
   refine aC (Jj n l k t d v m y H (j:Nat) (uM t d j p) (p:Nat) (bK t p (j:Nat))) (al n) (af _ _) (ag _ _) ?_
   rw[cK (j:=p) (by omega),Ln h1,h5,iw]
   show Tr.all _ (fun r=>_∧tidy _ _ _=(iH (.slc 0 1 v 0 1 m none) (j:Nat) (min (uM t d j p) (d (bK t p (j:Int)).toNat-(p:Int))) ((p+1:Nat):Int) (bK t (p+1) (j:Nat)),_))
   rw[h3]
   generalize min (uM t d j p) (d (bK t p (j:Int)).toNat-(p:Int))=V at *
   generalize bK t p (j:Nat)=x at *
   exact wF
 · obtain ⟨r,h1,rfl⟩:=aC (Q:=fun r=>r=(.exit 2,iH (.slc 0 1 v 0 1 m none) (j:Nat) (gN l t d j) (jk l t j:Nat) (bK t (jk l t j) (j:Nat))++[(22,.bool false)],qn l t k d v m y::H)) (Jj n l k t d v m y H (j:Nat) (gN l t d j) (jk l t j:Nat) (bK t (jk l t j) (j:Nat))) (al n) (af _ _) (ag _ _) (by
    refine Tr.bk (fun hc=>?_) (fun hc=>Tr.bc rfl)
    simp (disch:=omega) only[nV,nW] at hc;omega)
   exact h1
theorem T2 (h:Fw l t) (h0:0<l) (hk:k=l) (hb:Bd l d):exec (bo n 55 44) (.block 0 (.loop (part Try.f55 [1,1,0,1,0,0]))) (rD .nils 0) (fx l t k d::H)=some (.normal,rD (NX l) (Int.ofNat l)++[(12,.bool false)],HO l t k d (fun i=>gN l t d i) l::H):=by
 have hl:=h.l30
 refine iM (n:=n) (f:=55) (nt:=44) (c:=part Try.f55 [1,1,0,1,0,0]) 0 (fun j=>rD (NX j) (j:Nat)) (fun j=>HO l t k d (fun i=>gN l t d i) j::H) l (rD (NX l) (Int.ofNat l)++[(12,.bool false)],HO l t k d (fun i=>gN l t d i) l::H) (by omega) (fun j hj=>?_) ?_
 · cases j with
   | zero =>
     have hx:=Mi n l k t d H 0 h hk hb hj
     have he:=P4 n l k t d H (0:Nat) (gN l t d 0) (jk l t 0:Nat) (bK t (jk l t 0) (0:Nat))
     rw[gK] at he
     refine aC he (al n) (ay (af _ _) Lw (fun x hy=>bI hy hx)) (ag _ _) ?_
     show Tr.all _ (fun x=>_∧tidy _ _ _=(rD (.slc 0 1 0 0 1 1 none) ((0+1:Nat):Int),qn l t k d 0 1 (au [gN l t d 0])::H))
     rw[cK (j:=0) (by omega)]
     generalize gN l t d 0=W at *
     generalize jk l t 0=N at *
     exact wF
   | succ j =>
     have hx:=Mj n l k t d H j (j+1) (au (fa (fun i=>gN l t d i) (j+1))) (j+1) h hk hb hj
     have he:=P5 n l k t d j (j+1) (au (fa (fun i=>gN l t d i) (j+1))) H (j+1:Nat) (gN l t d (j+1)) (jk l t (j+1):Nat) (bK t (jk l t (j+1)) (j+1:Nat))
     rw[gK] at he
     refine aC he (al n) (ay (af _ _) Lw (fun x hy=>bI hy hx)) (ag _ _) ?_
     show Tr.all _ (fun x=>_∧tidy _ _ _=(rD (.slc 0 1 (j+1) 0 1 (j+1+1) none) ((j+1+1:Nat):Int),qn l t k d (j+1) (j+1+1) (au (fa (fun i=>gN l t d i) (j+1+1)))::H))
     have hap:=rQ (fun i=>gN l t d i) (j+1)
     have ea:bN (j+1) 1=j+1+1:=bF _ _
     try dsimp only at hap
     rw[cK (j:=j+1) (by omega),hap,ea]
     generalize au (fa (fun i=>gN l t d i) (j+1+1))=Y2 at *
     generalize au (fa (fun i=>gN l t d i) (j+1))=Y at *
     generalize gN l t d (j+1)=W at *
     generalize jk l t (j+1)=N at *
     exact wF
 · obtain ⟨q,rfl⟩:∃ q,l=q+1:=⟨l-1,by omega⟩
   obtain ⟨x,h1,rfl⟩:=aC (Q:=fun x=>x=(.exit 0,rD (NX (q+1)) (Int.ofNat (q+1))++[(12,.bool false)],HO (q+1) t k d (fun i=>gN (q+1) t d i) (q+1)::H)) (P6 n (q+1) k t d q (q+1) (au (fa (fun i=>gN (q+1) t d i) (q+1))) H (Int.ofNat (q+1))) (al n) (dK (af _ _) 2) (ag _ _) (by
    refine Tr.bk (fun hc=>?_) (fun hc=>Tr.bc rfl)
    simp (disch:=omega) only[nV,nW] at hc;omega)
   exact h1
theorem RZ (h:Fw l t) (h0:0<l) (hk:k=l) (hb:Bd l d):cd (n+1) (.fn 55) [bw l t k d] H=some (bU l (au (fa (fun i=>gN l t d i) l)) false,H):=by
 have hx:=T2 n l k t d H h h0 hk hb
 obtain ⟨q,rfl⟩:∃ q,l=q+1:=⟨l-1,by omega⟩
 refine aE (n:=n) Try.func55 rfl rfl rfl (UG n (q+1) k q t d (au (fa (fun i=>gN (q+1) t d i) (q+1))) H) (al _) (ay (af _ _) RD (fun x hy=>bI hy hx)) (ag _ _) ?_
 rw[c5]
 generalize au (fa (fun i=>gN (q+1) t d i) (q+1))=Y at *
 exact wF
end
end Go.Eng
end
section
namespace Go.Eng
open Go.Proofs
noncomputable def DI (l:Nat) (x:Nat→Int) (u:Bool) (k:Nat) (y:Nat→Int) (v:Bool) (j:Int):ar:=[(0,bU l x u),(1,bU k y v),(5,.int .i64 j)]
theorem t23 (n l k:Nat) (x y:Nat→Int) (u v:Bool) (H:aa) (j:Int):aJ (bo n 23 26) (il aB n 0) aG aH (part Try.f23 [1,1,0,1,0,0]) (hints (DI l x u k y v j)) (az::H) =
 Tr.ite (bT j (Int.ofNat l)) (Tr.req (b8 j l) (Tr.req (bV (an 0 j 1) l) (Tr.req (b8 j k) (Tr.req (bV (an 0 j 1) k) (Tr.ite (aQ (cw (x (an 0 j 1)) (y (an 0 j 1)))) (Tr.ok (Ex.ret,[(4,AV.bool false,some 1)],az::H)) (Tr.ok (Ex.normal,[(0,AV.slcT none (Row.M [ah.arr .i64 x l]) 1 l u,none),(1,AV.slcT none (Row.M [ah.arr .i64 y k]) 1 k v,none),(5,AV.int .i64 (bu .i64 j (Int.ofNat 1)),none)],az::H))))))) (Tr.ok (Ex.exit 0,[(0,AV.slcT none (Row.M [ah.arr .i64 x l]) 1 l u,none),(1,AV.slcT none (Row.M [ah.arr .i64 y k]) 1 k v,none),(5,AV.int .i64 j,none),(14,AV.bool false,some 1)],az::H)):=by kernel_rfl
theorem Ut (n l k:Nat) (x y:Nat→Int) (u v b:Bool) (H:aa):aT Try.prog (cd n) 100000 23 Try.f23 (KtL.kt 23) (il aB n 0) (bG aG 0 (DI l x u k y v 0) (az::H) (.ite b (.ok (.ret,[(4,.bool false,some 1)],az::H)) (.ok (.normal,hints (DI l x u k y v (Int.ofNat l)++[(14,.bool false)]),az::H)))) aH [(bU l x u,none),(bU k y v,none)] H =
 (fun (Z0:ar)=>Tr.ite (aQ (cw (Int.ofNat l) (Int.ofNat k))) (Tr.ok ((AV.bool false,some 1),H)) (Tr.reqP (Z0=Z0∧az::H=az::H) (Tr.ite b (Tr.ok ((AV.bool false,some 1),H)) (Tr.ok ((AV.bool true,some 1),H))))) [(0,AV.slcT none (Row.M [ah.arr .i64 x l]) 1 l u),(1,AV.slcT none (Row.M [ah.arr .i64 y k]) 1 k v),(5,AV.int .i64 (Int.ofNat 0))]:=by kernel_rfl
theorem Qi (n l k:Nat) (x y:Nat→Int) (u v:Bool) (H:aa):aT Try.prog (cd n) 100000 23 Try.f23 (KtL.kt 23) (il aB n 0) (lM aG 0) aH [(bU l x u,none),(bU k y v,none)] H =
 Tr.ite (aQ (cw (Int.ofNat l) (Int.ofNat k))) (Tr.ok ((AV.bool false,some 1),H)) Tr.bad:=by kernel_rfl
theorem Qh (n:Nat) (H:aa):aT Try.prog (cd n) 100000 23 Try.f23 (KtL.kt 23) (il aB n 0) aG aH [(.nils,none),(.nils,none)] H =
 Tr.ok ((AV.bool true,some 1),H):=by kernel_rfl
theorem Ry:∀ b,(0,b) ∈ aF (bh Try.f23)→b=.loop (part Try.f23 [1,1,0,1,0,0]):=dw (by kernel_rfl)
def Ke (m:Nat) (x:Nat→Int) (k:Nat) (y:Nat→Int):Bool:=decide (m=k) && !bX (fun j=>decide (x j≠y j)) m
theorem Hv (m k:Nat) (x y:Nat→Int):Ke m x k y=true↔m=k∧∀ j,j<m→x j=y j:=by
 unfold Ke
 rw[Bool.and_eq_true,decide_eq_true_eq,Bool.not_eq_true']
 constructor
 · rintro ⟨h1,h2⟩
   exact ⟨h1,fun j hj=>by have:=eZ h2 j hj;simpa using this⟩
 · rintro ⟨h1,h2⟩
   exact ⟨h1,jc (fun j hj=>by simpa using h2 j hj)⟩
section
variable (n:Nat) (H:aa)
theorem Rc (l k:Nat) (x y:Nat→Int) (u v:Bool) (hl:l≤1000):cd (n+1) (.fn 23) [bU l x u,bU k y v] H=some (.bool (Ke l x k y),H):=by
 by_cases hk:l=k
 · subst hk
   have hx:=gJ (n:=n) (f:=23) (nt:=26) (c:=part Try.f23 [1,1,0,1,0,0]) 0 (fun j=>DI l x u l y v (j:Nat)) (fun _=>az::H) l (fun j=>decide (x j≠y j)) (fun j=>([(4,.bool false)],az::H)) (DI l x u l y v (Int.ofNat l)++[(14,.bool false)],az::H) (by omega) (fun j hj=>?_) ?_
   · refine aE (n:=n) Try.func23 rfl rfl rfl (Ut n l l x y u v (bX (fun j=>decide (x j≠y j)) l) H) (al _) (ay (af _ _) Ry (fun x hy=>df hy hx)) (ag _ _) ?_
     unfold Ke
     rw[decide_eq_true rfl,Bool.true_and]
     generalize bX (fun j=>decide (x j≠y j)) l=B at *
     cases B
     all_goals
      exact wF
   · refine aC (t23 n l l x y u v H (j:Nat)) (al n) (af _ _) (ag _ _) ?_
     show Tr.all _ (fun r=>if decide (x j≠y j)=true then _ else _)
     rw[cK (j:=j) (by omega)]
     simp only[gK]
     generalize x j=p at *
     generalize y j=q at *
     by_cases c:p=q
     · simp only[c,ne_eq,not_true,decide_false,Bool.false_eq_true,if_false]
       exact wF
     · simp only[ne_eq,c,not_false_eq_true,decide_true,if_true]
       exact wF
   · obtain ⟨r,h1,rfl⟩:=aC (Q:=fun r=>r=(.exit 0,DI l x u l y v (Int.ofNat l)++[(14,.bool false)],az::H)) (t23 n l l x y u v H (Int.ofNat l)) (al n) (af _ _) (ag _ _) (by
      refine Tr.bk (fun hc=>?_) (fun hc=>Tr.bc rfl)
      simp (disch:=omega) only[nV,nW] at hc;omega)
     exact h1
 · have hi:Ke l x k y=false:=by unfold Ke;rw[decide_eq_false hk];rfl
   rw[hi]
   refine aE (n:=n) Try.func23 rfl rfl rfl (Qi n l k x y u v H) (al _) (dK (af _ _) 0) (ag _ _) ?_
   exact wF
theorem LC:cd (n+1) (.fn 23) [.nils,.nils] H=some (.bool true,H):=by
 refine aE (n:=n) Try.func23 rfl rfl rfl (Qh n H) (al _) (af _ _) (ag _ _) ?_
 exact wF
variable (l k:Nat) (t d:Nat→Int)
end
end Go.Eng
end
section
namespace Go.Eng
open Go.Proofs
noncomputable def A7 (l:Nat) (z:Nat→Int) (h T c j:Int):ar:=[(1,.int .i64 h),(2,.int .i64 T),(7,bU l z false),(8,.int .i64 c),(9,.int .i64 j)]
noncomputable def Fv (h j:Int):ar:=[(1,.int .i64 h),(2,.ptr 0 0 0 0),(5,.int .i64 j)]
theorem Rw (n l k:Nat) (t d g:Nat→Int) (W:Int→Int→Nat→(Nat→Int)→Bool) (h:Int) (H:aa):aT Try.prog (cd n) 100000 66 Try.f66 (KtL.kt 66) (il (jz (tX aB 51 [bw l t k d] (.tup [eN 0 l t k d g,.int .i64 0])) 56 (Mb W)) n 0) aG aH [(bw l t k d,none),(.int .i64 h,none)] H =
 (fun (Z0:AV×Option Nat)=>((fun (Z1:List AV)=>((fun (Z2:AV×Option Nat)=>Tr.reqP (Z1=Z1) (Tr.ite (aQ (cw (Int.ofNat 0) (Int.ofNat 0))) (Tr.ok ((AV.tup [AV.nilp,AV.int .i64 (Int.ofNat 0)],none),H)) (Tr.ite (bT h (Int.ofNat 1)) (Tr.ite (aQ false) (Tr.ok (Z2,H)) (Tr.ok (Z0,H))) (Tr.ite (bT (Int.ofNat 10) h) (Tr.ite (aQ false) (Tr.ok (Z2,H)) (Tr.ok (Z0,H))) (Tr.ite (aQ true) (Tr.ok (Z2,H)) (Tr.ok (Z0,H))))))) (AV.tup [AV.nilp,AV.int .i64 (Int.ofNat 2)],none))) [AV.agg (Row.G [AV.slcT none (Row.M [ah.arr .i64 t l]) 1 l false,AV.slcT none (Row.M [ah.arr .i64 d k]) 1 k false])])) (AV.tup [AV.ptrT (some 0) (Row.M [ah.one (AV.slcT none (Row.M [ah.arr .i64 t l]) 1 l false),ah.one (AV.slcT none (Row.M [ah.arr .i64 d k]) 1 k false),ah.arr .i64 g 30]) 0,AV.int .i64 (Int.ofNat 0)],none):=by kernel_rfl
theorem QI (n l k:Nat) (t d:Nat→Int) (e h:Int) (H:aa):aT Try.prog (cd n) 100000 66 Try.f66 (KtL.kt 66) (il (tX aB 51 [bw l t k d] (.tup [.nilp,.int .i64 e])) n 0) aG aH [(bw l t k d,none),(.int .i64 h,none)] H =
 (fun (Z0:List AV)=>Tr.reqP (Z0=Z0) (Tr.ite (aQ (cw e (Int.ofNat 0))) (Tr.ok ((AV.tup [AV.nilp,AV.int .i64 e],none),H)) Tr.bad)) [AV.agg (Row.G [AV.slcT none (Row.M [ah.arr .i64 t l]) 1 l false,AV.slcT none (Row.M [ah.arr .i64 d k]) 1 k false])]:=by kernel_rfl
theorem u64 (n l k:Nat) (t d:Nat→Int) (e h:Int) (H:aa):aT Try.prog (cd n) 100000 64 Try.f64 (KtL.kt 64) (il (tX aB 22 [bw l t k d] (.int .i64 e)) n 0) aG aH [(bw l t k d,none),(.int .i64 h,none)] H =
 (fun (Z0:List AV)=>Tr.reqP (Z0=Z0) (Tr.ite (aQ (cw e (Int.ofNat 0))) (Tr.reqP (Z0=Z0) (Tr.ok ((AV.int .i64 e,none),H))) (Tr.ite (bT h (Int.ofNat 1)) (Tr.ok ((AV.int .i64 (Int.ofNat 2),some 1),H)) (Tr.ite (bT (Int.ofNat 10) h) (Tr.ok ((AV.int .i64 (Int.ofNat 2),some 1),H)) (Tr.ok ((AV.int .i64 (Int.ofNat 0),some 1),H)))))) [AV.agg (Row.G [AV.slcT none (Row.M [ah.arr .i64 t l]) 1 l false,AV.slcT none (Row.M [ah.arr .i64 d k]) 1 k false])]:=by kernel_rfl
theorem t70 (n l k:Nat) (z:Nat→Int) (t d:Nat→Int) (H:aa) (h T c j:Int):aJ (bo n 70 31) (il aB n 0) aG aH (part Try.f70 [1,1,1,0,1,0,0]) (hints (A7 l z h T c j)) (fx l t k d::H) =
 (fun (Z0:aX)=>((fun (Z1:Nat×AV×Option Nat)=>Tr.ite (bT j (Int.ofNat l)) (Tr.req (b8 j l) (Tr.req (bV (an 0 j 1) l) (Tr.ite (lU (z (an 0 j 1)) T) (Tr.ok (Ex.normal,[(1,AV.int .i64 h,none),(2,AV.int .i64 T,none),Z1,(8,AV.int .i64 (bu .i64 c (Int.ofNat 1)),none),(9,AV.int .i64 (bu .i64 j (Int.ofNat 1)),none)],Z0::H)) (Tr.ok (Ex.normal,[(1,AV.int .i64 h,none),(2,AV.int .i64 T,none),Z1,(8,AV.int .i64 c,none),(9,AV.int .i64 (bu .i64 j (Int.ofNat 1)),none)],Z0::H))))) (Tr.ok (Ex.exit 0,[(1,AV.int .i64 h,none),(2,AV.int .i64 T,none),Z1,(8,AV.int .i64 c,none),(9,AV.int .i64 j,none),(15,AV.bool false,some 1)],Z0::H))) (7,AV.slcT none (Row.M [ah.arr .i64 z l]) 1 l false,none))) { lock:=false,bs:=[(0,ai.row (Row.G [AV.slcT none (Row.M [ah.arr .i64 t l]) 1 l false,AV.slcT none (Row.M [ah.arr .i64 d k]) 1 k false]))] }:=by kernel_rfl
theorem UT (n l k:Nat) (z:Nat→Int) (t d:Nat→Int) (H:aa) (h T c:Int):aT Try.prog (cd n) 100000 70 Try.f70 (KtL.kt 70) (il (tX aB 55 [bw l t k d] (bU l z false)) n 0) (bG aG 0 (A7 l z h T 0 0) (fx l t k d::H) (.ok (.normal,hints (A7 l z h T c (Int.ofNat l)++[(15,.bool false)]),fx l t k d::H))) aH [(bw l t k d,none),(.int .i64 h,none),(.int .i64 T,none)] H =
 (fun (Z0:Row)=>((fun (Z1:ar)=>Tr.reqP ([AV.agg Z0]=[AV.agg Z0]) (Tr.reqP (Z1=Z1∧{ lock:=false,bs:=[(0,ai.row Z0)] } :: H={ lock:=false,bs:=[(0,ai.row Z0)] } :: H) (Tr.ok ((AV.bool (bT (zy .i64 h T) c),none),H)))) [(1,AV.int .i64 h),(2,AV.int .i64 T),(7,AV.slcT none (Row.M [ah.arr .i64 z l]) 1 l false),(8,AV.int .i64 (Int.ofNat 0)),(9,AV.int .i64 (Int.ofNat 0))])) (Row.G [AV.slcT none (Row.M [ah.arr .i64 t l]) 1 l false,AV.slcT none (Row.M [ah.arr .i64 d k]) 1 k false]):=by kernel_rfl
theorem t65 (n l k:Nat) (t d:Nat→Int) (H:aa) (h j:Int) (b:Bool):aJ (bo n 65 14) (il (tX aB 70 [bw l t k d,.int .i64 h,.int .i64 j] (.bool b)) n 0) aG aH (part Try.f65 [1,0,1,0,0]) (hints (Fv h j)) (fx l t k d::H) =
 (fun (Z0:Row)=>Tr.ite (lU j (Int.ofNat 40)) (Tr.reqP ([AV.agg Z0,AV.int .i64 h,AV.int .i64 j]=[AV.agg Z0,AV.int .i64 h,AV.int .i64 j]) (Tr.ite b (Tr.ok (Ex.ret,[(4,AV.bool false,some 1)],{ lock:=false,bs:=[(0,ai.row Z0)] } :: H)) (Tr.ok (Ex.normal,[(1,AV.int .i64 h,none),(2,AV.ptr 0 0 0 0,none),(5,AV.int .i64 (bu .i64 j (Int.ofNat 1)),none)],{ lock:=false,bs:=[(0,ai.row Z0)] } :: H)))) (Tr.ok (Ex.exit 0,[(1,AV.int .i64 h,none),(2,AV.ptr 0 0 0 0,none),(5,AV.int .i64 j,none),(7,AV.bool false,some 1)],{ lock:=false,bs:=[(0,ai.row Z0)] } :: H))) (Row.G [AV.slcT none (Row.M [ah.arr .i64 t l]) 1 l false,AV.slcT none (Row.M [ah.arr .i64 d k]) 1 k false]):=by kernel_rfl
theorem UP (n l k:Nat) (t d:Nat→Int) (H:aa) (h:Int) (b:Bool):aT Try.prog (cd n) 100000 65 Try.f65 (KtL.kt 65) (il aB n 0) (bG aG 0 (Fv h 0) (fx l t k d::H) (.ite b (.ok (.ret,[(4,.bool false,some 1)],fx l t k d::H)) (.ok (.normal,hints (Fv h 41++[(7,.bool false)]),fx l t k d::H)))) aH [(bw l t k d,none),(.int .i64 h,none)] H =
 (fun (Z0:aX)=>Tr.reqP ([(1,AV.int .i64 h),(2,AV.ptr 0 0 0 0),(5,AV.int .i64 (Int.ofNat 0))]=[(1,AV.int .i64 h),(2,AV.ptr 0 0 0 0),(5,AV.int .i64 (Int.ofNat 0))]∧Z0::H=Z0::H) (Tr.ite b (Tr.ok ((AV.bool false,some 1),H)) (Tr.ok ((AV.bool true,some 1),H)))) { lock:=false,bs:=[(0,ai.row (Row.G [AV.slcT none (Row.M [ah.arr .i64 t l]) 1 l false,AV.slcT none (Row.M [ah.arr .i64 d k]) 1 k false]))] }:=by kernel_rfl
theorem Uw (n l k:Nat) (t d:Nat→Int) (H:aa) (h e:Int) (b:Bool):aT Try.prog (cd n) 100000 28 Try.f28 (KtL.kt 28) (il (tX (tX aB 64 [bw l t k d,.int .i64 h] (.int .i64 e)) 65 [bw l t k d,.int .i64 h] (.bool b)) n 0) aG aH [(bw l t k d,none),(.int .i64 h,none)] H =
 (fun (Z0:List AV)=>Tr.reqP (Z0=Z0) (Tr.ite (aQ (cw e (Int.ofNat 0))) (Tr.reqP (Z0=Z0) (Tr.ok ((AV.int .i64 e,none),H))) (Tr.reqP (Z0=Z0) (Tr.ite (aQ b) (Tr.ok ((AV.int .i64 (Int.ofNat 13),some 1),H)) (Tr.ok ((AV.int .i64 (Int.ofNat 0),some 1),H)))))) [AV.agg (Row.G [AV.slcT none (Row.M [ah.arr .i64 t l]) 1 l false,AV.slcT none (Row.M [ah.arr .i64 d k]) 1 k false]),AV.int .i64 h]:=by kernel_rfl
theorem Qt (n l k:Nat) (t d:Nat→Int) (H:aa) (h e:Int):aT Try.prog (cd n) 100000 28 Try.f28 (KtL.kt 28) (il (tX aB 64 [bw l t k d,.int .i64 h] (.int .i64 e)) n 0) aG aH [(bw l t k d,none),(.int .i64 h,none)] H =
 (fun (Z0:List AV)=>Tr.reqP (Z0=Z0) (Tr.ite (aQ (cw e (Int.ofNat 0))) (Tr.reqP (Z0=Z0) (Tr.ok ((AV.int .i64 e,none),H))) Tr.bad)) [AV.agg (Row.G [AV.slcT none (Row.M [ah.arr .i64 t l]) 1 l false,AV.slcT none (Row.M [ah.arr .i64 d k]) 1 k false]),AV.int .i64 h]:=by kernel_rfl
theorem UM (n l k:Nat) (t d g:Nat→Int) (H:aa) (h a c:Int):aT Try.prog (cd n) 100000 61 Try.f61 (KtL.kt 61) (il (tX (tX aB 66 [bw l t k d,.int .i64 h] (.tup [eN 0 l t k d g,.int .i64 0])) 69 [eN 0 l t k d g,bU k d false,.int .i64 h] (.int .i64 c)) n 0) aG aH [(bw l t k d,none),(.int .i64 h,none),(.int .i64 a,none)] H =
 (fun (Z0:Row)=>((fun (Z1:List AV)=>((fun (Z2:List AV)=>Tr.reqP (Z1=Z1) (Tr.ite (aQ (cw (Int.ofNat 0) (Int.ofNat 0))) (Tr.ok ((AV.tup [AV.nilp,AV.int .i64 (Int.ofNat 0)],none),H)) (Tr.ite (aQ (cw a (Int.ofNat 0))) (Tr.ok ((AV.tup [AV.nilp,AV.int .i64 a],none),H)) (Tr.reqP (Z2=Z2) (Tr.ite (lU (Int.ofNat 0) c) (Tr.ok ((AV.tup [AV.nilp,AV.int .i64 (Int.ofNat 13)],none),H)) (Tr.ok ((AV.tup [AV.ptrT (some 0) Z0 0,AV.int .i64 (Int.ofNat 0)],none),H))))))) [AV.ptrT (some 0) Z0 0,AV.slcT none (Row.M [ah.arr .i64 d k]) 1 k false,AV.int .i64 h])) [AV.agg (Row.G [AV.slcT none (Row.M [ah.arr .i64 t l]) 1 l false,AV.slcT none (Row.M [ah.arr .i64 d k]) 1 k false]),AV.int .i64 h])) (Row.M [ah.one (AV.slcT none (Row.M [ah.arr .i64 t l]) 1 l false),ah.one (AV.slcT none (Row.M [ah.arr .i64 d k]) 1 k false),ah.arr .i64 g 30]):=by kernel_rfl
theorem QH (n l k:Nat) (t d:Nat→Int) (H:aa) (h a e:Int):aT Try.prog (cd n) 100000 61 Try.f61 (KtL.kt 61) (il (tX aB 66 [bw l t k d,.int .i64 h] (.tup [.nilp,.int .i64 e])) n 0) aG aH [(bw l t k d,none),(.int .i64 h,none),(.int .i64 a,none)] H =
 (fun (Z0:List AV)=>Tr.reqP (Z0=Z0) (Tr.ite (aQ (cw e (Int.ofNat 0))) (Tr.ok ((AV.tup [AV.nilp,AV.int .i64 e],none),H)) (Tr.ite (aQ (cw a (Int.ofNat 0))) (Tr.ok ((AV.tup [AV.nilp,AV.int .i64 a],none),H)) Tr.bad))) [AV.agg (Row.G [AV.slcT none (Row.M [ah.arr .i64 t l]) 1 l false,AV.slcT none (Row.M [ah.arr .i64 d k]) 1 k false]),AV.int .i64 h]:=by kernel_rfl
theorem RI:∀ b,(0,b) ∈ aF (bh Try.f70)→b=.loop (part Try.f70 [1,1,1,0,1,0,0]):=dw (by kernel_rfl)
theorem RH:∀ b,(0,b) ∈ aF (bh Try.f65)→b=.loop (part Try.f65 [1,0,1,0,0]):=dw (by kernel_rfl)
theorem cr {n f nt:Nat} {c:Code} {callR:bH} {bl:ig} {rg:sb} {fr:ar} {H:aa} {b:Bool} {A:Tr ot} {y:ot} (e:aJ (bo n f nt) callR bl rg c (hints fr) H=.ite b A (.ok y)) (hC:callR.Ok (cd n)) (hB:bl.Ok (bo n f nt) c) (hR:rg.Ok (bo n f nt) c) (hb:b=false):exec (bo n f nt) c fr H=some y.st:=by
 obtain ⟨x,h1,rfl⟩:=aC (Q:=fun x=>x=y.st) e hC hB hR (Tr.bk (fun h=>by rw[hb] at h;cases h) (fun _=>Tr.bc rfl))
 exact h1
def ep (l:Nat) (t:Nat→Int) (k:Nat) (d:Nat→Int) (h:Int):Int:=if lV l t k d=0 then (if h<1∨10<h then 2 else 0) else lV l t k d
theorem lY {l k:Nat} {t d:Nat→Int} {h:Int} (e:ep l t k d h=0):Sh l t k d∧1≤h∧h≤10:=by
 unfold ep at e
 by_cases c:lV l t k d=0
 · rw[if_pos c] at e
   refine ⟨CS c,?_⟩
   by_cases c2:h<1∨10<h
   · rw[if_pos c2] at e;omega
   · omega
 · rw[if_neg c] at e;exact absurd e c
theorem JO {l k:Nat} {t d:Nat→Int} {h:Int} (e:Sh l t k d) (h1:1≤h) (h2:h≤10):ep l t k d h=0:=by
 unfold ep
 rw[if_pos (Jh e),if_neg (by omega)]
def cg (l:Nat) (t e:Nat→Int) (h:Int):Bool:=!bX (fun T=>vn l t e h (T:Nat)) 41
theorem BW (l:Nat) (t e:Nat→Int) (h:Int):(AY l t e h<0↔cg l t e h=true)∧(0≤AY l t e h↔cg l t e h=false):=by
 unfold AY Cl cg
 cases bX (fun T:Nat=>vn l t e h (T:Nat)) 41 with
 | true=>rw[if_pos rfl];constructor<;>simp<;>omega
 | false=>rw[if_neg (by decide)];constructor<;>simp
section
variable (n l k:Nat) (t d:Nat→Int) (H:aa) (h:Int)
theorem Rm (e:ep l t k d h=0):cd (n+10) (.fn 66) [bw l t k d,.int .i64 h] H=some (.tup [K9 0 l t k d,.int .i64 0],H):=by
 obtain ⟨hs,h1,h2⟩:=lY e
 refine aE (n:=n+9) Try.func66 rfl rfl rfl (Rw (n+9) l k t d (cZ t l) Dj h H) (aM _ (n+9) (p9 (c:=n+3) (aP (aD _) (fun H=>Oh (n+1) l k t d H hs)))) (af _ _) (ag _ _) ?_
 unfold K9
 generalize cZ t l=g at *
 exact wF
theorem LG (e:ep l t k d h≠0):cd (n+10) (.fn 66) [bw l t k d,.int .i64 h] H=some (.tup [.nilp,.int .i64 (ep l t k d h)],H):=by
 by_cases c:lV l t k d=0
 · have hs:=CS c
   have ea:ep l t k d h=if h<1∨10<h then 2 else 0:=by unfold ep;rw[if_pos c]
   by_cases c2:h<1∨10<h
   · rw[ea,if_pos c2]
     refine aE (n:=n+9) Try.func66 rfl rfl rfl (Rw (n+9) l k t d (cZ t l) Dj h H) (aM _ (n+9) (p9 (c:=n+3) (aP (aD _) (fun H=>Oh (n+1) l k t d H hs)))) (af _ _) (ag _ _) ?_
     generalize cZ t l=g at *
     exact wF
   · rw[ea,if_neg c2] at e;exact absurd rfl e
 · have ea:ep l t k d h=lV l t k d:=by unfold ep;rw[if_neg c]
   rw[ea]
   refine aE (n:=n+9) Try.func66 rfl rfl rfl (QI (n+9) l k t d (lV l t k d) h H) (aM _ (n+9) (aP (aD _) (fun H=>LD (n+1) l k t d H c))) (af _ _) (ag _ _) ?_
   generalize lV l t k d=e at *
   exact wF
theorem NW:cd (n+3) (.fn 64) [bw l t k d,.int .i64 h] H=some (.int .i64 (ep l t k d h),H):=by
 refine aE (n:=n+2) Try.func64 rfl rfl rfl (u64 (n+2) l k t d (lV l t k d) h H) (aM _ (n+2) (aP (aD _) (fun H=>Rb n l k t d H))) (af _ _) (ag _ _) ?_
 have ea:ep l t k d h=if lV l t k d=0 then (if h<1∨10<h then 2 else 0) else lV l t k d:=rfl
 rw[ea]
 generalize lV l t k d=e at *
 by_cases c:e=0
 · rw[if_pos c]
   by_cases c2:h<1∨10<h
   · rw[if_pos c2]
     exact wF
   · rw[if_neg c2]
     exact wF
 · rw[if_neg c]
   exact wF
theorem T7 (z:Nat→Int) (T:Int) (hl:l≤30):exec (bo n 70 31) (.block 0 (.loop (part Try.f70 [1,1,1,0,1,0,0]))) (A7 l z h T 0 0) (fx l t k d::H)=some (.normal,A7 l z h T (cn (fun i=>decide (z i≤T)) l:Nat) (Int.ofNat l)++[(15,.bool false)],fx l t k d::H):=by
 refine iM (n:=n) (f:=70) (nt:=31) (c:=part Try.f70 [1,1,1,0,1,0,0]) 0 (fun j=>A7 l z h T (cn (fun i=>decide (z i≤T)) j:Nat) (j:Nat)) (fun _=>fx l t k d::H) l _ (by omega) (fun j hj=>?_) ?_
 · refine aC (t70 n l k z t d H h T (cn (fun i=>decide (z i≤T)) j:Nat) (j:Nat)) (al n) (af _ _) (ag _ _) ?_
   have hle:=oD (fun i=>decide (z i≤T)) j
   show Tr.all _ (fun r=>_∧tidy _ _ _=(A7 l z h T ((cn (fun i=>decide (z i≤T)) j+(decide (z j≤T)).toNat:Nat):Int) ((j+1:Nat):Int),_))
   rw[cK (j:=j) (by omega),cK (by omega)]
   simp only[gK]
   generalize cn (fun i=>decide (z i≤T)) j=C at *
   generalize z j=q at *
   by_cases c:q≤T
   · rw[decide_eq_true c]
     exact wF
   · rw[decide_eq_false c]
     exact wF
 · exact cr (t70 n l k z t d H h T (cn (fun i=>decide (z i≤T)) l:Nat) (Int.ofNat l)) (al n) (af _ _) (ag _ _) (by first | (simp (disch:=omega) only[nV,nW];done) | (simp (disch:=omega) only[nV,nW];omega))
theorem Rq (e:Fw l t) (h0:0<l) (hk:k=l) (hb:Bd l d) (T:Int) (hh:-1000≤h*T∧h*T≤1000000):cd (n+2) (.fn 70) [bw l t k d,.int .i64 h,.int .i64 T] H=some (.bool (vn l t d h T),H):=by
 have hx:=T7 (n+1) l k t d H h (au (fa (fun i=>gN l t d i) l)) T e.l30
 rw[ey (q:=fun i=>decide (gN l t d i≤T)) (fun j hj=>by rw[wK _ hj])] at hx
 refine aE (n:=n+1) Try.func70 rfl rfl rfl (UT (n+1) l k (au (fa (fun i=>gN l t d i) l)) t d H h T (He l t d T:Nat)) (aM _ (n+1) (aP (aD _) (fun H=>RZ n l k t d H e h0 hk hb))) (ay (af _ _) RI (fun x hy=>bI hy hx)) (ag _ _) ?_
 have em:zy .i64 h T=h*T:=by rw[mZ];exact rz (by omega) (by omega)
 rw[em,dj]
 unfold vn
 generalize au (fa (fun i=>gN l t d i) l)=z at *
 exact wF
theorem Rl (e:Fw l t) (h0:0<l) (hk:k=l) (hb:Bd l d) (hh:0≤h∧h≤1000):cd (n+3) (.fn 65) [bw l t k d,.int .i64 h] H=some (.bool (cg l t d h),H):=by
 have hx:=gJ (n:=n+2) (f:=65) (nt:=14) (c:=part Try.f65 [1,0,1,0,0]) 0 (fun j=>Fv h (j:Nat)) (fun _=>fx l t k d::H) 41 (fun T=>vn l t d h (T:Nat)) (fun j=>([(4,.bool false)],fx l t k d::H)) (Fv h 41++[(7,.bool false)],fx l t k d::H) (by omega) (fun j hj=>?_) ?_
 · refine aE (n:=n+2) Try.func65 rfl rfl rfl (UP (n+2) l k t d H h (bX (fun T=>vn l t d h (T:Nat)) 41)) (al _) (ay (af _ _) RH (fun x hy=>df hy hx)) (ag _ _) ?_
   unfold cg
   generalize bX (fun T:Nat=>vn l t d h (T:Nat)) 41=B at *
   cases B
   all_goals
    exact wF
 · have hm:0≤h*(j:Nat):=Int.mul_nonneg hh.1 (by omega)
   have hm2:h*(j:Nat)≤1000*1000:=Int.mul_le_mul hh.2 (by omega) (by omega) (by omega)
   refine aC (t65 (n+2) l k t d H h (j:Nat) (vn l t d h (j:Nat))) (aM _ (n+2) (aP (aD _) (fun H=>Rq n l k t d H h e h0 hk hb (j:Nat) (by omega)))) (af _ _) (ag _ _) ?_
   show Tr.all _ (fun r=>if vn l t d h (j:Nat)=true then _ else _)
   rw[cK (j:=j) (by omega)]
   generalize vn l t d h (j:Nat)=B at *
   cases B with
   | true =>
     simp only[if_true]
     exact wF
   | false =>
     simp only[Bool.false_eq_true,if_false]
     exact wF
 · exact cr (t65 (n+2) l k t d H h 41 (vn l t d h 41)) (aM _ (n+2) (aP (aD _) (fun H=>Rq n l k t d H h e h0 hk hb 41 (by omega)))) (af _ _) (ag _ _) (by first | (simp (disch:=omega) only[nV,nW];done) | (simp (disch:=omega) only[nV,nW];omega))
def dr:Int:=if ep l t k d h=0 then (if cg l t d h=true then 0 else 13) else ep l t k d h
theorem rX {l k:Nat} {t d:Nat→Int} {h:Int} (e:dr l k t d h=0):ep l t k d h=0∧cg l t d h=true:=by
 unfold dr at e
 by_cases c:ep l t k d h=0
 · rw[if_pos c] at e
   refine ⟨c,?_⟩
   by_cases c2:cg l t d h=true
   · exact c2
   · rw[if_neg c2] at e;omega
 · rw[if_neg c] at e;exact absurd e c
theorem Og:cd (n+4) (.fn 28) [bw l t k d,.int .i64 h] H=some (.int .i64 (dr l k t d h),H):=by
 by_cases c:ep l t k d h=0
 · obtain ⟨hs,h1,h2⟩:=lY c
   have:=hs.l1
   have en:dr l k t d h=if cg l t d h=true then 0 else 13:=by unfold dr;rw[if_pos c]
   rw[en]
   refine aE (n:=n+3) Try.func28 rfl rfl rfl (Uw (n+3) l k t d H h 0 (cg l t d h)) (aM _ (n+3) (aP (aP (aD _) (fun H=>by rw[NW,c])) (fun H=>Rl n l k t d H h hs.fw (by omega) hs.kl hs.bd (by omega)))) (af _ _) (ag _ _) ?_
   generalize cg l t d h=B at *
   cases B
   all_goals
    exact wF
 · have en:dr l k t d h=ep l t k d h:=by unfold dr;rw[if_neg c]
   rw[en]
   refine aE (n:=n+3) Try.func28 rfl rfl rfl (Qt (n+3) l k t d H h (ep l t k d h)) (aM _ (n+3) (aP (aD _) (fun H=>NW n l k t d H h))) (af _ _) (ag _ _) ?_
   generalize ep l t k d h=e at *
   exact wF
theorem Rk (a:Int) (e:ep l t k d h=0):cd (n+11) (.fn 61) [bw l t k d,.int .i64 h,.int .i64 a] H=some (if a=0 then (if cg l t d h=true then .tup [K9 0 l t k d,.int .i64 0] else .tup [.nilp,.int .i64 13]) else .tup [.nilp,.int .i64 a],H):=by
 obtain ⟨hs,h1,h2⟩:=lY e
 refine aE (n:=n+10) Try.func61 rfl rfl rfl (UM (n+10) l k t d (cZ t l) H h a (AY l t d h)) (aM _ (n+10) (aP (aP (aD _) (fun H=>Rm n l k t d H h e)) (fun H=>Ro (n+6) 0 l k k t d _ d false H h hs.l30 hs.kl hs.tl hs.cyc hs.bd (by omega)))) (af _ _) (ag _ _) ?_
 obtain ⟨q1,q2⟩:=BW l t d h
 unfold K9
 generalize cZ t l=g at *
 generalize AY l t d h=C at *
 by_cases c:a=0
 · rw[if_pos c]
   cases hB:cg l t d h with
   | true =>
     have:=q1.2 hB
     simp only[if_true]
     exact wF
   | false =>
     have:=q2.2 hB
     simp only[Bool.false_eq_true,if_false]
     exact wF
 · rw[if_neg c]
   exact wF
theorem Oi (a:Int) (e:ep l t k d h≠0):cd (n+11) (.fn 61) [bw l t k d,.int .i64 h,.int .i64 a] H=some (.tup [.nilp,.int .i64 (ep l t k d h)],H):=by
 refine aE (n:=n+10) Try.func61 rfl rfl rfl (QH (n+10) l k t d H h a (ep l t k d h)) (aM _ (n+10) (aP (aD _) (fun H=>LG n l k t d H h e))) (af _ _) (ag _ _) ?_
 generalize ep l t k d h=e at *
 exact wF
end
end Go.Eng
end
