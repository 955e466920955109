/- Lay: TurnsOf (own copy): its lists. -/
import Derived.Test.YtoomemfhcbajoaaV4Lb34x5
set_option linter.unusedVariables false
set_option linter.unusedSimpArgs false
set_option maxRecDepth 100000
section
namespace Go.Eng
open Go.Proofs
theorem Lv:∀ b,(2,b) ∈ aF (part Try.f47 [1,1,1,1,0,1,0,0])→b=.loop (part Try.f47 [1,1,1,1,0,1,0,0,1,0,0,1,0,0]):=dw (by kernel_rfl)
theorem PZ (n l k:Nat) (t d z z1 z2:Nat→Int) (m:Nat) (f:Nat→Nat→Int) (g:Nat→Nat) (c i c2 q:Int) (b:Bool) (H:aa):aJ (bo n 47 64) (il aB n 0) (bG aG 2 (qQ l m f g c i 0) (ld l t k d z::H) (.ite b (.ok (.ret,hints [(4,.nils),(5,.int .i64 15)],ld l t k d z1::H)) (.ok (.normal,hints (qQ l m f g c2 i q++[(30,.bool false)]),ld l t k d z2::H)))) aH (part Try.f47 [1,1,1,1,0,1,0,0]) (hints (DJ l m f g c i)) (ld l t k d z::H) =
 (fun (Z0:Nat×ai)=>((fun (Z1:Row)=>((fun (Z2:ar)=>((fun (Z3:aX)=>Tr.ite (bT i (Int.ofNat m)) (Tr.reqP (Z2=Z2∧Z3::H=Z3::H) (Tr.ite b (Tr.ok (Ex.ret,[(4,AV.nils,none),(5,AV.int .i64 (Int.ofNat 15),none)],{ lock:=false,bs:=[Z0,(0,ai.row (Row.M [ah.arr .i64 z1 l]))] } :: H)) (Tr.ok (Ex.normal,[(1,AV.slcT none Z1 1 m false,none),(2,AV.ptr 0 0 0 0,none),(6,AV.slc 0 1 0 0 1 l (some l),none),(7,AV.int .i64 c2,none),(8,AV.int .i64 (bu .i64 i (Int.ofNat 1)),none)],{ lock:=false,bs:=[Z0,(0,ai.row (Row.M [ah.arr .i64 z2 l]))] } :: H)))) (Tr.ok (Ex.exit 0,[(1,AV.slcT none Z1 1 m false,none),(2,AV.ptr 0 0 0 0,none),(6,AV.slc 0 1 0 0 1 l (some l),none),(7,AV.int .i64 c,none),(8,AV.int .i64 i,none),(21,AV.bool false,some 1)],Z3::H))) { lock:=false,bs:=[Z0,(0,ai.row (Row.M [ah.arr .i64 z l]))] })) [(1,AV.slcT none Z1 1 m false),(2,AV.ptr 0 0 0 0),(6,AV.slc 0 1 0 0 1 l (some l)),(7,AV.int .i64 c),(8,AV.int .i64 i),(9,AV.int .i64 (Int.ofNat 0))])) (Row.F (fun j=>AV.slcT none (Row.M [ah.arr .i64 (f j) (g j)]) 1 (g j) false) m))) (0,ai.row (Row.G [AV.slcT none (Row.M [ah.arr .i64 t l]) 1 l false,AV.slcT none (Row.M [ah.arr .i64 d k]) 1 k false])):=by kernel_rfl
def cP (f:Nat→Nat→Int) (g:Nat→Nat):Nat→Nat→Int
 | 0=>fun _=>Int.ofNat 0
 | i+1=>fm (f i) ((i+1:Nat):Int) (cP f g i) (g i)
def np (l:Nat) (f:Nat→Nat→Int) (g:Nat→Nat) (i:Nat):Bool:=bX (fun j=>nq l (fm (f i) ((i+1:Nat):Int) (cP f g i) j) (f i j)) (g i)
theorem GG {g:Nat→Nat} {m:Nat} (hg:∀ i,i<m→g i<1000):∀ i,i≤m→bD g i≤i*1000
 | 0,_=>Nat.le_refl _
 | i+1,hi=>by
   have:=GG hg i (by omega)
   have:=hg i (by omega)
   show bD g i+g i≤(i+1)*1000
   omega
section
variable (n l k:Nat) (t d:Nat→Int) (m:Nat) (f:Nat→Nat→Int) (g:Nat→Nat) (H:aa)
theorem Pe (hm:m≤40) (hg:∀ i,i<m→g i<1000):∃ X:Nat→Nat→Int,exec (bo (n+1) 47 64) (.block 0 (.loop (part Try.f47 [1,1,1,1,0,1,0,0]))) (DJ l m f g ((bD g 0:Nat):Int) ((0:Nat):Int)) (ld l t k d (cP f g 0)::H)=some (cond (bX (np l f g) m) (.ret,[(4,.nils),(5,.int .i64 15)],ld l t k d (X (fN (np l f g) m 0))::H) (.normal,DJ l m f g ((bD g m:Nat):Int) (Int.ofNat m)++[(21,.bool false)],ld l t k d (cP f g m)::H)):=by
 refine ⟨fun i=>fm (f i) ((i+1:Nat):Int) (cP f g i) (fN (fun j=>nq l (fm (f i) ((i+1:Nat):Int) (cP f g i) j) (f i j)) (g i) 0),?_⟩
 refine gJ (n:=n+1) (f:=47) (nt:=64) (c:=part Try.f47 [1,1,1,1,0,1,0,0]) 0 (fun i=>DJ l m f g ((bD g i:Nat):Int) (i:Nat)) (fun i=>ld l t k d (cP f g i)::H) m (np l f g) (fun i=>([(4,.nils),(5,.int .i64 15)],ld l t k d (fm (f i) ((i+1:Nat):Int) (cP f g i) (fN (fun j=>nq l (fm (f i) ((i+1:Nat):Int) (cP f g i) j) (f i j)) (g i) 0))::H)) _ (by omega) (fun i hi=>?_) ?_
 · have ht:=GG hg i (by omega)
   have hx:=Pd n l k t d (cP f g i) m f g H (bD g i) i hi hm (hg i hi) (by omega)
   refine aC (PZ (n+1) l k t d (cP f g i) (fm (f i) ((i+1:Nat):Int) (cP f g i) (fN (fun j=>nq l (fm (f i) ((i+1:Nat):Int) (cP f g i) j) (f i j)) (g i) 0)) (cP f g (i+1)) m f g ((bD g i:Nat):Int) (i:Nat) ((bD g i+g i:Nat):Int) (Int.ofNat (g i)) (np l f g i) H) (al _) (ay (af _ _) Lv (fun x hy=>df hy hx)) (ag _ _) ?_
   show Tr.all _ (fun r=>if np l f g i=true then _ else _∧tidy _ _ _=(DJ l m f g ((bD g i+g i:Nat):Int) ((i+1:Nat):Int),ld l t k d (cP f g (i+1))::H))
   rw[cK (j:=i) (by omega)]
   clear hx
   generalize np l f g i=B at *
   generalize cP f g (i+1)=Z2 at *
   generalize bD g i+g i=C2 at *
   generalize fm (f i) ((i+1:Nat):Int) (cP f g i) (fN (fun j=>nq l (fm (f i) ((i+1:Nat):Int) (cP f g i) j) (f i j)) (g i) 0)=Z1 at *
   cases B with
   | true =>
     simp only[if_true]
     exact wF
   | false =>
     simp only[Bool.false_eq_true,if_false]
     exact wF
 · exact cr (PY (n+1) l k t d (cP f g m) m f g ((bD g m:Nat):Int) (Int.ofNat m) H) (al _) (ay (af _ _) Lv (fun x hx=>(Tr.ae hx).elim)) (ag _ _) (by first | (simp (disch:=omega) only[nV,nW];done) | (simp (disch:=omega) only[nV,nW];omega))
end
end Go.Eng
end
section
namespace Go.Eng
open Go.Proofs
noncomputable def s8 (l:Nat) (t:Nat→Int) (k:Nat) (d z:Nat→Int):aX:=⟨false,[Dq l t k d,(0,.row (.M [.arr .i64 z (dD (Int.ofNat l))]))]⟩
noncomputable def yC (l m:Nat) (f:Nat→Nat→Int) (g:Nat→Nat) (c i:Int):ar:=[(1,cA m f g),(2,.ptr 0 0 0 0),(6,.slc 0 1 0 0 1 (dD (Int.ofNat l)) (some (dD (Int.ofNat l)))),(7,.int .i64 c),(8,.int .i64 i)]
theorem Qz (n l k:Nat) (t d z1 z2:Nat→Int) (m:Nat) (f:Nat→Nat→Int) (g:Nat→Nat) (c q:Int) (b:Bool) (H:aa):aT Try.prog (cd n) 100000 47 Try.f47 (KtL.kt 47) (il aB n 0) (bG aG 0 (yC l m f g 0 0) (s8 l t k d (fun _=>Int.ofNat 0)::H) (.ite b (.ok (.ret,hints [(4,.nils),(5,.int .i64 15)],s8 l t k d z1::H)) (.ok (.normal,hints (yC l m f g c q++[(21,.bool false)]),s8 l t k d z2::H)))) aH [(bw l t k d,none),(cA m f g,none)] H =
 (fun (Z0:ar)=>((fun (Z1:aX)=>Tr.ite (bT (Int.ofNat 40) (Int.ofNat m)) (Tr.ok ((AV.tup [AV.nils,AV.int .i64 (Int.ofNat 6)],none),H)) (Tr.req (DW (Int.ofNat l) (Int.ofNat l) 8) (Tr.reqP (Z0=Z0∧Z1::H=Z1::H) (Tr.ite b (Tr.ok ((AV.tup [AV.nils,AV.int .i64 (Int.ofNat 15)],none),H)) (Tr.ite (aQ (cw c (Int.ofNat l))) (Tr.ok ((AV.tup [AV.nils,AV.int .i64 (Int.ofNat 15)],none),H)) (Tr.req (b6 0 0) (Tr.req (ga 0 (dD (Int.ofNat l)) 0 (dD (Int.ofNat l))) (Tr.ok ((AV.tup [AV.slcT none (Row.M [ah.arr .i64 (dC z2 0) (dD (Int.ofNat l))]) 1 (dD (Int.ofNat l)) (b6 (dD (Int.ofNat l)) (dD (Int.ofNat l))),AV.int .i64 (Int.ofNat 0)],none),H))))))))) { lock:=false,bs:=[(0,ai.row (Row.G [AV.slcT none (Row.M [ah.arr .i64 t l]) 1 l false,AV.slcT none (Row.M [ah.arr .i64 d k]) 1 k false])),(0,ai.row (Row.M [ah.arr .i64 (fun x=>Int.ofNat 0) (dD (Int.ofNat l))]))] })) [(1,AV.slcT none (Row.F (fun j=>AV.slcT none (Row.M [ah.arr .i64 (f j) (g j)]) 1 (g j) false) m) 1 m false),(2,AV.ptr 0 0 0 0),(6,AV.slc 0 1 0 0 1 (dD (Int.ofNat l)) (some (dD (Int.ofNat l)))),(7,AV.int .i64 (Int.ofNat 0)),(8,AV.int .i64 (Int.ofNat 0))]:=by kernel_rfl
theorem Q6:∀ b,(0,b) ∈ aF (bh Try.f47)→b=.loop (part Try.f47 [1,1,1,1,0,1,0,0]):=dw (by kernel_rfl)
noncomputable def Lr (l m:Nat) (f:Nat→Nat→Int) (g:Nat→Nat):AV:=if 40<m then .tup [.nils,.int .i64 6] else if bX (np l f g) m=true∨bD g m≠l then .tup [.nils,.int .i64 15] else .tup [bU l (cP f g m) true,.int .i64 0]
theorem Rd (n l k:Nat) (t d:Nat→Int) (m:Nat) (f:Nat→Nat→Int) (g:Nat→Nat) (H:aa) (hl:l≤1000) (hg:∀ i,i<m→g i<1000):cd (n+2) (.fn 47) [bw l t k d,cA m f g] H=some (Lr l m f g,H):=by
 unfold Lr
 by_cases c:40<m
 · rw[if_pos c]
   refine aE (n:=n+1) Try.func47 rfl rfl rfl (UA (n+1) l k t d m f g H) (al _) (ay (af _ _) Q6 (fun x hx=>(Tr.ae hx).elim)) (ag _ _) ?_
   exact wF
 · rw[if_neg c]
   obtain ⟨X,hx⟩:=Pe n l k t d m f g H (by omega) hg
   have hx':exec (bo (n+1) 47 64) (.block 0 (.loop (part Try.f47 [1,1,1,1,0,1,0,0]))) (yC l m f g 0 0) (s8 l t k d (fun _=>Int.ofNat 0)::H)=some (cond (bX (np l f g) m) (.ret,[(4,.nils),(5,.int .i64 15)],s8 l t k d (X (fN (np l f g) m 0))::H) (.normal,yC l m f g ((bD g m:Nat):Int) (Int.ofNat m)++[(21,.bool false)],s8 l t k d (cP f g m)::H)):=by
    unfold yC s8
    rw[pC]
    exact hx
   refine aE (n:=n+1) Try.func47 rfl rfl rfl (Qz (n+1) l k t d (X (fN (np l f g) m 0)) (cP f g m) m f g ((bD g m:Nat):Int) (Int.ofNat m) (bX (np l f g) m) H) (al _) (ay (af _ _) Q6 (fun x hy=>df hy hx')) (ag _ _) ?_
   simp only[pC,c5]
   have eq:b6 l l=true:=by rw[gr];simp
   clear hx hx'
   generalize X (fN (np l f g) m 0)=X at *
   generalize bX (np l f g) m=B at *
   generalize cP f g m=Z at *
   generalize bD g m=N at *
   cases B with
   | true =>
     rw[if_pos (.inl rfl)]
     exact wF
   | false =>
     by_cases e:N=l
     · subst e
       rw[if_neg (by simp)]
       simp only[eq]
       exact wF
     · rw[if_pos (.inr e)]
       exact wF
end Go.Eng
end
section
namespace Go.Eng
open Go.Proofs
noncomputable def Bv (z:Nat→Int):Nat×ai:=(0,.row (.M [.arr .i64 z 30]))
noncomputable def nR (l:Nat) (t:Nat→Int) (k:Nat) (d z:Nat→Int):aX:=⟨false,[Dq l t k d,Bv (fun _=>Int.ofNat 0),Bv z]⟩
noncomputable def vM (l:Nat) (t:Nat→Int) (k:Nat) (d z:Nat→Int):aX:=⟨false,[Dq l t k d,Bv (dT (fun _=>Int.ofNat 0) 0 (fun _=>Int.ofNat 0) 30),Bv z]⟩
noncomputable def yF (m:Nat) (f:Nat→Nat→Int) (g:Nat→Nat) (i:Int):ar:=[(4,.ptr 0 1 0 0),(6,.ptr 0 2 0 0),(36,cA m f g),(37,.int .i64 (Int.ofNat m)),(38,.int .i64 i)]
noncomputable def sL (m:Nat) (f:Nat→Nat→Int) (g:Nat→Nat) (i:Int) (q:Nat) (y:Nat→Int) (j:Int):ar:=[(4,.ptr 0 1 0 0),(6,.ptr 0 2 0 0),(8,.int .i64 i),(36,cA m f g),(37,.int .i64 (Int.ofNat m)),(38,.int .i64 i),(43,bU q y false),(44,.int .i64 (Int.ofNat q)),(45,.int .i64 j)]
theorem Nj (n l k:Nat) (t d z:Nat→Int) (m:Nat) (f:Nat→Nat→Int) (g:Nat→Nat) (i:Int) (q:Nat) (y:Nat→Int) (j:Int) (H:aa):aJ (bo n 60 61) (il aB n 0) aG aH (part Try.f60 [1,1,1,1,0,1,0,0,1,1,0,0,1,1,0,0]) (hints (sL m f g i q y j)) (nR l t k d z::H) =
 (fun (Z0:Nat×ai)=>((fun (Z1:Nat×AV×Option Nat)=>Tr.ite (bT j (Int.ofNat q)) (Tr.req (b8 j q) (Tr.req (bV (an 0 j 1) q) (Tr.req (b8 (y (an 0 j 1)) 30) (Tr.req (b6 0 0) (Tr.req (bV (an 0 (y (an 0 j 1)) 1) 30) (Tr.ite (bT (Int.ofNat 0) (z (an 0 (y (an 0 j 1)) 1))) (Tr.req (ga 0 30 0 30) (Tr.ok (Ex.ret,[(4,AV.ptr 0 1 0 0,none),(5,AV.int .i64 (Int.ofNat 15),some 1)],{ lock:=false,bs:=[Z0,(0,ai.row (Row.M [ah.arr .i64 (dT (fun x=>Int.ofNat 0) 0 (fun x=>Int.ofNat 0) 30) 30])),(0,ai.row (Row.M [ah.arr .i64 z 30]))] } :: H))) (Tr.req (b8 (y (an 0 j 1)) 30) (Tr.req (b6 0 0) (Tr.req (bV (an 0 (y (an 0 j 1)) 1) 30) (Tr.ok (Ex.normal,[(4,AV.ptr 0 1 0 0,none),(6,AV.ptr 0 2 0 0,none),(8,AV.int .i64 i,none),Z1,(37,AV.int .i64 (Int.ofNat m),none),(38,AV.int .i64 i,none),(43,AV.slcT none (Row.M [ah.arr .i64 y q]) 1 q false,none),(44,AV.int .i64 (Int.ofNat q),none),(45,AV.int .i64 (bu .i64 j (Int.ofNat 1)),none)],{ lock:=false,bs:=[Z0,(0,ai.row (Row.M [ah.arr .i64 (fun x=>Int.ofNat 0) 30])),(0,ai.row (Row.M [ah.arr .i64 (fT z (an 0 (y (an 0 j 1)) 1) (bu .i64 i (Int.ofNat 1))) 30]))] } :: H))))))))))) (Tr.ok (Ex.exit 3,[(4,AV.ptr 0 1 0 0,none),(6,AV.ptr 0 2 0 0,none),(8,AV.int .i64 i,none),Z1,(37,AV.int .i64 (Int.ofNat m),none),(38,AV.int .i64 i,none),(43,AV.slcT none (Row.M [ah.arr .i64 y q]) 1 q false,none),(44,AV.int .i64 (Int.ofNat q),none),(45,AV.int .i64 j,none),(46,AV.bool false,some 1)],{ lock:=false,bs:=[Z0,(0,ai.row (Row.M [ah.arr .i64 (fun x=>Int.ofNat 0) 30])),(0,ai.row (Row.M [ah.arr .i64 z 30]))] } :: H))) (36,AV.slcT none (Row.F (fun j=>AV.slcT none (Row.M [ah.arr .i64 (f j) (g j)]) 1 (g j) false) m) 1 m false,none))) (0,ai.row (Row.G [AV.slcT none (Row.M [ah.arr .i64 t l]) 1 l false,AV.slcT none (Row.M [ah.arr .i64 d k]) 1 k false])):=by kernel_rfl
theorem P8 (n l k:Nat) (t d z:Nat→Int) (m:Nat) (f:Nat→Nat→Int) (g:Nat→Nat) (i:Int) (H:aa):aJ (bo n 60 61) (il aB n 0) (bG aG 3 [] [] .bad) aH (part Try.f60 [1,1,1,1,0,1,0,0]) (hints (yF m f g i)) (nR l t k d z::H) =
 (fun (Z0:aX)=>((fun (Z1:Row)=>Tr.ite (bT i (Int.ofNat m)) (Tr.req (b8 i m) (Tr.req (bV (an 0 i 1) m) (Tr.reqP ([(4,AV.ptr 0 1 0 0),(6,AV.ptr 0 2 0 0),(8,AV.int .i64 i),(36,AV.slcT none Z1 1 m false),(37,AV.int .i64 (Int.ofNat m)),(38,AV.int .i64 i),(43,AV.slcT none (Row.M [ah.arr .i64 (f (an 0 i 1)) (g (an 0 i 1))]) 1 (g (an 0 i 1)) false),(44,AV.int .i64 (Int.ofNat (g (an 0 i 1)))),(45,AV.int .i64 (Int.ofNat 0))]=[]∧Z0::H=[]) Tr.bad))) (Tr.ok (Ex.exit 1,[(4,AV.ptr 0 1 0 0,none),(6,AV.ptr 0 2 0 0,none),(36,AV.slcT none Z1 1 m false,none),(37,AV.int .i64 (Int.ofNat m),none),(38,AV.int .i64 i,none),(39,AV.bool false,some 1)],Z0::H))) (Row.F (fun j=>AV.slcT none (Row.M [ah.arr .i64 (f j) (g j)]) 1 (g j) false) m))) { lock:=false,bs:=[(0,ai.row (Row.G [AV.slcT none (Row.M [ah.arr .i64 t l]) 1 l false,AV.slcT none (Row.M [ah.arr .i64 d k]) 1 k false])),(0,ai.row (Row.M [ah.arr .i64 (fun x=>Int.ofNat 0) 30])),(0,ai.row (Row.M [ah.arr .i64 z 30]))] }:=by kernel_rfl
theorem P9 (n l k:Nat) (t d z z1 z2:Nat→Int) (m:Nat) (f:Nat→Nat→Int) (g:Nat→Nat) (i:Int) (c:Int) (b:Bool) (H:aa):aJ (bo n 60 61) (il aB n 0) (bG aG 3 (sL m f g i (g (an 0 i 1)) (f (an 0 i 1)) 0) (nR l t k d z::H) (.ite b (.ok (.ret,hints [(4,.ptr 0 1 0 0),(5,.int .i64 15)],vM l t k d z1::H)) (.ok (.normal,hints (sL m f g i (g (an 0 i 1)) (f (an 0 i 1)) c++[(46,.bool false)]),nR l t k d z2::H)))) aH (part Try.f60 [1,1,1,1,0,1,0,0]) (hints (yF m f g i)) (nR l t k d z::H) =
 (fun (Z0:aX)=>((fun (Z1:ar)=>((fun (Z2:Nat×ai)=>((fun (Z3:Nat×AV×Option Nat)=>Tr.ite (bT i (Int.ofNat m)) (Tr.req (b8 i m) (Tr.req (bV (an 0 i 1) m) (Tr.reqP (Z1=Z1∧Z0::H=Z0::H) (Tr.ite b (Tr.ok (Ex.ret,[(4,AV.ptr 0 1 0 0,none),(5,AV.int .i64 (Int.ofNat 15),none)],{ lock:=false,bs:=[Z2,(0,ai.row (Row.M [ah.arr .i64 (dT (fun x=>Int.ofNat 0) 0 (fun x=>Int.ofNat 0) 30) 30])),(0,ai.row (Row.M [ah.arr .i64 z1 30]))] } :: H)) (Tr.ok (Ex.normal,[(4,AV.ptr 0 1 0 0,none),(6,AV.ptr 0 2 0 0,none),Z3,(37,AV.int .i64 (Int.ofNat m),none),(38,AV.int .i64 (bu .i64 i (Int.ofNat 1)),none)],{ lock:=false,bs:=[Z2,(0,ai.row (Row.M [ah.arr .i64 (fun x=>Int.ofNat 0) 30])),(0,ai.row (Row.M [ah.arr .i64 z2 30]))] } :: H)))))) (Tr.ok (Ex.exit 1,[(4,AV.ptr 0 1 0 0,none),(6,AV.ptr 0 2 0 0,none),Z3,(37,AV.int .i64 (Int.ofNat m),none),(38,AV.int .i64 i,none),(39,AV.bool false,some 1)],Z0::H))) (36,AV.slcT none (Row.F (fun j=>AV.slcT none (Row.M [ah.arr .i64 (f j) (g j)]) 1 (g j) false) m) 1 m false,none))) (0,ai.row (Row.G [AV.slcT none (Row.M [ah.arr .i64 t l]) 1 l false,AV.slcT none (Row.M [ah.arr .i64 d k]) 1 k false])))) [(4,AV.ptr 0 1 0 0),(6,AV.ptr 0 2 0 0),(8,AV.int .i64 i),(36,AV.slcT none (Row.F (fun j=>AV.slcT none (Row.M [ah.arr .i64 (f j) (g j)]) 1 (g j) false) m) 1 m false),(37,AV.int .i64 (Int.ofNat m)),(38,AV.int .i64 i),(43,AV.slcT none (Row.M [ah.arr .i64 (f (an 0 i 1)) (g (an 0 i 1))]) 1 (g (an 0 i 1)) false),(44,AV.int .i64 (Int.ofNat (g (an 0 i 1)))),(45,AV.int .i64 (Int.ofNat 0))])) { lock:=false,bs:=[(0,ai.row (Row.G [AV.slcT none (Row.M [ah.arr .i64 t l]) 1 l false,AV.slcT none (Row.M [ah.arr .i64 d k]) 1 k false])),(0,ai.row (Row.M [ah.arr .i64 (fun x=>Int.ofNat 0) 30])),(0,ai.row (Row.M [ah.arr .i64 z 30]))] }:=by kernel_rfl
theorem QG (n l k:Nat) (t d:Nat→Int) (m:Nat) (f:Nat→Nat→Int) (g:Nat→Nat) (H:aa):aT Try.prog (cd n) 100000 60 Try.f60 (KtL.kt 60) (il (tX aB 84 [cA m f g] .nils) n 0) (bG aG 1 [] [] .bad) aH [(bw l t k d,none),(cA m f g,none)] H =
 (fun (Z0:List AV)=>((fun (Z1:Row)=>Tr.reqP (Z0=Z0) (Tr.ite (bT (Int.ofNat 40) (Int.ofNat m)) (Tr.req (ga 0 30 0 30) (Tr.ok ((AV.tup [AV.agg Z1,AV.int .i64 (Int.ofNat 6)],none),H))) (Tr.ite (aQ (cw (Int.ofNat 0) (Int.ofNat l))) (Tr.req (ga 0 30 0 30) (Tr.ok ((AV.tup [AV.agg Z1,AV.int .i64 (Int.ofNat 15)],none),H))) Tr.bad))) (Row.M [ah.arr .i64 (dT (fun x=>Int.ofNat 0) 0 (fun x=>Int.ofNat 0) 30) 30]))) [AV.slcT none (Row.F (fun j=>AV.slcT none (Row.M [ah.arr .i64 (f j) (g j)]) 1 (g j) false) m) 1 m false]:=by kernel_rfl
theorem QE (n l k:Nat) (t d:Nat→Int) (m:Nat) (f:Nat→Nat→Int) (g:Nat→Nat) (N:Nat) (Z:Nat→Int) (H:aa):aT Try.prog (cd n) 100000 60 Try.f60 (KtL.kt 60) (il (tX aB 84 [cA m f g] (bU N Z false)) n 0) (bG aG 1 [] [] .bad) aH [(bw l t k d,none),(cA m f g,none)] H =
 (fun (Z0:List AV)=>((fun (Z1:Row)=>Tr.reqP (Z0=Z0) (Tr.ite (bT (Int.ofNat 40) (Int.ofNat m)) (Tr.req (ga 0 30 0 30) (Tr.ok ((AV.tup [AV.agg Z1,AV.int .i64 (Int.ofNat 6)],none),H))) (Tr.ite (aQ (cw (Int.ofNat N) (Int.ofNat l))) (Tr.req (ga 0 30 0 30) (Tr.ok ((AV.tup [AV.agg Z1,AV.int .i64 (Int.ofNat 15)],none),H))) Tr.bad))) (Row.M [ah.arr .i64 (dT (fun x=>Int.ofNat 0) 0 (fun x=>Int.ofNat 0) 30) 30]))) [AV.slcT none (Row.F (fun j=>AV.slcT none (Row.M [ah.arr .i64 (f j) (g j)]) 1 (g j) false) m) 1 m false]:=by kernel_rfl
theorem QF (n l k:Nat) (t d:Nat→Int) (m:Nat) (f:Nat→Nat→Int) (g:Nat→Nat) (N:Nat) (Z:Nat→Int) (b:Bool) (H:aa):aT Try.prog (cd n) 100000 60 Try.f60 (KtL.kt 60) (il (tX (tX aB 84 [cA m f g] (bU N Z false)) 56 [.int .i64 0,.int .i64 (bC .i64 (Int.ofNat l) 1),bU N Z false] (.bool b)) n 0) (bG aG 1 [] [] .bad) aH [(bw l t k d,none),(cA m f g,none)] H =
 (fun (Z0:Row)=>((fun (Z1:Row)=>((fun (Z2:List AV)=>Tr.reqP ([AV.slcT none Z1 1 m false]=[AV.slcT none Z1 1 m false]) (Tr.ite (bT (Int.ofNat 40) (Int.ofNat m)) (Tr.req (ga 0 30 0 30) (Tr.ok ((AV.tup [AV.agg Z0,AV.int .i64 (Int.ofNat 6)],none),H))) (Tr.ite (aQ (cw (Int.ofNat N) (Int.ofNat l))) (Tr.req (ga 0 30 0 30) (Tr.ok ((AV.tup [AV.agg Z0,AV.int .i64 (Int.ofNat 15)],none),H))) (Tr.reqP (Z2=Z2) (Tr.ite (aQ b) (Tr.req (ga 0 30 0 30) (Tr.ok ((AV.tup [AV.agg Z0,AV.int .i64 (Int.ofNat 15)],none),H))) (Tr.reqP ([(4,AV.ptr 0 1 0 0),(6,AV.ptr 0 2 0 0),(36,AV.slcT none Z1 1 m false),(37,AV.int .i64 (Int.ofNat m)),(38,AV.int .i64 (Int.ofNat 0))]=[]∧{ lock:=false,bs:=[(0,ai.row (Row.G [AV.slcT none (Row.M [ah.arr .i64 t l]) 1 l false,AV.slcT none (Row.M [ah.arr .i64 d k]) 1 k false])),(0,ai.row (Row.M [ah.arr .i64 (fun x=>Int.ofNat 0) 30])),(0,ai.row (Row.M [ah.arr .i64 (fun x=>Int.ofNat 0) 30]))] } :: H=[]) Tr.bad)))))) [AV.int .i64 (Int.ofNat 0),AV.int .i64 (bC .i64 (Int.ofNat l) (Int.ofNat 1)),AV.slcT none (Row.M [ah.arr .i64 Z N]) 1 N false])) (Row.F (fun j=>AV.slcT none (Row.M [ah.arr .i64 (f j) (g j)]) 1 (g j) false) m))) (Row.M [ah.arr .i64 (dT (fun x=>Int.ofNat 0) 0 (fun x=>Int.ofNat 0) 30) 30]):=by kernel_rfl
theorem UL (n l k:Nat) (t d z1 z2:Nat→Int) (m:Nat) (f:Nat→Nat→Int) (g:Nat→Nat) (N:Nat) (Z:Nat→Int) (c:Int) (b:Bool) (H:aa):aT Try.prog (cd n) 100000 60 Try.f60 (KtL.kt 60) (il (tX (tX aB 84 [cA m f g] (bU N Z false)) 56 [.int .i64 0,.int .i64 (bC .i64 (Int.ofNat l) 1),bU N Z false] (.bool true)) n 0) (bG aG 1 (yF m f g 0) (nR l t k d (fun _=>Int.ofNat 0)::H) (.ite b (.ok (.ret,hints [(4,.ptr 0 1 0 0),(5,.int .i64 15)],vM l t k d z1::H)) (.ok (.normal,hints (yF m f g c++[(39,.bool false)]),nR l t k d z2::H)))) aH [(bw l t k d,none),(cA m f g,none)] H =
 (fun (Z0:aX)=>((fun (Z1:AV×Option Nat)=>((fun (Z2:Row)=>((fun (Z3:ar)=>((fun (Z4:List AV)=>Tr.reqP ([AV.slcT none Z2 1 m false]=[AV.slcT none Z2 1 m false]) (Tr.ite (bT (Int.ofNat 40) (Int.ofNat m)) (Tr.req (ga 0 30 0 30) (Tr.ok ((AV.tup [AV.agg (Row.M [ah.arr .i64 (dT (fun x=>Int.ofNat 0) 0 (fun x=>Int.ofNat 0) 30) 30]),AV.int .i64 (Int.ofNat 6)],none),H))) (Tr.ite (aQ (cw (Int.ofNat N) (Int.ofNat l))) (Tr.req (ga 0 30 0 30) (Tr.ok (Z1,H))) (Tr.reqP (Z4=Z4) (Tr.ite (aQ true) (Tr.req (ga 0 30 0 30) (Tr.ok (Z1,H))) (Tr.reqP (Z3=Z3∧Z0::H=Z0::H) (Tr.ite b (Tr.ok (Z1,H)) (Tr.req (ga 0 30 0 30) (Tr.ok ((AV.tup [AV.agg (Row.M [ah.arr .i64 (dT (fun x=>Int.ofNat 0) 0 z2 30) 30]),AV.int .i64 (Int.ofNat 0)],none),H)))))))))) [AV.int .i64 (Int.ofNat 0),AV.int .i64 (bC .i64 (Int.ofNat l) (Int.ofNat 1)),AV.slcT none (Row.M [ah.arr .i64 Z N]) 1 N false])) [(4,AV.ptr 0 1 0 0),(6,AV.ptr 0 2 0 0),(36,AV.slcT none Z2 1 m false),(37,AV.int .i64 (Int.ofNat m)),(38,AV.int .i64 (Int.ofNat 0))])) (Row.F (fun j=>AV.slcT none (Row.M [ah.arr .i64 (f j) (g j)]) 1 (g j) false) m))) (AV.tup [AV.agg (Row.M [ah.arr .i64 (dT (fun x=>Int.ofNat 0) 0 (fun x=>Int.ofNat 0) 30) 30]),AV.int .i64 (Int.ofNat 15)],none))) { lock:=false,bs:=[(0,ai.row (Row.G [AV.slcT none (Row.M [ah.arr .i64 t l]) 1 l false,AV.slcT none (Row.M [ah.arr .i64 d k]) 1 k false])),(0,ai.row (Row.M [ah.arr .i64 (fun x=>Int.ofNat 0) 30])),(0,ai.row (Row.M [ah.arr .i64 (fun x=>Int.ofNat 0) 30]))] }:=by kernel_rfl
theorem NV:∀ b,(1,b) ∈ aF (bh Try.f60)→b=.loop (part Try.f60 [1,1,1,1,0,1,0,0]):=dw (by kernel_rfl)
theorem Ly:∀ b,(3,b) ∈ aF (part Try.f60 [1,1,1,1,0,1,0,0])→b=.loop (part Try.f60 [1,1,1,1,0,1,0,0,1,1,0,0,1,1,0,0]):=dw (by kernel_rfl)
theorem BD {o:Nat→Int} {T:Int} {z:Nat→Int} (hT:0≤T) (hz:∀ c,0≤z c):∀ j c,0≤fm o T z j c
 | 0,c=>hz c
 | j+1,c=>by
   show 0≤uI (fm o T z j) (o j).toNat T c
   unfold uI
   split
   · exact hT
   · exact BD hT hz j c
theorem xZ (f:Nat→Nat→Int) (g:Nat→Nat):∀ i c,0≤cP f g i c
 | 0,c=>by show 0≤Int.ofNat 0;decide
 | i+1,c=>BD (by omega) (xZ f g i) _ c
noncomputable def cX (z:Nat→Int):Nat→Int:=dT (fun _=>Int.ofNat 0) 0 z 30
section
variable (n l k:Nat) (t d z:Nat→Int) (m:Nat) (f:Nat→Nat→Int) (g:Nat→Nat) (H:aa)
theorem Pg (i:Nat) (hi:i<m) (hm:m≤40) (hl:l≤30) (hg:g i<1000) (hr:∀ j,j<g i→0≤f i j∧f i j<l) (hz:∀ c,0≤z c):exec (bo n 60 61) (.block 3 (.loop (part Try.f60 [1,1,1,1,0,1,0,0,1,1,0,0,1,1,0,0]))) (sL m f g (i:Nat) (g i) (f i) ((0:Nat):Int)) (nR l t k d z::H)=some (cond (bX (fun j=>nq l (fm (f i) ((i+1:Nat):Int) z j) (f i j)) (g i)) (.ret,[(4,.ptr 0 1 0 0),(5,.int .i64 15)],vM l t k d (fm (f i) ((i+1:Nat):Int) z (fN (fun j=>nq l (fm (f i) ((i+1:Nat):Int) z j) (f i j)) (g i) 0))::H) (.normal,sL m f g (i:Nat) (g i) (f i) (Int.ofNat (g i))++[(46,.bool false)],nR l t k d (fm (f i) ((i+1:Nat):Int) z (g i))::H)):=by
 refine gJ (n:=n) (f:=60) (nt:=61) (c:=part Try.f60 [1,1,1,1,0,1,0,0,1,1,0,0,1,1,0,0]) 3 (fun j=>sL m f g (i:Nat) (g i) (f i) (j:Nat)) (fun j=>nR l t k d (fm (f i) ((i+1:Nat):Int) z j)::H) (g i) (fun j=>nq l (fm (f i) ((i+1:Nat):Int) z j) (f i j)) (fun j=>([(4,.ptr 0 1 0 0),(5,.int .i64 15)],vM l t k d (fm (f i) ((i+1:Nat):Int) z j)::H)) _ (by omega) (fun j hj=>?_) ?_
 · refine aC (Nj n l k t d (fm (f i) ((i+1:Nat):Int) z j) m f g (i:Nat) (g i) (f i) (j:Nat) H) (al n) (af _ _) (ag _ _) ?_
   show Tr.all _ (fun r=>if nq l (fm (f i) ((i+1:Nat):Int) z j) (f i j)=true then _ else _∧tidy _ _ _=(sL m f g (i:Nat) (g i) (f i) ((j+1:Nat):Int),nR l t k d (uI (fm (f i) ((i+1:Nat):Int) z j) (f i j).toNat ((i+1:Nat):Int))::H))
   have hZ:=BD (o:=f i) (T:=((i+1:Nat):Int)) (by omega) hz j
   rw[cK (j:=j) (by omega),cK (j:=i) (by omega)]
   simp only[gK]
   generalize fm (f i) ((i+1:Nat):Int) z j=Z at *
   have hrj:=hr j hj
   obtain ⟨c,hc⟩:∃ c:Nat,f i j=c:=⟨(f i j).toNat,by omega⟩
   rw[hc] at hrj ⊢
   have e1:(decide (0≤(c:Int)) && decide ((c:Int)<l))=true:=by rw[decide_eq_true hrj.1,decide_eq_true hrj.2];rfl
   rw[Int.toNat_natCast]
   have hZc:=hZ c
   simp only[gK,ug]
   by_cases h0:Z c=0
   · have eb:nq l Z (c:Int)=false:=by unfold nq;rw[e1,Int.toNat_natCast,decide_eq_false (by simpa using h0)];rfl
     rw[eb]
     simp only[Bool.false_eq_true,if_false]
     generalize uI Z c ((i+1:Nat):Int)=Z2 at *
     exact wF
   · have eb:nq l Z (c:Int)=true:=by unfold nq;rw[e1,Int.toNat_natCast,decide_eq_true h0];rfl
     rw[eb]
     simp only[if_true]
     exact wF
 · exact cr (Nj n l k t d (fm (f i) ((i+1:Nat):Int) z (g i)) m f g (i:Nat) (g i) (f i) (Int.ofNat (g i)) H) (al n) (af _ _) (ag _ _) (by first | (simp (disch:=omega) only[nV,nW];done) | (simp (disch:=omega) only[nV,nW];omega))
theorem T5 (hm:m≤40) (hl:l≤30) (hg:∀ i,i<m→g i<1000) (hr:∀ i,i<m→∀ j,j<g i→0≤f i j∧f i j<l):∃ X:Nat→Nat→Int,exec (bo n 60 61) (.block 1 (.loop (part Try.f60 [1,1,1,1,0,1,0,0]))) (yF m f g ((0:Nat):Int)) (nR l t k d (cP f g 0)::H)=some (cond (bX (np l f g) m) (.ret,[(4,.ptr 0 1 0 0),(5,.int .i64 15)],vM l t k d (X (fN (np l f g) m 0))::H) (.normal,yF m f g (Int.ofNat m)++[(39,.bool false)],nR l t k d (cP f g m)::H)):=by
 refine ⟨fun i=>fm (f i) ((i+1:Nat):Int) (cP f g i) (fN (fun j=>nq l (fm (f i) ((i+1:Nat):Int) (cP f g i) j) (f i j)) (g i) 0),?_⟩
 refine gJ (n:=n) (f:=60) (nt:=61) (c:=part Try.f60 [1,1,1,1,0,1,0,0]) 1 (fun i=>yF m f g (i:Nat)) (fun i=>nR l t k d (cP f g i)::H) m (np l f g) (fun i=>([(4,.ptr 0 1 0 0),(5,.int .i64 15)],vM l t k d (fm (f i) ((i+1:Nat):Int) (cP f g i) (fN (fun j=>nq l (fm (f i) ((i+1:Nat):Int) (cP f g i) j) (f i j)) (g i) 0))::H)) _ (by omega) (fun i hi=>?_) ?_
 · have hx:=Pg n l k t d (cP f g i) m f g H i hi hm hl (hg i hi) (hr i hi) (xZ f g i)
   refine aC (P9 n l k t d (cP f g i) (fm (f i) ((i+1:Nat):Int) (cP f g i) (fN (fun j=>nq l (fm (f i) ((i+1:Nat):Int) (cP f g i) j) (f i j)) (g i) 0)) (cP f g (i+1)) m f g (i:Nat) (Int.ofNat (g i)) (np l f g i) H) (al _) (ay (af _ _) Ly (fun x hy=>df hy (by rw[gK];exact hx))) (ag _ _) ?_
   show Tr.all _ (fun r=>if np l f g i=true then _ else _∧tidy _ _ _=(yF m f g ((i+1:Nat):Int),nR l t k d (cP f g (i+1))::H))
   rw[cK (j:=i) (by omega)]
   simp only[gK]
   clear hx
   generalize np l f g i=B at *
   generalize cP f g (i+1)=Z2 at *
   generalize fm (f i) ((i+1:Nat):Int) (cP f g i) (fN (fun j=>nq l (fm (f i) ((i+1:Nat):Int) (cP f g i) j) (f i j)) (g i) 0)=Z1 at *
   cases B with
   | true =>
     simp only[if_true]
     exact wF
   | false =>
     simp only[Bool.false_eq_true,if_false]
     exact wF
 · exact cr (P8 n l k t d (cP f g m) m f g (Int.ofNat m) H) (al n) (ay (af _ _) Ly (fun x hx=>(Tr.ae hx).elim)) (ag _ _) (by first | (simp (disch:=omega) only[nV,nW];done) | (simp (disch:=omega) only[nV,nW];omega))
end
noncomputable def lO (l m:Nat) (f:Nat→Nat→Int) (g:Nat→Nat):Int:=if 40<m then 6 else if bX (np l f g) m=true∨bD g m≠l then 15 else 0
theorem xT (l m:Nat) (f:Nat→Nat→Int) (g:Nat→Nat):Lr l m f g=if lO l m f g=0 then .tup [bU l (cP f g m) true,.int .i64 0] else .tup [.nils,.int .i64 (lO l m f g)]:=by
 unfold Lr lO
 split
 · rfl
 · split
   · rfl
   · rfl
noncomputable def Al (l m:Nat) (f:Nat→Nat→Int) (g:Nat→Nat):AV:=if lO l m f g=0 then .tup [.agg (.M [.arr .i64 (cX (cP f g m)) 30]),.int .i64 0] else .tup [.agg (.M [.arr .i64 (cX (fun _=>Int.ofNat 0)) 30]),.int .i64 (lO l m f g)]
theorem AO {l m:Nat} {f:Nat→Nat→Int} {g:Nat→Nat} {i j:Nat} (hi:i<m) (hj:j<g i) (h:¬ (0≤f i j∧f i j<l)):bX (np l f g) m=true:=by
 refine (dp _ _).2 ⟨i,hi,(dp _ _).2 ⟨j,hj,?_⟩⟩
 unfold nq
 have:(decide (0≤f i j) && decide (f i j<l))=false:=by
  cases hx:(decide (0≤f i j) && decide (f i j<l)) with
  | false=>rfl
  | true =>
    simp only[Bool.and_eq_true,decide_eq_true_eq] at hx
    exact absurd hx h
 rw[this];rfl
theorem Rj (n l k:Nat) (t d:Nat→Int) (m:Nat) (f:Nat→Nat→Int) (g:Nat→Nat) (H:aa) (h0:0<l) (hl:l≤30) (hm:m≤50) (hg:∀ i,i<m→g i≤40):cd (n+6) (.fn 60) [bw l t k d,cA m f g] H=some (Al l m f g,H):=by
 have ht:=pE (g:=g) (B:=40) m hg
 have h84:∀ q H,cd (n+5+q) (.fn 84) [cA m f g] H=some (JV m f g,H):=fun q H=>by
  rw[show n+5+q=(n+3+q)+2 by omega]
  exact R9 _ m f g H (by omega) (fun j hj=>by have:=hg j hj;omega)
 have eerr:lO l m f g≠0→Al l m f g=.tup [.agg (.M [.arr .i64 (cX (fun _=>Int.ofNat 0)) 30]),.int .i64 (lO l m f g)]:=fun h=>by unfold Al;rw[if_neg h]
 have e6:40<m→lO l m f g=6:=fun h=>by unfold lO;rw[if_pos h]
 have e15:¬ 40<m→(bX (np l f g) m=true∨bD g m≠l)→lO l m f g=15:=fun h h2=>by unfold lO;rw[if_neg h,if_pos h2]
 by_cases hN:bD g m=0
 · have hn:JV m f g=.nils:=by unfold JV;rw[if_pos hN]
   refine aE (n:=n+5) Try.func60 rfl rfl rfl (QG (n+5) l k t d m f g H) (aM _ (n+5) (aP (aD _) (fun H=>by rw[← hn];exact h84 0 H))) (ay (af _ _) NV (fun x hx=>(Tr.ae hx).elim)) (ag _ _) ?_
   by_cases c:40<m
   · rw[eerr (by rw[e6 c];decide),e6 c]
     exact wF
   · rw[eerr (by rw[e15 c (.inr (by omega))];decide),e15 c (.inr (by omega))]
     exact wF
 · have hn:JV m f g=bU (bD g m) (lZ f g m) false:=by unfold JV;rw[if_neg hN]
   by_cases hA:40<m∨bD g m≠l
   · refine aE (n:=n+5) Try.func60 rfl rfl rfl (QE (n+5) l k t d m f g (bD g m) (lZ f g m) H) (aM _ (n+5) (aP (aD _) (fun H=>by rw[← hn];exact h84 0 H))) (ay (af _ _) NV (fun x hx=>(Tr.ae hx).elim)) (ag _ _) ?_
     by_cases c:40<m
     · rw[eerr (by rw[e6 c];decide),e6 c]
       generalize lZ f g m=Z at *
       generalize bD g m=N at *
       exact wF
     · have hNl:=hA.resolve_left c
       rw[eerr (by rw[e15 c (.inr hNl)];decide),e15 c (.inr hNl)]
       generalize lZ f g m=Z at *
       generalize bD g m=N at *
       exact wF
   · have c:¬ 40<m:=fun h=>hA (.inl h)
     have hNl:bD g m=l:=Classical.byContradiction (fun h=>hA (.inr h))
     have h56:∀ H,cd (n+5) (.fn 56) [.int .i64 0,.int .i64 (bC .i64 (Int.ofNat l) 1),bU (bD g m) (lZ f g m) false] H=some (.bool (!bX (fun j=>fi 0 (bC .i64 (Int.ofNat l) 1) (lZ f g m j)) (bD g m)),H):=fun H=>Rg n (bD g m) (lZ f g m) false 0 _ H (by omega)
     have esub:bC .i64 (Int.ofNat l) 1=(l:Int)-1:=qB (by show _≤(l:Int)-1;omega) (by show (l:Int)-1≤_;omega)
     cases hx:bX (fun j=>fi 0 (bC .i64 (Int.ofNat l) 1) (lZ f g m j)) (bD g m) with
     | true =>
       rw[hx] at h56
       have hb:bX (np l f g) m=true:=by
        apply Classical.byContradiction
        intro hnb
        have hall:∀ i,i<m→∀ j,j<g i→0≤f i j∧f i j<l:=fun i hi j hj=>Classical.byContradiction (fun h=>hnb (AO hi hj h))
        obtain ⟨a,a1,a2⟩:=(dp _ _).1 hx
        have:=(wy f g (fun x=>0≤x∧x<l) m).2 (fun j hj i hi=>hall j hj i hi) a a1
        unfold fi at a2
        simp only[Bool.or_eq_true,decide_eq_true_eq] at a2
        omega
       refine aE (n:=n+5) Try.func60 rfl rfl rfl (QF (n+5) l k t d m f g (bD g m) (lZ f g m) false H) (aM _ (n+5) (aP (aP (aD _) (fun H=>by rw[← hn];exact h84 0 H)) h56)) (ay (af _ _) NV (fun x hx=>(Tr.ae hx).elim)) (ag _ _) ?_
       rw[eerr (by rw[e15 c (.inl hb)];decide),e15 c (.inl hb)]
       generalize lZ f g m=Z at *
       generalize bD g m=N at *
       exact wF
     | false =>
       rw[hx] at h56
       have hall:∀ i,i<m→∀ j,j<g i→0≤f i j∧f i j<l:=by
        refine (wy f g (fun x=>0≤x∧x<l) m).1 (fun i hi=>?_)
        have:=eZ hx i hi
        unfold fi at this
        simp only[Bool.or_eq_false_iff,decide_eq_false_iff_not] at this
        omega
       obtain ⟨X,hX⟩:=T5 (n+5) l k t d m f g H (by omega) hl (fun i hi=>by have:=hg i hi;omega) hall
       refine aE (n:=n+5) Try.func60 rfl rfl rfl (UL (n+5) l k t d (X (fN (np l f g) m 0)) (cP f g m) m f g (bD g m) (lZ f g m) (Int.ofNat m) (bX (np l f g) m) H) (aM _ (n+5) (aP (aP (aD _) (fun H=>by rw[← hn];exact h84 0 H)) h56)) (ay (af _ _) NV (fun x hy=>df hy hX)) (ag _ _) ?_
       have e0:bX (np l f g) m=false→Al l m f g=.tup [.agg (.M [.arr .i64 (cX (cP f g m)) 30]),.int .i64 0]:=fun h=>by
        have e00:lO l m f g=0:=by unfold lO;rw[if_neg c,if_neg (by rw[h];simp[hNl])]
        unfold Al;rw[if_pos e00]
       have e1:bX (np l f g) m=true→Al l m f g=.tup [.agg (.M [.arr .i64 (cX (fun _=>Int.ofNat 0)) 30]),.int .i64 15]:=fun h=>by
        rw[eerr (by rw[e15 c (.inl h)];decide),e15 c (.inl h)]
       clear hX eerr e6 e15
       generalize Al l m f g=A at *
       generalize X (fN (np l f g) m 0)=X at *
       generalize bX (np l f g) m=B at *
       generalize cP f g m=Z2 at *
       generalize lZ f g m=Z at *
       generalize bD g m=N at *
       cases B with
       | true =>
         rw[e1 rfl]
         exact wF
       | false =>
         rw[e0 rfl]
         exact wF
end Go.Eng
end
