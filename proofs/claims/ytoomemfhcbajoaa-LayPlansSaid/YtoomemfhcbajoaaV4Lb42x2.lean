/- Lay: CheckPlan of the program. -/
import Derived.Test.YtoomemfhcbajoaaV4Lb39x3
set_option linter.unusedVariables false
set_option linter.unusedSimpArgs false
set_option maxRecDepth 100000
section
namespace Go.Eng
open Go.Proofs
noncomputable def ff (l:Nat) (t:Nat→Int) (k:Nat) (d z:Nat→Int) (h:Int):aX:=⟨false,[Dq l t k d,G8 h,Bv z]⟩
noncomputable def f68 (q:Nat):AV:=.fn (.func 68) [] [.ptr q 1 0 0]
noncomputable def DL (m:Nat) (f:Nat→Nat→Int) (g:Nat→Nat) (j:Int):ar:=[(0,cA m f g),(1,f68 2),(7,.int .i64 (Int.ofNat m)),(8,.int .i64 j)]
noncomputable def yB (l:Nat) (t:Nat→Int) (b:Bool) (j:Int):ar:=[(3,.ptr 0 0 0 0),(9,.ptr 0 2 0 0),(11,.bool b),(36,bU l t false),(37,.int .i64 (Int.ofNat l)),(38,.int .i64 j)]
theorem UR (n l k:Nat) (t d z:Nat→Int) (h:Int) (H:aa) (q:Nat) (y:Nat→Int):aT Try.prog (cd n) 100000 68 Try.f68 (KtL.kt 68) (il aB n 0) aG aH [(bU q y false,none),(.ptr 2 1 0 0,none)] (az::az::ff l t k d z h::H) =
 Tr.ok ((AV.bool (bT h (Int.ofNat q)),none),az::az::{ lock:=false,bs:=[(0,ai.row (Row.G [AV.slcT none (Row.M [ah.arr .i64 t l]) 1 l false,AV.slcT none (Row.M [ah.arr .i64 d k]) 1 k false])),(0,ai.row (Row.I .i64 [h])),(0,ai.row (Row.M [ah.arr .i64 z 30]))] } :: H):=by kernel_rfl
theorem t93 (n l k:Nat) (t d z:Nat→Int) (h:Int) (m:Nat) (f:Nat→Nat→Int) (g:Nat→Nat) (j:Int) (b:Bool) (H:aa):aJ (bo n 93 19) (il (yk aB 68 [bU (g (an 0 j 1)) (f (an 0 j 1)) false,.ptr 2 1 0 0] (az::az::ff l t k d z h::H) (.ok (.bool b,az::az::ff l t k d z h::H))) n 0) aG aH (part Try.f93 [1,0,1,0,0]) (hints (DL m f g j)) (az::az::ff l t k d z h::H) =
 (fun (Z0:aX)=>((fun (Z1:List AV)=>((fun (Z2:Nat×AV×Option Nat)=>Tr.ite (bT j (Int.ofNat m)) (Tr.req (b8 j m) (Tr.req (bV (an 0 j 1) m) (Tr.reqP (Z1=Z1∧az::az::Z0::H=az::az::Z0::H) (Tr.ite b (Tr.ok (Ex.ret,[(4,AV.int .i64 j,none)],az::az::Z0::H)) (Tr.ok (Ex.normal,[Z2,(1,AV.fn (Fn.func 68) [] [AV.ptr 2 1 0 0],none),(7,AV.int .i64 (Int.ofNat m),none),(8,AV.int .i64 (bu .i64 j (Int.ofNat 1)),none)],az::az::Z0::H)))))) (Tr.ok (Ex.exit 0,[Z2,(1,AV.fn (Fn.func 68) [] [AV.ptr 2 1 0 0],none),(7,AV.int .i64 (Int.ofNat m),none),(8,AV.int .i64 j,none),(9,AV.bool false,some 1)],az::az::Z0::H))) (0,AV.slcT none (Row.F (fun j=>AV.slcT none (Row.M [ah.arr .i64 (f j) (g j)]) 1 (g j) false) m) 1 m false,none))) [AV.slcT none (Row.M [ah.arr .i64 (f (an 0 j 1)) (g (an 0 j 1))]) 1 (g (an 0 j 1)) false,AV.ptr 2 1 0 0])) { lock:=false,bs:=[(0,ai.row (Row.G [AV.slcT none (Row.M [ah.arr .i64 t l]) 1 l false,AV.slcT none (Row.M [ah.arr .i64 d k]) 1 k false])),(0,ai.row (Row.I .i64 [h])),(0,ai.row (Row.M [ah.arr .i64 z 30]))] }:=by kernel_rfl
theorem U3 (n l k:Nat) (t d z:Nat→Int) (h:Int) (m:Nat) (f:Nat→Nat→Int) (g:Nat→Nat) (x:Bool) (r:Nat) (H:aa):aT Try.prog (cd n) 100000 93 Try.f93 (KtL.kt 93) (il aB n 0) (bG aG 0 (DL m f g 0) (az::az::ff l t k d z h::H) (.ite x (.ok (.ret,[(4,.int .i64 (Int.ofNat r),none)],az::az::ff l t k d z h::H)) (.ok (.normal,hints (DL m f g (Int.ofNat m)++[(9,.bool false)]),az::az::ff l t k d z h::H)))) aH [(cA m f g,none),(f68 1,none)] (az::ff l t k d z h::H) =
 (fun (Z0:aX)=>((fun (Z1:ar)=>Tr.reqP (Z1=Z1∧az::az::Z0::H=az::az::Z0::H) (Tr.ite x (Tr.ok ((AV.int .i64 (Int.ofNat r),none),az::Z0::H)) (Tr.ok ((AV.int .i64 (Int.negSucc 0),some 1),az::Z0::H)))) [(0,AV.slcT none (Row.F (fun j=>AV.slcT none (Row.M [ah.arr .i64 (f j) (g j)]) 1 (g j) false) m) 1 m false),(1,AV.fn (Fn.func 68) [] [AV.ptr 2 1 0 0]),(7,AV.int .i64 (Int.ofNat m)),(8,AV.int .i64 (Int.ofNat 0))])) { lock:=false,bs:=[(0,ai.row (Row.G [AV.slcT none (Row.M [ah.arr .i64 t l]) 1 l false,AV.slcT none (Row.M [ah.arr .i64 d k]) 1 k false])),(0,ai.row (Row.I .i64 [h])),(0,ai.row (Row.M [ah.arr .i64 z 30]))] }:=by kernel_rfl
theorem UQ (n l k:Nat) (t d z:Nat→Int) (h:Int) (m:Nat) (f:Nat→Nat→Int) (g:Nat→Nat) (r:Int) (H:aa):aT Try.prog (cd n) 100000 67 Try.f67 (KtL.kt 67) (il (yk aB 93 [cA m f g,f68 1] (az::ff l t k d z h::H) (.ok (.int .i64 r,az::ff l t k d z h::H))) n 0) aG aH [(cA m f g,none),(f68 0,none)] (ff l t k d z h::H) =
 (fun (Z0:aX)=>((fun (Z1:List AV)=>Tr.reqP (Z1=Z1∧az::Z0::H=az::Z0::H) (Tr.ok ((AV.bool (lU (Int.ofNat 0) r),none),Z0::H))) [AV.slcT none (Row.F (fun j=>AV.slcT none (Row.M [ah.arr .i64 (f j) (g j)]) 1 (g j) false) m) 1 m false,AV.fn (Fn.func 68) [] [AV.ptr 1 1 0 0]])) { lock:=false,bs:=[(0,ai.row (Row.G [AV.slcT none (Row.M [ah.arr .i64 t l]) 1 l false,AV.slcT none (Row.M [ah.arr .i64 d k]) 1 k false])),(0,ai.row (Row.I .i64 [h])),(0,ai.row (Row.M [ah.arr .i64 z 30]))] }:=by kernel_rfl
theorem t29 (n l k:Nat) (t d y:Nat→Int) (h:Int) (b:Bool) (j:Int) (H:aa):aJ (bo n 29 68) (il aB n 0) aG aH (part Try.f29 [1,1,1,1,1,1,0,1,0,0]) (hints (yB l t b j)) (ff l t k d y h::H) =
 (fun (Z0:aX)=>((fun (Z1:aO)=>((fun (Z2:aO)=>Tr.ite (bT j (Int.ofNat l)) (Tr.req (b8 j l) (Tr.req (bV (an 0 j 1) l) (Tr.ite (lU (Int.ofNat 0) (t (an 0 j 1))) (Tr.req (b8 j 30) (Tr.req (b6 0 0) (Tr.req (bV (an 0 j 1) 30) (Tr.req (b8 (t (an 0 j 1)) 30) (Tr.req (b6 0 0) (Tr.req (bV (an 0 (t (an 0 j 1)) 1) 30) (Tr.ite (lU (y (an 0 (t (an 0 j 1)) 1)) (y (an 0 j 1))) (Tr.ok (Ex.ret,[(6,AV.int .i64 (Int.ofNat 16),some 1)],Z0::H)) (Tr.ite b (Tr.ok (Ex.normal,Z2,Z0::H)) (Tr.req (b8 j 30) (Tr.req (b6 0 0) (Tr.req (bV (an 0 j 1) 30) (Tr.req (b8 j k) (Tr.req (bV (an 0 j 1) k) (Tr.ok (Ex.normal,Z1,Z0::H))))))))))))))) (Tr.ite b (Tr.ok (Ex.normal,Z2,Z0::H)) (Tr.req (b8 j 30) (Tr.req (b6 0 0) (Tr.req (bV (an 0 j 1) 30) (Tr.req (b8 j k) (Tr.req (bV (an 0 j 1) k) (Tr.ok (Ex.normal,Z1,Z0::H))))))))))) (Tr.ok (Ex.exit 0,[(3,AV.ptr 0 0 0 0,none),(9,AV.ptr 0 2 0 0,none),(11,AV.bool b,none),(36,AV.slcT none (Row.M [ah.arr .i64 t l]) 1 l false,none),(37,AV.int .i64 (Int.ofNat l),none),(38,AV.int .i64 j,none),(39,AV.bool false,some 1)],Z0::H))) [(3,AV.ptr 0 0 0 0,none),(9,AV.ptr 0 2 0 0,none),(11,AV.bool true,some 1),(36,AV.slcT none (Row.M [ah.arr .i64 t l]) 1 l false,none),(37,AV.int .i64 (Int.ofNat l),none),(38,AV.int .i64 (bu .i64 j (Int.ofNat 1)),none)])) [(3,AV.ptr 0 0 0 0,none),(9,AV.ptr 0 2 0 0,none),(11,AV.bool (bT (d (an 0 j 1)) (y (an 0 j 1))),none),(36,AV.slcT none (Row.M [ah.arr .i64 t l]) 1 l false,none),(37,AV.int .i64 (Int.ofNat l),none),(38,AV.int .i64 (bu .i64 j (Int.ofNat 1)),none)])) { lock:=false,bs:=[(0,ai.row (Row.G [AV.slcT none (Row.M [ah.arr .i64 t l]) 1 l false,AV.slcT none (Row.M [ah.arr .i64 d k]) 1 k false])),(0,ai.row (Row.I .i64 [h])),(0,ai.row (Row.M [ah.arr .i64 y 30]))] }:=by kernel_rfl
theorem Ux (n l k:Nat) (t d z y e:Nat→Int) (h:Int) (m:Nat) (f:Nat→Nat→Int) (g:Nat→Nat) (b b2 x:Bool) (H:aa):aT Try.prog (cd n) 100000 29 Try.f29 (KtL.kt 29) (il (yk (tX (tX aB 66 [bw l t k d,.int .i64 h] (.tup [eN 0 l t k d e,.int .i64 0])) 60 [bw l t k d,cA m f g] (.tup [.agg (.M [.arr .i64 z 30]),.int .i64 0])) 67 [cA m f g,f68 0] (ff l t k d y h::H) (.ok (.bool b,ff l t k d y h::H))) n 0) (bG aG 0 (yB l t false 0) (ff l t k d y h::H) (.ite x (.ok (.ret,hints [(6,.int .i64 16)],ff l t k d y h::H)) (.ok (.normal,hints (yB l t b2 (Int.ofNat l)++[(39,.bool false)]),ff l t k d y h::H)))) aH [(bw l t k d,none),(.int .i64 h,none),(cA m f g,none)] H =
 (fun (Z0:Row)=>((fun (Z1:Row)=>((fun (Z2:aX)=>((fun (Z3:ar)=>Tr.reqP ([AV.agg Z0,AV.int .i64 h]=[AV.agg Z0,AV.int .i64 h]) (Tr.ite (aQ (cw (Int.ofNat 0) (Int.ofNat 0))) (Tr.ok ((AV.int .i64 (Int.ofNat 0),none),H)) (Tr.reqP ([AV.agg Z0,AV.slcT none Z1 1 m false]=[AV.agg Z0,AV.slcT none Z1 1 m false]) (Tr.req (ga 0 30 0 30) (Tr.ite (aQ (cw (Int.ofNat 0) (Int.ofNat 0))) (Tr.ok ((AV.int .i64 (Int.ofNat 0),none),H)) (Tr.reqP ([AV.slcT none Z1 1 m false,AV.fn (Fn.func 68) [] [AV.ptr 0 1 0 0]]=[AV.slcT none Z1 1 m false,AV.fn (Fn.func 68) [] [AV.ptr 0 1 0 0]]∧{ lock:=false,bs:=[(0,ai.row Z0),(0,ai.row (Row.I .i64 [h])),(0,ai.row (Row.M [ah.arr .i64 (dT (fun x=>Int.ofNat 0) 0 z 30) 30]))] } :: H=Z2::H) (Tr.ite b (Tr.ok ((AV.int .i64 (Int.ofNat 4),some 1),H)) (Tr.reqP (Z3=Z3∧Z2::H=Z2::H) (Tr.ite x (Tr.ok ((AV.int .i64 (Int.ofNat 16),none),H)) (Tr.ite b2 (Tr.ok ((AV.int .i64 (Int.ofNat 12),some 1),H)) (Tr.ok ((AV.int .i64 (Int.ofNat 0),some 1),H)))))))))))) [(3,AV.ptr 0 0 0 0),(9,AV.ptr 0 2 0 0),(11,AV.bool false),(36,AV.slcT none (Row.M [ah.arr .i64 t l]) 1 l false),(37,AV.int .i64 (Int.ofNat l)),(38,AV.int .i64 (Int.ofNat 0))])) { lock:=false,bs:=[(0,ai.row Z0),(0,ai.row (Row.I .i64 [h])),(0,ai.row (Row.M [ah.arr .i64 y 30]))] })) (Row.F (fun j=>AV.slcT none (Row.M [ah.arr .i64 (f j) (g j)]) 1 (g j) false) m))) (Row.G [AV.slcT none (Row.M [ah.arr .i64 t l]) 1 l false,AV.slcT none (Row.M [ah.arr .i64 d k]) 1 k false]):=by kernel_rfl
theorem Qv (n l k:Nat) (t d z y e:Nat→Int) (h:Int) (m:Nat) (f:Nat→Nat→Int) (g:Nat→Nat) (c:Int) (H:aa):aT Try.prog (cd n) 100000 29 Try.f29 (KtL.kt 29) (il (tX (tX aB 66 [bw l t k d,.int .i64 h] (.tup [eN 0 l t k d e,.int .i64 0])) 60 [bw l t k d,cA m f g] (.tup [.agg (.M [.arr .i64 z 30]),.int .i64 c])) n 0) (bG aG 0 [] [] .bad) aH [(bw l t k d,none),(.int .i64 h,none),(cA m f g,none)] H =
 (fun (Z0:Row)=>((fun (Z1:List AV)=>Tr.reqP ([AV.agg Z0,AV.int .i64 h]=[AV.agg Z0,AV.int .i64 h]) (Tr.ite (aQ (cw (Int.ofNat 0) (Int.ofNat 0))) (Tr.ok ((AV.int .i64 (Int.ofNat 0),none),H)) (Tr.reqP (Z1=Z1) (Tr.req (ga 0 30 0 30) (Tr.ite (aQ (cw c (Int.ofNat 0))) (Tr.ok ((AV.int .i64 c,none),H)) Tr.bad))))) [AV.agg Z0,AV.slcT none (Row.F (fun j=>AV.slcT none (Row.M [ah.arr .i64 (f j) (g j)]) 1 (g j) false) m) 1 m false])) (Row.G [AV.slcT none (Row.M [ah.arr .i64 t l]) 1 l false,AV.slcT none (Row.M [ah.arr .i64 d k]) 1 k false]):=by kernel_rfl
theorem Qu (n l k:Nat) (t d:Nat→Int) (h:Int) (m:Nat) (f:Nat→Nat→Int) (g:Nat→Nat) (c:Int) (H:aa):aT Try.prog (cd n) 100000 29 Try.f29 (KtL.kt 29) (il (tX aB 66 [bw l t k d,.int .i64 h] (.tup [.nilp,.int .i64 c])) n 0) (bG aG 0 [] [] .bad) aH [(bw l t k d,none),(.int .i64 h,none),(cA m f g,none)] H =
 (fun (Z0:List AV)=>Tr.reqP (Z0=Z0) (Tr.ite (aQ (cw c (Int.ofNat 0))) (Tr.ok ((AV.int .i64 c,none),H)) Tr.bad)) [AV.agg (Row.G [AV.slcT none (Row.M [ah.arr .i64 t l]) 1 l false,AV.slcT none (Row.M [ah.arr .i64 d k]) 1 k false]),AV.int .i64 h]:=by kernel_rfl
theorem RL:∀ b,(0,b) ∈ aF (bh Try.f93)→b=.loop (part Try.f93 [1,0,1,0,0]):=dw (by kernel_rfl)
theorem N9:∀ b,(0,b) ∈ aF (bh Try.f29)→b=.loop (part Try.f29 [1,1,1,1,1,1,0,1,0,0]):=dw (by kernel_rfl)
theorem Hk (p:Nat→Bool) (j:Nat):bX p (j+1)=(bX p j || p j):=by
 rw[Bool.eq_iff_iff,Bool.or_eq_true,dp,dp]
 constructor
 · rintro ⟨i,h1,h2⟩
   by_cases e:i=j
   · subst e;exact .inr h2
   · exact .inl ⟨i,by omega,h2⟩
 · rintro (⟨i,h1,h2⟩ | h)
   · exact ⟨i,by omega,h2⟩
   · exact ⟨j,by omega,h⟩
theorem Fl (p:Nat→Bool):bX p 0=false:=jc (fun j hj=>by omega)
def rL (t y:Nat→Int) (j:Nat):Bool:=decide (0≤t j) && decide (y (t j).toNat≤y j)
def rE (d y:Nat→Int) (j:Nat):Bool:=decide (d j<y j)
def uu (h:Int) (g:Nat→Nat) (j:Nat):Bool:=decide (h<(g j:Int))
section
variable (n l k:Nat) (t d z:Nat→Int) (h:Int) (m:Nat) (f:Nat→Nat→Int) (g:Nat→Nat) (H:aa)
theorem Rn (q:Nat) (y:Nat→Int):cd (n+1) (.fn 68) [bU q y false,.ptr 2 1 0 0] (az::az::ff l t k d z h::H)=some (.bool (decide (h<(q:Int))),az::az::ff l t k d z h::H):=by
 refine aE (n:=n) Try.func68 rfl rfl rfl (UR n l k t d z h H q y) (al n) (af _ _) (ag _ _) ?_
 rw[dj]
 exact Tr.bc ⟨rfl,rfl⟩
theorem Sj (hm:m≤1000):cd (n+2) (.fn 93) [cA m f g,f68 1] (az::ff l t k d z h::H)=some (.int .i64 (Cl (uu h g) m),az::ff l t k d z h::H):=by
 have hx:=gJ (n:=n+1) (f:=93) (nt:=19) (c:=part Try.f93 [1,0,1,0,0]) 0 (fun j=>DL m f g (j:Nat)) (fun _=>az::az::ff l t k d z h::H) m (uu h g) (fun j=>([(4,.int .i64 (j:Nat))],az::az::ff l t k d z h::H)) (DL m f g (Int.ofNat m)++[(9,.bool false)],az::az::ff l t k d z h::H) (by omega) (fun j hj=>?_) ?_
 · refine aE (n:=n+1) Try.func93 rfl rfl rfl (U3 (n+1) l k t d z h m f g (bX (uu h g) m) (fN (uu h g) m 0) H) (al _) (ay (af _ _) RL (fun x hy=>df hy hx)) (ag _ _) ?_
   refine Tr.bg ⟨rfl,rfl⟩ (Tr.bk (fun hc=>Tr.bc ⟨?_,rfl⟩) (fun hc=>Tr.bc ⟨?_,rfl⟩))
   · unfold Cl;rw[if_pos hc];rfl
   · unfold Cl;rw[if_neg (by rw[hc];decide)];rfl
 · refine aC (t93 (n+1) l k t d z h m f g (j:Nat) (decide (h<(g (an 0 ((j:Nat):Int) 1):Int))) H) (aM _ (n+1) (fK (aD _) (fun x hy=>by rw[← Tr.ab hy];exact Rn n l k t d z h H _ _))) (af _ _) (ag _ _) ?_
   show Tr.all _ (fun r=>if uu h g j=true then _ else _∧tidy _ _ _=(DL m f g ((j+1:Nat):Int),az::az::ff l t k d z h::H))
   rw[cK (j:=j) (by omega)]
   simp only[gK]
   have eb:decide (h<(g j:Int))=uu h g j:=rfl
   rw[eb]
   cases uu h g j with
   | true =>
     simp only[if_true]
     exact wF
   | false =>
     simp only[Bool.false_eq_true,if_false]
     exact wF
 · exact cr (t93 (n+1) l k t d z h m f g (Int.ofNat m) (decide (h<(g (an 0 (Int.ofNat m) 1):Int))) H) (aM _ (n+1) (fK (aD _) (fun x hy=>by rw[← Tr.ab hy];exact Rn n l k t d z h H _ _))) (af _ _) (ag _ _) (by first | (simp (disch:=omega) only[nV,nW];done) | (simp (disch:=omega) only[nV,nW];omega))
theorem R6 (hm:m≤1000):cd (n+3) (.fn 67) [cA m f g,f68 0] (ff l t k d z h::H)=some (.bool (bX (uu h g) m),ff l t k d z h::H):=by
 refine aE (n:=n+2) Try.func67 rfl rfl rfl (UQ (n+2) l k t d z h m f g (Cl (uu h g) m) H) (aM _ (n+2) (fK (aD _) (fun x hy=>by rw[← Tr.ab hy];exact Sj n l k t d z h m f g H hm))) (af _ _) (ag _ _) ?_
 refine Tr.bg ⟨rfl,rfl⟩ (Tr.bc ⟨?_,rfl⟩)
 rw[FI]
theorem TW (y:Nat→Int) (hl:l≤30) (hk:k=l) (ht:∀ j,j<l→t j<l):exec (bo n 29 68) (.block 0 (.loop (part Try.f29 [1,1,1,1,1,1,0,1,0,0]))) (yB l t false ((0:Nat):Int)) (ff l t k d y h::H)=some (cond (bX (rL t y) l) (.ret,[(6,.int .i64 16)],ff l t k d y h::H) (.normal,yB l t (bX (rE d y) l) (Int.ofNat l)++[(39,.bool false)],ff l t k d y h::H)):=by
 have hx:=gJ (n:=n) (f:=29) (nt:=68) (c:=part Try.f29 [1,1,1,1,1,1,0,1,0,0]) 0 (fun j=>yB l t (bX (rE d y) j) (j:Nat)) (fun j=>ff l t k d y h::H) l (rL t y) (fun j=>([(6,.int .i64 16)],ff l t k d y h::H)) (yB l t (bX (rE d y) l) (Int.ofNat l)++[(39,.bool false)],ff l t k d y h::H) (by omega) (fun j hj=>?_) ?_
 · rw[Fl] at hx;exact hx
 · refine aC (t29 n l k t d y h (bX (rE d y) j) (j:Nat) H) (al n) (af _ _) (ag _ _) ?_
   show Tr.all _ (fun r=>if rL t y j=true then _ else _∧tidy _ _ _=(yB l t (bX (rE d y) (j+1)) ((j+1:Nat):Int),ff l t k d y h::H))
   rw[cK (j:=j) (by omega),Hk]
   have htj:=ht j hj
   simp only[gK]
   have e2:bT (d j) (y j)=rE d y j:=by rw[dj];rfl
   rw[e2]
   generalize rE d y j=L at *
   generalize bX (rE d y) j=B at *
   subst hk
   by_cases c0:0≤t j
   · obtain ⟨q,hq⟩:∃ q:Nat,t j=q:=⟨(t j).toNat,by omega⟩
     have er:rL t y j=decide (y q≤y j):=by unfold rL;rw[decide_eq_true c0,hq];rfl
     rw[er,hq]
     rw[hq] at htj
     simp only[gK]
     by_cases c1:y q≤y j
     · rw[decide_eq_true c1]
       simp only[if_true]
       cases B<;>cases L
       all_goals
        exact wF
     · rw[decide_eq_false c1]
       simp only[Bool.false_eq_true,if_false]
       cases B<;>cases L
       all_goals
        exact wF
   · have er:rL t y j=false:=by unfold rL;rw[decide_eq_false c0];rfl
     rw[er]
     simp only[Bool.false_eq_true,if_false]
     cases B<;>cases L
     all_goals
      exact wF
 · exact cr (t29 n l k t d y h (bX (rE d y) l) (Int.ofNat l) H) (al n) (af _ _) (ag _ _) (by first | (simp (disch:=omega) only[nV,nW];done) | (simp (disch:=omega) only[nV,nW];omega))
noncomputable def uA (l k:Nat) (t d:Nat→Int) (h:Int) (m:Nat) (f:Nat→Nat→Int) (g:Nat→Nat):Int:=if ep l t k d h≠0 then ep l t k d h else if lO l m f g≠0 then lO l m f g else if bX (uu h g) m=true then 4 else if bX (rL t (cP f g m)) l=true then 16 else if bX (rE d (cP f g m)) l=true then 12 else 0
theorem yj (z:Nat→Int) {c:Nat} (hc:c<30):cX z c=z c:=by
 unfold cX
 rw[oH]
 show (if 0≤c∧c<0+30 then z (c-0) else _)=_
 rw[if_pos (by omega),Nat.sub_zero]
theorem Jf {t z:Nat→Int} {l:Nat} (hl:l≤30) (ht:∀ j,j<l→t j<l):bX (rL t (cX z)) l=bX (rL t z) l:=j9 (fun j hj=>by
 have:=ht j hj
 unfold rL
 rw[yj z (c:=j) (by omega)]
 by_cases c:0≤t j
 · rw[yj z (c:=(t j).toNat) (by omega)]
 · rw[decide_eq_false c];rfl)
theorem I5 {d z:Nat→Int} {l:Nat} (hl:l≤30):bX (rE d (cX z)) l=bX (rE d z) l:=j9 (fun j hj=>by
 unfold rE
 rw[yj z (c:=j) (by omega)])
theorem RV (hm:m≤50) (hg:∀ i,i<m→g i≤40):cd (n+11) (.fn 29) [bw l t k d,.int .i64 h,cA m f g] H=some (.int .i64 (uA l k t d h m f g),H):=by
 by_cases ea:ep l t k d h=0
 · obtain ⟨hs,h1,h2⟩:=lY ea
   have h66:∀ H,cd (n+10) (.fn 66) [bw l t k d,.int .i64 h] H=some (.tup [eN 0 l t k d (cZ t l),.int .i64 0],H):=fun H=>Rm n l k t d H h ea
   have h60:∀ H,cd (n+10) (.fn 60) [bw l t k d,cA m f g] H=some (Al l m f g,H):=fun H=>Rj (n+4) l k t d m f g H hs.l1 hs.l30 hm hg
   by_cases et:lO l m f g=0
   · have e60:Al l m f g=.tup [.agg (.M [.arr .i64 (cX (cP f g m)) 30]),.int .i64 0]:=by unfold Al;rw[if_pos et]
     rw[e60] at h60
     have h67:=R6 (n+7) l k t d (cX (cX (cP f g m))) h m f g H (by omega)
     have hx:=TW (n+10) l k t d h H (cX (cX (cP f g m))) hs.l30 hs.kl (fun j hj=>hs.tl j hj)
     have ec:uA l k t d h m f g=if bX (uu h g) m=true then 4 else if bX (rL t (cX (cX (cP f g m)))) l=true then 16 else if bX (rE d (cX (cX (cP f g m)))) l=true then 12 else 0:=by
      unfold uA
      rw[if_neg (by rw[ea];decide),if_neg (by rw[et];decide),Jf hs.l30 (fun j hj=>hs.tl j hj),Jf hs.l30 (fun j hj=>hs.tl j hj),I5 hs.l30,I5 hs.l30]
     rw[ec]
     refine aE (n:=n+10) Try.func29 rfl rfl rfl (Ux (n+10) l k t d (cX (cP f g m)) (cX (cX (cP f g m))) (cZ t l) h m f g (bX (uu h g) m) (bX (rE d (cX (cX (cP f g m)))) l) (bX (rL t (cX (cX (cP f g m)))) l) H) (aM _ (n+10) (fK (aP (aP (aD _) h66) h60) (fun x hy=>by rw[← Tr.ab hy];exact h67))) (ay (af _ _) N9 (fun x hy=>df hy hx)) (ag _ _) ?_
     clear hx h67 ec
     generalize bX (uu h g) m=A at *
     generalize bX (rL t (cX (cX (cP f g m)))) l=B at *
     generalize bX (rE d (cX (cX (cP f g m)))) l=C at *
     cases A<;>cases B<;>cases C
     all_goals
      simp only[Bool.false_eq_true,if_false,if_true]
      exact wF
   · have e60:Al l m f g=.tup [.agg (.M [.arr .i64 (cX (fun _=>Int.ofNat 0)) 30]),.int .i64 (lO l m f g)]:=by unfold Al;rw[if_neg et]
     rw[e60] at h60
     have ec:uA l k t d h m f g=lO l m f g:=by
      unfold uA
      rw[if_neg (by rw[ea];decide),if_pos et]
     rw[ec]
     refine aE (n:=n+10) Try.func29 rfl rfl rfl (Qv (n+10) l k t d (cX (fun _=>Int.ofNat 0)) (fun _=>0) (cZ t l) h m f g (lO l m f g) H) (aM _ (n+10) (aP (aP (aD _) h66) h60)) (ay (af _ _) N9 (fun x hx=>(Tr.ae hx).elim)) (ag _ _) ?_
     generalize lO l m f g=E at *
     exact wF
 · have ec:uA l k t d h m f g=ep l t k d h:=by
    unfold uA
    rw[if_pos ea]
   have h66:∀ H,cd (n+10) (.fn 66) [bw l t k d,.int .i64 h] H=some (.tup [.nilp,.int .i64 (ep l t k d h)],H):=fun H=>LG n l k t d H h ea
   rw[ec]
   generalize ep l t k d h=E at *
   refine aE (n:=n+10) Try.func29 rfl rfl rfl (Qu (n+10) l k t d h m f g E H) (aM _ (n+10) (aP (aD _) h66)) (ay (af _ _) N9 (fun x hx=>(Tr.ae hx).elim)) (ag _ _) ?_
   exact wF
end
end Go.Eng
end
section
namespace Go.Eng
open Go.Proofs
noncomputable def cM (l:Nat) (t:Nat→Int) (k:Nat) (d:Nat→Int):aX:=⟨false,[Dq l t k d]⟩
noncomputable def sI (l:Nat) (z:Nat→Int) (h:Int) (m:Nat) (f:Nat→Nat→Int) (g:Nat→Nat) (j:Int):ar:=[(1,.int .i64 h),(2,cA m f g),(3,.ptr 0 0 0 0),(7,bU l z true),(9,.int .i64 j)]
noncomputable def sJ (l:Nat) (z:Nat→Int) (j:Int):ar:=[(3,.ptr 0 0 0 0),(7,bU l z true),(10,.int .i64 j)]
noncomputable def sK (l:Nat) (z:Nat→Int) (j:Int):ar:=[(3,.ptr 0 0 0 0),(7,bU l z true),(11,.int .i64 j)]
theorem Nd (n l k:Nat) (t d z:Nat→Int) (h:Int) (m:Nat) (f:Nat→Nat→Int) (g:Nat→Nat) (j:Int) (H:aa):aJ (bo n 30 84) (il aB n 0) aG aH (part Try.f30 [1,1,1,1,0,1,0,0]) (hints (sI l z h m f g j)) (cM l t k d::H) =
 (fun (Z0:aX)=>((fun (Z1:Nat×AV×Option Nat)=>Tr.ite (bT j (Int.ofNat m)) (Tr.req (b8 j m) (Tr.req (bV (an 0 j 1) m) (Tr.ite (bT h (Int.ofNat (g (an 0 j 1)))) (Tr.ok (Ex.ret,[(6,AV.int .i64 (Int.ofNat 4),some 1)],Z0::H)) (Tr.ok (Ex.normal,[(1,AV.int .i64 h,none),Z1,(3,AV.ptr 0 0 0 0,none),(7,AV.slcT none (Row.M [ah.arr .i64 z l]) 1 l true,none),(9,AV.int .i64 (bu .i64 j (Int.ofNat 1)),none)],Z0::H))))) (Tr.ok (Ex.exit 0,[(1,AV.int .i64 h,none),Z1,(3,AV.ptr 0 0 0 0,none),(7,AV.slcT none (Row.M [ah.arr .i64 z l]) 1 l true,none),(9,AV.int .i64 j,none),(31,AV.bool false,some 1)],Z0::H))) (2,AV.slcT none (Row.F (fun j=>AV.slcT none (Row.M [ah.arr .i64 (f j) (g j)]) 1 (g j) false) m) 1 m false,none))) { lock:=false,bs:=[(0,ai.row (Row.G [AV.slcT none (Row.M [ah.arr .i64 t l]) 1 l false,AV.slcT none (Row.M [ah.arr .i64 d k]) 1 k false]))] }:=by kernel_rfl
theorem Nf (n l k:Nat) (t d z:Nat→Int) (j:Int) (H:aa):aJ (bo n 30 84) (il aB n 0) aG aH (part Try.f30 [1,1,1,1,1,0,1,0,0]) (hints (sJ l z j)) (cM l t k d::H) =
 (fun (Z0:aX)=>((fun (Z1:aO)=>Tr.ite (bT j (Int.ofNat l)) (Tr.req (b8 j l) (Tr.req (bV (an 0 j 1) l) (Tr.ite (lU (Int.ofNat 0) (t (an 0 j 1))) (Tr.req (b8 j l) (Tr.req (bV (an 0 j 1) l) (Tr.req (b8 j l) (Tr.req (bV (an 0 j 1) l) (Tr.req (b8 (t (an 0 j 1)) l) (Tr.req (bV (an 0 (t (an 0 j 1)) 1) l) (Tr.ite (lU (z (an 0 (t (an 0 j 1)) 1)) (z (an 0 j 1))) (Tr.ok (Ex.ret,[(6,AV.int .i64 (Int.ofNat 16),some 1)],Z0::H)) (Tr.ok (Ex.normal,Z1,Z0::H))))))))) (Tr.ok (Ex.normal,Z1,Z0::H))))) (Tr.ok (Ex.exit 2,[(3,AV.ptr 0 0 0 0,none),(7,AV.slcT none (Row.M [ah.arr .i64 z l]) 1 l true,none),(10,AV.int .i64 j,none),(44,AV.bool false,some 1)],Z0::H))) [(3,AV.ptr 0 0 0 0,none),(7,AV.slcT none (Row.M [ah.arr .i64 z l]) 1 l true,none),(10,AV.int .i64 (bu .i64 j (Int.ofNat 1)),none)])) { lock:=false,bs:=[(0,ai.row (Row.G [AV.slcT none (Row.M [ah.arr .i64 t l]) 1 l false,AV.slcT none (Row.M [ah.arr .i64 d k]) 1 k false]))] }:=by kernel_rfl
theorem Ng (n l k:Nat) (t d z:Nat→Int) (j:Int) (H:aa):aJ (bo n 30 84) (il aB n 0) aG aH (part Try.f30 [1,1,1,1,1,1,0,1,0,0]) (hints (sK l z j)) (cM l t k d::H) =
 (fun (Z0:aX)=>Tr.ite (bT j (Int.ofNat l)) (Tr.req (b8 j l) (Tr.req (bV (an 0 j 1) l) (Tr.req (b8 j k) (Tr.req (bV (an 0 j 1) k) (Tr.ite (bT (d (an 0 j 1)) (z (an 0 j 1))) (Tr.ok (Ex.ret,[(6,AV.int .i64 (Int.ofNat 12),some 1)],Z0::H)) (Tr.ok (Ex.normal,[(3,AV.ptr 0 0 0 0,none),(7,AV.slcT none (Row.M [ah.arr .i64 z l]) 1 l true,none),(11,AV.int .i64 (bu .i64 j (Int.ofNat 1)),none)],Z0::H))))))) (Tr.ok (Ex.exit 4,[(3,AV.ptr 0 0 0 0,none),(7,AV.slcT none (Row.M [ah.arr .i64 z l]) 1 l true,none),(11,AV.int .i64 j,none),(71,AV.bool false,some 1)],Z0::H))) { lock:=false,bs:=[(0,ai.row (Row.G [AV.slcT none (Row.M [ah.arr .i64 t l]) 1 l false,AV.slcT none (Row.M [ah.arr .i64 d k]) 1 k false]))] }:=by kernel_rfl
theorem Uy (n l k:Nat) (t d z:Nat→Int) (h:Int) (m:Nat) (f:Nat→Nat→Int) (g:Nat→Nat) (b0 b2 b4:Bool) (H:aa):aT Try.prog (cd n) 100000 30 Try.f30 (KtL.kt 30) (il (tX (tX aB 64 [bw l t k d,.int .i64 h] (.int .i64 0)) 47 [bw l t k d,cA m f g] (.tup [bU l z true,.int .i64 0])) n 0) (bG (bG (bG aG 4 (sK l z 0) (cM l t k d::H) (.ite b4 (.ok (.ret,hints [(6,.int .i64 12)],cM l t k d::H)) (.ok (.normal,hints (sK l z (Int.ofNat l)++[(71,.bool false)]),cM l t k d::H)))) 2 (sJ l z 0) (cM l t k d::H) (.ite b2 (.ok (.ret,hints [(6,.int .i64 16)],cM l t k d::H)) (.ok (.normal,hints (sJ l z (Int.ofNat l)++[(44,.bool false)]),cM l t k d::H)))) 0 (sI l z h m f g 0) (cM l t k d::H) (.ite b0 (.ok (.ret,hints [(6,.int .i64 4)],cM l t k d::H)) (.ok (.normal,hints (sI l z h m f g (Int.ofNat m)++[(31,.bool false)]),cM l t k d::H)))) aH [(bw l t k d,none),(.int .i64 h,none),(cA m f g,none)] H =
 (fun (Z0:Row)=>((fun (Z1:Nat×AV)=>((fun (Z2:Row)=>((fun (Z3:aX)=>((fun (Z4:ar)=>Tr.reqP ([AV.agg Z0,AV.int .i64 h]=[AV.agg Z0,AV.int .i64 h]) (Tr.ite (aQ (cw (Int.ofNat 0) (Int.ofNat 0))) (Tr.reqP ([AV.agg Z0,AV.int .i64 h]=[AV.agg Z0,AV.int .i64 h]) (Tr.ok ((AV.int .i64 (Int.ofNat 0),none),H))) (Tr.reqP ([AV.agg Z0,AV.slcT none Z2 1 m false]=[AV.agg Z0,AV.slcT none Z2 1 m false]) (Tr.ite (aQ (cw (Int.ofNat 0) (Int.ofNat 0))) (Tr.ok ((AV.int .i64 (Int.ofNat 0),none),H)) (Tr.reqP (Z4=Z4∧Z3::H=Z3::H) (Tr.ite b0 (Tr.ok ((AV.int .i64 (Int.ofNat 4),none),H)) (Tr.reqP ([(3,AV.ptr 0 0 0 0),Z1,(10,AV.int .i64 (Int.ofNat 0))]=[(3,AV.ptr 0 0 0 0),Z1,(10,AV.int .i64 (Int.ofNat 0))]∧Z3::H=Z3::H) (Tr.ite b2 (Tr.ok ((AV.int .i64 (Int.ofNat 16),none),H)) (Tr.reqP ([(3,AV.ptr 0 0 0 0),Z1,(11,AV.int .i64 (Int.ofNat 0))]=[(3,AV.ptr 0 0 0 0),Z1,(11,AV.int .i64 (Int.ofNat 0))]∧Z3::H=Z3::H) (Tr.ite b4 (Tr.ok ((AV.int .i64 (Int.ofNat 12),none),H)) (Tr.ok ((AV.int .i64 (Int.ofNat 0),some 1),H)))))))))))) [(1,AV.int .i64 h),(2,AV.slcT none Z2 1 m false),(3,AV.ptr 0 0 0 0),Z1,(9,AV.int .i64 (Int.ofNat 0))])) { lock:=false,bs:=[(0,ai.row Z0)] })) (Row.F (fun j=>AV.slcT none (Row.M [ah.arr .i64 (f j) (g j)]) 1 (g j) false) m))) (7,AV.slcT none (Row.M [ah.arr .i64 z l]) 1 l true))) (Row.G [AV.slcT none (Row.M [ah.arr .i64 t l]) 1 l false,AV.slcT none (Row.M [ah.arr .i64 d k]) 1 k false]):=by kernel_rfl
theorem Qx (n l k:Nat) (t d:Nat→Int) (h:Int) (m:Nat) (f:Nat→Nat→Int) (g:Nat→Nat) (c:Int) (H:aa):aT Try.prog (cd n) 100000 30 Try.f30 (KtL.kt 30) (il (tX (tX aB 64 [bw l t k d,.int .i64 h] (.int .i64 0)) 47 [bw l t k d,cA m f g] (.tup [.nils,.int .i64 c])) n 0) (bG aG 0 [] [] .bad) aH [(bw l t k d,none),(.int .i64 h,none),(cA m f g,none)] H =
 (fun (Z0:Row)=>((fun (Z1:Row)=>Tr.reqP ([AV.agg Z0,AV.int .i64 h]=[AV.agg Z0,AV.int .i64 h]) (Tr.ite (aQ (cw (Int.ofNat 0) (Int.ofNat 0))) (Tr.reqP ([AV.agg Z0,AV.int .i64 h]=[AV.agg Z0,AV.int .i64 h]) (Tr.ok ((AV.int .i64 (Int.ofNat 0),none),H))) (Tr.reqP ([AV.agg Z0,AV.slcT none Z1 1 m false]=[AV.agg Z0,AV.slcT none Z1 1 m false]) (Tr.ite (aQ (cw c (Int.ofNat 0))) (Tr.ok ((AV.int .i64 c,none),H)) (Tr.reqP ([(1,AV.int .i64 h),(2,AV.slcT none Z1 1 m false),(3,AV.ptr 0 0 0 0),(7,AV.nils),(9,AV.int .i64 (Int.ofNat 0))]=[]∧{ lock:=false,bs:=[(0,ai.row Z0)] } :: H=[]) Tr.bad))))) (Row.F (fun j=>AV.slcT none (Row.M [ah.arr .i64 (f j) (g j)]) 1 (g j) false) m))) (Row.G [AV.slcT none (Row.M [ah.arr .i64 t l]) 1 l false,AV.slcT none (Row.M [ah.arr .i64 d k]) 1 k false]):=by kernel_rfl
theorem Qw (n l k:Nat) (t d:Nat→Int) (h:Int) (m:Nat) (f:Nat→Nat→Int) (g:Nat→Nat) (c:Int) (H:aa):aT Try.prog (cd n) 100000 30 Try.f30 (KtL.kt 30) (il (tX aB 64 [bw l t k d,.int .i64 h] (.int .i64 c)) n 0) (bG aG 0 [] [] .bad) aH [(bw l t k d,none),(.int .i64 h,none),(cA m f g,none)] H =
 (fun (Z0:List AV)=>Tr.reqP (Z0=Z0) (Tr.ite (aQ (cw c (Int.ofNat 0))) (Tr.reqP (Z0=Z0) (Tr.ok ((AV.int .i64 c,none),H))) Tr.bad)) [AV.agg (Row.G [AV.slcT none (Row.M [ah.arr .i64 t l]) 1 l false,AV.slcT none (Row.M [ah.arr .i64 d k]) 1 k false]),AV.int .i64 h]:=by kernel_rfl
theorem JP:∀ b,(0,b) ∈ aF (bh Try.f30)→b=.loop (part Try.f30 [1,1,1,1,0,1,0,0]):=dw (by kernel_rfl)
theorem Oa:∀ b,(2,b) ∈ aF (bh Try.f30)→b=.loop (part Try.f30 [1,1,1,1,1,0,1,0,0]):=dw (by kernel_rfl)
theorem Ob:∀ b,(4,b) ∈ aF (bh Try.f30)→b=.loop (part Try.f30 [1,1,1,1,1,1,0,1,0,0]):=dw (by kernel_rfl)
section
variable (n l k:Nat) (t d z:Nat→Int) (h:Int) (m:Nat) (f:Nat→Nat→Int) (g:Nat→Nat) (H:aa)
theorem Pa (hm:m≤1000):exec (bo n 30 84) (.block 0 (.loop (part Try.f30 [1,1,1,1,0,1,0,0]))) (sI l z h m f g ((0:Nat):Int)) (cM l t k d::H)=some (cond (bX (uu h g) m) (.ret,[(6,.int .i64 4)],cM l t k d::H) (.normal,sI l z h m f g (Int.ofNat m)++[(31,.bool false)],cM l t k d::H)):=by
 refine gJ (n:=n) (f:=30) (nt:=84) (c:=part Try.f30 [1,1,1,1,0,1,0,0]) 0 (fun j=>sI l z h m f g (j:Nat)) (fun j=>cM l t k d::H) m (uu h g) (fun j=>([(6,.int .i64 4)],cM l t k d::H)) _ (by omega) (fun j hj=>?_) ?_
 · refine aC (Nd n l k t d z h m f g (j:Nat) H) (al n) (af _ _) (ag _ _) ?_
   show Tr.all _ (fun r=>if uu h g j=true then _ else _∧tidy _ _ _=(sI l z h m f g ((j+1:Nat):Int),cM l t k d::H))
   rw[cK (j:=j) (by omega)]
   simp only[gK]
   have eb:bT h (Int.ofNat (g j))=uu h g j:=by rw[dj];rfl
   rw[eb]
   cases uu h g j with
   | true =>
     simp only[if_true]
     exact wF
   | false =>
     simp only[Bool.false_eq_true,if_false]
     exact wF
 · exact cr (Nd n l k t d z h m f g (Int.ofNat m) H) (al n) (af _ _) (ag _ _) (by first | (simp (disch:=omega) only[nV,nW];done) | (simp (disch:=omega) only[nV,nW];omega))
theorem Pb (hl:l≤30) (ht:∀ j,j<l→t j<l):exec (bo n 30 84) (.block 2 (.loop (part Try.f30 [1,1,1,1,1,0,1,0,0]))) (sJ l z ((0:Nat):Int)) (cM l t k d::H)=some (cond (bX (rL t z) l) (.ret,[(6,.int .i64 16)],cM l t k d::H) (.normal,sJ l z (Int.ofNat l)++[(44,.bool false)],cM l t k d::H)):=by
 refine gJ (n:=n) (f:=30) (nt:=84) (c:=part Try.f30 [1,1,1,1,1,0,1,0,0]) 2 (fun j=>sJ l z (j:Nat)) (fun j=>cM l t k d::H) l (rL t z) (fun j=>([(6,.int .i64 16)],cM l t k d::H)) _ (by omega) (fun j hj=>?_) ?_
 · refine aC (Nf n l k t d z (j:Nat) H) (al n) (af _ _) (ag _ _) ?_
   show Tr.all _ (fun r=>if rL t z j=true then _ else _∧tidy _ _ _=(sJ l z ((j+1:Nat):Int),cM l t k d::H))
   rw[cK (j:=j) (by omega)]
   simp only[gK]
   have htj:=ht j hj
   by_cases c0:0≤t j
   · obtain ⟨q,hq⟩:∃ q:Nat,t j=q:=⟨(t j).toNat,by omega⟩
     have er:rL t z j=decide (z q≤z j):=by unfold rL;rw[decide_eq_true c0,hq];rfl
     rw[er,hq]
     rw[hq] at htj
     simp only[gK]
     by_cases c1:z q≤z j
     · rw[decide_eq_true c1]
       simp only[if_true]
       exact wF
     · rw[decide_eq_false c1]
       simp only[Bool.false_eq_true,if_false]
       exact wF
   · have er:rL t z j=false:=by unfold rL;rw[decide_eq_false c0];rfl
     rw[er]
     simp only[Bool.false_eq_true,if_false]
     exact wF
 · exact cr (Nf n l k t d z (Int.ofNat l) H) (al n) (af _ _) (ag _ _) (by first | (simp (disch:=omega) only[nV,nW];done) | (simp (disch:=omega) only[nV,nW];omega))
theorem Pc (hl:l≤30) (hk:k=l):exec (bo n 30 84) (.block 4 (.loop (part Try.f30 [1,1,1,1,1,1,0,1,0,0]))) (sK l z ((0:Nat):Int)) (cM l t k d::H)=some (cond (bX (rE d z) l) (.ret,[(6,.int .i64 12)],cM l t k d::H) (.normal,sK l z (Int.ofNat l)++[(71,.bool false)],cM l t k d::H)):=by
 subst hk
 refine gJ (n:=n) (f:=30) (nt:=84) (c:=part Try.f30 [1,1,1,1,1,1,0,1,0,0]) 4 (fun j=>sK k z (j:Nat)) (fun j=>cM k t k d::H) k (rE d z) (fun j=>([(6,.int .i64 12)],cM k t k d::H)) _ (by omega) (fun j hj=>?_) ?_
 · refine aC (Ng n k k t d z (j:Nat) H) (al n) (af _ _) (ag _ _) ?_
   show Tr.all _ (fun r=>if rE d z j=true then _ else _∧tidy _ _ _=(sK k z ((j+1:Nat):Int),cM k t k d::H))
   rw[cK (j:=j) (by omega)]
   simp only[gK]
   have e2:bT (d j) (z j)=rE d z j:=by rw[dj];rfl
   rw[e2]
   cases rE d z j with
   | true =>
     simp only[if_true]
     exact wF
   | false =>
     simp only[Bool.false_eq_true,if_false]
     exact wF
 · exact cr (Ng n k k t d z (Int.ofNat k) H) (al n) (af _ _) (ag _ _) (by first | (simp (disch:=omega) only[nV,nW];done) | (simp (disch:=omega) only[nV,nW];omega))
theorem RW (hm:m≤50) (hg:∀ i,i<m→g i≤40):cd (n+4) (.fn 30) [bw l t k d,.int .i64 h,cA m f g] H=some (.int .i64 (uA l k t d h m f g),H):=by
 by_cases ea:ep l t k d h=0
 · obtain ⟨hs,h1,h2⟩:=lY ea
   have h64:∀ H,cd (n+3) (.fn 64) [bw l t k d,.int .i64 h] H=some (.int .i64 0,H):=fun H=>by rw[NW,ea]
   have h47:∀ H,cd (n+3) (.fn 47) [bw l t k d,cA m f g] H=some (Lr l m f g,H):=fun H=>Rd (n+1) l k t d m f g H (by have:=hs.l30;omega) (fun i hi=>by have:=hg i hi;omega)
   by_cases et:lO l m f g=0
   · rw[xT,if_pos et] at h47
     have hxa:=Pa (n+3) l k t d (cP f g m) h m f g H (by omega)
     have hxb:=Pb (n+3) l k t d (cP f g m) H hs.l30 hs.tl
     have hxc:=Pc (n+3) l k t d (cP f g m) H hs.l30 hs.kl
     have ec:uA l k t d h m f g=if bX (uu h g) m=true then 4 else if bX (rL t (cP f g m)) l=true then 16 else if bX (rE d (cP f g m)) l=true then 12 else 0:=by
      unfold uA
      rw[if_neg (by rw[ea];decide),if_neg (by rw[et];decide)]
     rw[ec]
     refine aE (n:=n+3) Try.func30 rfl rfl rfl (Uy (n+3) l k t d (cP f g m) h m f g (bX (uu h g) m) (bX (rL t (cP f g m)) l) (bX (rE d (cP f g m)) l) H) (aM _ (n+3) (aP (aP (aD _) h64) h47)) (ay (ay (ay (af _ _) Ob (fun x hy=>df hy hxc)) Oa (fun x hy=>df hy hxb)) JP (fun x hy=>df hy hxa)) (ag _ _) ?_
     clear hxa hxb hxc ec
     generalize bX (uu h g) m=A at *
     generalize bX (rL t (cP f g m)) l=B at *
     generalize bX (rE d (cP f g m)) l=C at *
     cases A<;>cases B<;>cases C
     all_goals
      simp only[Bool.false_eq_true,if_false,if_true]
      exact wF
   · rw[xT,if_neg et] at h47
     have ec:uA l k t d h m f g=lO l m f g:=by
      unfold uA
      rw[if_neg (by rw[ea];decide),if_pos et]
     rw[ec]
     refine aE (n:=n+3) Try.func30 rfl rfl rfl (Qx (n+3) l k t d h m f g (lO l m f g) H) (aM _ (n+3) (aP (aP (aD _) h64) h47)) (ay (af _ _) JP (fun x hx=>(Tr.ae hx).elim)) (ag _ _) ?_
     generalize lO l m f g=E at *
     exact wF
 · have ec:uA l k t d h m f g=ep l t k d h:=by
    unfold uA
    rw[if_pos ea]
   have h64:∀ H,cd (n+3) (.fn 64) [bw l t k d,.int .i64 h] H=some (.int .i64 (ep l t k d h),H):=fun H=>NW n l k t d H h
   rw[ec]
   generalize ep l t k d h=E at *
   refine aE (n:=n+3) Try.func30 rfl rfl rfl (Qw (n+3) l k t d h m f g E H) (aM _ (n+3) (aP (aD _) h64)) (ay (af _ _) JP (fun x hx=>(Tr.ae hx).elim)) (ag _ _) ?_
   exact wF
end
end Go.Eng
end
