/- Lay: CheckPlan of the program. -/
import Derived.Test.YtoomemfhcbajoaaV7Lb39x3
import Derived.Test.YtoomemfhcbajoaaV7Lb34x5
set_option linter.unusedVariables false
set_option linter.unusedSimpArgs false
set_option maxRecDepth 100000
section
namespace Go.Eng
open Go.Proofs
noncomputable def fa (l:Nat) (t:Nat→Int) (k:Nat) (d z:Nat→Int) (h:Int):aV:=⟨false,[II l t k d,G4 h,Gh z]⟩
noncomputable def f68 (q:Nat):AV:=.fn (.func 68) [] [.ptr q 1 0 0]
noncomputable def DD (m:Nat) (f:Nat→Nat→Int) (g:Nat→Nat) (j:Int):ao:=[(0,dK m f g),(1,f68 2),(7,.int .i64 (Int.ofNat m)),(8,.int .i64 j)]
noncomputable def yu (l:Nat) (t:Nat→Int) (b:Bool) (j:Int):ao:=[(3,.ptr 0 0 0 0),(9,.ptr 0 2 0 0),(11,.bool b),(36,cA l t false),(37,.int .i64 (Int.ofNat l)),(38,.int .i64 j)]
theorem T2 (n l k:Nat) (t d z:Nat→Int) (h:Int) (H:aa) (q:Nat) (y:Nat→Int):aX Try.prog (cd n) 100000 68 Try.f68 (KtL.kt 68) (il aD n 0) aK aL [(cA q y false,none),(.ptr 2 1 0 0,none)] (aw::aw::fa l t k d z h::H) =
 Tr.ok ((AV.bool (bQ h (Int.ofNat q)),none),aw::aw::{ lock:=false,bs:=[(0,aj.row (Row.G [AV.slcT none (Row.M [ah.arr .i64 t l]) 1 l false,AV.slcT none (Row.M [ah.arr .i64 d k]) 1 k false])),(0,aj.row (Row.I .i64 [h])),(0,aj.row (Row.M [ah.arr .i64 z 30]))] } :: H):=by kernel_rfl
theorem t93 (n l k:Nat) (t d z:Nat→Int) (h:Int) (m:Nat) (f:Nat→Nat→Int) (g:Nat→Nat) (j:Int) (b:Bool) (H:aa):aM (bp n 93 19) (il (ye aD 68 [cA (g (au 0 j 1)) (f (au 0 j 1)) false,.ptr 2 1 0 0] (aw::aw::fa l t k d z h::H) (.ok (.bool b,aw::aw::fa l t k d z h::H))) n 0) aK aL (part Try.f93 [1,0,1,0,0]) (hints (DD m f g j)) (aw::aw::fa l t k d z h::H) =
 (fun (Z0:aV)=>((fun (Z1:List AV)=>((fun (Z2:Nat×AV×Option Nat)=>Tr.ite (bQ j (Int.ofNat m)) (Tr.req (cN j m) (Tr.req (cw (au 0 j 1) m) (Tr.reqP (Z1=Z1∧aw::aw::Z0::H=aw::aw::Z0::H) (Tr.ite b (Tr.ok (Ex.ret,[(4,AV.int .i64 j,none)],aw::aw::Z0::H)) (Tr.ok (Ex.normal,[Z2,(1,AV.fn (Fn.func 68) [] [AV.ptr 2 1 0 0],none),(7,AV.int .i64 (Int.ofNat m),none),(8,AV.int .i64 (bG .i64 j (Int.ofNat 1)),none)],aw::aw::Z0::H)))))) (Tr.ok (Ex.exit 0,[Z2,(1,AV.fn (Fn.func 68) [] [AV.ptr 2 1 0 0],none),(7,AV.int .i64 (Int.ofNat m),none),(8,AV.int .i64 j,none),(9,AV.bool false,some 1)],aw::aw::Z0::H))) (0,AV.slcT none (Row.F (fun j=>AV.slcT none (Row.M [ah.arr .i64 (f j) (g j)]) 1 (g j) false) m) 1 m false,none))) [AV.slcT none (Row.M [ah.arr .i64 (f (au 0 j 1)) (g (au 0 j 1))]) 1 (g (au 0 j 1)) false,AV.ptr 2 1 0 0])) { lock:=false,bs:=[(0,aj.row (Row.G [AV.slcT none (Row.M [ah.arr .i64 t l]) 1 l false,AV.slcT none (Row.M [ah.arr .i64 d k]) 1 k false])),(0,aj.row (Row.I .i64 [h])),(0,aj.row (Row.M [ah.arr .i64 z 30]))] }:=by kernel_rfl
theorem Uf (n l k:Nat) (t d z:Nat→Int) (h:Int) (m:Nat) (f:Nat→Nat→Int) (g:Nat→Nat) (x:Bool) (r:Nat) (H:aa):aX Try.prog (cd n) 100000 93 Try.f93 (KtL.kt 93) (il aD n 0) (bX aK 0 (DD m f g 0) (aw::aw::fa l t k d z h::H) (.ite x (.ok (.ret,[(4,.int .i64 (Int.ofNat r),none)],aw::aw::fa l t k d z h::H)) (.ok (.normal,hints (DD m f g (Int.ofNat m)++[(9,.bool false)]),aw::aw::fa l t k d z h::H)))) aL [(dK m f g,none),(f68 1,none)] (aw::fa l t k d z h::H) =
 (fun (Z0:aV)=>((fun (Z1:ao)=>Tr.reqP (Z1=Z1∧aw::aw::Z0::H=aw::aw::Z0::H) (Tr.ite x (Tr.ok ((AV.int .i64 (Int.ofNat r),none),aw::Z0::H)) (Tr.ok ((AV.int .i64 (Int.negSucc 0),some 1),aw::Z0::H)))) [(0,AV.slcT none (Row.F (fun j=>AV.slcT none (Row.M [ah.arr .i64 (f j) (g j)]) 1 (g j) false) m) 1 m false),(1,AV.fn (Fn.func 68) [] [AV.ptr 2 1 0 0]),(7,AV.int .i64 (Int.ofNat m)),(8,AV.int .i64 (Int.ofNat 0))])) { lock:=false,bs:=[(0,aj.row (Row.G [AV.slcT none (Row.M [ah.arr .i64 t l]) 1 l false,AV.slcT none (Row.M [ah.arr .i64 d k]) 1 k false])),(0,aj.row (Row.I .i64 [h])),(0,aj.row (Row.M [ah.arr .i64 z 30]))] }:=by kernel_rfl
theorem T0 (n l k:Nat) (t d z:Nat→Int) (h:Int) (m:Nat) (f:Nat→Nat→Int) (g:Nat→Nat) (r:Int) (H:aa):aX Try.prog (cd n) 100000 67 Try.f67 (KtL.kt 67) (il (ye aD 93 [dK m f g,f68 1] (aw::fa l t k d z h::H) (.ok (.int .i64 r,aw::fa l t k d z h::H))) n 0) aK aL [(dK m f g,none),(f68 0,none)] (fa l t k d z h::H) =
 (fun (Z0:aV)=>((fun (Z1:List AV)=>Tr.reqP (Z1=Z1∧aw::Z0::H=aw::Z0::H) (Tr.ok ((AV.bool (lM (Int.ofNat 0) r),none),Z0::H))) [AV.slcT none (Row.F (fun j=>AV.slcT none (Row.M [ah.arr .i64 (f j) (g j)]) 1 (g j) false) m) 1 m false,AV.fn (Fn.func 68) [] [AV.ptr 1 1 0 0]])) { lock:=false,bs:=[(0,aj.row (Row.G [AV.slcT none (Row.M [ah.arr .i64 t l]) 1 l false,AV.slcT none (Row.M [ah.arr .i64 d k]) 1 k false])),(0,aj.row (Row.I .i64 [h])),(0,aj.row (Row.M [ah.arr .i64 z 30]))] }:=by kernel_rfl
theorem t29 (n l k:Nat) (t d y:Nat→Int) (h:Int) (b:Bool) (j:Int) (H:aa):aM (bp n 29 68) (il aD n 0) aK aL (part Try.f29 [1,1,1,1,1,1,0,1,0,0]) (hints (yu l t b j)) (fa l t k d y h::H) =
 (fun (Z0:aV)=>((fun (Z1:aN)=>((fun (Z2:aN)=>Tr.ite (bQ j (Int.ofNat l)) (Tr.req (cN j l) (Tr.req (cw (au 0 j 1) l) (Tr.ite (lM (Int.ofNat 0) (t (au 0 j 1))) (Tr.req (cN j 30) (Tr.req (cL 0 0) (Tr.req (cw (au 0 j 1) 30) (Tr.req (cN (t (au 0 j 1)) 30) (Tr.req (cL 0 0) (Tr.req (cw (au 0 (t (au 0 j 1)) 1) 30) (Tr.ite (lM (y (au 0 (t (au 0 j 1)) 1)) (y (au 0 j 1))) (Tr.ok (Ex.ret,[(6,AV.int .i64 (Int.ofNat 16),some 1)],Z0::H)) (Tr.ite b (Tr.ok (Ex.normal,Z2,Z0::H)) (Tr.req (cN j 30) (Tr.req (cL 0 0) (Tr.req (cw (au 0 j 1) 30) (Tr.req (cN j k) (Tr.req (cw (au 0 j 1) k) (Tr.ok (Ex.normal,Z1,Z0::H))))))))))))))) (Tr.ite b (Tr.ok (Ex.normal,Z2,Z0::H)) (Tr.req (cN j 30) (Tr.req (cL 0 0) (Tr.req (cw (au 0 j 1) 30) (Tr.req (cN j k) (Tr.req (cw (au 0 j 1) k) (Tr.ok (Ex.normal,Z1,Z0::H))))))))))) (Tr.ok (Ex.exit 0,[(3,AV.ptr 0 0 0 0,none),(9,AV.ptr 0 2 0 0,none),(11,AV.bool b,none),(36,AV.slcT none (Row.M [ah.arr .i64 t l]) 1 l false,none),(37,AV.int .i64 (Int.ofNat l),none),(38,AV.int .i64 j,none),(39,AV.bool false,some 1)],Z0::H))) [(3,AV.ptr 0 0 0 0,none),(9,AV.ptr 0 2 0 0,none),(11,AV.bool true,some 1),(36,AV.slcT none (Row.M [ah.arr .i64 t l]) 1 l false,none),(37,AV.int .i64 (Int.ofNat l),none),(38,AV.int .i64 (bG .i64 j (Int.ofNat 1)),none)])) [(3,AV.ptr 0 0 0 0,none),(9,AV.ptr 0 2 0 0,none),(11,AV.bool (bQ (d (au 0 j 1)) (y (au 0 j 1))),none),(36,AV.slcT none (Row.M [ah.arr .i64 t l]) 1 l false,none),(37,AV.int .i64 (Int.ofNat l),none),(38,AV.int .i64 (bG .i64 j (Int.ofNat 1)),none)])) { lock:=false,bs:=[(0,aj.row (Row.G [AV.slcT none (Row.M [ah.arr .i64 t l]) 1 l false,AV.slcT none (Row.M [ah.arr .i64 d k]) 1 k false])),(0,aj.row (Row.I .i64 [h])),(0,aj.row (Row.M [ah.arr .i64 y 30]))] }:=by kernel_rfl
theorem TJ (n l k:Nat) (t d z y e:Nat→Int) (h:Int) (m:Nat) (f:Nat→Nat→Int) (g:Nat→Nat) (b b2 x:Bool) (H:aa):aX Try.prog (cd n) 100000 29 Try.f29 (KtL.kt 29) (il (ye (tX (tX aD 66 [bR l t k d,.int .i64 h] (.tup [eA 0 l t k d e,.int .i64 0])) 60 [bR l t k d,dK m f g] (.tup [.agg (.M [.arr .i64 z 30]),.int .i64 0])) 67 [dK m f g,f68 0] (fa l t k d y h::H) (.ok (.bool b,fa l t k d y h::H))) n 0) (bX aK 0 (yu l t false 0) (fa l t k d y h::H) (.ite x (.ok (.ret,hints [(6,.int .i64 16)],fa l t k d y h::H)) (.ok (.normal,hints (yu l t b2 (Int.ofNat l)++[(39,.bool false)]),fa l t k d y h::H)))) aL [(bR l t k d,none),(.int .i64 h,none),(dK m f g,none)] H =
 (fun (Z0:Row)=>((fun (Z1:Row)=>((fun (Z2:aV)=>((fun (Z3:ao)=>Tr.reqP ([AV.agg Z0,AV.int .i64 h]=[AV.agg Z0,AV.int .i64 h]) (Tr.ite (aY (cI (Int.ofNat 0) (Int.ofNat 0))) (Tr.ok ((AV.int .i64 (Int.ofNat 0),none),H)) (Tr.reqP ([AV.agg Z0,AV.slcT none Z1 1 m false]=[AV.agg Z0,AV.slcT none Z1 1 m false]) (Tr.req (gF 0 30 0 30) (Tr.ite (aY (cI (Int.ofNat 0) (Int.ofNat 0))) (Tr.ok ((AV.int .i64 (Int.ofNat 0),none),H)) (Tr.reqP ([AV.slcT none Z1 1 m false,AV.fn (Fn.func 68) [] [AV.ptr 0 1 0 0]]=[AV.slcT none Z1 1 m false,AV.fn (Fn.func 68) [] [AV.ptr 0 1 0 0]]∧{ lock:=false,bs:=[(0,aj.row Z0),(0,aj.row (Row.I .i64 [h])),(0,aj.row (Row.M [ah.arr .i64 (eC (fun x=>Int.ofNat 0) 0 z 30) 30]))] } :: H=Z2::H) (Tr.ite b (Tr.ok ((AV.int .i64 (Int.ofNat 4),some 1),H)) (Tr.reqP (Z3=Z3∧Z2::H=Z2::H) (Tr.ite x (Tr.ok ((AV.int .i64 (Int.ofNat 16),none),H)) (Tr.ite b2 (Tr.ok ((AV.int .i64 (Int.ofNat 12),some 1),H)) (Tr.ok ((AV.int .i64 (Int.ofNat 0),some 1),H)))))))))))) [(3,AV.ptr 0 0 0 0),(9,AV.ptr 0 2 0 0),(11,AV.bool false),(36,AV.slcT none (Row.M [ah.arr .i64 t l]) 1 l false),(37,AV.int .i64 (Int.ofNat l)),(38,AV.int .i64 (Int.ofNat 0))])) { lock:=false,bs:=[(0,aj.row Z0),(0,aj.row (Row.I .i64 [h])),(0,aj.row (Row.M [ah.arr .i64 y 30]))] })) (Row.F (fun j=>AV.slcT none (Row.M [ah.arr .i64 (f j) (g j)]) 1 (g j) false) m))) (Row.G [AV.slcT none (Row.M [ah.arr .i64 t l]) 1 l false,AV.slcT none (Row.M [ah.arr .i64 d k]) 1 k false]):=by kernel_rfl
theorem PZ (n l k:Nat) (t d z y e:Nat→Int) (h:Int) (m:Nat) (f:Nat→Nat→Int) (g:Nat→Nat) (c:Int) (H:aa):aX Try.prog (cd n) 100000 29 Try.f29 (KtL.kt 29) (il (tX (tX aD 66 [bR l t k d,.int .i64 h] (.tup [eA 0 l t k d e,.int .i64 0])) 60 [bR l t k d,dK m f g] (.tup [.agg (.M [.arr .i64 z 30]),.int .i64 c])) n 0) (bX aK 0 [] [] .bad) aL [(bR l t k d,none),(.int .i64 h,none),(dK m f g,none)] H =
 (fun (Z0:Row)=>((fun (Z1:List AV)=>Tr.reqP ([AV.agg Z0,AV.int .i64 h]=[AV.agg Z0,AV.int .i64 h]) (Tr.ite (aY (cI (Int.ofNat 0) (Int.ofNat 0))) (Tr.ok ((AV.int .i64 (Int.ofNat 0),none),H)) (Tr.reqP (Z1=Z1) (Tr.req (gF 0 30 0 30) (Tr.ite (aY (cI c (Int.ofNat 0))) (Tr.ok ((AV.int .i64 c,none),H)) Tr.bad))))) [AV.agg Z0,AV.slcT none (Row.F (fun j=>AV.slcT none (Row.M [ah.arr .i64 (f j) (g j)]) 1 (g j) false) m) 1 m false])) (Row.G [AV.slcT none (Row.M [ah.arr .i64 t l]) 1 l false,AV.slcT none (Row.M [ah.arr .i64 d k]) 1 k false]):=by kernel_rfl
theorem PY (n l k:Nat) (t d:Nat→Int) (h:Int) (m:Nat) (f:Nat→Nat→Int) (g:Nat→Nat) (c:Int) (H:aa):aX Try.prog (cd n) 100000 29 Try.f29 (KtL.kt 29) (il (tX aD 66 [bR l t k d,.int .i64 h] (.tup [.nilp,.int .i64 c])) n 0) (bX aK 0 [] [] .bad) aL [(bR l t k d,none),(.int .i64 h,none),(dK m f g,none)] H =
 (fun (Z0:List AV)=>Tr.reqP (Z0=Z0) (Tr.ite (aY (cI c (Int.ofNat 0))) (Tr.ok ((AV.int .i64 c,none),H)) Tr.bad)) [AV.agg (Row.G [AV.slcT none (Row.M [ah.arr .i64 t l]) 1 l false,AV.slcT none (Row.M [ah.arr .i64 d k]) 1 k false]),AV.int .i64 h]:=by kernel_rfl
theorem QZ:∀ b,(0,b) ∈ aJ (bn Try.f93)→b=.loop (part Try.f93 [1,0,1,0,0]):=eJ (by kernel_rfl)
theorem NN:∀ b,(0,b) ∈ aJ (bn Try.f29)→b=.loop (part Try.f29 [1,1,1,1,1,1,0,1,0,0]):=eJ (by kernel_rfl)
theorem Hd (p:Nat→Bool) (j:Nat):bV p (j+1)=(bV p j || p j):=by
 rw[Bool.eq_iff_iff,Bool.or_eq_true,dj,dj]
 constructor
 · rintro ⟨i,h1,h2⟩
   by_cases e:i=j
   · subst e;exact .inr h2
   · exact .inl ⟨i,by omega,h2⟩
 · rintro (⟨i,h1,h2⟩ | h)
   · exact ⟨i,by omega,h2⟩
   · exact ⟨j,by omega,h⟩
theorem Fb (p:Nat→Bool):bV p 0=false:=jN (fun j hj=>by omega)
def pM (t y:Nat→Int) (j:Nat):Bool:=decide (0≤t j) && decide (y (t j).toNat≤y j)
def qk (d y:Nat→Int) (j:Nat):Bool:=decide (d j<y j)
def rU (h:Int) (g:Nat→Nat) (j:Nat):Bool:=decide (h<(g j:Int))
section
variable (n l k:Nat) (t d z:Nat→Int) (h:Int) (m:Nat) (f:Nat→Nat→Int) (g:Nat→Nat) (H:aa)
theorem QJ (q:Nat) (y:Nat→Int):cd (n+1) (.fn 68) [cA q y false,.ptr 2 1 0 0] (aw::aw::fa l t k d z h::H)=some (.bool (decide (h<(q:Int))),aw::aw::fa l t k d z h::H):=by
 refine aC (n:=n) Try.func68 rfl rfl rfl (T2 n l k t d z h H q y) (ar n) (af _ _) (ag _ _) ?_
 rw[dg]
 exact Tr.ba ⟨rfl,rfl⟩
theorem Ry (hm:m≤1000):cd (n+2) (.fn 93) [dK m f g,f68 1] (aw::fa l t k d z h::H)=some (.int .i64 (A0 (rU h g) m),aw::fa l t k d z h::H):=by
 have hx:=iG (n:=n+1) (f:=93) (nt:=19) (c:=part Try.f93 [1,0,1,0,0]) 0 (fun j=>DD m f g (j:Nat)) (fun _=>aw::aw::fa l t k d z h::H) m (rU h g) (fun j=>([(4,.int .i64 (j:Nat))],aw::aw::fa l t k d z h::H)) (DD m f g (Int.ofNat m)++[(9,.bool false)],aw::aw::fa l t k d z h::H) (by omega) (fun j hj=>?_) ?_
 · refine aC (n:=n+1) Try.func93 rfl rfl rfl (Uf (n+1) l k t d z h m f g (bV (rU h g) m) (fN (rU h g) m 0) H) (ar _) (aF (af _ _) QZ (fun x hy=>dz hy hx)) (ag _ _) ?_
   refine Tr.bf ⟨rfl,rfl⟩ (Tr.bh (fun hc=>Tr.ba ⟨?_,rfl⟩) (fun hc=>Tr.ba ⟨?_,rfl⟩))
   · unfold A0;rw[if_pos hc];rfl
   · unfold A0;rw[if_neg (by rw[hc];decide)];rfl
 · refine aH (t93 (n+1) l k t d z h m f g (j:Nat) (decide (h<(g (au 0 ((j:Nat):Int) 1):Int))) H) (aQ _ (n+1) (fG (aB _) (fun x hy=>by rw[← Tr.ab hy];exact QJ n l k t d z h H _ _))) (af _ _) (ag _ _) ?_
   show Tr.all _ (fun r=>if rU h g j=true then _ else _∧tidy _ _ _=(DD m f g ((j+1:Nat):Int),aw::aw::fa l t k d z h::H))
   rw[db (j:=j) (by omega)]
   simp only[jB]
   have eb:decide (h<(g j:Int))=rU h g j:=rfl
   rw[eb]
   cases rU h g j with
   | true =>
     simp only[if_true]
     exact wF
   | false =>
     simp only[Bool.false_eq_true,if_false]
     exact wF
 · exact dc (t93 (n+1) l k t d z h m f g (Int.ofNat m) (decide (h<(g (au 0 (Int.ofNat m) 1):Int))) H) (aQ _ (n+1) (fG (aB _) (fun x hy=>by rw[← Tr.ab hy];exact QJ n l k t d z h H _ _))) (af _ _) (ag _ _) (by first | (simp (disch:=omega) only[nV,nW];done) | (simp (disch:=omega) only[nV,nW];omega))
theorem Rj (hm:m≤1000):cd (n+3) (.fn 67) [dK m f g,f68 0] (fa l t k d z h::H)=some (.bool (bV (rU h g) m),fa l t k d z h::H):=by
 refine aC (n:=n+2) Try.func67 rfl rfl rfl (T0 (n+2) l k t d z h m f g (A0 (rU h g) m) H) (aQ _ (n+2) (fG (aB _) (fun x hy=>by rw[← Tr.ab hy];exact Ry n l k t d z h m f g H hm))) (af _ _) (ag _ _) ?_
 refine Tr.bf ⟨rfl,rfl⟩ (Tr.ba ⟨?_,rfl⟩)
 rw[Fy]
theorem Te (y:Nat→Int) (hl:l≤30) (hk:k=l) (ht:∀ j,j<l→t j<l):exec (bp n 29 68) (.block 0 (.loop (part Try.f29 [1,1,1,1,1,1,0,1,0,0]))) (yu l t false ((0:Nat):Int)) (fa l t k d y h::H)=some (cond (bV (pM t y) l) (.ret,[(6,.int .i64 16)],fa l t k d y h::H) (.normal,yu l t (bV (qk d y) l) (Int.ofNat l)++[(39,.bool false)],fa l t k d y h::H)):=by
 have hx:=iG (n:=n) (f:=29) (nt:=68) (c:=part Try.f29 [1,1,1,1,1,1,0,1,0,0]) 0 (fun j=>yu l t (bV (qk d y) j) (j:Nat)) (fun j=>fa l t k d y h::H) l (pM t y) (fun j=>([(6,.int .i64 16)],fa l t k d y h::H)) (yu l t (bV (qk d y) l) (Int.ofNat l)++[(39,.bool false)],fa l t k d y h::H) (by omega) (fun j hj=>?_) ?_
 · rw[Fb] at hx;exact hx
 · refine aH (t29 n l k t d y h (bV (qk d y) j) (j:Nat) H) (ar n) (af _ _) (ag _ _) ?_
   show Tr.all _ (fun r=>if pM t y j=true then _ else _∧tidy _ _ _=(yu l t (bV (qk d y) (j+1)) ((j+1:Nat):Int),fa l t k d y h::H))
   rw[db (j:=j) (by omega),Hd]
   have htj:=ht j hj
   simp only[jB]
   have e2:bQ (d j) (y j)=qk d y j:=by rw[dg];rfl
   rw[e2]
   generalize qk d y j=L at *
   generalize bV (qk d y) j=B at *
   subst hk
   by_cases c0:0≤t j
   · obtain ⟨q,hq⟩:∃ q:Nat,t j=q:=⟨(t j).toNat,by omega⟩
     have er:pM t y j=decide (y q≤y j):=by unfold pM;rw[decide_eq_true c0,hq];rfl
     rw[er,hq]
     rw[hq] at htj
     simp only[jB]
     by_cases c1:y q≤y j
     · rw[decide_eq_true c1]
       simp only[if_true]
       cases B<;>cases L
       all_goals
        exact wF
     · rw[decide_eq_false c1]
       simp only[Bool.false_eq_true,if_false]
       cases B<;>cases L
       all_goals
        exact wF
   · have er:pM t y j=false:=by unfold pM;rw[decide_eq_false c0];rfl
     rw[er]
     simp only[Bool.false_eq_true,if_false]
     cases B<;>cases L
     all_goals
      exact wF
 · exact dc (t29 n l k t d y h (bV (qk d y) l) (Int.ofNat l) H) (ar n) (af _ _) (ag _ _) (by first | (simp (disch:=omega) only[nV,nW];done) | (simp (disch:=omega) only[nV,nW];omega))
noncomputable def rL (l k:Nat) (t d:Nat→Int) (h:Int) (m:Nat) (f:Nat→Nat→Int) (g:Nat→Nat):Int:=if cX l t k d h≠0 then cX l t k d h else if nn l m f g≠0 then nn l m f g else if bV (rU h g) m=true then 4 else if bV (pM t (cJ f g m)) l=true then 16 else if bV (qk d (cJ f g m)) l=true then 12 else 0
theorem ES (z:Nat→Int) {c:Nat} (hc:c<30):fF z c=z c:=by
 unfold fF
 rw[rK]
 show (if 0≤c∧c<0+30 then z (c-0) else _)=_
 rw[if_pos (by omega),Nat.sub_zero]
theorem I6 {t z:Nat→Int} {l:Nat} (hl:l≤30) (ht:∀ j,j<l→t j<l):bV (pM t (fF z)) l=bV (pM t z) l:=j6 (fun j hj=>by
 have:=ht j hj
 unfold pM
 rw[ES z (c:=j) (by omega)]
 by_cases c:0≤t j
 · rw[ES z (c:=(t j).toNat) (by omega)]
 · rw[decide_eq_false c];rfl)
theorem IZ {d z:Nat→Int} {l:Nat} (hl:l≤30):bV (qk d (fF z)) l=bV (qk d z) l:=j6 (fun j hj=>by
 unfold qk
 rw[ES z (c:=j) (by omega)])
theorem Q6 (hm:m≤50) (hg:∀ i,i<m→g i≤40):cd (n+11) (.fn 29) [bR l t k d,.int .i64 h,dK m f g] H=some (.int .i64 (rL l k t d h m f g),H):=by
 by_cases ea:cX l t k d h=0
 · obtain ⟨hs,h1,h2⟩:=kI ea
   have h66:∀ H,cd (n+10) (.fn 66) [bR l t k d,.int .i64 h] H=some (.tup [eA 0 l t k d (cT t l),.int .i64 0],H):=fun H=>Ny n l k t d H h ea
   have h60:∀ H,cd (n+10) (.fn 60) [bR l t k d,dK m f g] H=some (Ej l m f g,H):=fun H=>Rg (n+4) l k t d m f g H hs.l1 hs.l30 hm hg
   by_cases et:nn l m f g=0
   · have e60:Ej l m f g=.tup [.agg (.M [.arr .i64 (fF (cJ f g m)) 30]),.int .i64 0]:=by unfold Ej;rw[if_pos et]
     rw[e60] at h60
     have h67:=Rj (n+7) l k t d (fF (fF (cJ f g m))) h m f g H (by omega)
     have hx:=Te (n+10) l k t d h H (fF (fF (cJ f g m))) hs.l30 hs.kl (fun j hj=>hs.tl j hj)
     have ec:rL l k t d h m f g=if bV (rU h g) m=true then 4 else if bV (pM t (fF (fF (cJ f g m)))) l=true then 16 else if bV (qk d (fF (fF (cJ f g m)))) l=true then 12 else 0:=by
      unfold rL
      rw[if_neg (by rw[ea];decide),if_neg (by rw[et];decide),I6 hs.l30 (fun j hj=>hs.tl j hj),I6 hs.l30 (fun j hj=>hs.tl j hj),IZ hs.l30,IZ hs.l30]
     rw[ec]
     refine aC (n:=n+10) Try.func29 rfl rfl rfl (TJ (n+10) l k t d (fF (cJ f g m)) (fF (fF (cJ f g m))) (cT t l) h m f g (bV (rU h g) m) (bV (qk d (fF (fF (cJ f g m)))) l) (bV (pM t (fF (fF (cJ f g m)))) l) H) (aQ _ (n+10) (fG (bo (bo (aB _) h66) h60) (fun x hy=>by rw[← Tr.ab hy];exact h67))) (aF (af _ _) NN (fun x hy=>dz hy hx)) (ag _ _) ?_
     clear hx h67 ec
     generalize bV (rU h g) m=A at *
     generalize bV (pM t (fF (fF (cJ f g m)))) l=B at *
     generalize bV (qk d (fF (fF (cJ f g m)))) l=C at *
     cases A<;>cases B<;>cases C
     all_goals
      simp only[Bool.false_eq_true,if_false,if_true]
      exact wF
   · have e60:Ej l m f g=.tup [.agg (.M [.arr .i64 (fF (fun _=>Int.ofNat 0)) 30]),.int .i64 (nn l m f g)]:=by unfold Ej;rw[if_neg et]
     rw[e60] at h60
     have ec:rL l k t d h m f g=nn l m f g:=by
      unfold rL
      rw[if_neg (by rw[ea];decide),if_pos et]
     rw[ec]
     refine aC (n:=n+10) Try.func29 rfl rfl rfl (PZ (n+10) l k t d (fF (fun _=>Int.ofNat 0)) (fun _=>0) (cT t l) h m f g (nn l m f g) H) (aQ _ (n+10) (bo (bo (aB _) h66) h60)) (aF (af _ _) NN (fun x hx=>(Tr.ae hx).elim)) (ag _ _) ?_
     generalize nn l m f g=E at *
     exact wF
 · have ec:rL l k t d h m f g=cX l t k d h:=by
    unfold rL
    rw[if_pos ea]
   have h66:∀ H,cd (n+10) (.fn 66) [bR l t k d,.int .i64 h] H=some (.tup [.nilp,.int .i64 (cX l t k d h)],H):=fun H=>G1 n l k t d H h ea
   rw[ec]
   generalize cX l t k d h=E at *
   refine aC (n:=n+10) Try.func29 rfl rfl rfl (PY (n+10) l k t d h m f g E H) (aQ _ (n+10) (bo (aB _) h66)) (aF (af _ _) NN (fun x hx=>(Tr.ae hx).elim)) (ag _ _) ?_
   exact wF
end
end Go.Eng
end
section
namespace Go.Eng
open Go.Proofs
noncomputable def gd (l:Nat) (t:Nat→Int) (k:Nat) (d:Nat→Int):aV:=⟨false,[II l t k d]⟩
noncomputable def sI (l:Nat) (z:Nat→Int) (h:Int) (m:Nat) (f:Nat→Nat→Int) (g:Nat→Nat) (j:Int):ao:=[(1,.int .i64 h),(2,dK m f g),(3,.ptr 0 0 0 0),(7,cA l z true),(9,.int .i64 j)]
noncomputable def sJ (l:Nat) (z:Nat→Int) (j:Int):ao:=[(3,.ptr 0 0 0 0),(7,cA l z true),(10,.int .i64 j)]
noncomputable def sK (l:Nat) (z:Nat→Int) (j:Int):ao:=[(3,.ptr 0 0 0 0),(7,cA l z true),(11,.int .i64 j)]
theorem ML (n l k:Nat) (t d z:Nat→Int) (h:Int) (m:Nat) (f:Nat→Nat→Int) (g:Nat→Nat) (j:Int) (H:aa):aM (bp n 30 84) (il aD n 0) aK aL (part Try.f30 [1,1,1,1,0,1,0,0]) (hints (sI l z h m f g j)) (gd l t k d::H) =
 (fun (Z0:aV)=>((fun (Z1:Nat×AV×Option Nat)=>Tr.ite (bQ j (Int.ofNat m)) (Tr.req (cN j m) (Tr.req (cw (au 0 j 1) m) (Tr.ite (bQ h (Int.ofNat (g (au 0 j 1)))) (Tr.ok (Ex.ret,[(6,AV.int .i64 (Int.ofNat 4),some 1)],Z0::H)) (Tr.ok (Ex.normal,[(1,AV.int .i64 h,none),Z1,(3,AV.ptr 0 0 0 0,none),(7,AV.slcT none (Row.M [ah.arr .i64 z l]) 1 l true,none),(9,AV.int .i64 (bG .i64 j (Int.ofNat 1)),none)],Z0::H))))) (Tr.ok (Ex.exit 0,[(1,AV.int .i64 h,none),Z1,(3,AV.ptr 0 0 0 0,none),(7,AV.slcT none (Row.M [ah.arr .i64 z l]) 1 l true,none),(9,AV.int .i64 j,none),(31,AV.bool false,some 1)],Z0::H))) (2,AV.slcT none (Row.F (fun j=>AV.slcT none (Row.M [ah.arr .i64 (f j) (g j)]) 1 (g j) false) m) 1 m false,none))) { lock:=false,bs:=[(0,aj.row (Row.G [AV.slcT none (Row.M [ah.arr .i64 t l]) 1 l false,AV.slcT none (Row.M [ah.arr .i64 d k]) 1 k false]))] }:=by kernel_rfl
theorem MM (n l k:Nat) (t d z:Nat→Int) (j:Int) (H:aa):aM (bp n 30 84) (il aD n 0) aK aL (part Try.f30 [1,1,1,1,1,0,1,0,0]) (hints (sJ l z j)) (gd l t k d::H) =
 (fun (Z0:aV)=>((fun (Z1:aN)=>Tr.ite (bQ j (Int.ofNat l)) (Tr.req (cN j l) (Tr.req (cw (au 0 j 1) l) (Tr.ite (lM (Int.ofNat 0) (t (au 0 j 1))) (Tr.req (cN j l) (Tr.req (cw (au 0 j 1) l) (Tr.req (cN j l) (Tr.req (cw (au 0 j 1) l) (Tr.req (cN (t (au 0 j 1)) l) (Tr.req (cw (au 0 (t (au 0 j 1)) 1) l) (Tr.ite (lM (z (au 0 (t (au 0 j 1)) 1)) (z (au 0 j 1))) (Tr.ok (Ex.ret,[(6,AV.int .i64 (Int.ofNat 16),some 1)],Z0::H)) (Tr.ok (Ex.normal,Z1,Z0::H))))))))) (Tr.ok (Ex.normal,Z1,Z0::H))))) (Tr.ok (Ex.exit 2,[(3,AV.ptr 0 0 0 0,none),(7,AV.slcT none (Row.M [ah.arr .i64 z l]) 1 l true,none),(10,AV.int .i64 j,none),(44,AV.bool false,some 1)],Z0::H))) [(3,AV.ptr 0 0 0 0,none),(7,AV.slcT none (Row.M [ah.arr .i64 z l]) 1 l true,none),(10,AV.int .i64 (bG .i64 j (Int.ofNat 1)),none)])) { lock:=false,bs:=[(0,aj.row (Row.G [AV.slcT none (Row.M [ah.arr .i64 t l]) 1 l false,AV.slcT none (Row.M [ah.arr .i64 d k]) 1 k false]))] }:=by kernel_rfl
theorem MN (n l k:Nat) (t d z:Nat→Int) (j:Int) (H:aa):aM (bp n 30 84) (il aD n 0) aK aL (part Try.f30 [1,1,1,1,1,1,0,1,0,0]) (hints (sK l z j)) (gd l t k d::H) =
 (fun (Z0:aV)=>Tr.ite (bQ j (Int.ofNat l)) (Tr.req (cN j l) (Tr.req (cw (au 0 j 1) l) (Tr.req (cN j k) (Tr.req (cw (au 0 j 1) k) (Tr.ite (bQ (d (au 0 j 1)) (z (au 0 j 1))) (Tr.ok (Ex.ret,[(6,AV.int .i64 (Int.ofNat 12),some 1)],Z0::H)) (Tr.ok (Ex.normal,[(3,AV.ptr 0 0 0 0,none),(7,AV.slcT none (Row.M [ah.arr .i64 z l]) 1 l true,none),(11,AV.int .i64 (bG .i64 j (Int.ofNat 1)),none)],Z0::H))))))) (Tr.ok (Ex.exit 4,[(3,AV.ptr 0 0 0 0,none),(7,AV.slcT none (Row.M [ah.arr .i64 z l]) 1 l true,none),(11,AV.int .i64 j,none),(71,AV.bool false,some 1)],Z0::H))) { lock:=false,bs:=[(0,aj.row (Row.G [AV.slcT none (Row.M [ah.arr .i64 t l]) 1 l false,AV.slcT none (Row.M [ah.arr .i64 d k]) 1 k false]))] }:=by kernel_rfl
theorem TK (n l k:Nat) (t d z:Nat→Int) (h:Int) (m:Nat) (f:Nat→Nat→Int) (g:Nat→Nat) (b0 b2 b4:Bool) (H:aa):aX Try.prog (cd n) 100000 30 Try.f30 (KtL.kt 30) (il (tX (tX aD 64 [bR l t k d,.int .i64 h] (.int .i64 0)) 47 [bR l t k d,dK m f g] (.tup [cA l z true,.int .i64 0])) n 0) (bX (bX (bX aK 4 (sK l z 0) (gd l t k d::H) (.ite b4 (.ok (.ret,hints [(6,.int .i64 12)],gd l t k d::H)) (.ok (.normal,hints (sK l z (Int.ofNat l)++[(71,.bool false)]),gd l t k d::H)))) 2 (sJ l z 0) (gd l t k d::H) (.ite b2 (.ok (.ret,hints [(6,.int .i64 16)],gd l t k d::H)) (.ok (.normal,hints (sJ l z (Int.ofNat l)++[(44,.bool false)]),gd l t k d::H)))) 0 (sI l z h m f g 0) (gd l t k d::H) (.ite b0 (.ok (.ret,hints [(6,.int .i64 4)],gd l t k d::H)) (.ok (.normal,hints (sI l z h m f g (Int.ofNat m)++[(31,.bool false)]),gd l t k d::H)))) aL [(bR l t k d,none),(.int .i64 h,none),(dK m f g,none)] H =
 (fun (Z0:Row)=>((fun (Z1:Nat×AV)=>((fun (Z2:Row)=>((fun (Z3:aV)=>((fun (Z4:ao)=>Tr.reqP ([AV.agg Z0,AV.int .i64 h]=[AV.agg Z0,AV.int .i64 h]) (Tr.ite (aY (cI (Int.ofNat 0) (Int.ofNat 0))) (Tr.reqP ([AV.agg Z0,AV.int .i64 h]=[AV.agg Z0,AV.int .i64 h]) (Tr.ok ((AV.int .i64 (Int.ofNat 0),none),H))) (Tr.reqP ([AV.agg Z0,AV.slcT none Z2 1 m false]=[AV.agg Z0,AV.slcT none Z2 1 m false]) (Tr.ite (aY (cI (Int.ofNat 0) (Int.ofNat 0))) (Tr.ok ((AV.int .i64 (Int.ofNat 0),none),H)) (Tr.reqP (Z4=Z4∧Z3::H=Z3::H) (Tr.ite b0 (Tr.ok ((AV.int .i64 (Int.ofNat 4),none),H)) (Tr.reqP ([(3,AV.ptr 0 0 0 0),Z1,(10,AV.int .i64 (Int.ofNat 0))]=[(3,AV.ptr 0 0 0 0),Z1,(10,AV.int .i64 (Int.ofNat 0))]∧Z3::H=Z3::H) (Tr.ite b2 (Tr.ok ((AV.int .i64 (Int.ofNat 16),none),H)) (Tr.reqP ([(3,AV.ptr 0 0 0 0),Z1,(11,AV.int .i64 (Int.ofNat 0))]=[(3,AV.ptr 0 0 0 0),Z1,(11,AV.int .i64 (Int.ofNat 0))]∧Z3::H=Z3::H) (Tr.ite b4 (Tr.ok ((AV.int .i64 (Int.ofNat 12),none),H)) (Tr.ok ((AV.int .i64 (Int.ofNat 0),some 1),H)))))))))))) [(1,AV.int .i64 h),(2,AV.slcT none Z2 1 m false),(3,AV.ptr 0 0 0 0),Z1,(9,AV.int .i64 (Int.ofNat 0))])) { lock:=false,bs:=[(0,aj.row Z0)] })) (Row.F (fun j=>AV.slcT none (Row.M [ah.arr .i64 (f j) (g j)]) 1 (g j) false) m))) (7,AV.slcT none (Row.M [ah.arr .i64 z l]) 1 l true))) (Row.G [AV.slcT none (Row.M [ah.arr .i64 t l]) 1 l false,AV.slcT none (Row.M [ah.arr .i64 d k]) 1 k false]):=by kernel_rfl
theorem P1 (n l k:Nat) (t d:Nat→Int) (h:Int) (m:Nat) (f:Nat→Nat→Int) (g:Nat→Nat) (c:Int) (H:aa):aX Try.prog (cd n) 100000 30 Try.f30 (KtL.kt 30) (il (tX (tX aD 64 [bR l t k d,.int .i64 h] (.int .i64 0)) 47 [bR l t k d,dK m f g] (.tup [.nils,.int .i64 c])) n 0) (bX aK 0 [] [] .bad) aL [(bR l t k d,none),(.int .i64 h,none),(dK m f g,none)] H =
 (fun (Z0:Row)=>((fun (Z1:Row)=>Tr.reqP ([AV.agg Z0,AV.int .i64 h]=[AV.agg Z0,AV.int .i64 h]) (Tr.ite (aY (cI (Int.ofNat 0) (Int.ofNat 0))) (Tr.reqP ([AV.agg Z0,AV.int .i64 h]=[AV.agg Z0,AV.int .i64 h]) (Tr.ok ((AV.int .i64 (Int.ofNat 0),none),H))) (Tr.reqP ([AV.agg Z0,AV.slcT none Z1 1 m false]=[AV.agg Z0,AV.slcT none Z1 1 m false]) (Tr.ite (aY (cI c (Int.ofNat 0))) (Tr.ok ((AV.int .i64 c,none),H)) (Tr.reqP ([(1,AV.int .i64 h),(2,AV.slcT none Z1 1 m false),(3,AV.ptr 0 0 0 0),(7,AV.nils),(9,AV.int .i64 (Int.ofNat 0))]=[]∧{ lock:=false,bs:=[(0,aj.row Z0)] } :: H=[]) Tr.bad))))) (Row.F (fun j=>AV.slcT none (Row.M [ah.arr .i64 (f j) (g j)]) 1 (g j) false) m))) (Row.G [AV.slcT none (Row.M [ah.arr .i64 t l]) 1 l false,AV.slcT none (Row.M [ah.arr .i64 d k]) 1 k false]):=by kernel_rfl
theorem P0 (n l k:Nat) (t d:Nat→Int) (h:Int) (m:Nat) (f:Nat→Nat→Int) (g:Nat→Nat) (c:Int) (H:aa):aX Try.prog (cd n) 100000 30 Try.f30 (KtL.kt 30) (il (tX aD 64 [bR l t k d,.int .i64 h] (.int .i64 c)) n 0) (bX aK 0 [] [] .bad) aL [(bR l t k d,none),(.int .i64 h,none),(dK m f g,none)] H =
 (fun (Z0:List AV)=>Tr.reqP (Z0=Z0) (Tr.ite (aY (cI c (Int.ofNat 0))) (Tr.reqP (Z0=Z0) (Tr.ok ((AV.int .i64 c,none),H))) Tr.bad)) [AV.agg (Row.G [AV.slcT none (Row.M [ah.arr .i64 t l]) 1 l false,AV.slcT none (Row.M [ah.arr .i64 d k]) 1 k false]),AV.int .i64 h]:=by kernel_rfl
theorem JB:∀ b,(0,b) ∈ aJ (bn Try.f30)→b=.loop (part Try.f30 [1,1,1,1,0,1,0,0]):=eJ (by kernel_rfl)
theorem NO:∀ b,(2,b) ∈ aJ (bn Try.f30)→b=.loop (part Try.f30 [1,1,1,1,1,0,1,0,0]):=eJ (by kernel_rfl)
theorem NP:∀ b,(4,b) ∈ aJ (bn Try.f30)→b=.loop (part Try.f30 [1,1,1,1,1,1,0,1,0,0]):=eJ (by kernel_rfl)
section
variable (n l k:Nat) (t d z:Nat→Int) (h:Int) (m:Nat) (f:Nat→Nat→Int) (g:Nat→Nat) (H:aa)
theorem OQ (hm:m≤1000):exec (bp n 30 84) (.block 0 (.loop (part Try.f30 [1,1,1,1,0,1,0,0]))) (sI l z h m f g ((0:Nat):Int)) (gd l t k d::H)=some (cond (bV (rU h g) m) (.ret,[(6,.int .i64 4)],gd l t k d::H) (.normal,sI l z h m f g (Int.ofNat m)++[(31,.bool false)],gd l t k d::H)):=by
 refine iG (n:=n) (f:=30) (nt:=84) (c:=part Try.f30 [1,1,1,1,0,1,0,0]) 0 (fun j=>sI l z h m f g (j:Nat)) (fun j=>gd l t k d::H) m (rU h g) (fun j=>([(6,.int .i64 4)],gd l t k d::H)) _ (by omega) (fun j hj=>?_) ?_
 · refine aH (ML n l k t d z h m f g (j:Nat) H) (ar n) (af _ _) (ag _ _) ?_
   show Tr.all _ (fun r=>if rU h g j=true then _ else _∧tidy _ _ _=(sI l z h m f g ((j+1:Nat):Int),gd l t k d::H))
   rw[db (j:=j) (by omega)]
   simp only[jB]
   have eb:bQ h (Int.ofNat (g j))=rU h g j:=by rw[dg];rfl
   rw[eb]
   cases rU h g j with
   | true =>
     simp only[if_true]
     exact wF
   | false =>
     simp only[Bool.false_eq_true,if_false]
     exact wF
 · exact dc (ML n l k t d z h m f g (Int.ofNat m) H) (ar n) (af _ _) (ag _ _) (by first | (simp (disch:=omega) only[nV,nW];done) | (simp (disch:=omega) only[nV,nW];omega))
theorem OR (hl:l≤30) (ht:∀ j,j<l→t j<l):exec (bp n 30 84) (.block 2 (.loop (part Try.f30 [1,1,1,1,1,0,1,0,0]))) (sJ l z ((0:Nat):Int)) (gd l t k d::H)=some (cond (bV (pM t z) l) (.ret,[(6,.int .i64 16)],gd l t k d::H) (.normal,sJ l z (Int.ofNat l)++[(44,.bool false)],gd l t k d::H)):=by
 refine iG (n:=n) (f:=30) (nt:=84) (c:=part Try.f30 [1,1,1,1,1,0,1,0,0]) 2 (fun j=>sJ l z (j:Nat)) (fun j=>gd l t k d::H) l (pM t z) (fun j=>([(6,.int .i64 16)],gd l t k d::H)) _ (by omega) (fun j hj=>?_) ?_
 · refine aH (MM n l k t d z (j:Nat) H) (ar n) (af _ _) (ag _ _) ?_
   show Tr.all _ (fun r=>if pM t z j=true then _ else _∧tidy _ _ _=(sJ l z ((j+1:Nat):Int),gd l t k d::H))
   rw[db (j:=j) (by omega)]
   simp only[jB]
   have htj:=ht j hj
   by_cases c0:0≤t j
   · obtain ⟨q,hq⟩:∃ q:Nat,t j=q:=⟨(t j).toNat,by omega⟩
     have er:pM t z j=decide (z q≤z j):=by unfold pM;rw[decide_eq_true c0,hq];rfl
     rw[er,hq]
     rw[hq] at htj
     simp only[jB]
     by_cases c1:z q≤z j
     · rw[decide_eq_true c1]
       simp only[if_true]
       exact wF
     · rw[decide_eq_false c1]
       simp only[Bool.false_eq_true,if_false]
       exact wF
   · have er:pM t z j=false:=by unfold pM;rw[decide_eq_false c0];rfl
     rw[er]
     simp only[Bool.false_eq_true,if_false]
     exact wF
 · exact dc (MM n l k t d z (Int.ofNat l) H) (ar n) (af _ _) (ag _ _) (by first | (simp (disch:=omega) only[nV,nW];done) | (simp (disch:=omega) only[nV,nW];omega))
theorem OS (hl:l≤30) (hk:k=l):exec (bp n 30 84) (.block 4 (.loop (part Try.f30 [1,1,1,1,1,1,0,1,0,0]))) (sK l z ((0:Nat):Int)) (gd l t k d::H)=some (cond (bV (qk d z) l) (.ret,[(6,.int .i64 12)],gd l t k d::H) (.normal,sK l z (Int.ofNat l)++[(71,.bool false)],gd l t k d::H)):=by
 subst hk
 refine iG (n:=n) (f:=30) (nt:=84) (c:=part Try.f30 [1,1,1,1,1,1,0,1,0,0]) 4 (fun j=>sK k z (j:Nat)) (fun j=>gd k t k d::H) k (qk d z) (fun j=>([(6,.int .i64 12)],gd k t k d::H)) _ (by omega) (fun j hj=>?_) ?_
 · refine aH (MN n k k t d z (j:Nat) H) (ar n) (af _ _) (ag _ _) ?_
   show Tr.all _ (fun r=>if qk d z j=true then _ else _∧tidy _ _ _=(sK k z ((j+1:Nat):Int),gd k t k d::H))
   rw[db (j:=j) (by omega)]
   simp only[jB]
   have e2:bQ (d j) (z j)=qk d z j:=by rw[dg];rfl
   rw[e2]
   cases qk d z j with
   | true =>
     simp only[if_true]
     exact wF
   | false =>
     simp only[Bool.false_eq_true,if_false]
     exact wF
 · exact dc (MN n k k t d z (Int.ofNat k) H) (ar n) (af _ _) (ag _ _) (by first | (simp (disch:=omega) only[nV,nW];done) | (simp (disch:=omega) only[nV,nW];omega))
theorem Q7 (hm:m≤50) (hg:∀ i,i<m→g i≤40):cd (n+4) (.fn 30) [bR l t k d,.int .i64 h,dK m f g] H=some (.int .i64 (rL l k t d h m f g),H):=by
 by_cases ea:cX l t k d h=0
 · obtain ⟨hs,h1,h2⟩:=kI ea
   have h64:∀ H,cd (n+3) (.fn 64) [bR l t k d,.int .i64 h] H=some (.int .i64 0,H):=fun H=>by rw[Lo,ea]
   have h47:∀ H,cd (n+3) (.fn 47) [bR l t k d,dK m f g] H=some (Nl l m f g,H):=fun H=>Rc (n+1) l k t d m f g H (by have:=hs.l30;omega) (fun i hi=>by have:=hg i hi;omega)
   by_cases et:nn l m f g=0
   · rw[Gv,if_pos et] at h47
     have hxa:=OQ (n+3) l k t d (cJ f g m) h m f g H (by omega)
     have hxb:=OR (n+3) l k t d (cJ f g m) H hs.l30 hs.tl
     have hxc:=OS (n+3) l k t d (cJ f g m) H hs.l30 hs.kl
     have ec:rL l k t d h m f g=if bV (rU h g) m=true then 4 else if bV (pM t (cJ f g m)) l=true then 16 else if bV (qk d (cJ f g m)) l=true then 12 else 0:=by
      unfold rL
      rw[if_neg (by rw[ea];decide),if_neg (by rw[et];decide)]
     rw[ec]
     refine aC (n:=n+3) Try.func30 rfl rfl rfl (TK (n+3) l k t d (cJ f g m) h m f g (bV (rU h g) m) (bV (pM t (cJ f g m)) l) (bV (qk d (cJ f g m)) l) H) (aQ _ (n+3) (bo (bo (aB _) h64) h47)) (aF (aF (aF (af _ _) NP (fun x hy=>dz hy hxc)) NO (fun x hy=>dz hy hxb)) JB (fun x hy=>dz hy hxa)) (ag _ _) ?_
     clear hxa hxb hxc ec
     generalize bV (rU h g) m=A at *
     generalize bV (pM t (cJ f g m)) l=B at *
     generalize bV (qk d (cJ f g m)) l=C at *
     cases A<;>cases B<;>cases C
     all_goals
      simp only[Bool.false_eq_true,if_false,if_true]
      exact wF
   · rw[Gv,if_neg et] at h47
     have ec:rL l k t d h m f g=nn l m f g:=by
      unfold rL
      rw[if_neg (by rw[ea];decide),if_pos et]
     rw[ec]
     refine aC (n:=n+3) Try.func30 rfl rfl rfl (P1 (n+3) l k t d h m f g (nn l m f g) H) (aQ _ (n+3) (bo (bo (aB _) h64) h47)) (aF (af _ _) JB (fun x hx=>(Tr.ae hx).elim)) (ag _ _) ?_
     generalize nn l m f g=E at *
     exact wF
 · have ec:rL l k t d h m f g=cX l t k d h:=by
    unfold rL
    rw[if_pos ea]
   have h64:∀ H,cd (n+3) (.fn 64) [bR l t k d,.int .i64 h] H=some (.int .i64 (cX l t k d h),H):=fun H=>Lo n l k t d H h
   rw[ec]
   generalize cX l t k d h=E at *
   refine aC (n:=n+3) Try.func30 rfl rfl rfl (P0 (n+3) l k t d h m f g E H) (aQ _ (n+3) (bo (aB _) h64)) (aF (af _ _) JB (fun x hx=>(Tr.ae hx).elim)) (ag _ _) ?_
   exact wF
end
end Go.Eng
end
section
namespace Go.Eng
open Go.Proofs
section
variable (n l k:Nat) (t d:Nat→Int) (m:Nat) (f:Nat→Nat→Int) (g:Nat→Nat) (H:aa)
end
end Go.Eng
end
section
namespace Go.Eng
theorem sU:∀ (j:Nat) (z:Nat→Int) (i:Nat),j<i→lS z j i=z i
 | 0,_,_,_=>rfl
 | j + 1,z,i,h=>by
   unfold lS
   split
   · rw[sU j _ i (by omega)]
     unfold CP
     rw[hJ]
     simp only[]
     rw[if_neg (by omega),if_neg (by omega)]
   · rfl
theorem z4:∀ (k:Nat) (z:Nat→Int) (i:Nat),k<i→iF z k i=z i
 | 0,_,_,_=>rfl
 | k+1,z,i,h=>by
   unfold iF
   rw[sU (k+1) _ i h,z4 k z i (by omega)]
theorem B9:∀ (j:Nat) (z:Nat→Int),(∀ a b,a<b→b<j→z a<z b)→(∀ a,a<j→z a≠z j) →
 (∀ a b,a<b→b≤j→lS z j a<lS z j b)∧(∀ x,(∃ i,i≤j∧lS z j i=x)↔∃ i,i≤j∧z i=x)
 | 0,z,_,_=>⟨fun a b h1 h2=>by omega,fun x=>Iff.rfl⟩
 | j + 1,z,  h1,h2=>by
   unfold lS
   by_cases hc:z (j+1)<z j
   · rw[if_pos hc]
     have s1:CP z (j+1) (j+1)=z j:=by unfold CP;simp[hJ]
     have s2:CP z (j+1) j=z (j+1):=by unfold CP;simp[hJ]
     have s3:∀ a,a≠j→a≠j+1→CP z (j+1) a=z a:=fun a q1 q2=>by unfold CP;simp[hJ,q1,q2]
     generalize CP z (j+1)=z' at *
     obtain ⟨i1,i2⟩:=B9 j z' (fun a b q1 q2=>by rw[s3 a (by omega) (by omega),s3 b (by omega) (by omega)];exact h1 a b q1 (by omega)) (fun a q=>by rw[s3 a (by omega) (by omega),s2];exact h2 a (by omega))
     have o:=sU j z' (j+1) (by omega)
     rw[s1] at o
     refine ⟨fun a b q1 q2=>?_,fun x=>?_⟩
     · by_cases e:b=j+1
       · subst e
         rw[o]
         obtain ⟨i,q3,q4⟩:=(i2 (lS z' j a)).1 ⟨a,by omega,rfl⟩
         rw[← q4]
         by_cases e2:i=j
         · subst e2;rw[s2];exact hc
         · rw[s3 i e2 (by omega)];exact h1 i j (by omega) (by omega)
       · exact i1 a b q1 (by omega)
     · constructor
       · rintro ⟨i,q1,q2⟩
         by_cases e:i=j+1
         · subst e;rw[o] at q2;exact ⟨j,by omega,q2⟩
         · obtain ⟨k,q3,q4⟩:=(i2 x).1 ⟨i,by omega,q2⟩
           by_cases e2:k=j
           · subst e2;rw[s2] at q4;exact ⟨k+1,by omega,q4⟩
           · rw[s3 k e2 (by omega)] at q4;exact ⟨k,by omega,q4⟩
       · rintro ⟨i,q1,q2⟩
         by_cases e:i=j
         · subst e;exact ⟨i+1,by omega,by rw[o];exact q2⟩
         · by_cases e2:i=j+1
           · subst e2
             obtain ⟨k,q3,q4⟩:=(i2 x).2 ⟨j,by omega,by rw[s2];exact q2⟩
             exact ⟨k,by omega,q4⟩
           · obtain ⟨k,q3,q4⟩:=(i2 x).2 ⟨i,by omega,by rw[s3 i e e2];exact q2⟩
             exact ⟨k,by omega,q4⟩
   · rw[if_neg hc]
     refine ⟨fun a b q1 q2=>?_,fun x=>Iff.rfl⟩
     by_cases e:b=j+1
     · subst e
       have:=h2 j (by omega)
       by_cases e2:a=j
       · subst e2;omega
       · have:=h1 a j (by omega) (by omega);omega
     · exact h1 a b q1 (by omega)
theorem CN (z:Nat→Int):∀ k,(∀ a b,a<b→b≤k→z a≠z b) →
 (∀ a b,a<b→b≤k→iF z k a<iF z k b)∧(∀ x,(∃ i,i≤k∧iF z k i=x)↔∃ i,i≤k∧z i=x)
 | 0,_=>⟨fun a b h1 h2=>by omega,fun x=>Iff.rfl⟩
 | k + 1,h=>by
   obtain ⟨i1,i2⟩:=CN z k (fun a b q1 q2=>h a b q1 (by omega))
   have o:=z4 k z (k+1) (by omega)
   show (∀ a b,a<b→b≤k+1→lS (iF z k) (k+1) a<lS (iF z k) (k+1) b)∧(∀ x,(∃ i,i≤k+1∧lS (iF z k) (k+1) i=x)↔∃ i,i≤k+1∧z i=x)
   generalize iF z k=y at *
   obtain ⟨j1,j2⟩:=B9 (k+1) y (fun a b q1 q2=>i1 a b q1 (by omega)) (fun a q=>by
    rw[o]
    obtain ⟨i,q1,q2⟩:=(i2 (y a)).1 ⟨a,by omega,rfl⟩
    rw[← q2];exact h i (k+1) (by omega) (by omega))
   refine ⟨j1,fun x=>(j2 x).trans ?_⟩
   constructor
   · rintro ⟨i,q1,q2⟩
     by_cases e:i=k+1
     · subst e;exact ⟨k+1,by omega,by rw[← o];exact q2⟩
     · obtain ⟨m,q3,q4⟩:=(i2 x).1 ⟨i,by omega,q2⟩
       exact ⟨m,by omega,q4⟩
   · rintro ⟨i,q1,q2⟩
     by_cases e:i=k+1
     · subst e;exact ⟨k+1,by omega,by rw[o];exact q2⟩
     · obtain ⟨m,q3,q4⟩:=(i2 x).2 ⟨i,by omega,q2⟩
       exact ⟨m,by omega,q4⟩
theorem KM {L:List Int} (hn:L.Nodup) (h1:1≤L.length):(∀ a b,a<b→b<L.length→wa L.length (aA L) a<wa L.length (aA L) b)∧∀ x,(∃ i,i<L.length∧wa L.length (aA L) i=x)↔x ∈ L:=by
 have hv:∀ a,(h:a<L.length)→eC (fun _=>Int.ofNat 0) 0 (aA L) L.length a=L[a]:=fun a h=>by
  rw[rK]
  show (if 0≤a∧a<0+L.length then aA L (a-0) else _)=_
  rw[if_pos (by omega),Nat.sub_zero,iR]
  show L.getD a 0=_
  rw[List.getD_eq_getElem?_getD,List.getElem?_eq_getElem h];rfl
 obtain ⟨s1,s2⟩:=CN (eC (fun _=>Int.ofNat 0) 0 (aA L) L.length) (L.length-1) (fun a b q1 q2=>by
  rw[hv a (by omega),hv b (by omega)]
  exact (List.pairwise_iff_getElem.1 hn) a b (by omega) (by omega) q1)
 unfold wa
 refine ⟨fun a b q1 q2=>s1 a b q1 (by omega),fun x=>?_⟩
 constructor
 · rintro ⟨i,q1,q2⟩
   obtain ⟨m,q3,q4⟩:=(s2 x).1 ⟨i,by omega,q2⟩
   rw[← q4,hv m (by omega)]
   exact List.getElem_mem _
 · intro hx
   obtain ⟨m,q1,q2⟩:=List.mem_iff_getElem.1 hx
   obtain ⟨i,q3,q4⟩:=(s2 x).2 ⟨m,by omega,by rw[hv m q1];exact q2⟩
   exact ⟨i,by omega,q4⟩
section
variable {l k:Nat} {t d:Nat→Int} {h:Int}
noncomputable def rN (l k:Nat) (t d:Nat→Int) (h:Int) (m:Nat):List Nat:=rq l t (zP l t k d (c8 l t d h:Nat)) h.toNat (bH (cT t l)) m
noncomputable def dP (l k:Nat) (t d:Nat→Int) (h:Int) (m:Nat):Nat→Bool:=dS l t (zP l t k d (c8 l t d h:Nat)) h.toNat (bH (cT t l)) m
theorem xF (m:Nat):r5 l k t d h m=(rN l k t d h m).map fun (i:Nat)=>(i:Int):=rfl
theorem EZ (m i:Nat):dP l k t d h (m+1) i=(dP l k t d h m i || decide (i ∈ rN l k t d h m)):=rfl
theorem zI (hs:Sh l t k d) (m:Nat):(rN l k t d h m).Nodup∧∀ i ∈ rN l k t d h m,i<l∧dP l k t d h m i=false:=by
 obtain ⟨r,h1,h2,h3,h4⟩:=mB (l:=l) (z:=zP l t k d (c8 l t d h:Nat)) (w:=(eL l t (zP l t k d (c8 l t d h:Nat)) h.toNat (bH (cT t l)) m).2) h.toNat
 obtain ⟨_,a2,a3⟩:=zC (Bp (z:=zP l t k d (c8 l t d h:Nat)) (H:=h.toNat) hs.l30 hs.tl (oS hs) m) r h2
 unfold rN rq
 rw[h3]
 exact ⟨a2,a3⟩
theorem D4 (hs:Sh l t k d) (m:Nat):(r5 l k t d h m).Nodup:=by
 rw[xF]
 have:=(zI (h:=h) hs m).1
 unfold List.Nodup at *
 rw[List.pairwise_map]
 exact this.imp (fun hab=>by omega)
theorem KF (hs:Sh l t k d) (hc:ct l t d h=true) (hh:1≤h∧h≤10) {m T:Nat} (hm:m<c8 l t d h) (hT:m≤T):gP l k t d h T m=(rN l k t d h m).length∧(∀ a b,a<b→b<gP l k t d h T m→fP l k t d h T m a<fP l k t d h T m b)∧∀ x,(∃ i,i<gP l k t d h T m∧fP l k t d h T m i=x)↔∃ c:Nat,c ∈ rN l k t d h m∧x=c:=by
 have h1:=(Bl l k t d h hs hc hh m hm).1
 obtain ⟨a,b⟩:=KM (D4 (h:=h) hs m) h1
 have e:gP l k t d h T m=(r5 l k t d h m).length:=by unfold gP;rw[Nat.min_eq_left hT]
 have ef:fP l k t d h T m=wa (r5 l k t d h m).length (aA (r5 l k t d h m)):=by unfold fP;rw[e,Nat.min_eq_left hT]
 rw[e,ef]
 refine ⟨by rw[xF,List.length_map],a,fun x=>(b x).trans ?_⟩
 rw[xF,List.mem_map]
 exact ⟨fun ⟨c,q1,q2⟩=>⟨c,q1,q2.symm⟩,fun ⟨c,q1,q2⟩=>⟨c,q1,q2.symm⟩⟩
end
end Go.Eng
end
section
namespace Go.Eng
section
variable {l k:Nat} {t d:Nat→Int} {h:Int}
theorem IK:∀ {n i:Nat},dP l k t d h n i=true→∃ m,m<n∧i ∈ rN l k t d h m
 | 0,i,hd=>by
   have:(fun _:Nat=>false) i=true:=hd
   cases this
 | n + 1,i,hd=>by
   rw[EZ,Bool.or_eq_true,decide_eq_true_eq] at hd
   rcases hd with hd | hd
   · obtain ⟨m,a,b⟩:=IK hd
     exact ⟨m,by omega,b⟩
   · exact ⟨n,by omega,hd⟩
theorem IS {n m i:Nat} (hm:m<n) (hi:i ∈ rN l k t d h m):dP l k t d h n i=true:=by
 have:dP l k t d h (m+1) i=true:=by rw[EZ,decide_eq_true hi,Bool.or_true]
 exact g6 (show m+1≤n by omega) this
theorem KC (hs:Sh l t k d) {m m' i:Nat} (h1:i ∈ rN l k t d h m) (h2:i ∈ rN l k t d h m'):m=m':=by
 have key:∀ {a b:Nat},a<b→i ∈ rN l k t d h a→i ∈ rN l k t d h b→False:=fun {a b} hab ha hb=>by
  have h1:=IS hab ha
  have h2:=((zI hs b).2 i hb).2
  rw[h1] at h2;cases h2
 rcases Nat.lt_trichotomy m m' with c | c | c
 · exact (key c h1 h2).elim
 · exact c
 · exact (key c h2 h1).elim
theorem KA (hs:Sh l t k d) {y x my mx:Nat} (hy:y ∈ rN l k t d h my) (hx:x ∈ rN l k t d h mx) (hyx:t y=(x:Int)):my<mx:=by
 have hyl:=((zI hs my).2 y hy)
 have hxl:=((zI hs mx).2 x hx)
 have h1:dP l k t d h (mx+1) x=true:=IS (by omega) hx
 have h2:=(O7 hs.l30 hs.tl (oS hs) hyl.1 hxl.1 hyx (mx+1) h1).2
 have h2:dP l k t d h mx y=true:=h2
 apply Classical.byContradiction
 intro hc
 have h3:dP l k t d h my y=true:=g6 (show mx≤my by omega) h2
 rw[hyl.2] at h3;cases h3
theorem Kz (hs:Sh l t k d) (hc:ct l t d h=true) (hh:1≤h∧h≤10) {i:Nat} (hi:i<l):∃ m,m<c8 l t d h∧((m:Nat):Int)+1≤d i∧i ∈ rN l k t d h m:=by
 have e:h=(h.toNat:Int):=by omega
 have:=B7 (H:=h.toNat) hs hc e i hi
 obtain ⟨m,a,b⟩:=IK (k:=k) (h:=h) this
 have hz:=IB hs i hi (c8 l t d h)
 have:=GD hs hc i hi
 exact ⟨m,by omega,by omega,b⟩
theorem KB (hs:Sh l t k d) (hc:ct l t d h=true) (hh:1≤h∧h≤10) {m:Nat} (hm:m<c8 l t d h):1≤(rN l k t d h m).length∧((rN l k t d h m).length:Int)≤h:=by
 have:=Bl l k t d h hs hc hh m hm
 rw[xF,List.length_map] at this
 omega
end
end Go.Eng
end
