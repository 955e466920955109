/- Lay: TurnsOf (own copy): its lists. -/
import Derived.Test.YtoomemfhcbajoaaV7Lb34x5
set_option linter.unusedVariables false
set_option linter.unusedSimpArgs false
set_option maxRecDepth 100000
section
namespace Go.Eng
open Go.Proofs
theorem Lg:∀ b,(2,b) ∈ aJ (part Try.f47 [1,1,1,1,0,1,0,0])→b=.loop (part Try.f47 [1,1,1,1,0,1,0,0,1,0,0,1,0,0]):=eJ (by kernel_rfl)
theorem PE (n l k:Nat) (t d z z1 z2:Nat→Int) (m:Nat) (f:Nat→Nat→Int) (g:Nat→Nat) (c i c2 q:Int) (b:Bool) (H:aa):aM (bp n 47 64) (il aD n 0) (bX aK 2 (qR l m f g c i 0) (lf l t k d z::H) (.ite b (.ok (.ret,hints [(4,.nils),(5,.int .i64 15)],lf l t k d z1::H)) (.ok (.normal,hints (qR l m f g c2 i q++[(30,.bool false)]),lf l t k d z2::H)))) aL (part Try.f47 [1,1,1,1,0,1,0,0]) (hints (DB l m f g c i)) (lf l t k d z::H) =
 (fun (Z0:Nat×aj)=>((fun (Z1:Row)=>((fun (Z2:ao)=>((fun (Z3:aV)=>Tr.ite (bQ i (Int.ofNat m)) (Tr.reqP (Z2=Z2∧Z3::H=Z3::H) (Tr.ite b (Tr.ok (Ex.ret,[(4,AV.nils,none),(5,AV.int .i64 (Int.ofNat 15),none)],{ lock:=false,bs:=[Z0,(0,aj.row (Row.M [ah.arr .i64 z1 l]))] } :: H)) (Tr.ok (Ex.normal,[(1,AV.slcT none Z1 1 m false,none),(2,AV.ptr 0 0 0 0,none),(6,AV.slc 0 1 0 0 1 l (some l),none),(7,AV.int .i64 c2,none),(8,AV.int .i64 (bG .i64 i (Int.ofNat 1)),none)],{ lock:=false,bs:=[Z0,(0,aj.row (Row.M [ah.arr .i64 z2 l]))] } :: H)))) (Tr.ok (Ex.exit 0,[(1,AV.slcT none Z1 1 m false,none),(2,AV.ptr 0 0 0 0,none),(6,AV.slc 0 1 0 0 1 l (some l),none),(7,AV.int .i64 c,none),(8,AV.int .i64 i,none),(21,AV.bool false,some 1)],Z3::H))) { lock:=false,bs:=[Z0,(0,aj.row (Row.M [ah.arr .i64 z l]))] })) [(1,AV.slcT none Z1 1 m false),(2,AV.ptr 0 0 0 0),(6,AV.slc 0 1 0 0 1 l (some l)),(7,AV.int .i64 c),(8,AV.int .i64 i),(9,AV.int .i64 (Int.ofNat 0))])) (Row.F (fun j=>AV.slcT none (Row.M [ah.arr .i64 (f j) (g j)]) 1 (g j) false) m))) (0,aj.row (Row.G [AV.slcT none (Row.M [ah.arr .i64 t l]) 1 l false,AV.slcT none (Row.M [ah.arr .i64 d k]) 1 k false])):=by kernel_rfl
def cJ (f:Nat→Nat→Int) (g:Nat→Nat):Nat→Nat→Int
 | 0=>fun _=>Int.ofNat 0
 | i+1=>fp (f i) ((i+1:Nat):Int) (cJ f g i) (g i)
def mN (l:Nat) (f:Nat→Nat→Int) (g:Nat→Nat) (i:Nat):Bool:=bV (fun j=>np l (fp (f i) ((i+1:Nat):Int) (cJ f g i) j) (f i j)) (g i)
theorem Gy {g:Nat→Nat} {m:Nat} (hg:∀ i,i<m→g i<1000):∀ i,i≤m→bu g i≤i*1000
 | 0,_=>Nat.le_refl _
 | i+1,hi=>by
   have:=Gy hg i (by omega)
   have:=hg i (by omega)
   show bu g i+g i≤(i+1)*1000
   omega
section
variable (n l k:Nat) (t d:Nat→Int) (m:Nat) (f:Nat→Nat→Int) (g:Nat→Nat) (H:aa)
theorem OU (hm:m≤40) (hg:∀ i,i<m→g i<1000):∃ X:Nat→Nat→Int,exec (bp (n+1) 47 64) (.block 0 (.loop (part Try.f47 [1,1,1,1,0,1,0,0]))) (DB l m f g ((bu g 0:Nat):Int) ((0:Nat):Int)) (lf l t k d (cJ f g 0)::H)=some (cond (bV (mN l f g) m) (.ret,[(4,.nils),(5,.int .i64 15)],lf l t k d (X (fN (mN l f g) m 0))::H) (.normal,DB l m f g ((bu g m:Nat):Int) (Int.ofNat m)++[(21,.bool false)],lf l t k d (cJ f g m)::H)):=by
 refine ⟨fun i=>fp (f i) ((i+1:Nat):Int) (cJ f g i) (fN (fun j=>np l (fp (f i) ((i+1:Nat):Int) (cJ f g i) j) (f i j)) (g i) 0),?_⟩
 refine iG (n:=n+1) (f:=47) (nt:=64) (c:=part Try.f47 [1,1,1,1,0,1,0,0]) 0 (fun i=>DB l m f g ((bu g i:Nat):Int) (i:Nat)) (fun i=>lf l t k d (cJ f g i)::H) m (mN l f g) (fun i=>([(4,.nils),(5,.int .i64 15)],lf l t k d (fp (f i) ((i+1:Nat):Int) (cJ f g i) (fN (fun j=>np l (fp (f i) ((i+1:Nat):Int) (cJ f g i) j) (f i j)) (g i) 0))::H)) _ (by omega) (fun i hi=>?_) ?_
 · have ht:=Gy hg i (by omega)
   have hx:=OT n l k t d (cJ f g i) m f g H (bu g i) i hi hm (hg i hi) (by omega)
   refine aH (PE (n+1) l k t d (cJ f g i) (fp (f i) ((i+1:Nat):Int) (cJ f g i) (fN (fun j=>np l (fp (f i) ((i+1:Nat):Int) (cJ f g i) j) (f i j)) (g i) 0)) (cJ f g (i+1)) m f g ((bu g i:Nat):Int) (i:Nat) ((bu g i+g i:Nat):Int) (Int.ofNat (g i)) (mN l f g i) H) (ar _) (aF (af _ _) Lg (fun x hy=>dz hy hx)) (ag _ _) ?_
   show Tr.all _ (fun r=>if mN l f g i=true then _ else _∧tidy _ _ _=(DB l m f g ((bu g i+g i:Nat):Int) ((i+1:Nat):Int),lf l t k d (cJ f g (i+1))::H))
   rw[db (j:=i) (by omega)]
   clear hx
   generalize mN l f g i=B at *
   generalize cJ f g (i+1)=Z2 at *
   generalize bu g i+g i=C2 at *
   generalize fp (f i) ((i+1:Nat):Int) (cJ f g i) (fN (fun j=>np l (fp (f i) ((i+1:Nat):Int) (cJ f g i) j) (f i j)) (g i) 0)=Z1 at *
   cases B with
   | true =>
     simp only[if_true]
     exact wF
   | false =>
     simp only[Bool.false_eq_true,if_false]
     exact wF
 · exact dc (PD (n+1) l k t d (cJ f g m) m f g ((bu g m:Nat):Int) (Int.ofNat m) H) (ar _) (aF (af _ _) Lg (fun x hx=>(Tr.ae hx).elim)) (ag _ _) (by first | (simp (disch:=omega) only[nV,nW];done) | (simp (disch:=omega) only[nV,nW];omega))
end
end Go.Eng
end
section
namespace Go.Eng
open Go.Proofs
noncomputable def s6 (l:Nat) (t:Nat→Int) (k:Nat) (d z:Nat→Int):aV:=⟨false,[II l t k d,(0,.row (.M [.arr .i64 z (dw (Int.ofNat l))]))]⟩
noncomputable def yv (l m:Nat) (f:Nat→Nat→Int) (g:Nat→Nat) (c i:Int):ao:=[(1,dK m f g),(2,.ptr 0 0 0 0),(6,.slc 0 1 0 0 1 (dw (Int.ofNat l)) (some (dw (Int.ofNat l)))),(7,.int .i64 c),(8,.int .i64 i)]
theorem P4 (n l k:Nat) (t d z1 z2:Nat→Int) (m:Nat) (f:Nat→Nat→Int) (g:Nat→Nat) (c q:Int) (b:Bool) (H:aa):aX Try.prog (cd n) 100000 47 Try.f47 (KtL.kt 47) (il aD n 0) (bX aK 0 (yv l m f g 0 0) (s6 l t k d (fun _=>Int.ofNat 0)::H) (.ite b (.ok (.ret,hints [(4,.nils),(5,.int .i64 15)],s6 l t k d z1::H)) (.ok (.normal,hints (yv l m f g c q++[(21,.bool false)]),s6 l t k d z2::H)))) aL [(bR l t k d,none),(dK m f g,none)] H =
 (fun (Z0:ao)=>((fun (Z1:aV)=>Tr.ite (bQ (Int.ofNat 40) (Int.ofNat m)) (Tr.ok ((AV.tup [AV.nils,AV.int .i64 (Int.ofNat 6)],none),H)) (Tr.req (DN (Int.ofNat l) (Int.ofNat l) 8) (Tr.reqP (Z0=Z0∧Z1::H=Z1::H) (Tr.ite b (Tr.ok ((AV.tup [AV.nils,AV.int .i64 (Int.ofNat 15)],none),H)) (Tr.ite (aY (cI c (Int.ofNat l))) (Tr.ok ((AV.tup [AV.nils,AV.int .i64 (Int.ofNat 15)],none),H)) (Tr.req (cL 0 0) (Tr.req (gF 0 (dw (Int.ofNat l)) 0 (dw (Int.ofNat l))) (Tr.ok ((AV.tup [AV.slcT none (Row.M [ah.arr .i64 (dW z2 0) (dw (Int.ofNat l))]) 1 (dw (Int.ofNat l)) (cL (dw (Int.ofNat l)) (dw (Int.ofNat l))),AV.int .i64 (Int.ofNat 0)],none),H))))))))) { lock:=false,bs:=[(0,aj.row (Row.G [AV.slcT none (Row.M [ah.arr .i64 t l]) 1 l false,AV.slcT none (Row.M [ah.arr .i64 d k]) 1 k false])),(0,aj.row (Row.M [ah.arr .i64 (fun x=>Int.ofNat 0) (dw (Int.ofNat l))]))] })) [(1,AV.slcT none (Row.F (fun j=>AV.slcT none (Row.M [ah.arr .i64 (f j) (g j)]) 1 (g j) false) m) 1 m false),(2,AV.ptr 0 0 0 0),(6,AV.slc 0 1 0 0 1 (dw (Int.ofNat l)) (some (dw (Int.ofNat l)))),(7,AV.int .i64 (Int.ofNat 0)),(8,AV.int .i64 (Int.ofNat 0))]:=by kernel_rfl
theorem Qz:∀ b,(0,b) ∈ aJ (bn Try.f47)→b=.loop (part Try.f47 [1,1,1,1,0,1,0,0]):=eJ (by kernel_rfl)
noncomputable def Nl (l m:Nat) (f:Nat→Nat→Int) (g:Nat→Nat):AV:=if 40<m then .tup [.nils,.int .i64 6] else if bV (mN l f g) m=true∨bu g m≠l then .tup [.nils,.int .i64 15] else .tup [cA l (cJ f g m) true,.int .i64 0]
theorem Rc (n l k:Nat) (t d:Nat→Int) (m:Nat) (f:Nat→Nat→Int) (g:Nat→Nat) (H:aa) (hl:l≤1000) (hg:∀ i,i<m→g i<1000):cd (n+2) (.fn 47) [bR l t k d,dK m f g] H=some (Nl l m f g,H):=by
 unfold Nl
 by_cases c:40<m
 · rw[if_pos c]
   refine aC (n:=n+1) Try.func47 rfl rfl rfl (TO (n+1) l k t d m f g H) (ar _) (aF (af _ _) Qz (fun x hx=>(Tr.ae hx).elim)) (ag _ _) ?_
   exact wF
 · rw[if_neg c]
   obtain ⟨X,hx⟩:=OU n l k t d m f g H (by omega) hg
   have hx':exec (bp (n+1) 47 64) (.block 0 (.loop (part Try.f47 [1,1,1,1,0,1,0,0]))) (yv l m f g 0 0) (s6 l t k d (fun _=>Int.ofNat 0)::H)=some (cond (bV (mN l f g) m) (.ret,[(4,.nils),(5,.int .i64 15)],s6 l t k d (X (fN (mN l f g) m 0))::H) (.normal,yv l m f g ((bu g m:Nat):Int) (Int.ofNat m)++[(21,.bool false)],s6 l t k d (cJ f g m)::H)):=by
    unfold yv s6
    rw[pF]
    exact hx
   refine aC (n:=n+1) Try.func47 rfl rfl rfl (P4 (n+1) l k t d (X (fN (mN l f g) m 0)) (cJ f g m) m f g ((bu g m:Nat):Int) (Int.ofNat m) (bV (mN l f g) m) H) (ar _) (aF (af _ _) Qz (fun x hy=>dz hy hx')) (ag _ _) ?_
   simp only[pF,dF]
   have eq:cL l l=true:=by rw[gm];simp
   clear hx hx'
   generalize X (fN (mN l f g) m 0)=X at *
   generalize bV (mN l f g) m=B at *
   generalize cJ f g m=Z at *
   generalize bu g m=N at *
   cases B with
   | true =>
     rw[if_pos (.inl rfl)]
     exact wF
   | false =>
     by_cases e:N=l
     · subst e
       rw[if_neg (by simp)]
       simp only[eq]
       exact wF
     · rw[if_pos (.inr e)]
       exact wF
end Go.Eng
end
section
namespace Go.Eng
open Go.Proofs
noncomputable def Gh (z:Nat→Int):Nat×aj:=(0,.row (.M [.arr .i64 z 30]))
noncomputable def nS (l:Nat) (t:Nat→Int) (k:Nat) (d z:Nat→Int):aV:=⟨false,[II l t k d,Gh (fun _=>Int.ofNat 0),Gh z]⟩
noncomputable def vL (l:Nat) (t:Nat→Int) (k:Nat) (d z:Nat→Int):aV:=⟨false,[II l t k d,Gh (eC (fun _=>Int.ofNat 0) 0 (fun _=>Int.ofNat 0) 30),Gh z]⟩
noncomputable def yx (m:Nat) (f:Nat→Nat→Int) (g:Nat→Nat) (i:Int):ao:=[(4,.ptr 0 1 0 0),(6,.ptr 0 2 0 0),(36,dK m f g),(37,.int .i64 (Int.ofNat m)),(38,.int .i64 i)]
noncomputable def sL (m:Nat) (f:Nat→Nat→Int) (g:Nat→Nat) (i:Int) (q:Nat) (y:Nat→Int) (j:Int):ao:=[(4,.ptr 0 1 0 0),(6,.ptr 0 2 0 0),(8,.int .i64 i),(36,dK m f g),(37,.int .i64 (Int.ofNat m)),(38,.int .i64 i),(43,cA q y false),(44,.int .i64 (Int.ofNat q)),(45,.int .i64 j)]
theorem MP (n l k:Nat) (t d z:Nat→Int) (m:Nat) (f:Nat→Nat→Int) (g:Nat→Nat) (i:Int) (q:Nat) (y:Nat→Int) (j:Int) (H:aa):aM (bp n 60 61) (il aD n 0) aK aL (part Try.f60 [1,1,1,1,0,1,0,0,1,1,0,0,1,1,0,0]) (hints (sL m f g i q y j)) (nS l t k d z::H) =
 (fun (Z0:Nat×aj)=>((fun (Z1:Nat×AV×Option Nat)=>Tr.ite (bQ j (Int.ofNat q)) (Tr.req (cN j q) (Tr.req (cw (au 0 j 1) q) (Tr.req (cN (y (au 0 j 1)) 30) (Tr.req (cL 0 0) (Tr.req (cw (au 0 (y (au 0 j 1)) 1) 30) (Tr.ite (bQ (Int.ofNat 0) (z (au 0 (y (au 0 j 1)) 1))) (Tr.req (gF 0 30 0 30) (Tr.ok (Ex.ret,[(4,AV.ptr 0 1 0 0,none),(5,AV.int .i64 (Int.ofNat 15),some 1)],{ lock:=false,bs:=[Z0,(0,aj.row (Row.M [ah.arr .i64 (eC (fun x=>Int.ofNat 0) 0 (fun x=>Int.ofNat 0) 30) 30])),(0,aj.row (Row.M [ah.arr .i64 z 30]))] } :: H))) (Tr.req (cN (y (au 0 j 1)) 30) (Tr.req (cL 0 0) (Tr.req (cw (au 0 (y (au 0 j 1)) 1) 30) (Tr.ok (Ex.normal,[(4,AV.ptr 0 1 0 0,none),(6,AV.ptr 0 2 0 0,none),(8,AV.int .i64 i,none),Z1,(37,AV.int .i64 (Int.ofNat m),none),(38,AV.int .i64 i,none),(43,AV.slcT none (Row.M [ah.arr .i64 y q]) 1 q false,none),(44,AV.int .i64 (Int.ofNat q),none),(45,AV.int .i64 (bG .i64 j (Int.ofNat 1)),none)],{ lock:=false,bs:=[Z0,(0,aj.row (Row.M [ah.arr .i64 (fun x=>Int.ofNat 0) 30])),(0,aj.row (Row.M [ah.arr .i64 (fO z (au 0 (y (au 0 j 1)) 1) (bG .i64 i (Int.ofNat 1))) 30]))] } :: H))))))))))) (Tr.ok (Ex.exit 3,[(4,AV.ptr 0 1 0 0,none),(6,AV.ptr 0 2 0 0,none),(8,AV.int .i64 i,none),Z1,(37,AV.int .i64 (Int.ofNat m),none),(38,AV.int .i64 i,none),(43,AV.slcT none (Row.M [ah.arr .i64 y q]) 1 q false,none),(44,AV.int .i64 (Int.ofNat q),none),(45,AV.int .i64 j,none),(46,AV.bool false,some 1)],{ lock:=false,bs:=[Z0,(0,aj.row (Row.M [ah.arr .i64 (fun x=>Int.ofNat 0) 30])),(0,aj.row (Row.M [ah.arr .i64 z 30]))] } :: H))) (36,AV.slcT none (Row.F (fun j=>AV.slcT none (Row.M [ah.arr .i64 (f j) (g j)]) 1 (g j) false) m) 1 m false,none))) (0,aj.row (Row.G [AV.slcT none (Row.M [ah.arr .i64 t l]) 1 l false,AV.slcT none (Row.M [ah.arr .i64 d k]) 1 k false])):=by kernel_rfl
theorem PM (n l k:Nat) (t d z:Nat→Int) (m:Nat) (f:Nat→Nat→Int) (g:Nat→Nat) (i:Int) (H:aa):aM (bp n 60 61) (il aD n 0) (bX aK 3 [] [] .bad) aL (part Try.f60 [1,1,1,1,0,1,0,0]) (hints (yx m f g i)) (nS l t k d z::H) =
 (fun (Z0:aV)=>((fun (Z1:Row)=>Tr.ite (bQ i (Int.ofNat m)) (Tr.req (cN i m) (Tr.req (cw (au 0 i 1) m) (Tr.reqP ([(4,AV.ptr 0 1 0 0),(6,AV.ptr 0 2 0 0),(8,AV.int .i64 i),(36,AV.slcT none Z1 1 m false),(37,AV.int .i64 (Int.ofNat m)),(38,AV.int .i64 i),(43,AV.slcT none (Row.M [ah.arr .i64 (f (au 0 i 1)) (g (au 0 i 1))]) 1 (g (au 0 i 1)) false),(44,AV.int .i64 (Int.ofNat (g (au 0 i 1)))),(45,AV.int .i64 (Int.ofNat 0))]=[]∧Z0::H=[]) Tr.bad))) (Tr.ok (Ex.exit 1,[(4,AV.ptr 0 1 0 0,none),(6,AV.ptr 0 2 0 0,none),(36,AV.slcT none Z1 1 m false,none),(37,AV.int .i64 (Int.ofNat m),none),(38,AV.int .i64 i,none),(39,AV.bool false,some 1)],Z0::H))) (Row.F (fun j=>AV.slcT none (Row.M [ah.arr .i64 (f j) (g j)]) 1 (g j) false) m))) { lock:=false,bs:=[(0,aj.row (Row.G [AV.slcT none (Row.M [ah.arr .i64 t l]) 1 l false,AV.slcT none (Row.M [ah.arr .i64 d k]) 1 k false])),(0,aj.row (Row.M [ah.arr .i64 (fun x=>Int.ofNat 0) 30])),(0,aj.row (Row.M [ah.arr .i64 z 30]))] }:=by kernel_rfl
theorem PN (n l k:Nat) (t d z z1 z2:Nat→Int) (m:Nat) (f:Nat→Nat→Int) (g:Nat→Nat) (i:Int) (c:Int) (b:Bool) (H:aa):aM (bp n 60 61) (il aD n 0) (bX aK 3 (sL m f g i (g (au 0 i 1)) (f (au 0 i 1)) 0) (nS l t k d z::H) (.ite b (.ok (.ret,hints [(4,.ptr 0 1 0 0),(5,.int .i64 15)],vL l t k d z1::H)) (.ok (.normal,hints (sL m f g i (g (au 0 i 1)) (f (au 0 i 1)) c++[(46,.bool false)]),nS l t k d z2::H)))) aL (part Try.f60 [1,1,1,1,0,1,0,0]) (hints (yx m f g i)) (nS l t k d z::H) =
 (fun (Z0:aV)=>((fun (Z1:ao)=>((fun (Z2:Nat×aj)=>((fun (Z3:Nat×AV×Option Nat)=>Tr.ite (bQ i (Int.ofNat m)) (Tr.req (cN i m) (Tr.req (cw (au 0 i 1) m) (Tr.reqP (Z1=Z1∧Z0::H=Z0::H) (Tr.ite b (Tr.ok (Ex.ret,[(4,AV.ptr 0 1 0 0,none),(5,AV.int .i64 (Int.ofNat 15),none)],{ lock:=false,bs:=[Z2,(0,aj.row (Row.M [ah.arr .i64 (eC (fun x=>Int.ofNat 0) 0 (fun x=>Int.ofNat 0) 30) 30])),(0,aj.row (Row.M [ah.arr .i64 z1 30]))] } :: H)) (Tr.ok (Ex.normal,[(4,AV.ptr 0 1 0 0,none),(6,AV.ptr 0 2 0 0,none),Z3,(37,AV.int .i64 (Int.ofNat m),none),(38,AV.int .i64 (bG .i64 i (Int.ofNat 1)),none)],{ lock:=false,bs:=[Z2,(0,aj.row (Row.M [ah.arr .i64 (fun x=>Int.ofNat 0) 30])),(0,aj.row (Row.M [ah.arr .i64 z2 30]))] } :: H)))))) (Tr.ok (Ex.exit 1,[(4,AV.ptr 0 1 0 0,none),(6,AV.ptr 0 2 0 0,none),Z3,(37,AV.int .i64 (Int.ofNat m),none),(38,AV.int .i64 i,none),(39,AV.bool false,some 1)],Z0::H))) (36,AV.slcT none (Row.F (fun j=>AV.slcT none (Row.M [ah.arr .i64 (f j) (g j)]) 1 (g j) false) m) 1 m false,none))) (0,aj.row (Row.G [AV.slcT none (Row.M [ah.arr .i64 t l]) 1 l false,AV.slcT none (Row.M [ah.arr .i64 d k]) 1 k false])))) [(4,AV.ptr 0 1 0 0),(6,AV.ptr 0 2 0 0),(8,AV.int .i64 i),(36,AV.slcT none (Row.F (fun j=>AV.slcT none (Row.M [ah.arr .i64 (f j) (g j)]) 1 (g j) false) m) 1 m false),(37,AV.int .i64 (Int.ofNat m)),(38,AV.int .i64 i),(43,AV.slcT none (Row.M [ah.arr .i64 (f (au 0 i 1)) (g (au 0 i 1))]) 1 (g (au 0 i 1)) false),(44,AV.int .i64 (Int.ofNat (g (au 0 i 1)))),(45,AV.int .i64 (Int.ofNat 0))])) { lock:=false,bs:=[(0,aj.row (Row.G [AV.slcT none (Row.M [ah.arr .i64 t l]) 1 l false,AV.slcT none (Row.M [ah.arr .i64 d k]) 1 k false])),(0,aj.row (Row.M [ah.arr .i64 (fun x=>Int.ofNat 0) 30])),(0,aj.row (Row.M [ah.arr .i64 z 30]))] }:=by kernel_rfl
theorem P9 (n l k:Nat) (t d:Nat→Int) (m:Nat) (f:Nat→Nat→Int) (g:Nat→Nat) (H:aa):aX Try.prog (cd n) 100000 60 Try.f60 (KtL.kt 60) (il (tX aD 84 [dK m f g] .nils) n 0) (bX aK 1 [] [] .bad) aL [(bR l t k d,none),(dK m f g,none)] H =
 (fun (Z0:List AV)=>((fun (Z1:Row)=>Tr.reqP (Z0=Z0) (Tr.ite (bQ (Int.ofNat 40) (Int.ofNat m)) (Tr.req (gF 0 30 0 30) (Tr.ok ((AV.tup [AV.agg Z1,AV.int .i64 (Int.ofNat 6)],none),H))) (Tr.ite (aY (cI (Int.ofNat 0) (Int.ofNat l))) (Tr.req (gF 0 30 0 30) (Tr.ok ((AV.tup [AV.agg Z1,AV.int .i64 (Int.ofNat 15)],none),H))) Tr.bad))) (Row.M [ah.arr .i64 (eC (fun x=>Int.ofNat 0) 0 (fun x=>Int.ofNat 0) 30) 30]))) [AV.slcT none (Row.F (fun j=>AV.slcT none (Row.M [ah.arr .i64 (f j) (g j)]) 1 (g j) false) m) 1 m false]:=by kernel_rfl
theorem P7 (n l k:Nat) (t d:Nat→Int) (m:Nat) (f:Nat→Nat→Int) (g:Nat→Nat) (N:Nat) (Z:Nat→Int) (H:aa):aX Try.prog (cd n) 100000 60 Try.f60 (KtL.kt 60) (il (tX aD 84 [dK m f g] (cA N Z false)) n 0) (bX aK 1 [] [] .bad) aL [(bR l t k d,none),(dK m f g,none)] H =
 (fun (Z0:List AV)=>((fun (Z1:Row)=>Tr.reqP (Z0=Z0) (Tr.ite (bQ (Int.ofNat 40) (Int.ofNat m)) (Tr.req (gF 0 30 0 30) (Tr.ok ((AV.tup [AV.agg Z1,AV.int .i64 (Int.ofNat 6)],none),H))) (Tr.ite (aY (cI (Int.ofNat N) (Int.ofNat l))) (Tr.req (gF 0 30 0 30) (Tr.ok ((AV.tup [AV.agg Z1,AV.int .i64 (Int.ofNat 15)],none),H))) Tr.bad))) (Row.M [ah.arr .i64 (eC (fun x=>Int.ofNat 0) 0 (fun x=>Int.ofNat 0) 30) 30]))) [AV.slcT none (Row.F (fun j=>AV.slcT none (Row.M [ah.arr .i64 (f j) (g j)]) 1 (g j) false) m) 1 m false]:=by kernel_rfl
theorem P8 (n l k:Nat) (t d:Nat→Int) (m:Nat) (f:Nat→Nat→Int) (g:Nat→Nat) (N:Nat) (Z:Nat→Int) (b:Bool) (H:aa):aX Try.prog (cd n) 100000 60 Try.f60 (KtL.kt 60) (il (tX (tX aD 84 [dK m f g] (cA N Z false)) 56 [.int .i64 0,.int .i64 (bC .i64 (Int.ofNat l) 1),cA N Z false] (.bool b)) n 0) (bX aK 1 [] [] .bad) aL [(bR l t k d,none),(dK m f g,none)] H =
 (fun (Z0:Row)=>((fun (Z1:Row)=>((fun (Z2:List AV)=>Tr.reqP ([AV.slcT none Z1 1 m false]=[AV.slcT none Z1 1 m false]) (Tr.ite (bQ (Int.ofNat 40) (Int.ofNat m)) (Tr.req (gF 0 30 0 30) (Tr.ok ((AV.tup [AV.agg Z0,AV.int .i64 (Int.ofNat 6)],none),H))) (Tr.ite (aY (cI (Int.ofNat N) (Int.ofNat l))) (Tr.req (gF 0 30 0 30) (Tr.ok ((AV.tup [AV.agg Z0,AV.int .i64 (Int.ofNat 15)],none),H))) (Tr.reqP (Z2=Z2) (Tr.ite (aY b) (Tr.req (gF 0 30 0 30) (Tr.ok ((AV.tup [AV.agg Z0,AV.int .i64 (Int.ofNat 15)],none),H))) (Tr.reqP ([(4,AV.ptr 0 1 0 0),(6,AV.ptr 0 2 0 0),(36,AV.slcT none Z1 1 m false),(37,AV.int .i64 (Int.ofNat m)),(38,AV.int .i64 (Int.ofNat 0))]=[]∧{ lock:=false,bs:=[(0,aj.row (Row.G [AV.slcT none (Row.M [ah.arr .i64 t l]) 1 l false,AV.slcT none (Row.M [ah.arr .i64 d k]) 1 k false])),(0,aj.row (Row.M [ah.arr .i64 (fun x=>Int.ofNat 0) 30])),(0,aj.row (Row.M [ah.arr .i64 (fun x=>Int.ofNat 0) 30]))] } :: H=[]) Tr.bad)))))) [AV.int .i64 (Int.ofNat 0),AV.int .i64 (bC .i64 (Int.ofNat l) (Int.ofNat 1)),AV.slcT none (Row.M [ah.arr .i64 Z N]) 1 N false])) (Row.F (fun j=>AV.slcT none (Row.M [ah.arr .i64 (f j) (g j)]) 1 (g j) false) m))) (Row.M [ah.arr .i64 (eC (fun x=>Int.ofNat 0) 0 (fun x=>Int.ofNat 0) 30) 30]):=by kernel_rfl
theorem TW (n l k:Nat) (t d z1 z2:Nat→Int) (m:Nat) (f:Nat→Nat→Int) (g:Nat→Nat) (N:Nat) (Z:Nat→Int) (c:Int) (b:Bool) (H:aa):aX Try.prog (cd n) 100000 60 Try.f60 (KtL.kt 60) (il (tX (tX aD 84 [dK m f g] (cA N Z false)) 56 [.int .i64 0,.int .i64 (bC .i64 (Int.ofNat l) 1),cA N Z false] (.bool true)) n 0) (bX aK 1 (yx m f g 0) (nS l t k d (fun _=>Int.ofNat 0)::H) (.ite b (.ok (.ret,hints [(4,.ptr 0 1 0 0),(5,.int .i64 15)],vL l t k d z1::H)) (.ok (.normal,hints (yx m f g c++[(39,.bool false)]),nS l t k d z2::H)))) aL [(bR l t k d,none),(dK m f g,none)] H =
 (fun (Z0:aV)=>((fun (Z1:AV×Option Nat)=>((fun (Z2:Row)=>((fun (Z3:ao)=>((fun (Z4:List AV)=>Tr.reqP ([AV.slcT none Z2 1 m false]=[AV.slcT none Z2 1 m false]) (Tr.ite (bQ (Int.ofNat 40) (Int.ofNat m)) (Tr.req (gF 0 30 0 30) (Tr.ok ((AV.tup [AV.agg (Row.M [ah.arr .i64 (eC (fun x=>Int.ofNat 0) 0 (fun x=>Int.ofNat 0) 30) 30]),AV.int .i64 (Int.ofNat 6)],none),H))) (Tr.ite (aY (cI (Int.ofNat N) (Int.ofNat l))) (Tr.req (gF 0 30 0 30) (Tr.ok (Z1,H))) (Tr.reqP (Z4=Z4) (Tr.ite (aY true) (Tr.req (gF 0 30 0 30) (Tr.ok (Z1,H))) (Tr.reqP (Z3=Z3∧Z0::H=Z0::H) (Tr.ite b (Tr.ok (Z1,H)) (Tr.req (gF 0 30 0 30) (Tr.ok ((AV.tup [AV.agg (Row.M [ah.arr .i64 (eC (fun x=>Int.ofNat 0) 0 z2 30) 30]),AV.int .i64 (Int.ofNat 0)],none),H)))))))))) [AV.int .i64 (Int.ofNat 0),AV.int .i64 (bC .i64 (Int.ofNat l) (Int.ofNat 1)),AV.slcT none (Row.M [ah.arr .i64 Z N]) 1 N false])) [(4,AV.ptr 0 1 0 0),(6,AV.ptr 0 2 0 0),(36,AV.slcT none Z2 1 m false),(37,AV.int .i64 (Int.ofNat m)),(38,AV.int .i64 (Int.ofNat 0))])) (Row.F (fun j=>AV.slcT none (Row.M [ah.arr .i64 (f j) (g j)]) 1 (g j) false) m))) (AV.tup [AV.agg (Row.M [ah.arr .i64 (eC (fun x=>Int.ofNat 0) 0 (fun x=>Int.ofNat 0) 30) 30]),AV.int .i64 (Int.ofNat 15)],none))) { lock:=false,bs:=[(0,aj.row (Row.G [AV.slcT none (Row.M [ah.arr .i64 t l]) 1 l false,AV.slcT none (Row.M [ah.arr .i64 d k]) 1 k false])),(0,aj.row (Row.M [ah.arr .i64 (fun x=>Int.ofNat 0) 30])),(0,aj.row (Row.M [ah.arr .i64 (fun x=>Int.ofNat 0) 30]))] }:=by kernel_rfl
theorem Nx:∀ b,(1,b) ∈ aJ (bn Try.f60)→b=.loop (part Try.f60 [1,1,1,1,0,1,0,0]):=eJ (by kernel_rfl)
theorem Lj:∀ b,(3,b) ∈ aJ (part Try.f60 [1,1,1,1,0,1,0,0])→b=.loop (part Try.f60 [1,1,1,1,0,1,0,0,1,1,0,0,1,1,0,0]):=eJ (by kernel_rfl)
theorem Bs {o:Nat→Int} {T:Int} {z:Nat→Int} (hT:0≤T) (hz:∀ c,0≤z c):∀ j c,0≤fp o T z j c
 | 0,c=>hz c
 | j+1,c=>by
   show 0≤uI (fp o T z j) (o j).toNat T c
   unfold uI
   split
   · exact hT
   · exact Bs hT hz j c
theorem GG (f:Nat→Nat→Int) (g:Nat→Nat):∀ i c,0≤cJ f g i c
 | 0,c=>by show 0≤Int.ofNat 0;decide
 | i+1,c=>Bs (by omega) (GG f g i) _ c
noncomputable def fF (z:Nat→Int):Nat→Int:=eC (fun _=>Int.ofNat 0) 0 z 30
section
variable (n l k:Nat) (t d z:Nat→Int) (m:Nat) (f:Nat→Nat→Int) (g:Nat→Nat) (H:aa)
theorem OW (i:Nat) (hi:i<m) (hm:m≤40) (hl:l≤30) (hg:g i<1000) (hr:∀ j,j<g i→0≤f i j∧f i j<l) (hz:∀ c,0≤z c):exec (bp n 60 61) (.block 3 (.loop (part Try.f60 [1,1,1,1,0,1,0,0,1,1,0,0,1,1,0,0]))) (sL m f g (i:Nat) (g i) (f i) ((0:Nat):Int)) (nS l t k d z::H)=some (cond (bV (fun j=>np l (fp (f i) ((i+1:Nat):Int) z j) (f i j)) (g i)) (.ret,[(4,.ptr 0 1 0 0),(5,.int .i64 15)],vL l t k d (fp (f i) ((i+1:Nat):Int) z (fN (fun j=>np l (fp (f i) ((i+1:Nat):Int) z j) (f i j)) (g i) 0))::H) (.normal,sL m f g (i:Nat) (g i) (f i) (Int.ofNat (g i))++[(46,.bool false)],nS l t k d (fp (f i) ((i+1:Nat):Int) z (g i))::H)):=by
 refine iG (n:=n) (f:=60) (nt:=61) (c:=part Try.f60 [1,1,1,1,0,1,0,0,1,1,0,0,1,1,0,0]) 3 (fun j=>sL m f g (i:Nat) (g i) (f i) (j:Nat)) (fun j=>nS l t k d (fp (f i) ((i+1:Nat):Int) z j)::H) (g i) (fun j=>np l (fp (f i) ((i+1:Nat):Int) z j) (f i j)) (fun j=>([(4,.ptr 0 1 0 0),(5,.int .i64 15)],vL l t k d (fp (f i) ((i+1:Nat):Int) z j)::H)) _ (by omega) (fun j hj=>?_) ?_
 · refine aH (MP n l k t d (fp (f i) ((i+1:Nat):Int) z j) m f g (i:Nat) (g i) (f i) (j:Nat) H) (ar n) (af _ _) (ag _ _) ?_
   show Tr.all _ (fun r=>if np l (fp (f i) ((i+1:Nat):Int) z j) (f i j)=true then _ else _∧tidy _ _ _=(sL m f g (i:Nat) (g i) (f i) ((j+1:Nat):Int),nS l t k d (uI (fp (f i) ((i+1:Nat):Int) z j) (f i j).toNat ((i+1:Nat):Int))::H))
   have hZ:=Bs (o:=f i) (T:=((i+1:Nat):Int)) (by omega) hz j
   rw[db (j:=j) (by omega),db (j:=i) (by omega)]
   simp only[jB]
   generalize fp (f i) ((i+1:Nat):Int) z j=Z at *
   have hrj:=hr j hj
   obtain ⟨c,hc⟩:∃ c:Nat,f i j=c:=⟨(f i j).toNat,by omega⟩
   rw[hc] at hrj ⊢
   have e1:(decide (0≤(c:Int)) && decide ((c:Int)<l))=true:=by rw[decide_eq_true hrj.1,decide_eq_true hrj.2];rfl
   rw[Int.toNat_natCast]
   have hZc:=hZ c
   simp only[jB,ue]
   by_cases h0:Z c=0
   · have eb:np l Z (c:Int)=false:=by unfold np;rw[e1,Int.toNat_natCast,decide_eq_false (by simpa using h0)];rfl
     rw[eb]
     simp only[Bool.false_eq_true,if_false]
     generalize uI Z c ((i+1:Nat):Int)=Z2 at *
     exact wF
   · have eb:np l Z (c:Int)=true:=by unfold np;rw[e1,Int.toNat_natCast,decide_eq_true h0];rfl
     rw[eb]
     simp only[if_true]
     exact wF
 · exact dc (MP n l k t d (fp (f i) ((i+1:Nat):Int) z (g i)) m f g (i:Nat) (g i) (f i) (Int.ofNat (g i)) H) (ar n) (af _ _) (ag _ _) (by first | (simp (disch:=omega) only[nV,nW];done) | (simp (disch:=omega) only[nV,nW];omega))
theorem Tj (hm:m≤40) (hl:l≤30) (hg:∀ i,i<m→g i<1000) (hr:∀ i,i<m→∀ j,j<g i→0≤f i j∧f i j<l):∃ X:Nat→Nat→Int,exec (bp n 60 61) (.block 1 (.loop (part Try.f60 [1,1,1,1,0,1,0,0]))) (yx m f g ((0:Nat):Int)) (nS l t k d (cJ f g 0)::H)=some (cond (bV (mN l f g) m) (.ret,[(4,.ptr 0 1 0 0),(5,.int .i64 15)],vL l t k d (X (fN (mN l f g) m 0))::H) (.normal,yx m f g (Int.ofNat m)++[(39,.bool false)],nS l t k d (cJ f g m)::H)):=by
 refine ⟨fun i=>fp (f i) ((i+1:Nat):Int) (cJ f g i) (fN (fun j=>np l (fp (f i) ((i+1:Nat):Int) (cJ f g i) j) (f i j)) (g i) 0),?_⟩
 refine iG (n:=n) (f:=60) (nt:=61) (c:=part Try.f60 [1,1,1,1,0,1,0,0]) 1 (fun i=>yx m f g (i:Nat)) (fun i=>nS l t k d (cJ f g i)::H) m (mN l f g) (fun i=>([(4,.ptr 0 1 0 0),(5,.int .i64 15)],vL l t k d (fp (f i) ((i+1:Nat):Int) (cJ f g i) (fN (fun j=>np l (fp (f i) ((i+1:Nat):Int) (cJ f g i) j) (f i j)) (g i) 0))::H)) _ (by omega) (fun i hi=>?_) ?_
 · have hx:=OW n l k t d (cJ f g i) m f g H i hi hm hl (hg i hi) (hr i hi) (GG f g i)
   refine aH (PN n l k t d (cJ f g i) (fp (f i) ((i+1:Nat):Int) (cJ f g i) (fN (fun j=>np l (fp (f i) ((i+1:Nat):Int) (cJ f g i) j) (f i j)) (g i) 0)) (cJ f g (i+1)) m f g (i:Nat) (Int.ofNat (g i)) (mN l f g i) H) (ar _) (aF (af _ _) Lj (fun x hy=>dz hy (by rw[jB];exact hx))) (ag _ _) ?_
   show Tr.all _ (fun r=>if mN l f g i=true then _ else _∧tidy _ _ _=(yx m f g ((i+1:Nat):Int),nS l t k d (cJ f g (i+1))::H))
   rw[db (j:=i) (by omega)]
   simp only[jB]
   clear hx
   generalize mN l f g i=B at *
   generalize cJ f g (i+1)=Z2 at *
   generalize fp (f i) ((i+1:Nat):Int) (cJ f g i) (fN (fun j=>np l (fp (f i) ((i+1:Nat):Int) (cJ f g i) j) (f i j)) (g i) 0)=Z1 at *
   cases B with
   | true =>
     simp only[if_true]
     exact wF
   | false =>
     simp only[Bool.false_eq_true,if_false]
     exact wF
 · exact dc (PM n l k t d (cJ f g m) m f g (Int.ofNat m) H) (ar n) (aF (af _ _) Lj (fun x hx=>(Tr.ae hx).elim)) (ag _ _) (by first | (simp (disch:=omega) only[nV,nW];done) | (simp (disch:=omega) only[nV,nW];omega))
end
noncomputable def nn (l m:Nat) (f:Nat→Nat→Int) (g:Nat→Nat):Int:=if 40<m then 6 else if bV (mN l f g) m=true∨bu g m≠l then 15 else 0
theorem Gv (l m:Nat) (f:Nat→Nat→Int) (g:Nat→Nat):Nl l m f g=if nn l m f g=0 then .tup [cA l (cJ f g m) true,.int .i64 0] else .tup [.nils,.int .i64 (nn l m f g)]:=by
 unfold Nl nn
 split
 · rfl
 · split
   · rfl
   · rfl
noncomputable def Ej (l m:Nat) (f:Nat→Nat→Int) (g:Nat→Nat):AV:=if nn l m f g=0 then .tup [.agg (.M [.arr .i64 (fF (cJ f g m)) 30]),.int .i64 0] else .tup [.agg (.M [.arr .i64 (fF (fun _=>Int.ofNat 0)) 30]),.int .i64 (nn l m f g)]
theorem AA {l m:Nat} {f:Nat→Nat→Int} {g:Nat→Nat} {i j:Nat} (hi:i<m) (hj:j<g i) (h:¬ (0≤f i j∧f i j<l)):bV (mN l f g) m=true:=by
 refine (dj _ _).2 ⟨i,hi,(dj _ _).2 ⟨j,hj,?_⟩⟩
 unfold np
 have:(decide (0≤f i j) && decide (f i j<l))=false:=by
  cases hx:(decide (0≤f i j) && decide (f i j<l)) with
  | false=>rfl
  | true =>
    simp only[Bool.and_eq_true,decide_eq_true_eq] at hx
    exact absurd hx h
 rw[this];rfl
theorem Rg (n l k:Nat) (t d:Nat→Int) (m:Nat) (f:Nat→Nat→Int) (g:Nat→Nat) (H:aa) (h0:0<l) (hl:l≤30) (hm:m≤50) (hg:∀ i,i<m→g i≤40):cd (n+6) (.fn 60) [bR l t k d,dK m f g] H=some (Ej l m f g,H):=by
 have ht:=pH (g:=g) (B:=40) m hg
 have h84:∀ q H,cd (n+5+q) (.fn 84) [dK m f g] H=some (JH m f g,H):=fun q H=>by
  rw[show n+5+q=(n+3+q)+2 by omega]
  exact Ro _ m f g H (by omega) (fun j hj=>by have:=hg j hj;omega)
 have eerr:nn l m f g≠0→Ej l m f g=.tup [.agg (.M [.arr .i64 (fF (fun _=>Int.ofNat 0)) 30]),.int .i64 (nn l m f g)]:=fun h=>by unfold Ej;rw[if_neg h]
 have e6:40<m→nn l m f g=6:=fun h=>by unfold nn;rw[if_pos h]
 have e15:¬ 40<m→(bV (mN l f g) m=true∨bu g m≠l)→nn l m f g=15:=fun h h2=>by unfold nn;rw[if_neg h,if_pos h2]
 by_cases hN:bu g m=0
 · have hn:JH m f g=.nils:=by unfold JH;rw[if_pos hN]
   refine aC (n:=n+5) Try.func60 rfl rfl rfl (P9 (n+5) l k t d m f g H) (aQ _ (n+5) (bo (aB _) (fun H=>by rw[← hn];exact h84 0 H))) (aF (af _ _) Nx (fun x hx=>(Tr.ae hx).elim)) (ag _ _) ?_
   by_cases c:40<m
   · rw[eerr (by rw[e6 c];decide),e6 c]
     exact wF
   · rw[eerr (by rw[e15 c (.inr (by omega))];decide),e15 c (.inr (by omega))]
     exact wF
 · have hn:JH m f g=cA (bu g m) (lX f g m) false:=by unfold JH;rw[if_neg hN]
   by_cases hA:40<m∨bu g m≠l
   · refine aC (n:=n+5) Try.func60 rfl rfl rfl (P7 (n+5) l k t d m f g (bu g m) (lX f g m) H) (aQ _ (n+5) (bo (aB _) (fun H=>by rw[← hn];exact h84 0 H))) (aF (af _ _) Nx (fun x hx=>(Tr.ae hx).elim)) (ag _ _) ?_
     by_cases c:40<m
     · rw[eerr (by rw[e6 c];decide),e6 c]
       generalize lX f g m=Z at *
       generalize bu g m=N at *
       exact wF
     · have hNl:=hA.resolve_left c
       rw[eerr (by rw[e15 c (.inr hNl)];decide),e15 c (.inr hNl)]
       generalize lX f g m=Z at *
       generalize bu g m=N at *
       exact wF
   · have c:¬ 40<m:=fun h=>hA (.inl h)
     have hNl:bu g m=l:=Classical.byContradiction (fun h=>hA (.inr h))
     have h56:∀ H,cd (n+5) (.fn 56) [.int .i64 0,.int .i64 (bC .i64 (Int.ofNat l) 1),cA (bu g m) (lX f g m) false] H=some (.bool (!bV (fun j=>fe 0 (bC .i64 (Int.ofNat l) 1) (lX f g m j)) (bu g m)),H):=fun H=>QF n (bu g m) (lX f g m) false 0 _ H (by omega)
     have esub:bC .i64 (Int.ofNat l) 1=(l:Int)-1:=rH (by show _≤(l:Int)-1;omega) (by show (l:Int)-1≤_;omega)
     cases hx:bV (fun j=>fe 0 (bC .i64 (Int.ofNat l) 1) (lX f g m j)) (bu g m) with
     | true =>
       rw[hx] at h56
       have hb:bV (mN l f g) m=true:=by
        apply Classical.byContradiction
        intro hnb
        have hall:∀ i,i<m→∀ j,j<g i→0≤f i j∧f i j<l:=fun i hi j hj=>Classical.byContradiction (fun h=>hnb (AA hi hj h))
        obtain ⟨a,a1,a2⟩:=(dj _ _).1 hx
        have:=(wx f g (fun x=>0≤x∧x<l) m).2 (fun j hj i hi=>hall j hj i hi) a a1
        unfold fe at a2
        simp only[Bool.or_eq_true,decide_eq_true_eq] at a2
        omega
       refine aC (n:=n+5) Try.func60 rfl rfl rfl (P8 (n+5) l k t d m f g (bu g m) (lX f g m) false H) (aQ _ (n+5) (bo (bo (aB _) (fun H=>by rw[← hn];exact h84 0 H)) h56)) (aF (af _ _) Nx (fun x hx=>(Tr.ae hx).elim)) (ag _ _) ?_
       rw[eerr (by rw[e15 c (.inl hb)];decide),e15 c (.inl hb)]
       generalize lX f g m=Z at *
       generalize bu g m=N at *
       exact wF
     | false =>
       rw[hx] at h56
       have hall:∀ i,i<m→∀ j,j<g i→0≤f i j∧f i j<l:=by
        refine (wx f g (fun x=>0≤x∧x<l) m).1 (fun i hi=>?_)
        have:=dN hx i hi
        unfold fe at this
        simp only[Bool.or_eq_false_iff,decide_eq_false_iff_not] at this
        omega
       obtain ⟨X,hX⟩:=Tj (n+5) l k t d m f g H (by omega) hl (fun i hi=>by have:=hg i hi;omega) hall
       refine aC (n:=n+5) Try.func60 rfl rfl rfl (TW (n+5) l k t d (X (fN (mN l f g) m 0)) (cJ f g m) m f g (bu g m) (lX f g m) (Int.ofNat m) (bV (mN l f g) m) H) (aQ _ (n+5) (bo (bo (aB _) (fun H=>by rw[← hn];exact h84 0 H)) h56)) (aF (af _ _) Nx (fun x hy=>dz hy hX)) (ag _ _) ?_
       have e0:bV (mN l f g) m=false→Ej l m f g=.tup [.agg (.M [.arr .i64 (fF (cJ f g m)) 30]),.int .i64 0]:=fun h=>by
        have e00:nn l m f g=0:=by unfold nn;rw[if_neg c,if_neg (by rw[h];simp[hNl])]
        unfold Ej;rw[if_pos e00]
       have e1:bV (mN l f g) m=true→Ej l m f g=.tup [.agg (.M [.arr .i64 (fF (fun _=>Int.ofNat 0)) 30]),.int .i64 15]:=fun h=>by
        rw[eerr (by rw[e15 c (.inl h)];decide),e15 c (.inl h)]
       clear hX eerr e6 e15
       generalize Ej l m f g=A at *
       generalize X (fN (mN l f g) m 0)=X at *
       generalize bV (mN l f g) m=B at *
       generalize cJ f g m=Z2 at *
       generalize lX f g m=Z at *
       generalize bu g m=N at *
       cases B with
       | true =>
         rw[e1 rfl]
         exact wF
       | false =>
         rw[e0 rfl]
         exact wF
end Go.Eng
end
