/- Lay: turns of the program: its loops. -/
import Derived.Test.YtoomemfhcbajoaaV6Lb35x6
set_option linter.unusedVariables false
set_option linter.unusedSimpArgs false
set_option maxRecDepth 100000
section
namespace Go.Eng
open Go.Proofs
noncomputable def GO (z:Nat→Int):Nat×ai:=(0,.row (.M [.arr .i64 z 30]))
noncomputable def n7 (l:Nat) (t:Nat→Int) (k:Nat) (d z:Nat→Int):aT:=⟨false,[DB l t k d,GO (fun _=>Int.ofNat 0),GO z]⟩
noncomputable def v5 (l:Nat) (t:Nat→Int) (k:Nat) (d z:Nat→Int):aT:=⟨false,[DB l t k d,GO (eG (fun _=>Int.ofNat 0) 0 (fun _=>Int.ofNat 0) 30),GO z]⟩
noncomputable def yN (m:Nat) (f:Nat→Nat→Int) (g:Nat→Nat) (i:Int):aq:=[(4,.ptr 0 1 0 0),(6,.ptr 0 2 0 0),(36,dA m f g),(37,.int .i64 (Int.ofNat m)),(38,.int .i64 i)]
noncomputable def sW (m:Nat) (f:Nat→Nat→Int) (g:Nat→Nat) (i:Int) (q:Nat) (y:Nat→Int) (j:Int):aq:=[(4,.ptr 0 1 0 0),(6,.ptr 0 2 0 0),(8,.int .i64 i),(36,dA m f g),(37,.int .i64 (Int.ofNat m)),(38,.int .i64 i),(43,b6 q y false),(44,.int .i64 (Int.ofNat q)),(45,.int .i64 j)]
theorem NL (n l k:Nat) (t d z:Nat→Int) (m:Nat) (f:Nat→Nat→Int) (g:Nat→Nat) (i:Int) (q:Nat) (y:Nat→Int) (j:Int) (H:aa):aJ (bn n 60 61) (il aE n 0) aG aH (part Try.f60 [1,1,1,1,0,1,0,0,1,1,0,0,1,1,0,0]) (hints (sW m f g i q y j)) (n7 l t k d z::H) =
 (fun (Z0:Nat×ai)=>((fun (Z1:Nat×AV×Option Nat)=>Tr.ite (bK j (Int.ofNat q)) (Tr.req (cE j q) (Tr.req (cr (au 0 j 1) q) (Tr.req (cE (y (au 0 j 1)) 30) (Tr.req (b9 0 0) (Tr.req (cr (au 0 (y (au 0 j 1)) 1) 30) (Tr.ite (bK (Int.ofNat 0) (z (au 0 (y (au 0 j 1)) 1))) (Tr.req (gq 0 30 0 30) (Tr.ok (Ex.ret,[(4,AV.ptr 0 1 0 0,none),(5,AV.int .i64 (Int.ofNat 15),some 1)],{ lock:=false,bs:=[Z0,(0,ai.row (Row.M [ah.arr .i64 (eG (fun x=>Int.ofNat 0) 0 (fun x=>Int.ofNat 0) 30) 30])),(0,ai.row (Row.M [ah.arr .i64 z 30]))] } :: H))) (Tr.req (cE (y (au 0 j 1)) 30) (Tr.req (b9 0 0) (Tr.req (cr (au 0 (y (au 0 j 1)) 1) 30) (Tr.ok (Ex.normal,[(4,AV.ptr 0 1 0 0,none),(6,AV.ptr 0 2 0 0,none),(8,AV.int .i64 i,none),Z1,(37,AV.int .i64 (Int.ofNat m),none),(38,AV.int .i64 i,none),(43,AV.slcT none (Row.M [ah.arr .i64 y q]) 1 q false,none),(44,AV.int .i64 (Int.ofNat q),none),(45,AV.int .i64 (bA .i64 j (Int.ofNat 1)),none)],{ lock:=false,bs:=[Z0,(0,ai.row (Row.M [ah.arr .i64 (fun x=>Int.ofNat 0) 30])),(0,ai.row (Row.M [ah.arr .i64 (fX z (au 0 (y (au 0 j 1)) 1) (bA .i64 i (Int.ofNat 1))) 30]))] } :: H))))))))))) (Tr.ok (Ex.exit 3,[(4,AV.ptr 0 1 0 0,none),(6,AV.ptr 0 2 0 0,none),(8,AV.int .i64 i,none),Z1,(37,AV.int .i64 (Int.ofNat m),none),(38,AV.int .i64 i,none),(43,AV.slcT none (Row.M [ah.arr .i64 y q]) 1 q false,none),(44,AV.int .i64 (Int.ofNat q),none),(45,AV.int .i64 j,none),(46,AV.bool false,some 1)],{ lock:=false,bs:=[Z0,(0,ai.row (Row.M [ah.arr .i64 (fun x=>Int.ofNat 0) 30])),(0,ai.row (Row.M [ah.arr .i64 z 30]))] } :: H))) (36,AV.slcT none (Row.F (fun j=>AV.slcT none (Row.M [ah.arr .i64 (f j) (g j)]) 1 (g j) false) m) 1 m false,none))) (0,ai.row (Row.G [AV.slcT none (Row.M [ah.arr .i64 t l]) 1 l false,AV.slcT none (Row.M [ah.arr .i64 d k]) 1 k false])):=by kernel_rfl
theorem QR (n l k:Nat) (t d z:Nat→Int) (m:Nat) (f:Nat→Nat→Int) (g:Nat→Nat) (i:Int) (H:aa):aJ (bn n 60 61) (il aE n 0) (bS aG 3 [] [] .bad) aH (part Try.f60 [1,1,1,1,0,1,0,0]) (hints (yN m f g i)) (n7 l t k d z::H) =
 (fun (Z0:aT)=>((fun (Z1:Row)=>Tr.ite (bK i (Int.ofNat m)) (Tr.req (cE i m) (Tr.req (cr (au 0 i 1) m) (Tr.reqP ([(4,AV.ptr 0 1 0 0),(6,AV.ptr 0 2 0 0),(8,AV.int .i64 i),(36,AV.slcT none Z1 1 m false),(37,AV.int .i64 (Int.ofNat m)),(38,AV.int .i64 i),(43,AV.slcT none (Row.M [ah.arr .i64 (f (au 0 i 1)) (g (au 0 i 1))]) 1 (g (au 0 i 1)) false),(44,AV.int .i64 (Int.ofNat (g (au 0 i 1)))),(45,AV.int .i64 (Int.ofNat 0))]=[]∧Z0::H=[]) Tr.bad))) (Tr.ok (Ex.exit 1,[(4,AV.ptr 0 1 0 0,none),(6,AV.ptr 0 2 0 0,none),(36,AV.slcT none Z1 1 m false,none),(37,AV.int .i64 (Int.ofNat m),none),(38,AV.int .i64 i,none),(39,AV.bool false,some 1)],Z0::H))) (Row.F (fun j=>AV.slcT none (Row.M [ah.arr .i64 (f j) (g j)]) 1 (g j) false) m))) { lock:=false,bs:=[(0,ai.row (Row.G [AV.slcT none (Row.M [ah.arr .i64 t l]) 1 l false,AV.slcT none (Row.M [ah.arr .i64 d k]) 1 k false])),(0,ai.row (Row.M [ah.arr .i64 (fun x=>Int.ofNat 0) 30])),(0,ai.row (Row.M [ah.arr .i64 z 30]))] }:=by kernel_rfl
theorem QS (n l k:Nat) (t d z z1 z2:Nat→Int) (m:Nat) (f:Nat→Nat→Int) (g:Nat→Nat) (i:Int) (c:Int) (b:Bool) (H:aa):aJ (bn n 60 61) (il aE n 0) (bS aG 3 (sW m f g i (g (au 0 i 1)) (f (au 0 i 1)) 0) (n7 l t k d z::H) (.ite b (.ok (.ret,hints [(4,.ptr 0 1 0 0),(5,.int .i64 15)],v5 l t k d z1::H)) (.ok (.normal,hints (sW m f g i (g (au 0 i 1)) (f (au 0 i 1)) c++[(46,.bool false)]),n7 l t k d z2::H)))) aH (part Try.f60 [1,1,1,1,0,1,0,0]) (hints (yN m f g i)) (n7 l t k d z::H) =
 (fun (Z0:aT)=>((fun (Z1:aq)=>((fun (Z2:Nat×ai)=>((fun (Z3:Nat×AV×Option Nat)=>Tr.ite (bK i (Int.ofNat m)) (Tr.req (cE i m) (Tr.req (cr (au 0 i 1) m) (Tr.reqP (Z1=Z1∧Z0::H=Z0::H) (Tr.ite b (Tr.ok (Ex.ret,[(4,AV.ptr 0 1 0 0,none),(5,AV.int .i64 (Int.ofNat 15),none)],{ lock:=false,bs:=[Z2,(0,ai.row (Row.M [ah.arr .i64 (eG (fun x=>Int.ofNat 0) 0 (fun x=>Int.ofNat 0) 30) 30])),(0,ai.row (Row.M [ah.arr .i64 z1 30]))] } :: H)) (Tr.ok (Ex.normal,[(4,AV.ptr 0 1 0 0,none),(6,AV.ptr 0 2 0 0,none),Z3,(37,AV.int .i64 (Int.ofNat m),none),(38,AV.int .i64 (bA .i64 i (Int.ofNat 1)),none)],{ lock:=false,bs:=[Z2,(0,ai.row (Row.M [ah.arr .i64 (fun x=>Int.ofNat 0) 30])),(0,ai.row (Row.M [ah.arr .i64 z2 30]))] } :: H)))))) (Tr.ok (Ex.exit 1,[(4,AV.ptr 0 1 0 0,none),(6,AV.ptr 0 2 0 0,none),Z3,(37,AV.int .i64 (Int.ofNat m),none),(38,AV.int .i64 i,none),(39,AV.bool false,some 1)],Z0::H))) (36,AV.slcT none (Row.F (fun j=>AV.slcT none (Row.M [ah.arr .i64 (f j) (g j)]) 1 (g j) false) m) 1 m false,none))) (0,ai.row (Row.G [AV.slcT none (Row.M [ah.arr .i64 t l]) 1 l false,AV.slcT none (Row.M [ah.arr .i64 d k]) 1 k false])))) [(4,AV.ptr 0 1 0 0),(6,AV.ptr 0 2 0 0),(8,AV.int .i64 i),(36,AV.slcT none (Row.F (fun j=>AV.slcT none (Row.M [ah.arr .i64 (f j) (g j)]) 1 (g j) false) m) 1 m false),(37,AV.int .i64 (Int.ofNat m)),(38,AV.int .i64 i),(43,AV.slcT none (Row.M [ah.arr .i64 (f (au 0 i 1)) (g (au 0 i 1))]) 1 (g (au 0 i 1)) false),(44,AV.int .i64 (Int.ofNat (g (au 0 i 1)))),(45,AV.int .i64 (Int.ofNat 0))])) { lock:=false,bs:=[(0,ai.row (Row.G [AV.slcT none (Row.M [ah.arr .i64 t l]) 1 l false,AV.slcT none (Row.M [ah.arr .i64 d k]) 1 k false])),(0,ai.row (Row.M [ah.arr .i64 (fun x=>Int.ofNat 0) 30])),(0,ai.row (Row.M [ah.arr .i64 z 30]))] }:=by kernel_rfl
theorem Rg (n l k:Nat) (t d:Nat→Int) (m:Nat) (f:Nat→Nat→Int) (g:Nat→Nat) (H:aa):aX Try.prog (cd n) 100000 60 Try.f60 (KtL.kt 60) (il (tX aE 84 [dA m f g] .nils) n 0) (bS aG 1 [] [] .bad) aH [(b5 l t k d,none),(dA m f g,none)] H =
 (fun (Z0:List AV)=>((fun (Z1:Row)=>Tr.reqP (Z0=Z0) (Tr.ite (bK (Int.ofNat 40) (Int.ofNat m)) (Tr.req (gq 0 30 0 30) (Tr.ok ((AV.tup [AV.agg Z1,AV.int .i64 (Int.ofNat 6)],none),H))) (Tr.ite (aP (b7 (Int.ofNat 0) (Int.ofNat l))) (Tr.req (gq 0 30 0 30) (Tr.ok ((AV.tup [AV.agg Z1,AV.int .i64 (Int.ofNat 15)],none),H))) Tr.bad))) (Row.M [ah.arr .i64 (eG (fun x=>Int.ofNat 0) 0 (fun x=>Int.ofNat 0) 30) 30]))) [AV.slcT none (Row.F (fun j=>AV.slcT none (Row.M [ah.arr .i64 (f j) (g j)]) 1 (g j) false) m) 1 m false]:=by kernel_rfl
theorem Rd (n l k:Nat) (t d:Nat→Int) (m:Nat) (f:Nat→Nat→Int) (g:Nat→Nat) (N:Nat) (Z:Nat→Int) (H:aa):aX Try.prog (cd n) 100000 60 Try.f60 (KtL.kt 60) (il (tX aE 84 [dA m f g] (b6 N Z false)) n 0) (bS aG 1 [] [] .bad) aH [(b5 l t k d,none),(dA m f g,none)] H =
 (fun (Z0:List AV)=>((fun (Z1:Row)=>Tr.reqP (Z0=Z0) (Tr.ite (bK (Int.ofNat 40) (Int.ofNat m)) (Tr.req (gq 0 30 0 30) (Tr.ok ((AV.tup [AV.agg Z1,AV.int .i64 (Int.ofNat 6)],none),H))) (Tr.ite (aP (b7 (Int.ofNat N) (Int.ofNat l))) (Tr.req (gq 0 30 0 30) (Tr.ok ((AV.tup [AV.agg Z1,AV.int .i64 (Int.ofNat 15)],none),H))) Tr.bad))) (Row.M [ah.arr .i64 (eG (fun x=>Int.ofNat 0) 0 (fun x=>Int.ofNat 0) 30) 30]))) [AV.slcT none (Row.F (fun j=>AV.slcT none (Row.M [ah.arr .i64 (f j) (g j)]) 1 (g j) false) m) 1 m false]:=by kernel_rfl
theorem Re (n l k:Nat) (t d:Nat→Int) (m:Nat) (f:Nat→Nat→Int) (g:Nat→Nat) (N:Nat) (Z:Nat→Int) (b:Bool) (H:aa):aX Try.prog (cd n) 100000 60 Try.f60 (KtL.kt 60) (il (tX (tX aE 84 [dA m f g] (b6 N Z false)) 56 [.int .i64 0,.int .i64 (br .i64 (Int.ofNat l) 1),b6 N Z false] (.bool b)) n 0) (bS aG 1 [] [] .bad) aH [(b5 l t k d,none),(dA m f g,none)] H =
 (fun (Z0:Row)=>((fun (Z1:Row)=>((fun (Z2:List AV)=>Tr.reqP ([AV.slcT none Z1 1 m false]=[AV.slcT none Z1 1 m false]) (Tr.ite (bK (Int.ofNat 40) (Int.ofNat m)) (Tr.req (gq 0 30 0 30) (Tr.ok ((AV.tup [AV.agg Z0,AV.int .i64 (Int.ofNat 6)],none),H))) (Tr.ite (aP (b7 (Int.ofNat N) (Int.ofNat l))) (Tr.req (gq 0 30 0 30) (Tr.ok ((AV.tup [AV.agg Z0,AV.int .i64 (Int.ofNat 15)],none),H))) (Tr.reqP (Z2=Z2) (Tr.ite (aP b) (Tr.req (gq 0 30 0 30) (Tr.ok ((AV.tup [AV.agg Z0,AV.int .i64 (Int.ofNat 15)],none),H))) (Tr.reqP ([(4,AV.ptr 0 1 0 0),(6,AV.ptr 0 2 0 0),(36,AV.slcT none Z1 1 m false),(37,AV.int .i64 (Int.ofNat m)),(38,AV.int .i64 (Int.ofNat 0))]=[]∧{ lock:=false,bs:=[(0,ai.row (Row.G [AV.slcT none (Row.M [ah.arr .i64 t l]) 1 l false,AV.slcT none (Row.M [ah.arr .i64 d k]) 1 k false])),(0,ai.row (Row.M [ah.arr .i64 (fun x=>Int.ofNat 0) 30])),(0,ai.row (Row.M [ah.arr .i64 (fun x=>Int.ofNat 0) 30]))] } :: H=[]) Tr.bad)))))) [AV.int .i64 (Int.ofNat 0),AV.int .i64 (br .i64 (Int.ofNat l) (Int.ofNat 1)),AV.slcT none (Row.M [ah.arr .i64 Z N]) 1 N false])) (Row.F (fun j=>AV.slcT none (Row.M [ah.arr .i64 (f j) (g j)]) 1 (g j) false) m))) (Row.M [ah.arr .i64 (eG (fun x=>Int.ofNat 0) 0 (fun x=>Int.ofNat 0) 30) 30]):=by kernel_rfl
theorem U8 (n l k:Nat) (t d z1 z2:Nat→Int) (m:Nat) (f:Nat→Nat→Int) (g:Nat→Nat) (N:Nat) (Z:Nat→Int) (c:Int) (b:Bool) (H:aa):aX Try.prog (cd n) 100000 60 Try.f60 (KtL.kt 60) (il (tX (tX aE 84 [dA m f g] (b6 N Z false)) 56 [.int .i64 0,.int .i64 (br .i64 (Int.ofNat l) 1),b6 N Z false] (.bool true)) n 0) (bS aG 1 (yN m f g 0) (n7 l t k d (fun _=>Int.ofNat 0)::H) (.ite b (.ok (.ret,hints [(4,.ptr 0 1 0 0),(5,.int .i64 15)],v5 l t k d z1::H)) (.ok (.normal,hints (yN m f g c++[(39,.bool false)]),n7 l t k d z2::H)))) aH [(b5 l t k d,none),(dA m f g,none)] H =
 (fun (Z0:aT)=>((fun (Z1:AV×Option Nat)=>((fun (Z2:Row)=>((fun (Z3:aq)=>((fun (Z4:List AV)=>Tr.reqP ([AV.slcT none Z2 1 m false]=[AV.slcT none Z2 1 m false]) (Tr.ite (bK (Int.ofNat 40) (Int.ofNat m)) (Tr.req (gq 0 30 0 30) (Tr.ok ((AV.tup [AV.agg (Row.M [ah.arr .i64 (eG (fun x=>Int.ofNat 0) 0 (fun x=>Int.ofNat 0) 30) 30]),AV.int .i64 (Int.ofNat 6)],none),H))) (Tr.ite (aP (b7 (Int.ofNat N) (Int.ofNat l))) (Tr.req (gq 0 30 0 30) (Tr.ok (Z1,H))) (Tr.reqP (Z4=Z4) (Tr.ite (aP true) (Tr.req (gq 0 30 0 30) (Tr.ok (Z1,H))) (Tr.reqP (Z3=Z3∧Z0::H=Z0::H) (Tr.ite b (Tr.ok (Z1,H)) (Tr.req (gq 0 30 0 30) (Tr.ok ((AV.tup [AV.agg (Row.M [ah.arr .i64 (eG (fun x=>Int.ofNat 0) 0 z2 30) 30]),AV.int .i64 (Int.ofNat 0)],none),H)))))))))) [AV.int .i64 (Int.ofNat 0),AV.int .i64 (br .i64 (Int.ofNat l) (Int.ofNat 1)),AV.slcT none (Row.M [ah.arr .i64 Z N]) 1 N false])) [(4,AV.ptr 0 1 0 0),(6,AV.ptr 0 2 0 0),(36,AV.slcT none Z2 1 m false),(37,AV.int .i64 (Int.ofNat m)),(38,AV.int .i64 (Int.ofNat 0))])) (Row.F (fun j=>AV.slcT none (Row.M [ah.arr .i64 (f j) (g j)]) 1 (g j) false) m))) (AV.tup [AV.agg (Row.M [ah.arr .i64 (eG (fun x=>Int.ofNat 0) 0 (fun x=>Int.ofNat 0) 30) 30]),AV.int .i64 (Int.ofNat 15)],none))) { lock:=false,bs:=[(0,ai.row (Row.G [AV.slcT none (Row.M [ah.arr .i64 t l]) 1 l false,AV.slcT none (Row.M [ah.arr .i64 d k]) 1 k false])),(0,ai.row (Row.M [ah.arr .i64 (fun x=>Int.ofNat 0) 30])),(0,ai.row (Row.M [ah.arr .i64 (fun x=>Int.ofNat 0) 30]))] }:=by kernel_rfl
theorem Ot:∀ b,(1,b) ∈ aI (bj Try.f60)→b=.loop (part Try.f60 [1,1,1,1,0,1,0,0]):=ep (by kernel_rfl)
theorem LX:∀ b,(3,b) ∈ aI (part Try.f60 [1,1,1,1,0,1,0,0])→b=.loop (part Try.f60 [1,1,1,1,0,1,0,0,1,1,0,0,1,1,0,0]):=ep (by kernel_rfl)
theorem BM {o:Nat→Int} {T:Int} {z:Nat→Int} (hT:0≤T) (hz:∀ c,0≤z c):∀ j c,0≤fA o T z j c
 | 0,c=>hz c
 | j+1,c=>by
   show 0≤uI (fA o T z j) (o j).toNat T c
   unfold uI
   split
   · exact hT
   · exact BM hT hz j c
theorem Hd (f:Nat→Nat→Int) (g:Nat→Nat):∀ i c,0≤cg f g i c
 | 0,c=>by show 0≤Int.ofNat 0;decide
 | i+1,c=>BM (by omega) (Hd f g i) _ c
noncomputable def fO (z:Nat→Int):Nat→Int:=eG (fun _=>Int.ofNat 0) 0 z 30
section
variable (n l k:Nat) (t d z:Nat→Int) (m:Nat) (f:Nat→Nat→Int) (g:Nat→Nat) (H:aa)
theorem PW (i:Nat) (hi:i<m) (hm:m≤40) (hl:l≤30) (hg:g i<1000) (hr:∀ j,j<g i→0≤f i j∧f i j<l) (hz:∀ c,0≤z c):exec (bn n 60 61) (.block 3 (.loop (part Try.f60 [1,1,1,1,0,1,0,0,1,1,0,0,1,1,0,0]))) (sW m f g (i:Nat) (g i) (f i) ((0:Nat):Int)) (n7 l t k d z::H)=some (cond (bV (fun j=>ny l (fA (f i) ((i+1:Nat):Int) z j) (f i j)) (g i)) (.ret,[(4,.ptr 0 1 0 0),(5,.int .i64 15)],v5 l t k d (fA (f i) ((i+1:Nat):Int) z (fN (fun j=>ny l (fA (f i) ((i+1:Nat):Int) z j) (f i j)) (g i) 0))::H) (.normal,sW m f g (i:Nat) (g i) (f i) (Int.ofNat (g i))++[(46,.bool false)],n7 l t k d (fA (f i) ((i+1:Nat):Int) z (g i))::H)):=by
 refine iv (n:=n) (f:=60) (nt:=61) (c:=part Try.f60 [1,1,1,1,0,1,0,0,1,1,0,0,1,1,0,0]) 3 (fun j=>sW m f g (i:Nat) (g i) (f i) (j:Nat)) (fun j=>n7 l t k d (fA (f i) ((i+1:Nat):Int) z j)::H) (g i) (fun j=>ny l (fA (f i) ((i+1:Nat):Int) z j) (f i j)) (fun j=>([(4,.ptr 0 1 0 0),(5,.int .i64 15)],v5 l t k d (fA (f i) ((i+1:Nat):Int) z j)::H)) _ (by omega) (fun j hj=>?_) ?_
 · refine aB (NL n l k t d (fA (f i) ((i+1:Nat):Int) z j) m f g (i:Nat) (g i) (f i) (j:Nat) H) (ao n) (af _ _) (ag _ _) ?_
   show Tr.all _ (fun r=>if ny l (fA (f i) ((i+1:Nat):Int) z j) (f i j)=true then _ else _∧tidy _ _ _=(sW m f g (i:Nat) (g i) (f i) ((j+1:Nat):Int),n7 l t k d (uI (fA (f i) ((i+1:Nat):Int) z j) (f i j).toNat ((i+1:Nat):Int))::H))
   have hZ:=BM (o:=f i) (T:=((i+1:Nat):Int)) (by omega) hz j
   rw[c7 (j:=j) (by omega),c7 (j:=i) (by omega)]
   simp only[iS]
   generalize fA (f i) ((i+1:Nat):Int) z j=Z at *
   have hrj:=hr j hj
   obtain ⟨c,hc⟩:∃ c:Nat,f i j=c:=⟨(f i j).toNat,by omega⟩
   rw[hc] at hrj ⊢
   have e1:(decide (0≤(c:Int)) && decide ((c:Int)<l))=true:=by rw[decide_eq_true hrj.1,decide_eq_true hrj.2];rfl
   rw[Int.toNat_natCast]
   have hZc:=hZ c
   simp only[iS,uy]
   by_cases h0:Z c=0
   · have eb:ny l Z (c:Int)=false:=by unfold ny;rw[e1,Int.toNat_natCast,decide_eq_false (by simpa using h0)];rfl
     rw[eb]
     simp only[Bool.false_eq_true,if_false]
     generalize uI Z c ((i+1:Nat):Int)=Z2 at *
     exact wF
   · have eb:ny l Z (c:Int)=true:=by unfold ny;rw[e1,Int.toNat_natCast,decide_eq_true h0];rfl
     rw[eb]
     simp only[if_true]
     exact wF
 · exact cO (NL n l k t d (fA (f i) ((i+1:Nat):Int) z (g i)) m f g (i:Nat) (g i) (f i) (Int.ofNat (g i)) H) (ao n) (af _ _) (ag _ _) (by first | (simp (disch:=omega) only[nV,nW];done) | (simp (disch:=omega) only[nV,nW];omega))
theorem Uw (hm:m≤40) (hl:l≤30) (hg:∀ i,i<m→g i<1000) (hr:∀ i,i<m→∀ j,j<g i→0≤f i j∧f i j<l):∃ X:Nat→Nat→Int,exec (bn n 60 61) (.block 1 (.loop (part Try.f60 [1,1,1,1,0,1,0,0]))) (yN m f g ((0:Nat):Int)) (n7 l t k d (cg f g 0)::H)=some (cond (bV (mU l f g) m) (.ret,[(4,.ptr 0 1 0 0),(5,.int .i64 15)],v5 l t k d (X (fN (mU l f g) m 0))::H) (.normal,yN m f g (Int.ofNat m)++[(39,.bool false)],n7 l t k d (cg f g m)::H)):=by
 refine ⟨fun i=>fA (f i) ((i+1:Nat):Int) (cg f g i) (fN (fun j=>ny l (fA (f i) ((i+1:Nat):Int) (cg f g i) j) (f i j)) (g i) 0),?_⟩
 refine iv (n:=n) (f:=60) (nt:=61) (c:=part Try.f60 [1,1,1,1,0,1,0,0]) 1 (fun i=>yN m f g (i:Nat)) (fun i=>n7 l t k d (cg f g i)::H) m (mU l f g) (fun i=>([(4,.ptr 0 1 0 0),(5,.int .i64 15)],v5 l t k d (fA (f i) ((i+1:Nat):Int) (cg f g i) (fN (fun j=>ny l (fA (f i) ((i+1:Nat):Int) (cg f g i) j) (f i j)) (g i) 0))::H)) _ (by omega) (fun i hi=>?_) ?_
 · have hx:=PW n l k t d (cg f g i) m f g H i hi hm hl (hg i hi) (hr i hi) (Hd f g i)
   refine aB (QS n l k t d (cg f g i) (fA (f i) ((i+1:Nat):Int) (cg f g i) (fN (fun j=>ny l (fA (f i) ((i+1:Nat):Int) (cg f g i) j) (f i j)) (g i) 0)) (cg f g (i+1)) m f g (i:Nat) (Int.ofNat (g i)) (mU l f g i) H) (ao _) (aA (af _ _) LX (fun x hy=>dk hy (by rw[iS];exact hx))) (ag _ _) ?_
   show Tr.all _ (fun r=>if mU l f g i=true then _ else _∧tidy _ _ _=(yN m f g ((i+1:Nat):Int),n7 l t k d (cg f g (i+1))::H))
   rw[c7 (j:=i) (by omega)]
   simp only[iS]
   clear hx
   generalize mU l f g i=B at *
   generalize cg f g (i+1)=Z2 at *
   generalize fA (f i) ((i+1:Nat):Int) (cg f g i) (fN (fun j=>ny l (fA (f i) ((i+1:Nat):Int) (cg f g i) j) (f i j)) (g i) 0)=Z1 at *
   cases B with
   | true =>
     simp only[if_true]
     exact wF
   | false =>
     simp only[Bool.false_eq_true,if_false]
     exact wF
 · exact cO (QR n l k t d (cg f g m) m f g (Int.ofNat m) H) (ao n) (aA (af _ _) LX (fun x hx=>(Tr.ae hx).elim)) (ag _ _) (by first | (simp (disch:=omega) only[nV,nW];done) | (simp (disch:=omega) only[nV,nW];omega))
end
noncomputable def nk (l m:Nat) (f:Nat→Nat→Int) (g:Nat→Nat):Int:=if 40<m then 6 else if bV (mU l f g) m=true∨bw g m≠l then 15 else 0
theorem BL (l m:Nat) (f:Nat→Nat→Int) (g:Nat→Nat):Oa l m f g=if nk l m f g=0 then .tup [b6 l (cg f g m) true,.int .i64 0] else .tup [.nils,.int .i64 (nk l m f g)]:=by
 unfold Oa nk
 split
 · rfl
 · split
   · rfl
   · rfl
noncomputable def EG (l m:Nat) (f:Nat→Nat→Int) (g:Nat→Nat):AV:=if nk l m f g=0 then .tup [.agg (.M [.arr .i64 (fO (cg f g m)) 30]),.int .i64 0] else .tup [.agg (.M [.arr .i64 (fO (fun _=>Int.ofNat 0)) 30]),.int .i64 (nk l m f g)]
theorem AX {l m:Nat} {f:Nat→Nat→Int} {g:Nat→Nat} {i j:Nat} (hi:i<m) (hj:j<g i) (h:¬ (0≤f i j∧f i j<l)):bV (mU l f g) m=true:=by
 refine (dm _ _).2 ⟨i,hi,(dm _ _).2 ⟨j,hj,?_⟩⟩
 unfold ny
 have:(decide (0≤f i j) && decide (f i j<l))=false:=by
  cases hx:(decide (0≤f i j) && decide (f i j<l)) with
  | false=>rfl
  | true =>
    simp only[Bool.and_eq_true,decide_eq_true_eq] at hx
    exact absurd hx h
 rw[this];rfl
theorem Sx (n l k:Nat) (t d:Nat→Int) (m:Nat) (f:Nat→Nat→Int) (g:Nat→Nat) (H:aa) (h0:0<l) (hl:l≤30) (hm:m≤50) (hg:∀ i,i<m→g i≤40):cd (n+6) (.fn 60) [b5 l t k d,dA m f g] H=some (EG l m f g,H):=by
 have ht:=pR (g:=g) (B:=40) m hg
 have h84:∀ q H,cd (n+5+q) (.fn 84) [dA m f g] H=some (Ki m f g,H):=fun q H=>by
  rw[show n+5+q=(n+3+q)+2 by omega]
  exact SF _ m f g H (by omega) (fun j hj=>by have:=hg j hj;omega)
 have eerr:nk l m f g≠0→EG l m f g=.tup [.agg (.M [.arr .i64 (fO (fun _=>Int.ofNat 0)) 30]),.int .i64 (nk l m f g)]:=fun h=>by unfold EG;rw[if_neg h]
 have e6:40<m→nk l m f g=6:=fun h=>by unfold nk;rw[if_pos h]
 have e15:¬ 40<m→(bV (mU l f g) m=true∨bw g m≠l)→nk l m f g=15:=fun h h2=>by unfold nk;rw[if_neg h,if_pos h2]
 by_cases hN:bw g m=0
 · have hn:Ki m f g=.nils:=by unfold Ki;rw[if_pos hN]
   refine aD (n:=n+5) Try.func60 rfl rfl rfl (Rg (n+5) l k t d m f g H) (aO _ (n+5) (bp (aF _) (fun H=>by rw[← hn];exact h84 0 H))) (aA (af _ _) Ot (fun x hx=>(Tr.ae hx).elim)) (ag _ _) ?_
   by_cases c:40<m
   · rw[eerr (by rw[e6 c];decide),e6 c]
     exact wF
   · rw[eerr (by rw[e15 c (.inr (by omega))];decide),e15 c (.inr (by omega))]
     exact wF
 · have hn:Ki m f g=b6 (bw g m) (mc f g m) false:=by unfold Ki;rw[if_neg hN]
   by_cases hA:40<m∨bw g m≠l
   · refine aD (n:=n+5) Try.func60 rfl rfl rfl (Rd (n+5) l k t d m f g (bw g m) (mc f g m) H) (aO _ (n+5) (bp (aF _) (fun H=>by rw[← hn];exact h84 0 H))) (aA (af _ _) Ot (fun x hx=>(Tr.ae hx).elim)) (ag _ _) ?_
     by_cases c:40<m
     · rw[eerr (by rw[e6 c];decide),e6 c]
       generalize mc f g m=Z at *
       generalize bw g m=N at *
       exact wF
     · have hNl:=hA.resolve_left c
       rw[eerr (by rw[e15 c (.inr hNl)];decide),e15 c (.inr hNl)]
       generalize mc f g m=Z at *
       generalize bw g m=N at *
       exact wF
   · have c:¬ 40<m:=fun h=>hA (.inl h)
     have hNl:bw g m=l:=Classical.byContradiction (fun h=>hA (.inr h))
     have h56:∀ H,cd (n+5) (.fn 56) [.int .i64 0,.int .i64 (br .i64 (Int.ofNat l) 1),b6 (bw g m) (mc f g m) false] H=some (.bool (!bV (fun j=>eJ 0 (br .i64 (Int.ofNat l) 1) (mc f g m j)) (bw g m)),H):=fun H=>RS n (bw g m) (mc f g m) false 0 _ H (by omega)
     have esub:br .i64 (Int.ofNat l) 1=(l:Int)-1:=qM (by show _≤(l:Int)-1;omega) (by show (l:Int)-1≤_;omega)
     cases hx:bV (fun j=>eJ 0 (br .i64 (Int.ofNat l) 1) (mc f g m j)) (bw g m) with
     | true =>
       rw[hx] at h56
       have hb:bV (mU l f g) m=true:=by
        apply Classical.byContradiction
        intro hnb
        have hall:∀ i,i<m→∀ j,j<g i→0≤f i j∧f i j<l:=fun i hi j hj=>Classical.byContradiction (fun h=>hnb (AX hi hj h))
        obtain ⟨a,a1,a2⟩:=(dm _ _).1 hx
        have:=(wN f g (fun x=>0≤x∧x<l) m).2 (fun j hj i hi=>hall j hj i hi) a a1
        unfold eJ at a2
        simp only[Bool.or_eq_true,decide_eq_true_eq] at a2
        omega
       refine aD (n:=n+5) Try.func60 rfl rfl rfl (Re (n+5) l k t d m f g (bw g m) (mc f g m) false H) (aO _ (n+5) (bp (bp (aF _) (fun H=>by rw[← hn];exact h84 0 H)) h56)) (aA (af _ _) Ot (fun x hx=>(Tr.ae hx).elim)) (ag _ _) ?_
       rw[eerr (by rw[e15 c (.inl hb)];decide),e15 c (.inl hb)]
       generalize mc f g m=Z at *
       generalize bw g m=N at *
       exact wF
     | false =>
       rw[hx] at h56
       have hall:∀ i,i<m→∀ j,j<g i→0≤f i j∧f i j<l:=by
        refine (wN f g (fun x=>0≤x∧x<l) m).1 (fun i hi=>?_)
        have:=dR hx i hi
        unfold eJ at this
        simp only[Bool.or_eq_false_iff,decide_eq_false_iff_not] at this
        omega
       obtain ⟨X,hX⟩:=Uw (n+5) l k t d m f g H (by omega) hl (fun i hi=>by have:=hg i hi;omega) hall
       refine aD (n:=n+5) Try.func60 rfl rfl rfl (U8 (n+5) l k t d (X (fN (mU l f g) m 0)) (cg f g m) m f g (bw g m) (mc f g m) (Int.ofNat m) (bV (mU l f g) m) H) (aO _ (n+5) (bp (bp (aF _) (fun H=>by rw[← hn];exact h84 0 H)) h56)) (aA (af _ _) Ot (fun x hy=>dk hy hX)) (ag _ _) ?_
       have e0:bV (mU l f g) m=false→EG l m f g=.tup [.agg (.M [.arr .i64 (fO (cg f g m)) 30]),.int .i64 0]:=fun h=>by
        have e00:nk l m f g=0:=by unfold nk;rw[if_neg c,if_neg (by rw[h];simp[hNl])]
        unfold EG;rw[if_pos e00]
       have e1:bV (mU l f g) m=true→EG l m f g=.tup [.agg (.M [.arr .i64 (fO (fun _=>Int.ofNat 0)) 30]),.int .i64 15]:=fun h=>by
        rw[eerr (by rw[e15 c (.inl h)];decide),e15 c (.inl h)]
       clear hX eerr e6 e15
       generalize EG l m f g=A at *
       generalize X (fN (mU l f g) m 0)=X at *
       generalize bV (mU l f g) m=B at *
       generalize cg f g m=Z2 at *
       generalize mc f g m=Z at *
       generalize bw g m=N at *
       cases B with
       | true =>
         rw[e1 rfl]
         exact wF
       | false =>
         rw[e0 rfl]
         exact wF
end Go.Eng
end
section
namespace Go.Eng
open Go.Proofs
noncomputable def fi (l:Nat) (t:Nat→Int) (k:Nat) (d z:Nat→Int) (h:Int):aT:=⟨false,[DB l t k d,yg h,GO z]⟩
noncomputable def f68 (q:Nat):AV:=.fn (.func 68) [] [.ptr q 1 0 0]
noncomputable def DV (m:Nat) (f:Nat→Nat→Int) (g:Nat→Nat) (j:Int):aq:=[(0,dA m f g),(1,f68 2),(7,.int .i64 (Int.ofNat m)),(8,.int .i64 j)]
noncomputable def yK (l:Nat) (t:Nat→Int) (b:Bool) (j:Int):aq:=[(3,.ptr 0 0 0 0),(9,.ptr 0 2 0 0),(11,.bool b),(36,b6 l t false),(37,.int .i64 (Int.ofNat l)),(38,.int .i64 j)]
theorem Vd (n l k:Nat) (t d z:Nat→Int) (h:Int) (H:aa) (q:Nat) (y:Nat→Int):aX Try.prog (cd n) 100000 68 Try.f68 (KtL.kt 68) (il aE n 0) aG aH [(b6 q y false,none),(.ptr 2 1 0 0,none)] (av::av::fi l t k d z h::H) =
 Tr.ok ((AV.bool (bK h (Int.ofNat q)),none),av::av::{ lock:=false,bs:=[(0,ai.row (Row.G [AV.slcT none (Row.M [ah.arr .i64 t l]) 1 l false,AV.slcT none (Row.M [ah.arr .i64 d k]) 1 k false])),(0,ai.row (Row.I .i64 [h])),(0,ai.row (Row.M [ah.arr .i64 z 30]))] } :: H):=by kernel_rfl
theorem t93 (n l k:Nat) (t d z:Nat→Int) (h:Int) (m:Nat) (f:Nat→Nat→Int) (g:Nat→Nat) (j:Int) (b:Bool) (H:aa):aJ (bn n 93 19) (il (uG aE 68 [b6 (g (au 0 j 1)) (f (au 0 j 1)) false,.ptr 2 1 0 0] (av::av::fi l t k d z h::H) (.ok (.bool b,av::av::fi l t k d z h::H))) n 0) aG aH (part Try.f93 [1,0,1,0,0]) (hints (DV m f g j)) (av::av::fi l t k d z h::H) =
 (fun (Z0:aT)=>((fun (Z1:List AV)=>((fun (Z2:Nat×AV×Option Nat)=>Tr.ite (bK j (Int.ofNat m)) (Tr.req (cE j m) (Tr.req (cr (au 0 j 1) m) (Tr.reqP (Z1=Z1∧av::av::Z0::H=av::av::Z0::H) (Tr.ite b (Tr.ok (Ex.ret,[(4,AV.int .i64 j,none)],av::av::Z0::H)) (Tr.ok (Ex.normal,[Z2,(1,AV.fn (Fn.func 68) [] [AV.ptr 2 1 0 0],none),(7,AV.int .i64 (Int.ofNat m),none),(8,AV.int .i64 (bA .i64 j (Int.ofNat 1)),none)],av::av::Z0::H)))))) (Tr.ok (Ex.exit 0,[Z2,(1,AV.fn (Fn.func 68) [] [AV.ptr 2 1 0 0],none),(7,AV.int .i64 (Int.ofNat m),none),(8,AV.int .i64 j,none),(9,AV.bool false,some 1)],av::av::Z0::H))) (0,AV.slcT none (Row.F (fun j=>AV.slcT none (Row.M [ah.arr .i64 (f j) (g j)]) 1 (g j) false) m) 1 m false,none))) [AV.slcT none (Row.M [ah.arr .i64 (f (au 0 j 1)) (g (au 0 j 1))]) 1 (g (au 0 j 1)) false,AV.ptr 2 1 0 0])) { lock:=false,bs:=[(0,ai.row (Row.G [AV.slcT none (Row.M [ah.arr .i64 t l]) 1 l false,AV.slcT none (Row.M [ah.arr .i64 d k]) 1 k false])),(0,ai.row (Row.I .i64 [h])),(0,ai.row (Row.M [ah.arr .i64 z 30]))] }:=by kernel_rfl
theorem Vp (n l k:Nat) (t d z:Nat→Int) (h:Int) (m:Nat) (f:Nat→Nat→Int) (g:Nat→Nat) (x:Bool) (r:Nat) (H:aa):aX Try.prog (cd n) 100000 93 Try.f93 (KtL.kt 93) (il aE n 0) (bS aG 0 (DV m f g 0) (av::av::fi l t k d z h::H) (.ite x (.ok (.ret,[(4,.int .i64 (Int.ofNat r),none)],av::av::fi l t k d z h::H)) (.ok (.normal,hints (DV m f g (Int.ofNat m)++[(9,.bool false)]),av::av::fi l t k d z h::H)))) aH [(dA m f g,none),(f68 1,none)] (av::fi l t k d z h::H) =
 (fun (Z0:aT)=>((fun (Z1:aq)=>Tr.reqP (Z1=Z1∧av::av::Z0::H=av::av::Z0::H) (Tr.ite x (Tr.ok ((AV.int .i64 (Int.ofNat r),none),av::Z0::H)) (Tr.ok ((AV.int .i64 (Int.negSucc 0),some 1),av::Z0::H)))) [(0,AV.slcT none (Row.F (fun j=>AV.slcT none (Row.M [ah.arr .i64 (f j) (g j)]) 1 (g j) false) m) 1 m false),(1,AV.fn (Fn.func 68) [] [AV.ptr 2 1 0 0]),(7,AV.int .i64 (Int.ofNat m)),(8,AV.int .i64 (Int.ofNat 0))])) { lock:=false,bs:=[(0,ai.row (Row.G [AV.slcT none (Row.M [ah.arr .i64 t l]) 1 l false,AV.slcT none (Row.M [ah.arr .i64 d k]) 1 k false])),(0,ai.row (Row.I .i64 [h])),(0,ai.row (Row.M [ah.arr .i64 z 30]))] }:=by kernel_rfl
theorem Vc (n l k:Nat) (t d z:Nat→Int) (h:Int) (m:Nat) (f:Nat→Nat→Int) (g:Nat→Nat) (r:Int) (H:aa):aX Try.prog (cd n) 100000 67 Try.f67 (KtL.kt 67) (il (uG aE 93 [dA m f g,f68 1] (av::fi l t k d z h::H) (.ok (.int .i64 r,av::fi l t k d z h::H))) n 0) aG aH [(dA m f g,none),(f68 0,none)] (fi l t k d z h::H) =
 (fun (Z0:aT)=>((fun (Z1:List AV)=>Tr.reqP (Z1=Z1∧av::Z0::H=av::Z0::H) (Tr.ok ((AV.bool (lV (Int.ofNat 0) r),none),Z0::H))) [AV.slcT none (Row.F (fun j=>AV.slcT none (Row.M [ah.arr .i64 (f j) (g j)]) 1 (g j) false) m) 1 m false,AV.fn (Fn.func 68) [] [AV.ptr 1 1 0 0]])) { lock:=false,bs:=[(0,ai.row (Row.G [AV.slcT none (Row.M [ah.arr .i64 t l]) 1 l false,AV.slcT none (Row.M [ah.arr .i64 d k]) 1 k false])),(0,ai.row (Row.I .i64 [h])),(0,ai.row (Row.M [ah.arr .i64 z 30]))] }:=by kernel_rfl
theorem t29 (n l k:Nat) (t d y:Nat→Int) (h:Int) (b:Bool) (j:Int) (H:aa):aJ (bn n 29 68) (il aE n 0) aG aH (part Try.f29 [1,1,1,1,1,1,0,1,0,0]) (hints (yK l t b j)) (fi l t k d y h::H) =
 (fun (Z0:aT)=>((fun (Z1:aN)=>((fun (Z2:aN)=>Tr.ite (bK j (Int.ofNat l)) (Tr.req (cE j l) (Tr.req (cr (au 0 j 1) l) (Tr.ite (lV (Int.ofNat 0) (t (au 0 j 1))) (Tr.req (cE j 30) (Tr.req (b9 0 0) (Tr.req (cr (au 0 j 1) 30) (Tr.req (cE (t (au 0 j 1)) 30) (Tr.req (b9 0 0) (Tr.req (cr (au 0 (t (au 0 j 1)) 1) 30) (Tr.ite (lV (y (au 0 (t (au 0 j 1)) 1)) (y (au 0 j 1))) (Tr.ok (Ex.ret,[(6,AV.int .i64 (Int.ofNat 16),some 1)],Z0::H)) (Tr.ite b (Tr.ok (Ex.normal,Z2,Z0::H)) (Tr.req (cE j 30) (Tr.req (b9 0 0) (Tr.req (cr (au 0 j 1) 30) (Tr.req (cE j k) (Tr.req (cr (au 0 j 1) k) (Tr.ok (Ex.normal,Z1,Z0::H))))))))))))))) (Tr.ite b (Tr.ok (Ex.normal,Z2,Z0::H)) (Tr.req (cE j 30) (Tr.req (b9 0 0) (Tr.req (cr (au 0 j 1) 30) (Tr.req (cE j k) (Tr.req (cr (au 0 j 1) k) (Tr.ok (Ex.normal,Z1,Z0::H))))))))))) (Tr.ok (Ex.exit 0,[(3,AV.ptr 0 0 0 0,none),(9,AV.ptr 0 2 0 0,none),(11,AV.bool b,none),(36,AV.slcT none (Row.M [ah.arr .i64 t l]) 1 l false,none),(37,AV.int .i64 (Int.ofNat l),none),(38,AV.int .i64 j,none),(39,AV.bool false,some 1)],Z0::H))) [(3,AV.ptr 0 0 0 0,none),(9,AV.ptr 0 2 0 0,none),(11,AV.bool true,some 1),(36,AV.slcT none (Row.M [ah.arr .i64 t l]) 1 l false,none),(37,AV.int .i64 (Int.ofNat l),none),(38,AV.int .i64 (bA .i64 j (Int.ofNat 1)),none)])) [(3,AV.ptr 0 0 0 0,none),(9,AV.ptr 0 2 0 0,none),(11,AV.bool (bK (d (au 0 j 1)) (y (au 0 j 1))),none),(36,AV.slcT none (Row.M [ah.arr .i64 t l]) 1 l false,none),(37,AV.int .i64 (Int.ofNat l),none),(38,AV.int .i64 (bA .i64 j (Int.ofNat 1)),none)])) { lock:=false,bs:=[(0,ai.row (Row.G [AV.slcT none (Row.M [ah.arr .i64 t l]) 1 l false,AV.slcT none (Row.M [ah.arr .i64 d k]) 1 k false])),(0,ai.row (Row.I .i64 [h])),(0,ai.row (Row.M [ah.arr .i64 y 30]))] }:=by kernel_rfl
theorem UU (n l k:Nat) (t d z y e:Nat→Int) (h:Int) (m:Nat) (f:Nat→Nat→Int) (g:Nat→Nat) (b b2 x:Bool) (H:aa):aX Try.prog (cd n) 100000 29 Try.f29 (KtL.kt 29) (il (uG (tX (tX aE 66 [b5 l t k d,.int .i64 h] (.tup [dy 0 l t k d e,.int .i64 0])) 60 [b5 l t k d,dA m f g] (.tup [.agg (.M [.arr .i64 z 30]),.int .i64 0])) 67 [dA m f g,f68 0] (fi l t k d y h::H) (.ok (.bool b,fi l t k d y h::H))) n 0) (bS aG 0 (yK l t false 0) (fi l t k d y h::H) (.ite x (.ok (.ret,hints [(6,.int .i64 16)],fi l t k d y h::H)) (.ok (.normal,hints (yK l t b2 (Int.ofNat l)++[(39,.bool false)]),fi l t k d y h::H)))) aH [(b5 l t k d,none),(.int .i64 h,none),(dA m f g,none)] H =
 (fun (Z0:Row)=>((fun (Z1:Row)=>((fun (Z2:aT)=>((fun (Z3:aq)=>Tr.reqP ([AV.agg Z0,AV.int .i64 h]=[AV.agg Z0,AV.int .i64 h]) (Tr.ite (aP (b7 (Int.ofNat 0) (Int.ofNat 0))) (Tr.ok ((AV.int .i64 (Int.ofNat 0),none),H)) (Tr.reqP ([AV.agg Z0,AV.slcT none Z1 1 m false]=[AV.agg Z0,AV.slcT none Z1 1 m false]) (Tr.req (gq 0 30 0 30) (Tr.ite (aP (b7 (Int.ofNat 0) (Int.ofNat 0))) (Tr.ok ((AV.int .i64 (Int.ofNat 0),none),H)) (Tr.reqP ([AV.slcT none Z1 1 m false,AV.fn (Fn.func 68) [] [AV.ptr 0 1 0 0]]=[AV.slcT none Z1 1 m false,AV.fn (Fn.func 68) [] [AV.ptr 0 1 0 0]]∧{ lock:=false,bs:=[(0,ai.row Z0),(0,ai.row (Row.I .i64 [h])),(0,ai.row (Row.M [ah.arr .i64 (eG (fun x=>Int.ofNat 0) 0 z 30) 30]))] } :: H=Z2::H) (Tr.ite b (Tr.ok ((AV.int .i64 (Int.ofNat 4),some 1),H)) (Tr.reqP (Z3=Z3∧Z2::H=Z2::H) (Tr.ite x (Tr.ok ((AV.int .i64 (Int.ofNat 16),none),H)) (Tr.ite b2 (Tr.ok ((AV.int .i64 (Int.ofNat 12),some 1),H)) (Tr.ok ((AV.int .i64 (Int.ofNat 0),some 1),H)))))))))))) [(3,AV.ptr 0 0 0 0),(9,AV.ptr 0 2 0 0),(11,AV.bool false),(36,AV.slcT none (Row.M [ah.arr .i64 t l]) 1 l false),(37,AV.int .i64 (Int.ofNat l)),(38,AV.int .i64 (Int.ofNat 0))])) { lock:=false,bs:=[(0,ai.row Z0),(0,ai.row (Row.I .i64 [h])),(0,ai.row (Row.M [ah.arr .i64 y 30]))] })) (Row.F (fun j=>AV.slcT none (Row.M [ah.arr .i64 (f j) (g j)]) 1 (g j) false) m))) (Row.G [AV.slcT none (Row.M [ah.arr .i64 t l]) 1 l false,AV.slcT none (Row.M [ah.arr .i64 d k]) 1 k false]):=by kernel_rfl
theorem Q6 (n l k:Nat) (t d z y e:Nat→Int) (h:Int) (m:Nat) (f:Nat→Nat→Int) (g:Nat→Nat) (c:Int) (H:aa):aX Try.prog (cd n) 100000 29 Try.f29 (KtL.kt 29) (il (tX (tX aE 66 [b5 l t k d,.int .i64 h] (.tup [dy 0 l t k d e,.int .i64 0])) 60 [b5 l t k d,dA m f g] (.tup [.agg (.M [.arr .i64 z 30]),.int .i64 c])) n 0) (bS aG 0 [] [] .bad) aH [(b5 l t k d,none),(.int .i64 h,none),(dA m f g,none)] H =
 (fun (Z0:Row)=>((fun (Z1:List AV)=>Tr.reqP ([AV.agg Z0,AV.int .i64 h]=[AV.agg Z0,AV.int .i64 h]) (Tr.ite (aP (b7 (Int.ofNat 0) (Int.ofNat 0))) (Tr.ok ((AV.int .i64 (Int.ofNat 0),none),H)) (Tr.reqP (Z1=Z1) (Tr.req (gq 0 30 0 30) (Tr.ite (aP (b7 c (Int.ofNat 0))) (Tr.ok ((AV.int .i64 c,none),H)) Tr.bad))))) [AV.agg Z0,AV.slcT none (Row.F (fun j=>AV.slcT none (Row.M [ah.arr .i64 (f j) (g j)]) 1 (g j) false) m) 1 m false])) (Row.G [AV.slcT none (Row.M [ah.arr .i64 t l]) 1 l false,AV.slcT none (Row.M [ah.arr .i64 d k]) 1 k false]):=by kernel_rfl
theorem Q5 (n l k:Nat) (t d:Nat→Int) (h:Int) (m:Nat) (f:Nat→Nat→Int) (g:Nat→Nat) (c:Int) (H:aa):aX Try.prog (cd n) 100000 29 Try.f29 (KtL.kt 29) (il (tX aE 66 [b5 l t k d,.int .i64 h] (.tup [.nilp,.int .i64 c])) n 0) (bS aG 0 [] [] .bad) aH [(b5 l t k d,none),(.int .i64 h,none),(dA m f g,none)] H =
 (fun (Z0:List AV)=>Tr.reqP (Z0=Z0) (Tr.ite (aP (b7 c (Int.ofNat 0))) (Tr.ok ((AV.int .i64 c,none),H)) Tr.bad)) [AV.agg (Row.G [AV.slcT none (Row.M [ah.arr .i64 t l]) 1 l false,AV.slcT none (Row.M [ah.arr .i64 d k]) 1 k false]),AV.int .i64 h]:=by kernel_rfl
theorem Sf:∀ b,(0,b) ∈ aI (bj Try.f93)→b=.loop (part Try.f93 [1,0,1,0,0]):=ep (by kernel_rfl)
theorem OG:∀ b,(0,b) ∈ aI (bj Try.f29)→b=.loop (part Try.f29 [1,1,1,1,1,1,0,1,0,0]):=ep (by kernel_rfl)
theorem HM (p:Nat→Bool) (j:Nat):bV p (j+1)=(bV p j || p j):=by
 rw[Bool.eq_iff_iff,Bool.or_eq_true,dm,dm]
 constructor
 · rintro ⟨i,h1,h2⟩
   by_cases e:i=j
   · subst e;exact .inr h2
   · exact .inl ⟨i,by omega,h2⟩
 · rintro (⟨i,h1,h2⟩ | h)
   · exact ⟨i,by omega,h2⟩
   · exact ⟨j,by omega,h⟩
theorem FG (p:Nat→Bool):bV p 0=false:=jT (fun j hj=>by omega)
def pV (t y:Nat→Int) (j:Nat):Bool:=decide (0≤t j) && decide (y (t j).toNat≤y j)
def qv (d y:Nat→Int) (j:Nat):Bool:=decide (d j<y j)
def r8 (h:Int) (g:Nat→Nat) (j:Nat):Bool:=decide (h<(g j:Int))
section
variable (n l k:Nat) (t d z:Nat→Int) (h:Int) (m:Nat) (f:Nat→Nat→Int) (g:Nat→Nat) (H:aa)
theorem RX (q:Nat) (y:Nat→Int):cd (n+1) (.fn 68) [b6 q y false,.ptr 2 1 0 0] (av::av::fi l t k d z h::H)=some (.bool (decide (h<(q:Int))),av::av::fi l t k d z h::H):=by
 refine aD (n:=n) Try.func68 rfl rfl rfl (Vd n l k t d z h H q y) (ao n) (af _ _) (ag _ _) ?_
 rw[cY]
 exact Tr.bf ⟨rfl,rfl⟩
theorem SO (hm:m≤1000):cd (n+2) (.fn 93) [dA m f g,f68 1] (av::fi l t k d z h::H)=some (.int .i64 (Cu (r8 h g) m),av::fi l t k d z h::H):=by
 have hx:=iv (n:=n+1) (f:=93) (nt:=19) (c:=part Try.f93 [1,0,1,0,0]) 0 (fun j=>DV m f g (j:Nat)) (fun _=>av::av::fi l t k d z h::H) m (r8 h g) (fun j=>([(4,.int .i64 (j:Nat))],av::av::fi l t k d z h::H)) (DV m f g (Int.ofNat m)++[(9,.bool false)],av::av::fi l t k d z h::H) (by omega) (fun j hj=>?_) ?_
 · refine aD (n:=n+1) Try.func93 rfl rfl rfl (Vp (n+1) l k t d z h m f g (bV (r8 h g) m) (fN (r8 h g) m 0) H) (ao _) (aA (af _ _) Sf (fun x hy=>dk hy hx)) (ag _ _) ?_
   refine Tr.ba ⟨rfl,rfl⟩ (Tr.bm (fun hc=>Tr.bf ⟨?_,rfl⟩) (fun hc=>Tr.bf ⟨?_,rfl⟩))
   · unfold Cu;rw[if_pos hc];rfl
   · unfold Cu;rw[if_neg (by rw[hc];decide)];rfl
 · refine aB (t93 (n+1) l k t d z h m f g (j:Nat) (decide (h<(g (au 0 ((j:Nat):Int) 1):Int))) H) (aO _ (n+1) (dQ (aF _) (fun x hy=>by rw[← Tr.ab hy];exact RX n l k t d z h H _ _))) (af _ _) (ag _ _) ?_
   show Tr.all _ (fun r=>if r8 h g j=true then _ else _∧tidy _ _ _=(DV m f g ((j+1:Nat):Int),av::av::fi l t k d z h::H))
   rw[c7 (j:=j) (by omega)]
   simp only[iS]
   have eb:decide (h<(g j:Int))=r8 h g j:=rfl
   rw[eb]
   cases r8 h g j with
   | true =>
     simp only[if_true]
     exact wF
   | false =>
     simp only[Bool.false_eq_true,if_false]
     exact wF
 · exact cO (t93 (n+1) l k t d z h m f g (Int.ofNat m) (decide (h<(g (au 0 (Int.ofNat m) 1):Int))) H) (aO _ (n+1) (dQ (aF _) (fun x hy=>by rw[← Tr.ab hy];exact RX n l k t d z h H _ _))) (af _ _) (ag _ _) (by first | (simp (disch:=omega) only[nV,nW];done) | (simp (disch:=omega) only[nV,nW];omega))
theorem SA (hm:m≤1000):cd (n+3) (.fn 67) [dA m f g,f68 0] (fi l t k d z h::H)=some (.bool (bV (r8 h g) m),fi l t k d z h::H):=by
 refine aD (n:=n+2) Try.func67 rfl rfl rfl (Vc (n+2) l k t d z h m f g (Cu (r8 h g) m) H) (aO _ (n+2) (dQ (aF _) (fun x hy=>by rw[← Tr.ab hy];exact SO n l k t d z h m f g H hm))) (af _ _) (ag _ _) ?_
 refine Tr.ba ⟨rfl,rfl⟩ (Tr.bf ⟨?_,rfl⟩)
 rw[F3]
theorem Uq (y:Nat→Int) (hl:l≤30) (hk:k=l) (ht:∀ j,j<l→t j<l):exec (bn n 29 68) (.block 0 (.loop (part Try.f29 [1,1,1,1,1,1,0,1,0,0]))) (yK l t false ((0:Nat):Int)) (fi l t k d y h::H)=some (cond (bV (pV t y) l) (.ret,[(6,.int .i64 16)],fi l t k d y h::H) (.normal,yK l t (bV (qv d y) l) (Int.ofNat l)++[(39,.bool false)],fi l t k d y h::H)):=by
 have hx:=iv (n:=n) (f:=29) (nt:=68) (c:=part Try.f29 [1,1,1,1,1,1,0,1,0,0]) 0 (fun j=>yK l t (bV (qv d y) j) (j:Nat)) (fun j=>fi l t k d y h::H) l (pV t y) (fun j=>([(6,.int .i64 16)],fi l t k d y h::H)) (yK l t (bV (qv d y) l) (Int.ofNat l)++[(39,.bool false)],fi l t k d y h::H) (by omega) (fun j hj=>?_) ?_
 · rw[FG] at hx;exact hx
 · refine aB (t29 n l k t d y h (bV (qv d y) j) (j:Nat) H) (ao n) (af _ _) (ag _ _) ?_
   show Tr.all _ (fun r=>if pV t y j=true then _ else _∧tidy _ _ _=(yK l t (bV (qv d y) (j+1)) ((j+1:Nat):Int),fi l t k d y h::H))
   rw[c7 (j:=j) (by omega),HM]
   have htj:=ht j hj
   simp only[iS]
   have e2:bK (d j) (y j)=qv d y j:=by rw[cY];rfl
   rw[e2]
   generalize qv d y j=L at *
   generalize bV (qv d y) j=B at *
   subst hk
   by_cases c0:0≤t j
   · obtain ⟨q,hq⟩:∃ q:Nat,t j=q:=⟨(t j).toNat,by omega⟩
     have er:pV t y j=decide (y q≤y j):=by unfold pV;rw[decide_eq_true c0,hq];rfl
     rw[er,hq]
     rw[hq] at htj
     simp only[iS]
     by_cases c1:y q≤y j
     · rw[decide_eq_true c1]
       simp only[if_true]
       cases B<;>cases L
       all_goals
        exact wF
     · rw[decide_eq_false c1]
       simp only[Bool.false_eq_true,if_false]
       cases B<;>cases L
       all_goals
        exact wF
   · have er:pV t y j=false:=by unfold pV;rw[decide_eq_false c0];rfl
     rw[er]
     simp only[Bool.false_eq_true,if_false]
     cases B<;>cases L
     all_goals
      exact wF
 · exact cO (t29 n l k t d y h (bV (qv d y) l) (Int.ofNat l) H) (ao n) (af _ _) (ag _ _) (by first | (simp (disch:=omega) only[nV,nW];done) | (simp (disch:=omega) only[nV,nW];omega))
noncomputable def qU (l k:Nat) (t d:Nat→Int) (h:Int) (m:Nat) (f:Nat→Nat→Int) (g:Nat→Nat):Int:=if dj l t k d h≠0 then dj l t k d h else if nk l m f g≠0 then nk l m f g else if bV (r8 h g) m=true then 4 else if bV (pV t (cg f g m)) l=true then 16 else if bV (qv d (cg f g m)) l=true then 12 else 0
theorem Ft (z:Nat→Int) {c:Nat} (hc:c<30):fO z c=z c:=by
 unfold fO
 rw[rW]
 show (if 0≤c∧c<0+30 then z (c-0) else _)=_
 rw[if_pos (by omega),Nat.sub_zero]
theorem JD {t z:Nat→Int} {l:Nat} (hl:l≤30) (ht:∀ j,j<l→t j<l):bV (pV t (fO z)) l=bV (pV t z) l:=ke (fun j hj=>by
 have:=ht j hj
 unfold pV
 rw[Ft z (c:=j) (by omega)]
 by_cases c:0≤t j
 · rw[Ft z (c:=(t j).toNat) (by omega)]
 · rw[decide_eq_false c];rfl)
theorem Jv {d z:Nat→Int} {l:Nat} (hl:l≤30):bV (qv d (fO z)) l=bV (qv d z) l:=ke (fun j hj=>by
 unfold qv
 rw[Ft z (c:=j) (by omega)])
theorem So (hm:m≤50) (hg:∀ i,i<m→g i≤40):cd (n+11) (.fn 29) [b5 l t k d,.int .i64 h,dA m f g] H=some (.int .i64 (qU l k t d h m f g),H):=by
 by_cases ea:dj l t k d h=0
 · obtain ⟨hs,h1,h2⟩:=ma ea
   have h66:∀ H,cd (n+10) (.fn 66) [b5 l t k d,.int .i64 h] H=some (.tup [dy 0 l t k d (cQ t l),.int .i64 0],H):=fun H=>RW n l k t d H h ea
   have h60:∀ H,cd (n+10) (.fn 60) [b5 l t k d,dA m f g] H=some (EG l m f g,H):=fun H=>Sx (n+4) l k t d m f g H hs.l1 hs.l30 hm hg
   by_cases et:nk l m f g=0
   · have e60:EG l m f g=.tup [.agg (.M [.arr .i64 (fO (cg f g m)) 30]),.int .i64 0]:=by unfold EG;rw[if_pos et]
     rw[e60] at h60
     have h67:=SA (n+7) l k t d (fO (fO (cg f g m))) h m f g H (by omega)
     have hx:=Uq (n+10) l k t d h H (fO (fO (cg f g m))) hs.l30 hs.kl (fun j hj=>hs.tl j hj)
     have ec:qU l k t d h m f g=if bV (r8 h g) m=true then 4 else if bV (pV t (fO (fO (cg f g m)))) l=true then 16 else if bV (qv d (fO (fO (cg f g m)))) l=true then 12 else 0:=by
      unfold qU
      rw[if_neg (by rw[ea];decide),if_neg (by rw[et];decide),JD hs.l30 (fun j hj=>hs.tl j hj),JD hs.l30 (fun j hj=>hs.tl j hj),Jv hs.l30,Jv hs.l30]
     rw[ec]
     refine aD (n:=n+10) Try.func29 rfl rfl rfl (UU (n+10) l k t d (fO (cg f g m)) (fO (fO (cg f g m))) (cQ t l) h m f g (bV (r8 h g) m) (bV (qv d (fO (fO (cg f g m)))) l) (bV (pV t (fO (fO (cg f g m)))) l) H) (aO _ (n+10) (dQ (bp (bp (aF _) h66) h60) (fun x hy=>by rw[← Tr.ab hy];exact h67))) (aA (af _ _) OG (fun x hy=>dk hy hx)) (ag _ _) ?_
     clear hx h67 ec
     generalize bV (r8 h g) m=A at *
     generalize bV (pV t (fO (fO (cg f g m)))) l=B at *
     generalize bV (qv d (fO (fO (cg f g m)))) l=C at *
     cases A<;>cases B<;>cases C
     all_goals
      simp only[Bool.false_eq_true,if_false,if_true]
      exact wF
   · have e60:EG l m f g=.tup [.agg (.M [.arr .i64 (fO (fun _=>Int.ofNat 0)) 30]),.int .i64 (nk l m f g)]:=by unfold EG;rw[if_neg et]
     rw[e60] at h60
     have ec:qU l k t d h m f g=nk l m f g:=by
      unfold qU
      rw[if_neg (by rw[ea];decide),if_pos et]
     rw[ec]
     refine aD (n:=n+10) Try.func29 rfl rfl rfl (Q6 (n+10) l k t d (fO (fun _=>Int.ofNat 0)) (fun _=>0) (cQ t l) h m f g (nk l m f g) H) (aO _ (n+10) (bp (bp (aF _) h66) h60)) (aA (af _ _) OG (fun x hx=>(Tr.ae hx).elim)) (ag _ _) ?_
     generalize nk l m f g=E at *
     exact wF
 · have ec:qU l k t d h m f g=dj l t k d h:=by
    unfold qU
    rw[if_pos ea]
   have h66:∀ H,cd (n+10) (.fn 66) [b5 l t k d,.int .i64 h] H=some (.tup [.nilp,.int .i64 (dj l t k d h)],H):=fun H=>L7 n l k t d H h ea
   rw[ec]
   generalize dj l t k d h=E at *
   refine aD (n:=n+10) Try.func29 rfl rfl rfl (Q5 (n+10) l k t d h m f g E H) (aO _ (n+10) (bp (aF _) h66)) (aA (af _ _) OG (fun x hx=>(Tr.ae hx).elim)) (ag _ _) ?_
   exact wF
end
end Go.Eng
end
