/- Lay: turns of the program: its loops. -/
import Derived.Test.YtoomemfhcbajoaaV3Lb35x6
set_option linter.unusedVariables false
set_option linter.unusedSimpArgs false
set_option maxRecDepth 100000
section
namespace Go.Eng
open Go.Proofs
noncomputable def Dx (z:Nat→Int):Nat×ak:=(0,.row (.M [.arr .i64 z 30]))
noncomputable def nz (l:Nat) (t:Nat→Int) (k:Nat) (d z:Nat→Int):aW:=⟨false,[F2 l t k d,Dx (fun _=>Int.ofNat 0),Dx z]⟩
noncomputable def vi (l:Nat) (t:Nat→Int) (k:Nat) (d z:Nat→Int):aW:=⟨false,[F2 l t k d,Dx (dR (fun _=>Int.ofNat 0) 0 (fun _=>Int.ofNat 0) 30),Dx z]⟩
noncomputable def xW (m:Nat) (f:Nat→Nat→Int) (g:Nat→Nat) (i:Int):ao:=[(4,.ptr 0 1 0 0),(6,.ptr 0 2 0 0),(36,fF m f g),(37,.int .i64 (Int.ofNat m)),(38,.int .i64 i)]
noncomputable def sm (m:Nat) (f:Nat→Nat→Int) (g:Nat→Nat) (i:Int) (q:Nat) (y:Nat→Int) (j:Int):ao:=[(4,.ptr 0 1 0 0),(6,.ptr 0 2 0 0),(8,.int .i64 i),(36,fF m f g),(37,.int .i64 (Int.ofNat m)),(38,.int .i64 i),(43,bP q y false),(44,.int .i64 (Int.ofNat q)),(45,.int .i64 j)]
theorem L0 (n l k:Nat) (t d z:Nat→Int) (m:Nat) (f:Nat→Nat→Int) (g:Nat→Nat) (i:Int) (q:Nat) (y:Nat→Int) (j:Int) (H:aa):aQ (bt n 60 61) (il aH n 0) aN aO (part Try.f60 [1,1,1,1,0,1,0,0,1,1,0,0,1,1,0,0]) (hints (sm m f g i q y j)) (nz l t k d z::H) =
 (fun (Z0:Nat×ak)=>((fun (Z1:Nat×AV×Option Nat)=>Tr.ite (bV j (Int.ofNat q)) (Tr.req (cS j q) (Tr.req (cJ (ar 0 j 1) q) (Tr.req (cS (y (ar 0 j 1)) 30) (Tr.req (cu 0 0) (Tr.req (cJ (ar 0 (y (ar 0 j 1)) 1) 30) (Tr.ite (bV (Int.ofNat 0) (z (ar 0 (y (ar 0 j 1)) 1))) (Tr.req (fW 0 30 0 30) (Tr.ok (Ex.ret,[(4,AV.ptr 0 1 0 0,none),(5,AV.int .i64 (Int.ofNat 15),some 1)],{ lock:=false,bs:=[Z0,(0,ak.row (Row.M [ah.arr .i64 (dR (fun x=>Int.ofNat 0) 0 (fun x=>Int.ofNat 0) 30) 30])),(0,ak.row (Row.M [ah.arr .i64 z 30]))] } :: H))) (Tr.req (cS (y (ar 0 j 1)) 30) (Tr.req (cu 0 0) (Tr.req (cJ (ar 0 (y (ar 0 j 1)) 1) 30) (Tr.ok (Ex.normal,[(4,AV.ptr 0 1 0 0,none),(6,AV.ptr 0 2 0 0,none),(8,AV.int .i64 i,none),Z1,(37,AV.int .i64 (Int.ofNat m),none),(38,AV.int .i64 i,none),(43,AV.slcT none (Row.M [ah.arr .i64 y q]) 1 q false,none),(44,AV.int .i64 (Int.ofNat q),none),(45,AV.int .i64 (bE .i64 j (Int.ofNat 1)),none)],{ lock:=false,bs:=[Z0,(0,ak.row (Row.M [ah.arr .i64 (fun x=>Int.ofNat 0) 30])),(0,ak.row (Row.M [ah.arr .i64 (fH z (ar 0 (y (ar 0 j 1)) 1) (bE .i64 i (Int.ofNat 1))) 30]))] } :: H))))))))))) (Tr.ok (Ex.exit 3,[(4,AV.ptr 0 1 0 0,none),(6,AV.ptr 0 2 0 0,none),(8,AV.int .i64 i,none),Z1,(37,AV.int .i64 (Int.ofNat m),none),(38,AV.int .i64 i,none),(43,AV.slcT none (Row.M [ah.arr .i64 y q]) 1 q false,none),(44,AV.int .i64 (Int.ofNat q),none),(45,AV.int .i64 j,none),(46,AV.bool false,some 1)],{ lock:=false,bs:=[Z0,(0,ak.row (Row.M [ah.arr .i64 (fun x=>Int.ofNat 0) 30])),(0,ak.row (Row.M [ah.arr .i64 z 30]))] } :: H))) (36,AV.slcT none (Row.F (fun j=>AV.slcT none (Row.M [ah.arr .i64 (f j) (g j)]) 1 (g j) false) m) 1 m false,none))) (0,ak.row (Row.G [AV.slcT none (Row.M [ah.arr .i64 t l]) 1 l false,AV.slcT none (Row.M [ah.arr .i64 d k]) 1 k false])):=by kernel_rfl
theorem OR (n l k:Nat) (t d z:Nat→Int) (m:Nat) (f:Nat→Nat→Int) (g:Nat→Nat) (i:Int) (H:aa):aQ (bt n 60 61) (il aH n 0) (bZ aN 3 [] [] .bad) aO (part Try.f60 [1,1,1,1,0,1,0,0]) (hints (xW m f g i)) (nz l t k d z::H) =
 (fun (Z0:aW)=>((fun (Z1:Row)=>Tr.ite (bV i (Int.ofNat m)) (Tr.req (cS i m) (Tr.req (cJ (ar 0 i 1) m) (Tr.reqP ([(4,AV.ptr 0 1 0 0),(6,AV.ptr 0 2 0 0),(8,AV.int .i64 i),(36,AV.slcT none Z1 1 m false),(37,AV.int .i64 (Int.ofNat m)),(38,AV.int .i64 i),(43,AV.slcT none (Row.M [ah.arr .i64 (f (ar 0 i 1)) (g (ar 0 i 1))]) 1 (g (ar 0 i 1)) false),(44,AV.int .i64 (Int.ofNat (g (ar 0 i 1)))),(45,AV.int .i64 (Int.ofNat 0))]=[]∧Z0::H=[]) Tr.bad))) (Tr.ok (Ex.exit 1,[(4,AV.ptr 0 1 0 0,none),(6,AV.ptr 0 2 0 0,none),(36,AV.slcT none Z1 1 m false,none),(37,AV.int .i64 (Int.ofNat m),none),(38,AV.int .i64 i,none),(39,AV.bool false,some 1)],Z0::H))) (Row.F (fun j=>AV.slcT none (Row.M [ah.arr .i64 (f j) (g j)]) 1 (g j) false) m))) { lock:=false,bs:=[(0,ak.row (Row.G [AV.slcT none (Row.M [ah.arr .i64 t l]) 1 l false,AV.slcT none (Row.M [ah.arr .i64 d k]) 1 k false])),(0,ak.row (Row.M [ah.arr .i64 (fun x=>Int.ofNat 0) 30])),(0,ak.row (Row.M [ah.arr .i64 z 30]))] }:=by kernel_rfl
theorem OS (n l k:Nat) (t d z z1 z2:Nat→Int) (m:Nat) (f:Nat→Nat→Int) (g:Nat→Nat) (i:Int) (c:Int) (b:Bool) (H:aa):aQ (bt n 60 61) (il aH n 0) (bZ aN 3 (sm m f g i (g (ar 0 i 1)) (f (ar 0 i 1)) 0) (nz l t k d z::H) (.ite b (.ok (.ret,hints [(4,.ptr 0 1 0 0),(5,.int .i64 15)],vi l t k d z1::H)) (.ok (.normal,hints (sm m f g i (g (ar 0 i 1)) (f (ar 0 i 1)) c++[(46,.bool false)]),nz l t k d z2::H)))) aO (part Try.f60 [1,1,1,1,0,1,0,0]) (hints (xW m f g i)) (nz l t k d z::H) =
 (fun (Z0:aW)=>((fun (Z1:ao)=>((fun (Z2:Nat×ak)=>((fun (Z3:Nat×AV×Option Nat)=>Tr.ite (bV i (Int.ofNat m)) (Tr.req (cS i m) (Tr.req (cJ (ar 0 i 1) m) (Tr.reqP (Z1=Z1∧Z0::H=Z0::H) (Tr.ite b (Tr.ok (Ex.ret,[(4,AV.ptr 0 1 0 0,none),(5,AV.int .i64 (Int.ofNat 15),none)],{ lock:=false,bs:=[Z2,(0,ak.row (Row.M [ah.arr .i64 (dR (fun x=>Int.ofNat 0) 0 (fun x=>Int.ofNat 0) 30) 30])),(0,ak.row (Row.M [ah.arr .i64 z1 30]))] } :: H)) (Tr.ok (Ex.normal,[(4,AV.ptr 0 1 0 0,none),(6,AV.ptr 0 2 0 0,none),Z3,(37,AV.int .i64 (Int.ofNat m),none),(38,AV.int .i64 (bE .i64 i (Int.ofNat 1)),none)],{ lock:=false,bs:=[Z2,(0,ak.row (Row.M [ah.arr .i64 (fun x=>Int.ofNat 0) 30])),(0,ak.row (Row.M [ah.arr .i64 z2 30]))] } :: H)))))) (Tr.ok (Ex.exit 1,[(4,AV.ptr 0 1 0 0,none),(6,AV.ptr 0 2 0 0,none),Z3,(37,AV.int .i64 (Int.ofNat m),none),(38,AV.int .i64 i,none),(39,AV.bool false,some 1)],Z0::H))) (36,AV.slcT none (Row.F (fun j=>AV.slcT none (Row.M [ah.arr .i64 (f j) (g j)]) 1 (g j) false) m) 1 m false,none))) (0,ak.row (Row.G [AV.slcT none (Row.M [ah.arr .i64 t l]) 1 l false,AV.slcT none (Row.M [ah.arr .i64 d k]) 1 k false])))) [(4,AV.ptr 0 1 0 0),(6,AV.ptr 0 2 0 0),(8,AV.int .i64 i),(36,AV.slcT none (Row.F (fun j=>AV.slcT none (Row.M [ah.arr .i64 (f j) (g j)]) 1 (g j) false) m) 1 m false),(37,AV.int .i64 (Int.ofNat m)),(38,AV.int .i64 i),(43,AV.slcT none (Row.M [ah.arr .i64 (f (ar 0 i 1)) (g (ar 0 i 1))]) 1 (g (ar 0 i 1)) false),(44,AV.int .i64 (Int.ofNat (g (ar 0 i 1)))),(45,AV.int .i64 (Int.ofNat 0))])) { lock:=false,bs:=[(0,ak.row (Row.G [AV.slcT none (Row.M [ah.arr .i64 t l]) 1 l false,AV.slcT none (Row.M [ah.arr .i64 d k]) 1 k false])),(0,ak.row (Row.M [ah.arr .i64 (fun x=>Int.ofNat 0) 30])),(0,ak.row (Row.M [ah.arr .i64 z 30]))] }:=by kernel_rfl
theorem Pj (n l k:Nat) (t d:Nat→Int) (m:Nat) (f:Nat→Nat→Int) (g:Nat→Nat) (H:aa):aZ Try.prog (cd n) 100000 60 Try.f60 (KtL.kt 60) (il (tX aH 84 [fF m f g] .nils) n 0) (bZ aN 1 [] [] .bad) aO [(cg l t k d,none),(fF m f g,none)] H =
 (fun (Z0:List AV)=>((fun (Z1:Row)=>Tr.reqP (Z0=Z0) (Tr.ite (bV (Int.ofNat 40) (Int.ofNat m)) (Tr.req (fW 0 30 0 30) (Tr.ok ((AV.tup [AV.agg Z1,AV.int .i64 (Int.ofNat 6)],none),H))) (Tr.ite (ay (bJ (Int.ofNat 0) (Int.ofNat l))) (Tr.req (fW 0 30 0 30) (Tr.ok ((AV.tup [AV.agg Z1,AV.int .i64 (Int.ofNat 15)],none),H))) Tr.bad))) (Row.M [ah.arr .i64 (dR (fun x=>Int.ofNat 0) 0 (fun x=>Int.ofNat 0) 30) 30]))) [AV.slcT none (Row.F (fun j=>AV.slcT none (Row.M [ah.arr .i64 (f j) (g j)]) 1 (g j) false) m) 1 m false]:=by kernel_rfl
theorem Pg (n l k:Nat) (t d:Nat→Int) (m:Nat) (f:Nat→Nat→Int) (g:Nat→Nat) (N:Nat) (Z:Nat→Int) (H:aa):aZ Try.prog (cd n) 100000 60 Try.f60 (KtL.kt 60) (il (tX aH 84 [fF m f g] (bP N Z false)) n 0) (bZ aN 1 [] [] .bad) aO [(cg l t k d,none),(fF m f g,none)] H =
 (fun (Z0:List AV)=>((fun (Z1:Row)=>Tr.reqP (Z0=Z0) (Tr.ite (bV (Int.ofNat 40) (Int.ofNat m)) (Tr.req (fW 0 30 0 30) (Tr.ok ((AV.tup [AV.agg Z1,AV.int .i64 (Int.ofNat 6)],none),H))) (Tr.ite (ay (bJ (Int.ofNat N) (Int.ofNat l))) (Tr.req (fW 0 30 0 30) (Tr.ok ((AV.tup [AV.agg Z1,AV.int .i64 (Int.ofNat 15)],none),H))) Tr.bad))) (Row.M [ah.arr .i64 (dR (fun x=>Int.ofNat 0) 0 (fun x=>Int.ofNat 0) 30) 30]))) [AV.slcT none (Row.F (fun j=>AV.slcT none (Row.M [ah.arr .i64 (f j) (g j)]) 1 (g j) false) m) 1 m false]:=by kernel_rfl
theorem Ph (n l k:Nat) (t d:Nat→Int) (m:Nat) (f:Nat→Nat→Int) (g:Nat→Nat) (N:Nat) (Z:Nat→Int) (b:Bool) (H:aa):aZ Try.prog (cd n) 100000 60 Try.f60 (KtL.kt 60) (il (tX (tX aH 84 [fF m f g] (bP N Z false)) 56 [.int .i64 0,.int .i64 (bB .i64 (Int.ofNat l) 1),bP N Z false] (.bool b)) n 0) (bZ aN 1 [] [] .bad) aO [(cg l t k d,none),(fF m f g,none)] H =
 (fun (Z0:Row)=>((fun (Z1:Row)=>((fun (Z2:List AV)=>Tr.reqP ([AV.slcT none Z1 1 m false]=[AV.slcT none Z1 1 m false]) (Tr.ite (bV (Int.ofNat 40) (Int.ofNat m)) (Tr.req (fW 0 30 0 30) (Tr.ok ((AV.tup [AV.agg Z0,AV.int .i64 (Int.ofNat 6)],none),H))) (Tr.ite (ay (bJ (Int.ofNat N) (Int.ofNat l))) (Tr.req (fW 0 30 0 30) (Tr.ok ((AV.tup [AV.agg Z0,AV.int .i64 (Int.ofNat 15)],none),H))) (Tr.reqP (Z2=Z2) (Tr.ite (ay b) (Tr.req (fW 0 30 0 30) (Tr.ok ((AV.tup [AV.agg Z0,AV.int .i64 (Int.ofNat 15)],none),H))) (Tr.reqP ([(4,AV.ptr 0 1 0 0),(6,AV.ptr 0 2 0 0),(36,AV.slcT none Z1 1 m false),(37,AV.int .i64 (Int.ofNat m)),(38,AV.int .i64 (Int.ofNat 0))]=[]∧{ lock:=false,bs:=[(0,ak.row (Row.G [AV.slcT none (Row.M [ah.arr .i64 t l]) 1 l false,AV.slcT none (Row.M [ah.arr .i64 d k]) 1 k false])),(0,ak.row (Row.M [ah.arr .i64 (fun x=>Int.ofNat 0) 30])),(0,ak.row (Row.M [ah.arr .i64 (fun x=>Int.ofNat 0) 30]))] } :: H=[]) Tr.bad)))))) [AV.int .i64 (Int.ofNat 0),AV.int .i64 (bB .i64 (Int.ofNat l) (Int.ofNat 1)),AV.slcT none (Row.M [ah.arr .i64 Z N]) 1 N false])) (Row.F (fun j=>AV.slcT none (Row.M [ah.arr .i64 (f j) (g j)]) 1 (g j) false) m))) (Row.M [ah.arr .i64 (dR (fun x=>Int.ofNat 0) 0 (fun x=>Int.ofNat 0) 30) 30]):=by kernel_rfl
theorem S1 (n l k:Nat) (t d z1 z2:Nat→Int) (m:Nat) (f:Nat→Nat→Int) (g:Nat→Nat) (N:Nat) (Z:Nat→Int) (c:Int) (b:Bool) (H:aa):aZ Try.prog (cd n) 100000 60 Try.f60 (KtL.kt 60) (il (tX (tX aH 84 [fF m f g] (bP N Z false)) 56 [.int .i64 0,.int .i64 (bB .i64 (Int.ofNat l) 1),bP N Z false] (.bool true)) n 0) (bZ aN 1 (xW m f g 0) (nz l t k d (fun _=>Int.ofNat 0)::H) (.ite b (.ok (.ret,hints [(4,.ptr 0 1 0 0),(5,.int .i64 15)],vi l t k d z1::H)) (.ok (.normal,hints (xW m f g c++[(39,.bool false)]),nz l t k d z2::H)))) aO [(cg l t k d,none),(fF m f g,none)] H =
 (fun (Z0:aW)=>((fun (Z1:AV×Option Nat)=>((fun (Z2:Row)=>((fun (Z3:ao)=>((fun (Z4:List AV)=>Tr.reqP ([AV.slcT none Z2 1 m false]=[AV.slcT none Z2 1 m false]) (Tr.ite (bV (Int.ofNat 40) (Int.ofNat m)) (Tr.req (fW 0 30 0 30) (Tr.ok ((AV.tup [AV.agg (Row.M [ah.arr .i64 (dR (fun x=>Int.ofNat 0) 0 (fun x=>Int.ofNat 0) 30) 30]),AV.int .i64 (Int.ofNat 6)],none),H))) (Tr.ite (ay (bJ (Int.ofNat N) (Int.ofNat l))) (Tr.req (fW 0 30 0 30) (Tr.ok (Z1,H))) (Tr.reqP (Z4=Z4) (Tr.ite (ay true) (Tr.req (fW 0 30 0 30) (Tr.ok (Z1,H))) (Tr.reqP (Z3=Z3∧Z0::H=Z0::H) (Tr.ite b (Tr.ok (Z1,H)) (Tr.req (fW 0 30 0 30) (Tr.ok ((AV.tup [AV.agg (Row.M [ah.arr .i64 (dR (fun x=>Int.ofNat 0) 0 z2 30) 30]),AV.int .i64 (Int.ofNat 0)],none),H)))))))))) [AV.int .i64 (Int.ofNat 0),AV.int .i64 (bB .i64 (Int.ofNat l) (Int.ofNat 1)),AV.slcT none (Row.M [ah.arr .i64 Z N]) 1 N false])) [(4,AV.ptr 0 1 0 0),(6,AV.ptr 0 2 0 0),(36,AV.slcT none Z2 1 m false),(37,AV.int .i64 (Int.ofNat m)),(38,AV.int .i64 (Int.ofNat 0))])) (Row.F (fun j=>AV.slcT none (Row.M [ah.arr .i64 (f j) (g j)]) 1 (g j) false) m))) (AV.tup [AV.agg (Row.M [ah.arr .i64 (dR (fun x=>Int.ofNat 0) 0 (fun x=>Int.ofNat 0) 30) 30]),AV.int .i64 (Int.ofNat 15)],none))) { lock:=false,bs:=[(0,ak.row (Row.G [AV.slcT none (Row.M [ah.arr .i64 t l]) 1 l false,AV.slcT none (Row.M [ah.arr .i64 d k]) 1 k false])),(0,ak.row (Row.M [ah.arr .i64 (fun x=>Int.ofNat 0) 30])),(0,ak.row (Row.M [ah.arr .i64 (fun x=>Int.ofNat 0) 30]))] }:=by kernel_rfl
theorem MB:∀ b,(1,b) ∈ aJ (bm Try.f60)→b=.loop (part Try.f60 [1,1,1,1,0,1,0,0]):=fa (by kernel_rfl)
theorem Kw:∀ b,(3,b) ∈ aJ (part Try.f60 [1,1,1,1,0,1,0,0])→b=.loop (part Try.f60 [1,1,1,1,0,1,0,0,1,1,0,0,1,1,0,0]):=fa (by kernel_rfl)
theorem AU {o:Nat→Int} {T:Int} {z:Nat→Int} (hT:0≤T) (hz:∀ c,0≤z c):∀ j c,0≤jb o T z j c
 | 0,c=>hz c
 | j+1,c=>by
   show 0≤uI (jb o T z j) (o j).toNat T c
   unfold uI
   split
   · exact hT
   · exact AU hT hz j c
theorem xr (f:Nat→Nat→Int) (g:Nat→Nat):∀ i c,0≤fo f g i c
 | 0,c=>by show 0≤Int.ofNat 0;decide
 | i+1,c=>AU (by omega) (xr f g i) _ c
noncomputable def gU (z:Nat→Int):Nat→Int:=dR (fun _=>Int.ofNat 0) 0 z 30
section
variable (n l k:Nat) (t d z:Nat→Int) (m:Nat) (f:Nat→Nat→Int) (g:Nat→Nat) (H:aa)
theorem N1 (i:Nat) (hi:i<m) (hm:m≤40) (hl:l≤30) (hg:g i<1000) (hr:∀ j,j<g i→0≤f i j∧f i j<l) (hz:∀ c,0≤z c):exec (bt n 60 61) (.block 3 (.loop (part Try.f60 [1,1,1,1,0,1,0,0,1,1,0,0,1,1,0,0]))) (sm m f g (i:Nat) (g i) (f i) ((0:Nat):Int)) (nz l t k d z::H)=some (cond (cU (fun j=>pz l (jb (f i) ((i+1:Nat):Int) z j) (f i j)) (g i)) (.ret,[(4,.ptr 0 1 0 0),(5,.int .i64 15)],vi l t k d (jb (f i) ((i+1:Nat):Int) z (fN (fun j=>pz l (jb (f i) ((i+1:Nat):Int) z j) (f i j)) (g i) 0))::H) (.normal,sm m f g (i:Nat) (g i) (f i) (Int.ofNat (g i))++[(46,.bool false)],nz l t k d (jb (f i) ((i+1:Nat):Int) z (g i))::H)):=by
 refine lA (n:=n) (f:=60) (nt:=61) (c:=part Try.f60 [1,1,1,1,0,1,0,0,1,1,0,0,1,1,0,0]) 3 (fun j=>sm m f g (i:Nat) (g i) (f i) (j:Nat)) (fun j=>nz l t k d (jb (f i) ((i+1:Nat):Int) z j)::H) (g i) (fun j=>pz l (jb (f i) ((i+1:Nat):Int) z j) (f i j)) (fun j=>([(4,.ptr 0 1 0 0),(5,.int .i64 15)],vi l t k d (jb (f i) ((i+1:Nat):Int) z j)::H)) _ (by omega) (fun j hj=>?_) ?_
 · refine aK (L0 n l k t d (jb (f i) ((i+1:Nat):Int) z j) m f g (i:Nat) (g i) (f i) (j:Nat) H) (av n) (af _ _) (ag _ _) ?_
   show Tr.all _ (fun r=>if pz l (jb (f i) ((i+1:Nat):Int) z j) (f i j)=true then _ else _∧tidy _ _ _=(sm m f g (i:Nat) (g i) (f i) ((j+1:Nat):Int),nz l t k d (uI (jb (f i) ((i+1:Nat):Int) z j) (f i j).toNat ((i+1:Nat):Int))::H))
   have hZ:=AU (o:=f i) (T:=((i+1:Nat):Int)) (by omega) hz j
   rw[dx (j:=j) (by omega),dx (j:=i) (by omega)]
   simp only[jo]
   generalize jb (f i) ((i+1:Nat):Int) z j=Z at *
   have hrj:=hr j hj
   obtain ⟨c,hc⟩:∃ c:Nat,f i j=c:=⟨(f i j).toNat,by omega⟩
   rw[hc] at hrj ⊢
   have e1:(decide (0≤(c:Int)) && decide ((c:Int)<l))=true:=by rw[decide_eq_true hrj.1,decide_eq_true hrj.2];rfl
   rw[Int.toNat_natCast]
   have hZc:=hZ c
   simp only[jo,tG]
   by_cases h0:Z c=0
   · have eb:pz l Z (c:Int)=false:=by unfold pz;rw[e1,Int.toNat_natCast,decide_eq_false (by simpa using h0)];rfl
     rw[eb]
     simp only[Bool.false_eq_true,if_false]
     generalize uI Z c ((i+1:Nat):Int)=Z2 at *
     exact wF
   · have eb:pz l Z (c:Int)=true:=by unfold pz;rw[e1,Int.toNat_natCast,decide_eq_true h0];rfl
     rw[eb]
     simp only[if_true]
     exact wF
 · exact cW (L0 n l k t d (jb (f i) ((i+1:Nat):Int) z (g i)) m f g (i:Nat) (g i) (f i) (Int.ofNat (g i)) H) (av n) (af _ _) (ag _ _) (by first | (simp (disch:=omega) only[nV,nW];done) | (simp (disch:=omega) only[nV,nW];omega))
theorem Sp (hm:m≤40) (hl:l≤30) (hg:∀ i,i<m→g i<1000) (hr:∀ i,i<m→∀ j,j<g i→0≤f i j∧f i j<l):∃ X:Nat→Nat→Int,exec (bt n 60 61) (.block 1 (.loop (part Try.f60 [1,1,1,1,0,1,0,0]))) (xW m f g ((0:Nat):Int)) (nz l t k d (fo f g 0)::H)=some (cond (cU (oe l f g) m) (.ret,[(4,.ptr 0 1 0 0),(5,.int .i64 15)],vi l t k d (X (fN (oe l f g) m 0))::H) (.normal,xW m f g (Int.ofNat m)++[(39,.bool false)],nz l t k d (fo f g m)::H)):=by
 refine ⟨fun i=>jb (f i) ((i+1:Nat):Int) (fo f g i) (fN (fun j=>pz l (jb (f i) ((i+1:Nat):Int) (fo f g i) j) (f i j)) (g i) 0),?_⟩
 refine lA (n:=n) (f:=60) (nt:=61) (c:=part Try.f60 [1,1,1,1,0,1,0,0]) 1 (fun i=>xW m f g (i:Nat)) (fun i=>nz l t k d (fo f g i)::H) m (oe l f g) (fun i=>([(4,.ptr 0 1 0 0),(5,.int .i64 15)],vi l t k d (jb (f i) ((i+1:Nat):Int) (fo f g i) (fN (fun j=>pz l (jb (f i) ((i+1:Nat):Int) (fo f g i) j) (f i j)) (g i) 0))::H)) _ (by omega) (fun i hi=>?_) ?_
 · have hx:=N1 n l k t d (fo f g i) m f g H i hi hm hl (hg i hi) (hr i hi) (xr f g i)
   refine aK (OS n l k t d (fo f g i) (jb (f i) ((i+1:Nat):Int) (fo f g i) (fN (fun j=>pz l (jb (f i) ((i+1:Nat):Int) (fo f g i) j) (f i j)) (g i) 0)) (fo f g (i+1)) m f g (i:Nat) (Int.ofNat (g i)) (oe l f g i) H) (av _) (aD (af _ _) Kw (fun x hy=>fp hy (by rw[jo];exact hx))) (ag _ _) ?_
   show Tr.all _ (fun r=>if oe l f g i=true then _ else _∧tidy _ _ _=(xW m f g ((i+1:Nat):Int),nz l t k d (fo f g (i+1))::H))
   rw[dx (j:=i) (by omega)]
   simp only[jo]
   clear hx
   generalize oe l f g i=B at *
   generalize fo f g (i+1)=Z2 at *
   generalize jb (f i) ((i+1:Nat):Int) (fo f g i) (fN (fun j=>pz l (jb (f i) ((i+1:Nat):Int) (fo f g i) j) (f i j)) (g i) 0)=Z1 at *
   cases B with
   | true =>
     simp only[if_true]
     exact wF
   | false =>
     simp only[Bool.false_eq_true,if_false]
     exact wF
 · exact cW (OR n l k t d (fo f g m) m f g (Int.ofNat m) H) (av n) (aD (af _ _) Kw (fun x hx=>(Tr.ae hx).elim)) (ag _ _) (by first | (simp (disch:=omega) only[nV,nW];done) | (simp (disch:=omega) only[nV,nW];omega))
end
noncomputable def rM (l m:Nat) (f:Nat→Nat→Int) (g:Nat→Nat):Int:=if 40<m then 6 else if cU (oe l f g) m=true∨bD g m≠l then 15 else 0
theorem FW (l m:Nat) (f:Nat→Nat→Int) (g:Nat→Nat):Mo l m f g=if rM l m f g=0 then .tup [bP l (fo f g m) true,.int .i64 0] else .tup [.nils,.int .i64 (rM l m f g)]:=by
 unfold Mo rM
 split
 · rfl
 · split
   · rfl
   · rfl
noncomputable def DP (l m:Nat) (f:Nat→Nat→Int) (g:Nat→Nat):AV:=if rM l m f g=0 then .tup [.agg (.M [.arr .i64 (gU (fo f g m)) 30]),.int .i64 0] else .tup [.agg (.M [.arr .i64 (gU (fun _=>Int.ofNat 0)) 30]),.int .i64 (rM l m f g)]
theorem z7 {l m:Nat} {f:Nat→Nat→Int} {g:Nat→Nat} {i j:Nat} (hi:i<m) (hj:j<g i) (h:¬ (0≤f i j∧f i j<l)):cU (oe l f g) m=true:=by
 refine (dI _ _).2 ⟨i,hi,(dI _ _).2 ⟨j,hj,?_⟩⟩
 unfold pz
 have:(decide (0≤f i j) && decide (f i j<l))=false:=by
  cases hx:(decide (0≤f i j) && decide (f i j<l)) with
  | false=>rfl
  | true =>
    simp only[Bool.and_eq_true,decide_eq_true_eq] at hx
    exact absurd hx h
 rw[this];rfl
theorem Qs (n l k:Nat) (t d:Nat→Int) (m:Nat) (f:Nat→Nat→Int) (g:Nat→Nat) (H:aa) (h0:0<l) (hl:l≤30) (hm:m≤50) (hg:∀ i,i<m→g i≤40):cd (n+6) (.fn 60) [cg l t k d,fF m f g] H=some (DP l m f g,H):=by
 have ht:=pq (g:=g) (B:=40) m hg
 have h84:∀ q H,cd (n+5+q) (.fn 84) [fF m f g] H=some (I1 m f g,H):=fun q H=>by
  rw[show n+5+q=(n+3+q)+2 by omega]
  exact Qy _ m f g H (by omega) (fun j hj=>by have:=hg j hj;omega)
 have eerr:rM l m f g≠0→DP l m f g=.tup [.agg (.M [.arr .i64 (gU (fun _=>Int.ofNat 0)) 30]),.int .i64 (rM l m f g)]:=fun h=>by unfold DP;rw[if_neg h]
 have e6:40<m→rM l m f g=6:=fun h=>by unfold rM;rw[if_pos h]
 have e15:¬ 40<m→(cU (oe l f g) m=true∨bD g m≠l)→rM l m f g=15:=fun h h2=>by unfold rM;rw[if_neg h,if_pos h2]
 by_cases hN:bD g m=0
 · have hn:I1 m f g=.nils:=by unfold I1;rw[if_pos hN]
   refine aL (n:=n+5) Try.func60 rfl rfl rfl (Pj (n+5) l k t d m f g H) (aS _ (n+5) (bf (aG _) (fun H=>by rw[← hn];exact h84 0 H))) (aD (af _ _) MB (fun x hx=>(Tr.ae hx).elim)) (ag _ _) ?_
   by_cases c:40<m
   · rw[eerr (by rw[e6 c];decide),e6 c]
     exact wF
   · rw[eerr (by rw[e15 c (.inr (by omega))];decide),e15 c (.inr (by omega))]
     exact wF
 · have hn:I1 m f g=bP (bD g m) (lR f g m) false:=by unfold I1;rw[if_neg hN]
   by_cases hA:40<m∨bD g m≠l
   · refine aL (n:=n+5) Try.func60 rfl rfl rfl (Pg (n+5) l k t d m f g (bD g m) (lR f g m) H) (aS _ (n+5) (bf (aG _) (fun H=>by rw[← hn];exact h84 0 H))) (aD (af _ _) MB (fun x hx=>(Tr.ae hx).elim)) (ag _ _) ?_
     by_cases c:40<m
     · rw[eerr (by rw[e6 c];decide),e6 c]
       generalize lR f g m=Z at *
       generalize bD g m=N at *
       exact wF
     · have hNl:=hA.resolve_left c
       rw[eerr (by rw[e15 c (.inr hNl)];decide),e15 c (.inr hNl)]
       generalize lR f g m=Z at *
       generalize bD g m=N at *
       exact wF
   · have c:¬ 40<m:=fun h=>hA (.inl h)
     have hNl:bD g m=l:=Classical.byContradiction (fun h=>hA (.inr h))
     have h56:∀ H,cd (n+5) (.fn 56) [.int .i64 0,.int .i64 (bB .i64 (Int.ofNat l) 1),bP (bD g m) (lR f g m) false] H=some (.bool (!cU (fun j=>eV 0 (bB .i64 (Int.ofNat l) 1) (lR f g m j)) (bD g m)),H):=fun H=>PO n (bD g m) (lR f g m) false 0 _ H (by omega)
     have esub:bB .i64 (Int.ofNat l) 1=(l:Int)-1:=qt (by show _≤(l:Int)-1;omega) (by show (l:Int)-1≤_;omega)
     cases hx:cU (fun j=>eV 0 (bB .i64 (Int.ofNat l) 1) (lR f g m j)) (bD g m) with
     | true =>
       rw[hx] at h56
       have hb:cU (oe l f g) m=true:=by
        apply Classical.byContradiction
        intro hnb
        have hall:∀ i,i<m→∀ j,j<g i→0≤f i j∧f i j<l:=fun i hi j hj=>Classical.byContradiction (fun h=>hnb (z7 hi hj h))
        obtain ⟨a,a1,a2⟩:=(dI _ _).1 hx
        have:=(vR f g (fun x=>0≤x∧x<l) m).2 (fun j hj i hi=>hall j hj i hi) a a1
        unfold eV at a2
        simp only[Bool.or_eq_true,decide_eq_true_eq] at a2
        omega
       refine aL (n:=n+5) Try.func60 rfl rfl rfl (Ph (n+5) l k t d m f g (bD g m) (lR f g m) false H) (aS _ (n+5) (bf (bf (aG _) (fun H=>by rw[← hn];exact h84 0 H)) h56)) (aD (af _ _) MB (fun x hx=>(Tr.ae hx).elim)) (ag _ _) ?_
       rw[eerr (by rw[e15 c (.inl hb)];decide),e15 c (.inl hb)]
       generalize lR f g m=Z at *
       generalize bD g m=N at *
       exact wF
     | false =>
       rw[hx] at h56
       have hall:∀ i,i<m→∀ j,j<g i→0≤f i j∧f i j<l:=by
        refine (vR f g (fun x=>0≤x∧x<l) m).1 (fun i hi=>?_)
        have:=gd hx i hi
        unfold eV at this
        simp only[Bool.or_eq_false_iff,decide_eq_false_iff_not] at this
        omega
       obtain ⟨X,hX⟩:=Sp (n+5) l k t d m f g H (by omega) hl (fun i hi=>by have:=hg i hi;omega) hall
       refine aL (n:=n+5) Try.func60 rfl rfl rfl (S1 (n+5) l k t d (X (fN (oe l f g) m 0)) (fo f g m) m f g (bD g m) (lR f g m) (Int.ofNat m) (cU (oe l f g) m) H) (aS _ (n+5) (bf (bf (aG _) (fun H=>by rw[← hn];exact h84 0 H)) h56)) (aD (af _ _) MB (fun x hy=>fp hy hX)) (ag _ _) ?_
       have e0:cU (oe l f g) m=false→DP l m f g=.tup [.agg (.M [.arr .i64 (gU (fo f g m)) 30]),.int .i64 0]:=fun h=>by
        have e00:rM l m f g=0:=by unfold rM;rw[if_neg c,if_neg (by rw[h];simp[hNl])]
        unfold DP;rw[if_pos e00]
       have e1:cU (oe l f g) m=true→DP l m f g=.tup [.agg (.M [.arr .i64 (gU (fun _=>Int.ofNat 0)) 30]),.int .i64 15]:=fun h=>by
        rw[eerr (by rw[e15 c (.inl h)];decide),e15 c (.inl h)]
       clear hX eerr e6 e15
       generalize DP l m f g=A at *
       generalize X (fN (oe l f g) m 0)=X at *
       generalize cU (oe l f g) m=B at *
       generalize fo f g m=Z2 at *
       generalize lR f g m=Z at *
       generalize bD g m=N at *
       cases B with
       | true =>
         rw[e1 rfl]
         exact wF
       | false =>
         rw[e0 rfl]
         exact wF
end Go.Eng
end
section
namespace Go.Eng
open Go.Proofs
theorem Gy (p:Nat→Bool) (j:Nat):cU p (j+1)=(cU p j || p j):=by
 rw[Bool.eq_iff_iff,Bool.or_eq_true,dI,dI]
 constructor
 · rintro ⟨i,h1,h2⟩
   by_cases e:i=j
   · subst e;exact .inr h2
   · exact .inl ⟨i,by omega,h2⟩
 · rintro (⟨i,h1,h2⟩ | h)
   · exact ⟨i,by omega,h2⟩
   · exact ⟨j,by omega,h⟩
theorem Ev (p:Nat→Bool):cU p 0=false:=kI (fun j hj=>by omega)
section
variable (n l k:Nat) (t d z:Nat→Int) (h:Int) (m:Nat) (f:Nat→Nat→Int) (g:Nat→Nat) (H:aa)
theorem HZ (z:Nat→Int) {c:Nat} (hc:c<30):gU z c=z c:=by
 unfold gU
 rw[rq]
 show (if 0≤c∧c<0+30 then z (c-0) else _)=_
 rw[if_pos (by omega),Nat.sub_zero]
end
end Go.Eng
end
section
namespace Go.Eng
open Go.Proofs
noncomputable def g6 (l:Nat) (t:Nat→Int) (k:Nat) (d:Nat→Int):aW:=⟨false,[F2 l t k d]⟩
section
variable (n l k:Nat) (t d z:Nat→Int) (h:Int) (m:Nat) (f:Nat→Nat→Int) (g:Nat→Nat) (H:aa)
end
end Go.Eng
end
section
namespace Go.Eng
open Go.Proofs
noncomputable def Da (l:Nat) (t:Nat→Int) (k:Nat) (d y:Nat→Int):aW:=⟨false,[F2 l t k d,Dx y]⟩
noncomputable def sF (l:Nat) (t:Nat→Int) (k:Nat) (d y:Nat→Int) (v q:Nat) (w:Nat→Int):aW:=⟨false,[F2 l t k d,Dx y,(v,.row (.M [.arr .i64 w q]))]⟩
noncomputable def pU (l:Nat) (t:Nat→Int) (o:AV) (j:Int):ao:=[(8,.ptr 0 1 0 0),(10,o),(31,bP l t false),(32,.int .i64 (Int.ofNat l)),(33,.int .i64 j)]
theorem LU (n l k:Nat) (t d y:Nat→Int) (j:Int) (H:aa):aQ (bt n 25 56) (il aH n 0) aN aO (part Try.f25 [1,1,1,1,1,0,1,0,0]) (hints (pU l t .nils j)) (Da l t k d y::H) =
 (fun (Z0:aW)=>((fun (Z1:aI)=>Tr.ite (bV j (Int.ofNat l)) (Tr.req (cS j l) (Tr.req (cJ (ar 0 j 1) l) (Tr.ite (jF (Int.ofNat 0) (t (ar 0 j 1))) (Tr.req (cS (t (ar 0 j 1)) 30) (Tr.req (cu 0 0) (Tr.req (cJ (ar 0 (t (ar 0 j 1)) 1) 30) (Tr.req (cS j 30) (Tr.req (cu 0 0) (Tr.req (cJ (ar 0 j 1) 30) (Tr.ite (ay (bJ (y (ar 0 (t (ar 0 j 1)) 1)) (bE .i64 (y (ar 0 j 1)) (Int.ofNat 1)))) (Tr.req (gx 0 1 8) (Tr.req (cu 0 0) (Tr.req (ik 1 1) (Tr.ok (Ex.normal,[(8,AV.ptr 0 1 0 0,none),(10,AV.slc 0 3 0 0 1 1 none,none),(31,AV.slcT none (Row.M [ah.arr .i64 t l]) 1 l false,none),(32,AV.int .i64 (Int.ofNat l),none),(33,AV.int .i64 (bE .i64 j (Int.ofNat 1)),none)],{ lock:=false,bs:=[(0,ak.row (Row.G [AV.slcT none (Row.M [ah.arr .i64 t l]) 1 l false,AV.slcT none (Row.M [ah.arr .i64 d k]) 1 k false])),(0,ak.row (Row.M [ah.arr .i64 y 30])),(0,ak.row (Row.I .i64 [j])),(0,ak.row (Row.M [ah.arr .i64 (aA [j]) 1]))] } :: H))))) (Tr.ok (Ex.normal,Z1,Z0::H))))))))) (Tr.ok (Ex.normal,Z1,Z0::H))))) (Tr.ok (Ex.exit 0,[(8,AV.ptr 0 1 0 0,none),(10,AV.nils,none),(31,AV.slcT none (Row.M [ah.arr .i64 t l]) 1 l false,none),(32,AV.int .i64 (Int.ofNat l),none),(33,AV.int .i64 j,none),(34,AV.bool false,some 1)],Z0::H))) [(8,AV.ptr 0 1 0 0,none),(10,AV.nils,none),(31,AV.slcT none (Row.M [ah.arr .i64 t l]) 1 l false,none),(32,AV.int .i64 (Int.ofNat l),none),(33,AV.int .i64 (bE .i64 j (Int.ofNat 1)),none)])) { lock:=false,bs:=[(0,ak.row (Row.G [AV.slcT none (Row.M [ah.arr .i64 t l]) 1 l false,AV.slcT none (Row.M [ah.arr .i64 d k]) 1 k false])),(0,ak.row (Row.M [ah.arr .i64 y 30]))] }:=by kernel_rfl
theorem LS (n l k:Nat) (t d y:Nat→Int) (v q:Nat) (w:Nat→Int) (j:Int) (H:aa):aQ (bt n 25 56) (il aH n 0) aN aO (part Try.f25 [1,1,1,1,1,0,1,0,0]) (hints (pU l t (.slc 0 2 v 0 1 q none) j)) (sF l t k d y v q w::H) =
 (fun (Z0:aW)=>((fun (Z1:aI)=>Tr.ite (bV j (Int.ofNat l)) (Tr.req (cS j l) (Tr.req (cJ (ar 0 j 1) l) (Tr.ite (jF (Int.ofNat 0) (t (ar 0 j 1))) (Tr.req (cS (t (ar 0 j 1)) 30) (Tr.req (cu 0 0) (Tr.req (cJ (ar 0 (t (ar 0 j 1)) 1) 30) (Tr.req (cS j 30) (Tr.req (cu 0 0) (Tr.req (cJ (ar 0 j 1) 30) (Tr.ite (ay (bJ (y (ar 0 (t (ar 0 j 1)) 1)) (bE .i64 (y (ar 0 j 1)) (Int.ofNat 1)))) (Tr.req (gx q 1 8) (Tr.req (cu 0 0) (Tr.req (ik 1 1) (Tr.req (cu v v) (Tr.req (cu (bY 0 q) q) (Tr.ok (Ex.normal,[(8,AV.ptr 0 1 0 0,none),(10,AV.slc 0 2 (Nat.succ v) 0 1 (bY q 1) none,none),(31,AV.slcT none (Row.M [ah.arr .i64 t l]) 1 l false,none),(32,AV.int .i64 (Int.ofNat l),none),(33,AV.int .i64 (bE .i64 j (Int.ofNat 1)),none)],{ lock:=false,bs:=[(0,ak.row (Row.G [AV.slcT none (Row.M [ah.arr .i64 t l]) 1 l false,AV.slcT none (Row.M [ah.arr .i64 d k]) 1 k false])),(0,ak.row (Row.M [ah.arr .i64 y 30])),(Nat.succ v,ak.row (Row.M [ah.arr .i64 (lO (dE w 0) q (aA [j])) (bY q 1)])),(0,ak.row (Row.I .i64 [j]))] } :: H))))))) (Tr.ok (Ex.normal,Z1,Z0::H))))))))) (Tr.ok (Ex.normal,Z1,Z0::H))))) (Tr.ok (Ex.exit 0,[(8,AV.ptr 0 1 0 0,none),(10,AV.slc 0 2 v 0 1 q none,none),(31,AV.slcT none (Row.M [ah.arr .i64 t l]) 1 l false,none),(32,AV.int .i64 (Int.ofNat l),none),(33,AV.int .i64 j,none),(34,AV.bool false,some 1)],Z0::H))) [(8,AV.ptr 0 1 0 0,none),(10,AV.slc 0 2 v 0 1 q none,none),(31,AV.slcT none (Row.M [ah.arr .i64 t l]) 1 l false,none),(32,AV.int .i64 (Int.ofNat l),none),(33,AV.int .i64 (bE .i64 j (Int.ofNat 1)),none)])) { lock:=false,bs:=[(0,ak.row (Row.G [AV.slcT none (Row.M [ah.arr .i64 t l]) 1 l false,AV.slcT none (Row.M [ah.arr .i64 d k]) 1 k false])),(0,ak.row (Row.M [ah.arr .i64 y 30])),(v,ak.row (Row.M [ah.arr .i64 w q]))] }:=by kernel_rfl
theorem O6 (n l k:Nat) (t d z y e:Nat→Int) (m:Nat) (f:Nat→Nat→Int) (g:Nat→Nat) (H:aa):aZ Try.prog (cd n) 100000 25 Try.f25 (KtL.kt 25) (il (tX (tX aH 51 [cg l t k d] (.tup [dv 0 l t k d e,.int .i64 0])) 60 [cg l t k d,fF m f g] (.tup [.agg (.M [.arr .i64 z 30]),.int .i64 0])) n 0) (bZ aN 0 (pU l t .nils 0) (Da l t k d y::H) (.ok (.normal,hints (pU l t .nils (Int.ofNat l)++[(34,.bool false)]),Da l t k d y::H))) aO [(cg l t k d,none),(fF m f g,none)] H =
 (fun (Z0:Row)=>((fun (Z1:ao)=>((fun (Z2:List AV)=>((fun (Z3:AV×Option Nat)=>Tr.reqP ([AV.agg Z0]=[AV.agg Z0]) (Tr.ite (ay (bJ (Int.ofNat 0) (Int.ofNat 0))) (Tr.ok (Z3,H)) (Tr.reqP (Z2=Z2) (Tr.req (fW 0 30 0 30) (Tr.ite (ay (bJ (Int.ofNat 0) (Int.ofNat 0))) (Tr.ok (Z3,H)) (Tr.reqP (Z1=Z1∧{ lock:=false,bs:=[(0,ak.row Z0),(0,ak.row (Row.M [ah.arr .i64 (dR (fun x=>Int.ofNat 0) 0 z 30) 30]))] } :: H={ lock:=false,bs:=[(0,ak.row Z0),(0,ak.row (Row.M [ah.arr .i64 y 30]))] } :: H) (Tr.ok (Z3,H)))))))) (AV.tup [AV.nils,AV.int .i64 (Int.ofNat 0)],none))) [AV.agg Z0,AV.slcT none (Row.F (fun j=>AV.slcT none (Row.M [ah.arr .i64 (f j) (g j)]) 1 (g j) false) m) 1 m false])) [(8,AV.ptr 0 1 0 0),(10,AV.nils),(31,AV.slcT none (Row.M [ah.arr .i64 t l]) 1 l false),(32,AV.int .i64 (Int.ofNat l)),(33,AV.int .i64 (Int.ofNat 0))])) (Row.G [AV.slcT none (Row.M [ah.arr .i64 t l]) 1 l false,AV.slcT none (Row.M [ah.arr .i64 d k]) 1 k false]):=by kernel_rfl
theorem O5 (n l k:Nat) (t d z y e:Nat→Int) (m:Nat) (f:Nat→Nat→Int) (g:Nat→Nat) (v q:Nat) (w:Nat→Int) (H:aa):aZ Try.prog (cd n) 100000 25 Try.f25 (KtL.kt 25) (il (tX (tX aH 51 [cg l t k d] (.tup [dv 0 l t k d e,.int .i64 0])) 60 [cg l t k d,fF m f g] (.tup [.agg (.M [.arr .i64 z 30]),.int .i64 0])) n 0) (bZ aN 0 (pU l t .nils 0) (Da l t k d y::H) (.ok (.normal,hints (pU l t (.slc 0 2 v 0 1 q none) (Int.ofNat l)++[(34,.bool false)]),sF l t k d y v q w::H))) aO [(cg l t k d,none),(fF m f g,none)] H =
 (fun (Z0:Row)=>((fun (Z1:ao)=>((fun (Z2:List AV)=>Tr.reqP ([AV.agg Z0]=[AV.agg Z0]) (Tr.ite (ay (bJ (Int.ofNat 0) (Int.ofNat 0))) (Tr.ok ((AV.tup [AV.nils,AV.int .i64 (Int.ofNat 0)],none),H)) (Tr.reqP (Z2=Z2) (Tr.req (fW 0 30 0 30) (Tr.ite (ay (bJ (Int.ofNat 0) (Int.ofNat 0))) (Tr.ok ((AV.tup [AV.nils,AV.int .i64 (Int.ofNat 0)],none),H)) (Tr.reqP (Z1=Z1∧{ lock:=false,bs:=[(0,ak.row Z0),(0,ak.row (Row.M [ah.arr .i64 (dR (fun x=>Int.ofNat 0) 0 z 30) 30]))] } :: H={ lock:=false,bs:=[(0,ak.row Z0),(0,ak.row (Row.M [ah.arr .i64 y 30]))] } :: H) (Tr.req (cu v v) (Tr.req (fW 0 q 0 q) (Tr.ok ((AV.tup [AV.slcT none (Row.M [ah.arr .i64 (dE w 0) q]) 1 q false,AV.int .i64 (Int.ofNat 0)],none),H)))))))))) [AV.agg Z0,AV.slcT none (Row.F (fun j=>AV.slcT none (Row.M [ah.arr .i64 (f j) (g j)]) 1 (g j) false) m) 1 m false])) [(8,AV.ptr 0 1 0 0),(10,AV.nils),(31,AV.slcT none (Row.M [ah.arr .i64 t l]) 1 l false),(32,AV.int .i64 (Int.ofNat l)),(33,AV.int .i64 (Int.ofNat 0))])) (Row.G [AV.slcT none (Row.M [ah.arr .i64 t l]) 1 l false,AV.slcT none (Row.M [ah.arr .i64 d k]) 1 k false]):=by kernel_rfl
theorem O8 (n l k:Nat) (t d z e:Nat→Int) (m:Nat) (f:Nat→Nat→Int) (g:Nat→Nat) (c:Int) (H:aa):aZ Try.prog (cd n) 100000 25 Try.f25 (KtL.kt 25) (il (tX (tX aH 51 [cg l t k d] (.tup [dv 0 l t k d e,.int .i64 0])) 60 [cg l t k d,fF m f g] (.tup [.agg (.M [.arr .i64 z 30]),.int .i64 c])) n 0) (bZ aN 0 [] [] .bad) aO [(cg l t k d,none),(fF m f g,none)] H =
 (fun (Z0:Row)=>((fun (Z1:List AV)=>Tr.reqP ([AV.agg Z0]=[AV.agg Z0]) (Tr.ite (ay (bJ (Int.ofNat 0) (Int.ofNat 0))) (Tr.ok ((AV.tup [AV.nils,AV.int .i64 (Int.ofNat 0)],none),H)) (Tr.reqP (Z1=Z1) (Tr.req (fW 0 30 0 30) (Tr.ite (ay (bJ c (Int.ofNat 0))) (Tr.ok ((AV.tup [AV.nils,AV.int .i64 c],none),H)) (Tr.reqP ([(8,AV.ptr 0 1 0 0),(10,AV.nils),(31,AV.slcT none (Row.M [ah.arr .i64 t l]) 1 l false),(32,AV.int .i64 (Int.ofNat l)),(33,AV.int .i64 (Int.ofNat 0))]=[]∧{ lock:=false,bs:=[(0,ak.row Z0),(0,ak.row (Row.M [ah.arr .i64 (dR (fun x=>Int.ofNat 0) 0 z 30) 30]))] } :: H=[]) Tr.bad)))))) [AV.agg Z0,AV.slcT none (Row.F (fun j=>AV.slcT none (Row.M [ah.arr .i64 (f j) (g j)]) 1 (g j) false) m) 1 m false])) (Row.G [AV.slcT none (Row.M [ah.arr .i64 t l]) 1 l false,AV.slcT none (Row.M [ah.arr .i64 d k]) 1 k false]):=by kernel_rfl
theorem O7 (n l k:Nat) (t d:Nat→Int) (m:Nat) (f:Nat→Nat→Int) (g:Nat→Nat) (c:Int) (H:aa):aZ Try.prog (cd n) 100000 25 Try.f25 (KtL.kt 25) (il (tX aH 51 [cg l t k d] (.tup [.nilp,.int .i64 c])) n 0) (bZ aN 0 [] [] .bad) aO [(cg l t k d,none),(fF m f g,none)] H =
 (fun (Z0:List AV)=>Tr.reqP (Z0=Z0) (Tr.ite (ay (bJ c (Int.ofNat 0))) (Tr.ok ((AV.tup [AV.nils,AV.int .i64 c],none),H)) Tr.bad)) [AV.agg (Row.G [AV.slcT none (Row.M [ah.arr .i64 t l]) 1 l false,AV.slcT none (Row.M [ah.arr .i64 d k]) 1 k false])]:=by kernel_rfl
theorem MA:∀ b,(0,b) ∈ aJ (bm Try.f25)→b=.loop (part Try.f25 [1,1,1,1,1,0,1,0,0]):=fa (by kernel_rfl)
def qF (p:Nat→Bool):Nat→List Int
 | 0=>[]
 | j+1=>if p j=true then qF p j++[(j:Int)] else qF p j
theorem Am (p:Nat→Bool):∀ j,(qF p j).length≤j
 | 0=>Nat.le_refl _
 | j+1=>by
   have:=Am p j
   unfold qF
   split
   · simp;omega
   · omega
theorem Ey (p:Nat→Bool) (x:Int):∀ j,x ∈ qF p j↔∃ i:Nat,i<j∧p i=true∧x=i
 | 0=>⟨fun h=>(List.not_mem_nil h).elim,fun ⟨i,hi,_⟩=>by omega⟩
 | j + 1=>by
   have ih:=Ey p x j
   unfold qF
   constructor
   · intro h
     split at h
     · rename_i hp
       rcases List.mem_append.1 h with h | h
       · obtain ⟨i,h1,h2,h3⟩:=ih.1 h;exact ⟨i,by omega,h2,h3⟩
       · exact ⟨j,by omega,hp,List.mem_singleton.1 h⟩
     · obtain ⟨i,h1,h2,h3⟩:=ih.1 h;exact ⟨i,by omega,h2,h3⟩
   · rintro ⟨i,h1,h2,h3⟩
     by_cases e:i=j
     · subst e
       rw[if_pos h2]
       exact List.mem_append.2 (.inr (List.mem_singleton.2 h3))
     · have:=ih.2 ⟨i,by omega,h2,h3⟩
       split
       · exact List.mem_append.2 (.inl this)
       · exact this
theorem xP {p q:Nat→Bool}:∀ j,(∀ i,i<j→p i=q i)→qF p j=qF q j
 | 0,_=>rfl
 | j+1,h=>by
   unfold qF
   rw[h j (by omega),xP j (fun i hi=>h i (by omega))]
def nZ (t z:Nat→Int) (j:Nat):Bool:=decide (0≤t j) && !decide (z (t j).toNat=z j+1)
noncomputable def oL (b:Nat):List Int→AV
 | []=>.nils
 | a::r=>.slc 0 b r.length 0 1 (r.length+1) none
noncomputable def Ik (l:Nat) (t:Nat→Int) (k:Nat) (d y:Nat→Int):List Int→aW
 | []=>Da l t k d y
 | a::r=>sF l t k d y r.length (r.length+1) (aA (a::r))
theorem II {o:Nat→Int} {T B:Int} {z:Nat→Int} (hT:T≤B) (hz:∀ c,z c≤B):∀ j c,jb o T z j c≤B
 | 0,c=>hz c
 | j+1,c=>by
   show uI (jb o T z j) (o j).toNat T c≤B
   unfold uI
   split
   · exact hT
   · exact II hT hz j c
theorem F1 (f:Nat→Nat→Int) (g:Nat→Nat):∀ i c,fo f g i c≤(i:Int)
 | 0,c=>by show Int.ofNat 0≤((0:Nat):Int);decide
 | i+1,c=>II (Int.le_refl _) (fun c=>by have:=F1 f g i c;omega) _ c
theorem H3 {z:Nat→Int} {B:Int} (h0:0≤B) (hz:∀ c,0≤z c∧z c≤B) (c:Nat):0≤gU z c∧gU z c≤B:=by
 unfold gU
 rw[rq]
 show 0≤(if 0≤c∧c<0+30 then z (c-0) else Int.ofNat 0)∧(if 0≤c∧c<0+30 then z (c-0) else Int.ofNat 0)≤B
 split
 · exact hz _
 · exact ⟨Int.le_refl _,h0⟩
theorem Ii {t z:Nat→Int} {l:Nat} (hl:l≤30) (ht:∀ j,j<l→t j<l):qF (nZ t (gU z)) l=qF (nZ t z) l:=xP l (fun j hj=>by
 have:=ht j hj
 unfold nZ
 rw[HZ z (c:=j) (by omega)]
 by_cases c:0≤t j
 · rw[HZ z (c:=(t j).toNat) (by omega)]
 · rw[decide_eq_false c];rfl)
noncomputable def DM (l k:Nat) (t d:Nat→Int) (m:Nat) (f:Nat→Nat→Int) (g:Nat→Nat):AV:=if jK l t k d≠0 then .tup [.nils,.int .i64 (jK l t k d)] else if rM l m f g≠0 then .tup [.nils,.int .i64 (rM l m f g)] else .tup [dA (qF (nZ t (fo f g m)) l),.int .i64 0]
section
variable (n l k:Nat) (t d:Nat→Int) (m:Nat) (f:Nat→Nat→Int) (g:Nat→Nat) (H:aa)
theorem Sk (y:Nat→Int) (hl:l≤30) (ht:∀ j,j<l→t j<l) (hy:∀ c,0≤y c∧y c≤1000):exec (bt n 25 56) (.block 0 (.loop (part Try.f25 [1,1,1,1,1,0,1,0,0]))) (pU l t .nils ((0:Nat):Int)) (Da l t k d y::H)=some (.normal,pU l t (oL 2 (qF (nZ t y) l)) (Int.ofNat l)++[(34,.bool false)],Ik l t k d y (qF (nZ t y) l)::H):=by
 refine jD (n:=n) (f:=25) (nt:=56) (c:=part Try.f25 [1,1,1,1,1,0,1,0,0]) 0 (fun j=>pU l t (oL 2 (qF (nZ t y) j)) (j:Nat)) (fun j=>Ik l t k d y (qF (nZ t y) j)::H) l _ (by omega) (fun j hj=>?_) ?_
 · have hr:qF (nZ t y) (j+1)=if nZ t y j=true then qF (nZ t y) j++[(j:Int)] else qF (nZ t y) j:=rfl
   have hll:=Am (nZ t y) j
   have htj:=ht j hj
   try dsimp only
   rw[hr]
   have hyj:=hy j
   have ea:bE .i64 (y j) (Int.ofNat 1)=y j+1:=by rw[Cz (by show _≤y j+1;omega) (by show y j+1≤_;omega)];rfl
   have eb:nZ t y j=(decide (0≤t j) && !decide (y (t j).toNat=y j+1)):=rfl
   rw[eb]
   generalize qF (nZ t y) j=L at *
   cases L with
   | nil =>
     refine aK (LU n l k t d y (j:Nat) H) (av n) (af _ _) (ag _ _) ?_
     show Tr.all _ (fun x=>_∧tidy _ _ _=_)
     rw[dx (j:=j) (by omega)]
     simp only[jo,ea]
     by_cases c0:0≤t j
     · obtain ⟨q,hq⟩:∃ q:Nat,t j=q:=⟨(t j).toNat,by omega⟩
       rw[hq] at htj c0 ⊢
       simp only[jo,Int.toNat_natCast,decide_eq_true c0,Bool.true_and]
       by_cases c1:y q=y j+1
       · rw[decide_eq_true c1]
         simp only[Bool.not_true,Bool.false_eq_true,if_false]
         exact wF
       · rw[decide_eq_false c1]
         simp only[Bool.not_false,if_true]
         show Tr.all _ (fun x=>_∧tidy _ _ _=(pU l t (.slc 0 2 0 0 1 1 none) ((j+1:Nat):Int),sF l t k d y 0 1 (aA [(j:Int)])::H))
         exact wF
     · rw[decide_eq_false c0]
       simp only[Bool.false_and,Bool.false_eq_true,if_false]
       exact wF
   | cons a r =>
     simp only[List.length_cons] at hll
     refine aK (LS n l k t d y r.length (r.length+1) (aA (a::r)) (j:Nat) H) (av n) (af _ _) (ag _ _) ?_
     show Tr.all _ (fun x=>_∧tidy _ _ _=_)
     have hap:=D1 a r (j:Int)
     have ed:bY (r.length+1) 1=r.length+1+1:=bH _ _
     rw[dx (j:=j) (by omega),hap,ed]
     have el:(r++[(j:Int)]).length=r.length+1:=by simp
     simp only[jo,ea]
     by_cases c0:0≤t j
     · obtain ⟨q,hq⟩:∃ q:Nat,t j=q:=⟨(t j).toNat,by omega⟩
       rw[hq] at htj c0 ⊢
       simp only[jo,Int.toNat_natCast,decide_eq_true c0,Bool.true_and]
       by_cases c1:y q=y j+1
       · rw[decide_eq_true c1]
         simp only[Bool.not_true,Bool.false_eq_true,if_false]
         show Tr.all _ (fun x=>_∧tidy _ _ _=(pU l t (.slc 0 2 r.length 0 1 (r.length+1) none) ((j+1:Nat):Int),sF l t k d y r.length (r.length+1) (aA (a::r))::H))
         generalize aA (a::(r++[(j:Int)]))=Z2 at *
         generalize aA (a::r)=Z at *
         generalize r.length=m at *
         exact wF
       · rw[decide_eq_false c1]
         simp only[Bool.not_false,if_true,List.cons_append]
         show Tr.all _ (fun x=>_∧tidy _ _ _=(pU l t (.slc 0 2 (r++[(j:Int)]).length 0 1 ((r++[(j:Int)]).length+1) none) ((j+1:Nat):Int),sF l t k d y (r++[(j:Int)]).length ((r++[(j:Int)]).length+1) (aA (a::(r++[(j:Int)])))::H))
         rw[el]
         generalize aA (a::(r++[(j:Int)]))=Z2 at *
         generalize aA (a::r)=Z at *
         generalize r.length=m at *
         exact wF
     · rw[decide_eq_false c0]
       simp only[Bool.false_and,Bool.false_eq_true,if_false]
       show Tr.all _ (fun x=>_∧tidy _ _ _=(pU l t (.slc 0 2 r.length 0 1 (r.length+1) none) ((j+1:Nat):Int),sF l t k d y r.length (r.length+1) (aA (a::r))::H))
       generalize aA (a::(r++[(j:Int)]))=Z2 at *
       generalize aA (a::r)=Z at *
       generalize r.length=m at *
       exact wF
 · try dsimp only
   generalize qF (nZ t y) l=L at *
   cases L with
   | nil=>exact cW (LU n l k t d y (Int.ofNat l) H) (av n) (af _ _) (ag _ _) (by first | (simp (disch:=omega) only[nV,nW];done) | (simp (disch:=omega) only[nV,nW];omega))
   | cons a r=>exact cW (LS n l k t d y r.length (r.length+1) (aA (a::r)) (Int.ofNat l) H) (av n) (af _ _) (ag _ _) (by first | (simp (disch:=omega) only[nV,nW];done) | (simp (disch:=omega) only[nV,nW];omega))
theorem Qk (hm:m≤50) (hg:∀ i,i<m→g i≤40):cd (n+9) (.fn 25) [cg l t k d,fF m f g] H=some (DM l k t d m f g,H):=by
 by_cases ea:jK l t k d=0
 · have hs:=tu ea
   have h51:∀ H,cd (n+8) (.fn 51) [cg l t k d] H=some (.tup [dv 0 l t k d (cw t l),.int .i64 0],H):=fun H=>KA n l k t d H hs
   have h60:∀ H,cd (n+8) (.fn 60) [cg l t k d,fF m f g] H=some (DP l m f g,H):=fun H=>Qs (n+2) l k t d m f g H hs.l1 hs.l30 hm hg
   by_cases et:rM l m f g=0
   · have e60:DP l m f g=.tup [.agg (.M [.arr .i64 (gU (fo f g m)) 30]),.int .i64 0]:=by unfold DP;rw[if_pos et]
     rw[e60] at h60
     have hin:∀ c,0≤gU (gU (fo f g m)) c∧gU (gU (fo f g m)) c≤1000:=H3 (by omega) (H3 (by omega) (fun c=>⟨xr f g m c,by have:=F1 f g m c;omega⟩))
     have hx:=Sk (n+8) l k t d H (gU (gU (fo f g m))) hs.l30 hs.tl hin
     rw[Ii hs.l30 hs.tl,Ii hs.l30 hs.tl] at hx
     have ec:DM l k t d m f g=.tup [dA (qF (nZ t (fo f g m)) l),.int .i64 0]:=by
      unfold DM
      rw[if_neg (by rw[ea];decide),if_neg (by rw[et];decide)]
     rw[ec]
     clear ec
     generalize qF (nZ t (fo f g m)) l=L at *
     cases L with
     | nil =>
       refine aL (n:=n+8) Try.func25 rfl rfl rfl (O6 (n+8) l k t d (gU (fo f g m)) (gU (gU (fo f g m))) (cw t l) m f g H) (aS _ (n+8) (bf (bf (aG _) h51) h60)) (aD (af _ _) MA (fun x hy=>bL hy hx)) (ag _ _) ?_
       exact wF
     | cons a r =>
       rw[show dA (a::r)=AV.slcT none (.M [.arr .i64 (aA (a::r)) (r.length+1)]) 1 (r.length+1) false from rfl]
       refine aL (n:=n+8) Try.func25 rfl rfl rfl (O5 (n+8) l k t d (gU (fo f g m)) (gU (gU (fo f g m))) (cw t l) m f g r.length (r.length+1) (aA (a::r)) H) (aS _ (n+8) (bf (bf (aG _) h51) h60)) (aD (af _ _) MA (fun x hy=>bL hy hx)) (ag _ _) ?_
       rw[c5]
       generalize aA (a::r)=Z at *
       generalize r.length=q at *
       exact wF
   · have e60:DP l m f g=.tup [.agg (.M [.arr .i64 (gU (fun _=>Int.ofNat 0)) 30]),.int .i64 (rM l m f g)]:=by unfold DP;rw[if_neg et]
     rw[e60] at h60
     have ec:DM l k t d m f g=.tup [.nils,.int .i64 (rM l m f g)]:=by
      unfold DM
      rw[if_neg (by rw[ea];decide),if_pos et]
     rw[ec]
     refine aL (n:=n+8) Try.func25 rfl rfl rfl (O8 (n+8) l k t d (gU (fun _=>Int.ofNat 0)) (cw t l) m f g (rM l m f g) H) (aS _ (n+8) (bf (bf (aG _) h51) h60)) (aD (af _ _) MA (fun x hx=>(Tr.ae hx).elim)) (ag _ _) ?_
     generalize rM l m f g=E at *
     exact wF
 · have ec:DM l k t d m f g=.tup [.nils,.int .i64 (jK l t k d)]:=by
    unfold DM
    rw[if_pos ea]
   have h51:∀ H,cd (n+8) (.fn 51) [cg l t k d] H=some (.tup [.nilp,.int .i64 (jK l t k d)],H):=fun H=>Gl n l k t d H ea
   rw[ec]
   generalize jK l t k d=E at *
   refine aL (n:=n+8) Try.func25 rfl rfl rfl (O7 (n+8) l k t d m f g E H) (aS _ (n+8) (bf (aG _) h51)) (aD (af _ _) MA (fun x hx=>(Tr.ae hx).elim)) (ag _ _) ?_
   exact wF
end
end Go.Eng
end
section
namespace Go.Eng
section
variable {l k:Nat} {t d:Nat→Int} {h:Int}
end
end Go.Eng
end
section
namespace Go.Eng
section
variable {l k:Nat} {t d:Nat→Int} {h:Int}
end
end Go.Eng
end
section
namespace Go.Eng
section
variable {l m:Nat} {f:Nat→Nat→Int} {g:Nat→Nat}
end
section
variable {l k:Nat} {t d:Nat→Int} {h:Int} {m:Nat} {f:Nat→Nat→Int} {g:Nat→Nat}
end
end Go.Eng
end
section
namespace Go.Eng
open Go.Proofs
section
variable {m m':Nat} {f f':Nat→Nat→Int} {g g':Nat→Nat}
end
section
variable (n l k:Nat) (t d:Nat→Int) (h:Int) (m:Nat) (f:Nat→Nat→Int) (g:Nat→Nat) (H:aa)
end
end Go.Eng
end
section
namespace Go.Eng
open Go.Proofs
section
variable (n l k:Nat) (t d:Nat→Int) (h w:Int) (m:Nat) (f:Nat→Nat→Int) (g:Nat→Nat) (H:aa)
end
end Go.Eng
end
