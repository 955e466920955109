/- Bath: the most: all points. -/
import Derived.Test.YtigmfpmabgekoaaGreatV12Bq2x3
import Derived.Test.YtigmfpmabgekoaaGreatV12Bp7x3
set_option linter.unusedVariables false
set_option linter.unusedSimpArgs false
set_option maxRecDepth 100000
section
namespace Go.Eng
open Go.Proofs
theorem Nv (n s l m:Nat) (y P:Nat→Int) (K j f:Int) (h:List Int→Bool) (g:List Int→Int) (c:Nat) (h2:List Int→Bool) (g2:List Int→Int) (c2:Nat) (H:aa):aN (bp n 79 156) (il aR n 0) (pZ aW 4) aX (part Tryz.f79 [1,1,1,1,0,1,0,0,1,1,0,0,1,1,0,0]) (hints (px s l m y P K j f)) (dH h g c h2 g2 c2 []::H) =
 Tr.ite (df f j) Tr.bad (Tr.ok (Ex.exit 2,[(0,AV.ptrT (some (Nat.succ s)) (Row.G [aG 7 l y]) 0,none),(1,AV.int .i64 K,none),(6,AV.slcT none (Row.M [aL.arr .i64 P m]) 1 m false,none),(7,AV.map 0 0,none),(8,AV.map 0 1,none),(9,AV.int .i64 j,none),(10,AV.int .i64 f,none),(32,AV.int .i64 (Int.ofNat m),none),(33,AV.int .i64 j,none),(38,AV.bool false,some 1)],{ lock:=false,bs:=[(0,ak.fmap (KK.str 2) h g c),(0,ak.fmap (KK.str 2) h2 g2 c2)] } :: H)):=by kernel_rfl
theorem Nu (n s l m:Nat) (y P:Nat→Int) (K j:Int) (h:List Int→Bool) (g:List Int→Int) (c:Nat) (h2:List Int→Bool) (g2:List Int→Int) (c2:Nat) (H:aa):aN (bp n 79 156) (il aR n 0) (pZ aW 2) aX (part Tryz.f79 [1,1,1,1,0,1,0,0]) (hints (tn s l m y P K j)) (dH h g c h2 g2 c2 []::H) =
 Tr.ite (df j (Int.ofNat m)) Tr.bad (Tr.ok (Ex.exit 0,[(0,AV.ptrT (some (Nat.succ s)) (Row.G [aG 7 l y]) 0,none),(1,AV.int .i64 K,none),(6,AV.slcT none (Row.M [aL.arr .i64 P m]) 1 m false,none),(7,AV.map 0 0,none),(8,AV.map 0 1,none),(32,AV.int .i64 (Int.ofNat m),none),(33,AV.int .i64 j,none),(34,AV.bool false,some 1)],{ lock:=false,bs:=[(0,ak.fmap (KK.str 2) h g c),(0,ak.fmap (KK.str 2) h2 g2 c2)] } :: H)):=by kernel_rfl
section
variable (n s l m:Nat) (z P:Nat→Int) (H:aa)
theorem PX (K p:Nat) (S:MS) (h:bh l z=0) (hK:K≤15) (hm:m≤14) (hj:p<m) (hB:GU 1400000 S):exec (bp (n+3) 79 156) (.block 2 (.loop (part Tryz.f79 [1,1,1,1,0,1,0,0,1,1,0,0,1,1,0,0]))) (px s l m (oY z l) P K p (-1)) (kx S []::H)=some (.normal,px s l m (oY z l) P K p p++[(38,.bool false)],kx (mb (eN l z P) K p (p+1) S) []::H):=by
 refine j9 2 (fun i=>px s l m (oY z l) P K p ((i:Int)-1)) (fun i=>kx (mb (eN l z P) K p i S) []::H) (p+1) (px s l m (oY z l) P K p p++[(38,.bool false)],kx (mb (eN l z P) K p (p+1) S) []::H) (by omega) (fun i hi=>?_) ?_
 · have hB2:=JP (a:=eN l z P) (W:=1400000) (fun f p=>BH l z P h f p) (K:=K) (p:=p) hB i
   have hst:mb (eN l z P) K p (i+1) S=ib (eN l z P) p ((i:Int)-1) K (mb (eN l z P) K p i S):=rfl
   have e1:aK .i64 ((i:Int)-1) (Int.ofNat 1)=((i+1:Nat):Int)-1:=by rw[bH,show Int.ofNat 1=1 from rfl,cr (by omega) (by omega)];omega
   rw[hst]
   have hx:=PY n s l m z P H K p ((i:Int)-1) (mb (eN l z P) K p i S) h hK hm (by omega) (by omega) hB2
   generalize ib (eN l z P) p ((i:Int)-1) K (mb (eN l z P) K p i S)=S2 at *
   generalize mb (eN l z P) K p i S=S1 at *
   refine aD (QS (n+3) s l m (oY z l) P K p ((i:Int)-1) S1.h S1.g S1.c S1.h2 S1.g2 S1.c2 S2.h S2.g S2.c S2.h2 S2.g2 S2.c2 H) (aI _) (bz (af _ _) On (fun x h=>by rw[← Tr.ab h];simp only[gi.st,aP];exact hx)) (ag _ _) ?_
   rw[e1]
   exact wF
 · have e:((p+1:Nat):Int)-1=p:=by omega
   rw[e]
   generalize mb (eN l z P) K p (p+1) S=S2 at *
   obtain ⟨x,h1,rfl⟩:=aD (Q:=fun x=>x=(.exit 2,px s l m (oY z l) P K p p++[(38,.bool false)],kx S2 []::H)) (Nv (n+3) s l m (oY z l) P K p p S2.h S2.g S2.c S2.h2 S2.g2 S2.c2 H) (aI _) (iv (af _ _) 4) (ag _ _) (by
    refine Tr.al (fun hc=>?_) (fun hc=>Tr.av rfl)
    simp (disch:=omega) only[nV,nW] at hc;omega)
   exact h1
theorem PZ (K:Nat) (h:bh l z=0) (hK:K≤15) (hm:m≤14):exec (bp (n+3) 79 156) (.block 0 (.loop (part Tryz.f79 [1,1,1,1,0,1,0,0]))) (tn s l m (oY z l) P K (Int.ofNat 0)) (kx cO []::H)=some (.normal,tn s l m (oY z l) P K (Int.ofNat m)++[(34,.bool false)],kx (gl (eN l z P) K m cO) []::H):=by
 refine j9 0 (fun i=>tn s l m (oY z l) P K (i:Nat)) (fun i=>kx (gl (eN l z P) K i cO) []::H) m (tn s l m (oY z l) P K (Int.ofNat m)++[(34,.bool false)],kx (gl (eN l z P) K m cO) []::H) (by omega) (fun i hi=>?_) ?_
 · have hB2:=JR (a:=eN l z P) (W:=1400000) (fun f p=>BH l z P h f p) (K:=K) i
   have e1:aK .i64 (i:Int) (Int.ofNat 1)=((i+1:Nat):Int):=rV (by omega)
   have hst:gl (eN l z P) K (i+1) cO=mb (eN l z P) K i (i+1) (gl (eN l z P) K i cO):=rfl
   rw[hst]
   have hx:=PX n s l m z P H K i (gl (eN l z P) K i cO) h hK hm hi hB2
   generalize mb (eN l z P) K i (i+1) (gl (eN l z P) K i cO)=S2 at *
   generalize gl (eN l z P) K i cO=S1 at *
   refine aD (QR (n+3) s l m (oY z l) P K (i:Nat) S1.h S1.g S1.c S1.h2 S1.g2 S1.c2 S2.h S2.g S2.c S2.h2 S2.g2 S2.c2 H) (aI _) (bz (af _ _) Om (fun x h=>by rw[← Tr.ab h];simp only[gi.st,aP];exact hx)) (ag _ _) ?_
   rw[e1]
   exact wF
 · generalize gl (eN l z P) K m cO=S2 at *
   obtain ⟨x,h1,rfl⟩:=aD (Q:=fun x=>x=(.exit 0,tn s l m (oY z l) P K (Int.ofNat m)++[(34,.bool false)],kx S2 []::H)) (Nu (n+3) s l m (oY z l) P K (Int.ofNat m) S2.h S2.g S2.c S2.h2 S2.g2 S2.c2 H) (aI _) (iv (af _ _) 2) (ag _ _) (by
    refine Tr.al (fun hc=>?_) (fun hc=>Tr.av rfl)
    simp (disch:=omega) only[nV,nW] at hc;omega)
   exact h1
end
end Go.Eng
end
section
namespace Go.Eng
open Go.Proofs
open Go.Proofs.YtigmfpmabgekoaaGreat.Known (mostS mostL most)
noncomputable def fe (x y:Int):Nat×ak:=(0,.row (.I .i64 [x,y]))
noncomputable def I9 (s l m:Nat) (y P:Nat→Int) (K:Int):ay:=[(0,iO (s+1) l y),(1,.int .i64 K),(6,bD m P false),(7,.map 0 0),(8,.map 0 1)]
theorem Qo (n s l m:Nat) (y P:Nat→Int) (K:Int) (h:List Int→Bool) (g:List Int→Int) (c:Nat) (h2:List Int→Bool) (g2:List Int→Int) (c2:Nat) (h':List Int→Bool) (g':List Int→Int) (c':Nat) (h2':List Int→Bool) (g2':List Int→Int) (c2':Nat) (H:aa):aN (bp n 79 156) (il aR n 0) (eP aW 0 (tn s l m y P K (Int.ofNat 0)) (dH h g c h2 g2 c2 []::H) (.ok (.normal,hints (tn s l m y P K (Int.ofNat m)++[(34,.bool false)]),dH h' g' c' h2' g2' c2' []::H))) aX (part Tryz.f79 [1,1,1,1,0]) (hints (I9 s l m y P K)) (dH h g c h2 g2 c2 []::H) =
 (fun (Z0:ay)=>((fun (Z1:bm)=>Tr.reqP (Z0=Z0∧Z1::H=Z1::H) (Tr.ok (Ex.normal,[(0,AV.ptrT (some (Nat.succ s)) (Row.G [aG 7 l y]) 0,none),(1,AV.int .i64 K,none),(6,AV.slcT none (Row.M [aL.arr .i64 P m]) 1 m false,none),(7,AV.map 0 0,none),(8,AV.map 0 1,none),(32,AV.int .i64 (Int.ofNat m),none),(33,AV.int .i64 (Int.ofNat m),none),(34,AV.bool false,none)],{ lock:=false,bs:=[(0,ak.fmap (KK.str 2) h' g' c'),(0,ak.fmap (KK.str 2) h2' g2' c2')] } :: H))) { lock:=false,bs:=[(0,ak.fmap (KK.str 2) h g c),(0,ak.fmap (KK.str 2) h2 g2 c2)] })) [(0,AV.ptrT (some (Nat.succ s)) (Row.G [aG 7 l y]) 0),(1,AV.int .i64 K),(6,AV.slcT none (Row.M [aL.arr .i64 P m]) 1 m false),(7,AV.map 0 0),(8,AV.map 0 1),(32,AV.int .i64 (Int.ofNat m)),(33,AV.int .i64 (Int.ofNat 0))]:=by kernel_rfl
theorem Qp (n s l m:Nat) (y P:Nat→Int) (K:Int) (h:List Int→Bool) (g:List Int→Int) (c:Nat) (h2:List Int→Bool) (g2:List Int→Int) (c2:Nat) (H:aa):aN (bp n 79 156) (il aR n 0) aW aX (part Tryz.f79 [1,1,1,1,1,0]) (hints (tn s l m y P K (Int.ofNat m)++[(34,.bool false)])) (dH h g c h2 g2 c2 []::H) =
 Tr.ok (Ex.normal,[(6,AV.slcT none (Row.M [aL.arr .i64 P m]) 1 m false,none),(7,AV.map 0 0,none),(8,AV.map 0 1,none),(17,AV.ptr 0 2 0 0,none)],{ lock:=false,bs:=[(0,ak.fmap (KK.str 2) h g c),(0,ak.fmap (KK.str 2) h2 g2 c2),(0,ak.row (Row.I .i64 [Int.negSucc 0,Int.ofNat 0]))] } :: H):=by kernel_rfl
theorem MQ (n m:Nat) (P:Nat→Int) (h:List Int→Bool) (g:List Int→Int) (c:Nat) (h2:List Int→Bool) (g2:List Int→Int) (c2:Nat) (x y:Int) (H:aa):(Go.Proofs.YtigmfpmabgekoaaGreat.Known.mostS).Bi (bp n 79 156) (il aR n 0) (hints [(6,bD m P false),(7,.map 0 0),(8,.map 0 1),(17,.ptr 0 2 0 0)]) (dH h g c h2 g2 c2 [fe x y]::H) =
 Tr.ok ([(6,AV.slcT none (Row.M [aL.arr .i64 P m]) 1 m false,none),(7,AV.map 0 0,none),(8,AV.map 0 1,none),(17,AV.ptr 0 2 0 0,none),(90,AV.map 0 0,none)],{ lock:=false,bs:=[(0,ak.fmap (KK.str 2) h g c),(0,ak.fmap (KK.str 2) h2 g2 c2),(0,ak.row (Row.I .i64 [x,y]))] } :: H):=by kernel_rfl
theorem Qr (n m:Nat) (P:Nat→Int) (h:List Int→Bool) (g:List Int→Int) (c:Nat) (h2:List Int→Bool) (g2:List Int→Int) (c2:Nat) (b1 b2 b3:List (Nat×ak)) (a b v x y:Int):(Go.Proofs.YtigmfpmabgekoaaGreat.Known.mostL).oM (bp n 79 156) (il aR n 0) aW aX 3 4 (.agg (.I .i64 [a,b]),.int .i64 v) (hints [(6,bD m P false),(7,.map 4 0),(8,.map 0 1),(17,.ptr 0 2 0 0),(91,.ptr 0 3 0 0)]) (⟨false,[(0,.dead),(0,.fmap (.str 2) h2 g2 c2),fe x y,(0,.dead)]⟩::[⟨true,b1⟩,⟨true,b2⟩,⟨true,b3⟩,iJ (.fmap (.str 2) h g c)]) =
 (fun (Z0:aT)=>((fun (Z1:bm)=>((fun (Z2:bm)=>((fun (Z3:bm)=>Tr.ite (df (g [x,y]) v) (Tr.ok (Z0,[Z2,{ lock:=true,bs:=b1 },{ lock:=true,bs:=b2 },{ lock:=true,bs:=b3 },Z1])) (Tr.ite (dD v (g [x,y])) (Tr.ite (df b y) (Tr.ok (Z0,[Z2,{ lock:=true,bs:=b1 },{ lock:=true,bs:=b2 },{ lock:=true,bs:=b3 },Z1])) (Tr.ite (dD b y) (Tr.ite (df a x) (Tr.ok (Z0,[Z2,{ lock:=true,bs:=b1 },{ lock:=true,bs:=b2 },{ lock:=true,bs:=b3 },Z1])) (Tr.ok (Z0,[Z3,{ lock:=true,bs:=b1 },{ lock:=true,bs:=b2 },{ lock:=true,bs:=b3 },Z1]))) (Tr.ok (Z0,[Z3,{ lock:=true,bs:=b1 },{ lock:=true,bs:=b2 },{ lock:=true,bs:=b3 },Z1])))) (Tr.ok (Z0,[Z3,{ lock:=true,bs:=b1 },{ lock:=true,bs:=b2 },{ lock:=true,bs:=b3 },Z1])))) { lock:=false,bs:=[(0,ak.dead),(0,ak.fmap (KK.str 2) h2 g2 c2),(0,ak.row (Row.I .i64 [x,y])),(0,ak.dead)] })) { lock:=false,bs:=[(0,ak.dead),(0,ak.fmap (KK.str 2) h2 g2 c2),(0,ak.row (Row.I .i64 [a,b])),(0,ak.dead)] })) { lock:=true,bs:=[(0,ak.fmap (KK.str 2) h g c)] })) [(6,AV.slcT none (Row.M [aL.arr .i64 P m]) 1 m false,none),(7,AV.map 4 0,none),(8,AV.map 0 1,none),(17,AV.ptr 0 2 0 0,none),(91,AV.ptr 0 3 0 0,none)]:=by kernel_rfl
theorem Qs (n m:Nat) (P:Nat→Int) (h:List Int→Bool) (g:List Int→Int) (c:Nat) (h2:List Int→Bool) (g2:List Int→Int) (c2:Nat) (b1 b2 b3:List (Nat×ak)) (a b v x y:Int):(Go.Proofs.YtigmfpmabgekoaaGreat.Known.mostL).oM (bp n 79 156) (il aR n 0) aW aX 3 4 (.agg (.I .i64 [a,b]),.int .i64 v) (hints [(6,bD m P false),(7,.map 4 0),(8,.map 0 1),(17,.ptr 0 2 0 0),(90,.map 4 0),(91,.ptr 0 3 0 0)]) (⟨false,[(0,.dead),(0,.fmap (.str 2) h2 g2 c2),fe x y,(0,.dead)]⟩::[⟨true,b1⟩,⟨true,b2⟩,⟨true,b3⟩,iJ (.fmap (.str 2) h g c)]) =
 (fun (Z0:aT)=>((fun (Z1:bm)=>((fun (Z2:bm)=>((fun (Z3:bm)=>Tr.ite (df (g [x,y]) v) (Tr.ok (Z0,[Z2,{ lock:=true,bs:=b1 },{ lock:=true,bs:=b2 },{ lock:=true,bs:=b3 },Z1])) (Tr.ite (dD v (g [x,y])) (Tr.ite (df b y) (Tr.ok (Z0,[Z2,{ lock:=true,bs:=b1 },{ lock:=true,bs:=b2 },{ lock:=true,bs:=b3 },Z1])) (Tr.ite (dD b y) (Tr.ite (df a x) (Tr.ok (Z0,[Z2,{ lock:=true,bs:=b1 },{ lock:=true,bs:=b2 },{ lock:=true,bs:=b3 },Z1])) (Tr.ok (Z0,[Z3,{ lock:=true,bs:=b1 },{ lock:=true,bs:=b2 },{ lock:=true,bs:=b3 },Z1]))) (Tr.ok (Z0,[Z3,{ lock:=true,bs:=b1 },{ lock:=true,bs:=b2 },{ lock:=true,bs:=b3 },Z1])))) (Tr.ok (Z0,[Z3,{ lock:=true,bs:=b1 },{ lock:=true,bs:=b2 },{ lock:=true,bs:=b3 },Z1])))) { lock:=false,bs:=[(0,ak.dead),(0,ak.fmap (KK.str 2) h2 g2 c2),(0,ak.row (Row.I .i64 [x,y])),(0,ak.dead)] })) { lock:=false,bs:=[(0,ak.dead),(0,ak.fmap (KK.str 2) h2 g2 c2),(0,ak.row (Row.I .i64 [a,b])),(0,ak.dead)] })) { lock:=true,bs:=[(0,ak.fmap (KK.str 2) h g c)] })) [(6,AV.slcT none (Row.M [aL.arr .i64 P m]) 1 m false,none),(7,AV.map 4 0,none),(8,AV.map 0 1,none),(17,AV.ptr 0 2 0 0,none),(91,AV.ptr 0 3 0 0,none)]:=by kernel_rfl
theorem Qq (n D m:Nat) (P:Nat→Int) (h2:List Int→Bool) (g2:List Int→Int) (c2:Nat) (R:aa) (x y:Int):(Go.Proofs.YtigmfpmabgekoaaGreat.Known.mostL).zf (bp n 79 156) (il aR n 0) (hints [(6,bD m P false),(7,.map D 0),(8,.map 0 1),(17,.ptr 0 2 0 0),(91,.ptr 0 3 0 0)]) (⟨false,[(0,.dead),(0,.fmap (.str 2) h2 g2 c2),fe x y,(0,.dead)]⟩::R) =
 Tr.ok ([(6,AV.slcT none (Row.M [aL.arr .i64 P m]) 1 m false,none),(7,AV.map D 0,none),(8,AV.map 0 1,none),(17,AV.ptr 0 2 0 0,none),(91,AV.ptr 0 3 0 0,none),(92,AV.tup [AV.bool false],none),(93,AV.bool false,none)],{ lock:=false,bs:=[(0,ak.dead),(0,ak.fmap (KK.str 2) h2 g2 c2),(0,ak.row (Row.I .i64 [x,y])),(0,ak.dead)] } :: R):=by kernel_rfl
end Go.Eng
end
section
namespace Go.Eng
open Go.Proofs
noncomputable def mL:bk:=Go.Proofs.YtigmfpmabgekoaaGreat.Known.mostL
noncomputable def sk (m:Nat) (P:Nat→Int):ay:=[(6,bD m P false),(7,.map 4 0),(8,.map 0 1),(17,.ptr 0 2 0 0),(91,.ptr 0 3 0 0)]
noncomputable def DJ (m:Nat) (P:Nat→Int):ay:=[(6,bD m P false),(7,.map 4 0),(8,.map 0 1),(17,.ptr 0 2 0 0),(90,.map 4 0),(91,.ptr 0 3 0 0)]
noncomputable def fm (h2:List Int→Bool) (g2:List Int→Int) (c2:Nat) (x:Int×Int):bm:=⟨false,[(0,.dead),(0,.fmap (.str 2) h2 g2 c2),fe x.1 x.2,(0,.dead)]⟩
noncomputable def qa (b1 b2 b3:List (Nat×ak)) (h:List Int→Bool) (g:List Int→Int) (c:Nat):aa:=[⟨true,b1⟩,⟨true,b2⟩,⟨true,b3⟩,iJ (.fmap (.str 2) h g c)]
noncomputable def zd (g:List Int→Int) (e:Int×Int):AV×AV:=(.agg (.I .i64 [e.1,e.2]),.int .i64 (g [e.1,e.2]))
theorem xN {L:bk} {cx:Cx} {callR:bF} {bl:ie} {rg:sF} {k n:Nat} {kv:AV×AV} {fr fr':ay} {l l':bm} {R:aa} {T:Tr (aT×aa)} (e:L.oM cx callR bl rg k n kv (hints fr) (l::R)=T) (hC:callR.Ok cx.call) (hB:bl.Ok cx L.rest) (hR:rg.Ok cx L.rest)
 (h:T.all fun y=>strip y.1=fr'∧y.2=l'::R):cS L cx k n R kv (fr,l)=some (fr',l'):=by
 obtain ⟨y,h1,h2,h3⟩:=h
 have:=bk.D3 hC hB hR (by rw[e];exact h1)
 rw[aP,h2,h3] at this
 unfold cS
 rw[this]
theorem ze {L:bk} {cx:Cx} {callR:bF} {fr:ay} {H:aa} {T:Tr (aT×aa)} (e:L.zf cx callR (hints fr) H=T) (hC:callR.Ok cx.call) {y:ay×aa} (h:T.all fun z=>(strip z.1,z.2)=y):L.last cx fr H=some y:=by
 obtain ⟨z,h1,rfl⟩:=h
 have:=bk.FF hC (by rw[e];exact h1)
 rw[aP] at this;exact this
section
variable (n m:Nat) (P:Nat→Int) (h:List Int→Bool) (g:List Int→Int) (c:Nat) (h2:List Int→Bool) (g2:List Int→Int) (c2:Nat) (b1 b2 b3:List (Nat×ak))
theorem Qy (x e:Int×Int):cS mL (bp n 79 156) 3 4 (qa b1 b2 b3 h g c) (zd g e) (sk m P,fm h2 g2 c2 x)=some (sk m P,fm h2 g2 c2 (if uO g e x=true then e else x)):=by
 obtain ⟨x,y⟩:=x
 obtain ⟨a,b⟩:=e
 refine xN (Qr n m P h g c h2 g2 c2 b1 b2 b3 a b (g [a,b]) x y) (aI n) (af _ _) (ag _ _) ?_
 have hb:=nq (g:=g) (x:=(a,b)) (y:=(x,y))
 dsimp only at hb
 rw[fa,fa,fa,cn,cn]
 by_cases k1:g [x,y]<g [a,b]
 · rw[decide_eq_true k1,if_pos (hb.2 (.inl k1))]
   exact Tr.al (fun _=>Tr.av ⟨rfl,rfl⟩) (fun hc=>by cases hc)
 · rw[decide_eq_false k1]
   refine Tr.al (fun hc=>by cases hc) (fun _=>?_)
   by_cases k2:g [a,b]=g [x,y]
   · rw[show (g [a,b] == g [x,y])=true from beq_iff_eq.2 k2]
     refine Tr.al (fun _=>?_) (fun hc=>by cases hc)
     by_cases k3:b<y
     · rw[decide_eq_true k3,if_pos (hb.2 (.inr ⟨k2,.inl k3⟩))]
       exact Tr.al (fun _=>Tr.av ⟨rfl,rfl⟩) (fun hc=>by cases hc)
     · rw[decide_eq_false k3]
       refine Tr.al (fun hc=>by cases hc) (fun _=>?_)
       by_cases k4:b=y
       · rw[show (b == y)=true from beq_iff_eq.2 k4]
         refine Tr.al (fun _=>?_) (fun hc=>by cases hc)
         by_cases k5:a<x
         · rw[decide_eq_true k5,if_pos (hb.2 (.inr ⟨k2,.inr ⟨k4,k5⟩⟩))]
           exact Tr.al (fun _=>Tr.av ⟨rfl,rfl⟩) (fun hc=>by cases hc)
         · rw[decide_eq_false k5,if_neg (fun q=>by have:=hb.1 q;omega)]
           exact Tr.al (fun hc=>by cases hc) (fun _=>Tr.av ⟨rfl,rfl⟩)
       · rw[show (b == y)=false from beq_eq_false_iff_ne.2 k4,if_neg (fun q=>by have:=hb.1 q;omega)]
         exact Tr.al (fun hc=>by cases hc) (fun _=>Tr.av ⟨rfl,rfl⟩)
   · rw[show (g [a,b] == g [x,y])=false from beq_eq_false_iff_ne.2 k2,if_neg (fun q=>by have:=hb.1 q;omega)]
     exact Tr.al (fun hc=>by cases hc) (fun _=>Tr.av ⟨rfl,rfl⟩)
theorem MX (x e:Int×Int):cS mL (bp n 79 156) 3 4 (qa b1 b2 b3 h g c) (zd g e) (DJ m P,fm h2 g2 c2 x)=some (sk m P,fm h2 g2 c2 (if uO g e x=true then e else x)):=by
 obtain ⟨x,y⟩:=x
 obtain ⟨a,b⟩:=e
 refine xN (Qs n m P h g c h2 g2 c2 b1 b2 b3 a b (g [a,b]) x y) (aI n) (af _ _) (ag _ _) ?_
 have hb:=nq (g:=g) (x:=(a,b)) (y:=(x,y))
 dsimp only at hb
 rw[fa,fa,fa,cn,cn]
 by_cases k1:g [x,y]<g [a,b]
 · rw[decide_eq_true k1,if_pos (hb.2 (.inl k1))]
   exact Tr.al (fun _=>Tr.av ⟨rfl,rfl⟩) (fun hc=>by cases hc)
 · rw[decide_eq_false k1]
   refine Tr.al (fun hc=>by cases hc) (fun _=>?_)
   by_cases k2:g [a,b]=g [x,y]
   · rw[show (g [a,b] == g [x,y])=true from beq_iff_eq.2 k2]
     refine Tr.al (fun _=>?_) (fun hc=>by cases hc)
     by_cases k3:b<y
     · rw[decide_eq_true k3,if_pos (hb.2 (.inr ⟨k2,.inl k3⟩))]
       exact Tr.al (fun _=>Tr.av ⟨rfl,rfl⟩) (fun hc=>by cases hc)
     · rw[decide_eq_false k3]
       refine Tr.al (fun hc=>by cases hc) (fun _=>?_)
       by_cases k4:b=y
       · rw[show (b == y)=true from beq_iff_eq.2 k4]
         refine Tr.al (fun _=>?_) (fun hc=>by cases hc)
         by_cases k5:a<x
         · rw[decide_eq_true k5,if_pos (hb.2 (.inr ⟨k2,.inr ⟨k4,k5⟩⟩))]
           exact Tr.al (fun _=>Tr.av ⟨rfl,rfl⟩) (fun hc=>by cases hc)
         · rw[decide_eq_false k5,if_neg (fun q=>by have:=hb.1 q;omega)]
           exact Tr.al (fun hc=>by cases hc) (fun _=>Tr.av ⟨rfl,rfl⟩)
       · rw[show (b == y)=false from beq_eq_false_iff_ne.2 k4,if_neg (fun q=>by have:=hb.1 q;omega)]
         exact Tr.al (fun hc=>by cases hc) (fun _=>Tr.av ⟨rfl,rfl⟩)
   · rw[show (g [a,b] == g [x,y])=false from beq_eq_false_iff_ne.2 k2,if_neg (fun q=>by have:=hb.1 q;omega)]
     exact Tr.al (fun hc=>by cases hc) (fun _=>Tr.av ⟨rfl,rfl⟩)
theorem Fg:∀ (ks:List (Int×Int)) (x:Int×Int),dm mL (bp n 79 156) 3 4 (qa b1 b2 b3 h g c) (ks.map (zd g)) (sk m P,fm h2 g2 c2 x)=some (sk m P,fm h2 g2 c2 (BS g ks x))
 | [],x=>rfl
 | e::ks,x=>by
   show (match cS mL (bp n 79 156) 3 4 (qa b1 b2 b3 h g c) (zd g e) (sk m P,fm h2 g2 c2 x) with
    | some t=>dm mL (bp n 79 156) 3 4 (qa b1 b2 b3 h g c) (ks.map (zd g)) t
    | none=>none)=_
   rw[Qy]
   exact Fg ks _
theorem P8 (x:Int×Int):mL.last (bp n 79 156) (sk m P) (fm h2 g2 c2 x::qa b1 b2 b3 h g c)=some (sk m P++[(92,.tup [.bool false]),(93,.bool false)],fm h2 g2 c2 x::qa b1 b2 b3 h g c) :=
 ze (Qq n 4 m P h2 g2 c2 (qa b1 b2 b3 h g c) x.1 x.2) (aI _) (Tr.av rfl)
end
theorem BZ {es:List (AV×AV)} {h:List Int→Bool} {g:List Int→Int} {c:Nat} (hE:oW (.str 2) es h g c):∀ vs:List Nat,(∀ j ∈ vs,j<es.length) →
 ∃ ks:List (Int×Int),(vs.map fun j=>es.getD j (.undef,.undef))=ks.map (zd g)∧(∀ e ∈ ks,h [e.1,e.2]=true)∧(∀ j ∈ vs,∀ n,(es.getD j (.undef,.undef)).1=dS (.str 2) n→∃ e ∈ ks,n=[e.1,e.2])∧ks.length=vs.length
 | [],_=>⟨[],rfl,fun e he=>(by cases he),fun j hj=>(by cases hj),rfl⟩
 | j :: vs,hv=>by
   obtain ⟨l,l1,l2,l3,l4⟩:=BZ hE vs (fun i hi=>hv i (List.mem_cons_of_mem _ hi))
   have hj:=hv j (by simp)
   obtain ⟨n,e1,e2⟩:=hE.ent j hj
   have hf:=(hE.all _ e2).1
   have hlen:n.length=2:=Nat.eq_of_beq_eq_true hf
   obtain ⟨a,b,rfl⟩:∃ a b,n=[a,b]:=by
    match n,hlen with
    | [a,b],_=>exact ⟨a,b,rfl⟩
   refine ⟨(a,b)::l,?_,fun e he=>?_,fun i hi n' hn'=>?_,by simp[l4]⟩
   · rw[List.map_cons,List.map_cons,l1]
     congr 1
   · rcases List.mem_cons.1 he with rfl | he
     · exact e2
     · exact l2 e he
   · rcases List.mem_cons.1 hi with rfl | hi
     · rw[e1] at hn'
       have hn':dS (.str 2) [a,b]=dS (.str 2) n':=hn'
       have:[a,b]=n':=by unfold dS at hn';simpa using hn'
       exact ⟨(a,b),by simp,this.symm⟩
     · obtain ⟨e,he,h'⟩:=l3 i hi n' hn'
       exact ⟨e,by simp[he],h'⟩
theorem vY:∀ (n:Nat) (vs:List Nat),vs.Nodup→(∀ j ∈ vs,j<n)→vs.length≤n
 | 0,vs,_,h=>by
   cases vs with
   | nil=>exact Nat.le_refl _
   | cons a r=>have:=h a (by simp);omega
 | n+1,vs,hn,h=>by
   have h1:=vY n (vs.erase n) (hn.erase n) (fun j hj=>by
    rw[hn.mem_erase_iff] at hj
    have:=h j hj.2
    omega)
   rw[List.length_erase] at h1
   split at h1<;>omega
theorem yH {vs:List Nat} {n:Nat} (hn:vs.Nodup) (hl:vs.length=n) (hb:∀ j ∈ vs,j<n) {j:Nat} (hj:j<n):j ∈ vs:=by
 apply Classical.byContradiction
 intro hc
 have:=vY n (j::vs) (List.nodup_cons.2 ⟨hc,hn⟩) (fun i hi=>by
  rcases List.mem_cons.1 hi with rfl | hi
  · exact hj
  · exact hb i hi)
 simp only[List.length_cons] at this
 omega
def sE (h:List Int→Bool) (g:List Int→Int) (r:Int×Int):Prop:=h [r.1,r.2]=true∧∀ e:Int×Int,h [e.1,e.2]=true→uO g e r=false
theorem J5 (n m:Nat) (P:Nat→Int) (h:List Int→Bool) (g:List Int→Int) (c:Nat) (h2:List Int→Bool) (g2:List Int→Int) (c2:Nat) (b1 b2 b3:List (Nat×ak)) (x r:Int×Int) (hx:h [x.1,x.2]=true) (hr:sE h g r) :
 sG (bp n 79 156) mL 3 (qa b1 b2 b3 h g c) (DJ m P,fm h2 g2 c2 x) (.str 2) h g c (sk m P++[(92,.tup [.bool false]),(93,.bool false)],fm h2 g2 c2 r):=by
 refine ⟨rfl,fun es hE vs v1 v2 v3=>?_⟩
 obtain ⟨ks,l1,l2,l3,l4⟩:=BZ hE vs v3
 have cov:∀ e:Int×Int,h [e.1,e.2]=true→e ∈ ks:=fun e he=>by
  obtain ⟨_,j,j1,j2⟩:=hE.all _ he
  obtain ⟨e',he',e2⟩:=l3 j (yH v1 v2 v3 j1) _ j2
  simp only[List.cons.injEq,and_true] at e2
  have:e=e':=Prod.ext e2.1 e2.2
  rw[this];exact he'
 obtain ⟨s1,s2⟩:=mz (g:=g) ks x
 have hb:BS g ks x=r:=by
  refine BV (g:=g) ?_ (s2 r (.inr (cov r hr.1)))
  refine hr.2 _ ?_
  rcases s1 with e | e
  · rw[e];exact hx
  · exact l2 _ e
 rw[l1]
 have hf:dm mL (bp n 79 156) 3 4 (qa b1 b2 b3 h g c) (ks.map (zd g)) (DJ m P,fm h2 g2 c2 x)=some (sk m P,fm h2 g2 c2 (BS g ks x)):=by
  cases ks with
  | nil=>exact (List.not_mem_nil (cov x hx)).elim
  | cons e ks =>
    show (match cS mL (bp n 79 156) 3 4 (qa b1 b2 b3 h g c) (zd g e) (DJ m P,fm h2 g2 c2 x) with
     | some t=>dm mL (bp n 79 156) 3 4 (qa b1 b2 b3 h g c) (ks.map (zd g)) t
     | none=>none)=_
    rw[MX]
    exact Fg n m P h g c h2 g2 c2 b1 b2 b3 ks _
 refine ⟨_,hf,?_⟩
 rw[hb]
 exact P8 n m P h g c h2 g2 c2 b1 b2 b3 r
end Go.Eng
end
section
namespace Go.Eng
open Go.Proofs
theorem ON:∃ es,oW (.str 2) es (fun _=>false) (fun _=>0) 0 :=
 ⟨[],rfl,(fun j hj=>absurd hj (Nat.not_lt_zero _)),(fun n h=>by cases h),(fun n _=>rfl),(fun i j hi=>absurd hi (Nat.not_lt_zero _))⟩
theorem EX {h:List Int→Bool} {g:List Int→Int} {c:Nat} (hE:∃ es,oW (.str 2) es h g c) (a b y:Int):∃ es,oW (.str 2) es (dz h [a,b] true) (fD g [a,b] y) (pe (h [a,b]) c):=by
 obtain ⟨es,hE⟩:=hE
 cases hh:h [a,b] with
 | false =>
   refine ⟨_,hh ▸ hE.Rs (n:=[a,b]) (y:=y) rfl (r:=none) hh (fun j hj=>by cases hj)⟩
 | true =>
   obtain ⟨_,j,j1,j2⟩:=hE.all _ hh
   obtain ⟨n,e1,e2⟩:=hE.ent j j1
   have:dS (.str 2) n=dS (.str 2) [a,b]:=by rw[← j2,e1]
   have hn:n=[a,b]:=by unfold dS at this;simpa using this
   subst hn
   refine ⟨_,hh ▸ hE.Rs (n:=[a,b]) (y:=y) rfl (r:=some j) hh (fun j' hj'=>by cases hj';exact ⟨j1,e1⟩)⟩
theorem OO {a:Int→Int→Int} {p f n:Int} {s:MS} (h:∃ es,oW (.str 2) es s.h s.g s.c):∃ es,oW (.str 2) es (nk a p f n s).h (nk a p f n s).g (nk a p f n s).c:=by
 unfold nk
 split
 · split
   · exact EX h _ _ _
   · exact h
 · exact h
theorem LW {a:Int→Int→Int} {p f:Int} {s:MS} (h:∃ es,oW (.str 2) es s.h s.g s.c):∀ n,∃ es,oW (.str 2) es (ib a p f n s).h (ib a p f n s).g (ib a p f n s).c
 | 0=>h
 | n+1=>OO (LW h n)
theorem LV {a:Int→Int→Int} {K:Nat} {p:Int} {s:MS} (h:∃ es,oW (.str 2) es s.h s.g s.c):∀ n,∃ es,oW (.str 2) es (mb a K p n s).h (mb a K p n s).g (mb a K p n s).c
 | 0=>h
 | n+1=>LW (LV h n) K
theorem Kb {a:Int→Int→Int} {K:Nat}:∀ n,∃ es,oW (.str 2) es (gl a K n cO).h (gl a K n cO).g (gl a K n cO).c
 | 0=>EX ON (-1) 0 0
 | n+1=>LV (Kb n) (n+1)
noncomputable def mS:bC:=Go.Proofs.YtigmfpmabgekoaaGreat.Known.mostS
noncomputable def nR (m:Nat) (P:Nat→Int):ay:=[(6,bD m P false),(7,.map 0 0),(8,.map 0 1),(17,.ptr 0 2 0 0)]
noncomputable def yE (m:Nat) (P:Nat→Int):ay:=nR m P++[(91,.ptr 0 3 0 0),(92,.tup [.bool false]),(93,.bool false)]
theorem Ip (n m:Nat) (P:Nat→Int) (S:MS) (k1 k2 k3:Bool) (b1 b2 b3:List (Nat×ak)) (x r:Int×Int) (hE:∃ es,oW (.str 2) es S.h S.g S.c) (hx:S.h [x.1,x.2]=true) (hr:sE S.h S.g r) :
 g5 (bp n 79 156) mS mL (nR m P) (kx S [fe x.1 x.2]::[⟨k1,b1⟩,⟨k2,b2⟩,⟨k3,b3⟩])=some (yE m P,kx S [fe r.1 r.2,(0,.dead)]::[⟨k1,b1⟩,⟨k2,b2⟩,⟨k3,b3⟩]):=by
 have hp:cL (bp n 79 156).P (bp n 79 156).nt (bp n 79 156).call mS.ops0 mS.pre (nR m P) (kx S [fe x.1 x.2]::[⟨k1,b1⟩,⟨k2,b2⟩,⟨k3,b3⟩])=some (nR m P++[(90,.map 0 0)],kx S [fe x.1 x.2]::[⟨k1,b1⟩,⟨k2,b2⟩,⟨k3,b3⟩]):=by
  have:=bC.sw (S:=mS) (cx:=bp n 79 156) (callR:=il aR n 0) (aI _) (fr:=hints (nR m P)) (H:=kx S [fe x.1 x.2]::[⟨k1,b1⟩,⟨k2,b2⟩,⟨k3,b3⟩]) (by
   show (bC.Bi _ _ _ _ _).run=_
   have:=MQ n m P S.h S.g S.c S.h2 S.g2 S.c2 x.1 x.2 [⟨k1,b1⟩,⟨k2,b2⟩,⟨k3,b3⟩]
   exact congrArg Tr.run this)
  rw[aP] at this
  exact this
 have hends:=J5 n m P S.h S.g S.c S.h2 S.g2 S.c2 b1 b2 b3 x r hx hr
 unfold g5
 rw[hp]
 show (@dite _ (∃ y,sG (bp n 79 156) mL 3 (qa b1 b2 b3 S.h S.g S.c) (DJ m P,fm S.h2 S.g2 S.c2 x) (.str 2) S.h S.g S.c y) (Classical.propDecidable _)
  (fun hx=>if (Classical.choose hx).2.bs.all (fun x=>rj 4 0 x.2) && ((kh (sN 4 0) (Classical.choose hx).1).all (fun x=>l8 4 0 x.2) && eY (an (Classical.choose hx).2.bs 0).2) then some (kh (sN 4 0) (Classical.choose hx).1,dx ((Classical.choose hx).2::[⟨k1,b1⟩,⟨k2,b2⟩,⟨k3,b3⟩]) 0 0 (0,.fmap (.str 2) S.h S.g S.c)) else none)
  (fun _=>none))=_
 have hex:∃ y,sG (bp n 79 156) mL 3 (qa b1 b2 b3 S.h S.g S.c) (DJ m P,fm S.h2 S.g2 S.c2 x) (.str 2) S.h S.g S.c y:=⟨_,hends⟩
 have hy:Classical.choose hex=(sk m P++[(92,.tup [.bool false]),(93,.bool false)],fm S.h2 S.g2 S.c2 r):=by
  have hc:=Classical.choose_spec hex
  obtain ⟨es,hE⟩:=hE
  obtain ⟨s1,e1,e2⟩:=hc.2 es hE (List.range es.length) List.nodup_range (by simp) (fun j hj=>by simpa using hj)
  obtain ⟨s2,f1,f2⟩:=hends.2 es hE (List.range es.length) List.nodup_range (by simp) (fun j hj=>by simpa using hj)
  rw[e1] at f1
  obtain rfl:=Option.some.inj f1
  rw[e2] at f2
  simp only[Option.some.injEq,Prod.mk.injEq,List.cons.injEq,and_true] at f2
  exact Prod.ext f2.1 f2.2
 rw[dif_pos hex,hy]
 refine (if_pos ?_).trans ?_
 · rfl
 · rfl
end Go.Eng
end
section
namespace Go.Eng
open Go.Proofs
noncomputable def kJ (m:Nat) (P:Nat→Int) (L:AV) (w:Int):ay:=[(6,bD m P false),(8,.map 0 1),(17,.ptr 0 2 0 0),(21,.int .i64 w),(22,L),(23,.ptr 0 4 0 0)]
theorem Nx (n m:Nat) (P:Nat→Int) (h:List Int→Bool) (g:List Int→Int) (c:Nat) (h2:List Int→Bool) (g2:List Int→Int) (c2:Nat) (x y w:Int) (H:aa):aN (bp n 79 156) (il aR n 0) aW aX (part Tryz.f79 [1,1,1,1,1,1,1,1,1,1,0,0,0]) (hints (kJ m P .nils w)) (dH h g c h2 g2 c2 [fe x y,(0,.dead),fe (-1) 0]::H) =
 Tr.ite (bG (gJ (dD x (Int.negSucc 0)) (dD y (Int.ofNat 0)))) (Tr.req (dR x m) (Tr.req (bx (au 0 x 1) m) (Tr.req (dJ 0 1 8) (Tr.req (cM 0 0) (Tr.req (fA 1 1) (Tr.req (gJ (fA 0 0) (fA 0 1)) (Tr.ok (Ex.normal,[(6,AV.slcT none (Row.M [aL.arr .i64 P m]) 1 m false,none),(8,AV.map 0 1,none),(17,AV.ptr 0 2 0 0,none),(21,AV.int .i64 w,none),(22,AV.slc 0 6 0 0 1 1 none,none),(23,AV.ptr 0 4 0 0,none)],{ lock:=false,bs:=[(0,ak.fmap (KK.str 2) h g c),(0,ak.fmap (KK.str 2) h2 g2 c2),(0,ak.row (Row.I .i64 [g2 [x,y],eO .i64 y (Int.ofNat 1)])),(0,ak.dead),(0,ak.row (Row.I .i64 [Int.negSucc 0,Int.ofNat 0])),(0,ak.row (Row.I .i64 [P (au 0 x 1)])),(0,ak.row (Row.M [aL.arr .i64 (aB [P (au 0 x 1)]) 1]))] } :: H)))))))) (Tr.ok (Ex.exit 8,[(6,AV.slcT none (Row.M [aL.arr .i64 P m]) 1 m false,none),(8,AV.map 0 1,none),(17,AV.ptr 0 2 0 0,none),(21,AV.int .i64 w,none),(22,AV.nils,none),(23,AV.ptr 0 4 0 0,none),(136,AV.bool false,some 1)],{ lock:=false,bs:=[(0,ak.fmap (KK.str 2) h g c),(0,ak.fmap (KK.str 2) h2 g2 c2),(0,ak.row (Row.I .i64 [x,y])),(0,ak.dead),(0,ak.row (Row.I .i64 [Int.negSucc 0,Int.ofNat 0]))] } :: H)):=by kernel_rfl
theorem Ny (n m v k:Nat) (P b:Nat→Int) (h:List Int→Bool) (g:List Int→Int) (c:Nat) (h2:List Int→Bool) (g2:List Int→Int) (c2:Nat) (x y w:Int) (H:aa):aN (bp n 79 156) (il aR n 0) aW aX (part Tryz.f79 [1,1,1,1,1,1,1,1,1,1,0,0,0]) (hints (kJ m P (.slc 0 5 v 0 1 k none) w)) (dH h g c h2 g2 c2 [fe x y,(0,.dead),fe (-1) 0,(v,.row (.M [.arr .i64 b k]))]::H) =
 Tr.ite (bG (gJ (dD x (Int.negSucc 0)) (dD y (Int.ofNat 0)))) (Tr.req (dR x m) (Tr.req (bx (au 0 x 1) m) (Tr.req (dJ k 1 8) (Tr.req (cM 0 0) (Tr.req (fA 1 1) (Tr.req (cM v v) (Tr.req (cM (ah 0 k) k) (Tr.req (gJ (fA 0 0) (fA 0 1)) (Tr.ok (Ex.normal,[(6,AV.slcT none (Row.M [aL.arr .i64 P m]) 1 m false,none),(8,AV.map 0 1,none),(17,AV.ptr 0 2 0 0,none),(21,AV.int .i64 w,none),(22,AV.slc 0 5 (Nat.succ v) 0 1 (ah k 1) none,none),(23,AV.ptr 0 4 0 0,none)],{ lock:=false,bs:=[(0,ak.fmap (KK.str 2) h g c),(0,ak.fmap (KK.str 2) h2 g2 c2),(0,ak.row (Row.I .i64 [g2 [x,y],eO .i64 y (Int.ofNat 1)])),(0,ak.dead),(0,ak.row (Row.I .i64 [Int.negSucc 0,Int.ofNat 0])),(Nat.succ v,ak.row (Row.M [aL.arr .i64 (iE (fE b 0) k (aB [P (au 0 x 1)])) (ah k 1)])),(0,ak.row (Row.I .i64 [P (au 0 x 1)]))] } :: H)))))))))) (Tr.ok (Ex.exit 8,[(6,AV.slcT none (Row.M [aL.arr .i64 P m]) 1 m false,none),(8,AV.map 0 1,none),(17,AV.ptr 0 2 0 0,none),(21,AV.int .i64 w,none),(22,AV.slc 0 5 v 0 1 k none,none),(23,AV.ptr 0 4 0 0,none),(136,AV.bool false,some 1)],{ lock:=false,bs:=[(0,ak.fmap (KK.str 2) h g c),(0,ak.fmap (KK.str 2) h2 g2 c2),(0,ak.row (Row.I .i64 [x,y])),(0,ak.dead),(0,ak.row (Row.I .i64 [Int.negSucc 0,Int.ofNat 0])),(v,ak.row (Row.M [aL.arr .i64 b k]))] } :: H)):=by kernel_rfl
theorem Lu:∀ b,(8,b) ∈ bc (part Tryz.f79 [1,1,1,1,1,1,1])→b=.loop (part Tryz.f79 [1,1,1,1,1,1,1,1,1,1,0,0,0]):=jj (by kernel_rfl)
noncomputable def sT:List Int→AV
 | []=>.nils
 | _::r=>.slc 0 5 r.length 0 1 (r.length+1) none
noncomputable def bT (x y:Int):List Int→List (Nat×ak)
 | []=>[fe x y,(0,.dead),fe (-1) 0]
 | a::r=>[fe x y,(0,.dead),fe (-1) 0,(r.length,.row (.M [.arr .i64 (aB (a::r)) (r.length+1)]))]
def C8 (P:Nat→Int) (b:Int→Nat→Int) (k:Nat) (p:Int) (j:Nat):Int:=P (oV b k p j).toNat
theorem P4 (n m:Nat) (P:Nat→Int) (S:MS) (k:Nat) (p w:Int) (H:aa) (hk:k≤1000) (hm:m≤1000) (htr:∀ j,j<k→0≤oV (fun q i=>S.g2 [q,(i:Int)]) k p j∧oV (fun q i=>S.g2 [q,(i:Int)]) k p j<m) (hend:oV (fun q i=>S.g2 [q,(i:Int)]) k p k=-1) :
 exec (bp n 79 156) (.block 8 (.loop (part Tryz.f79 [1,1,1,1,1,1,1,1,1,1,0,0,0]))) (kJ m P .nils w) (dH S.h S.g S.c S.h2 S.g2 S.c2 [fe p (k:Nat),(0,.dead),fe (-1) 0]::H)=some (.normal,kJ m P (sT (qX (C8 P (fun q i=>S.g2 [q,(i:Int)]) k p) k)) w++[(136,.bool false)],dH S.h S.g S.c S.h2 S.g2 S.c2 (bT (-1) 0 (qX (C8 P (fun q i=>S.g2 [q,(i:Int)]) k p) k))::H):=by
 refine j9 8 (fun j=>kJ m P (sT (qX (C8 P (fun q i=>S.g2 [q,(i:Int)]) k p) j)) w) (fun j=>dH S.h S.g S.c S.h2 S.g2 S.c2 (bT (oV (fun q i=>S.g2 [q,(i:Int)]) k p j) ((k-j:Nat):Int) (qX (C8 P (fun q i=>S.g2 [q,(i:Int)]) k p) j))::H) k (kJ m P (sT (qX (C8 P (fun q i=>S.g2 [q,(i:Int)]) k p) k)) w++[(136,.bool false)],dH S.h S.g S.c S.h2 S.g2 S.c2 (bT (-1) 0 (qX (C8 P (fun q i=>S.g2 [q,(i:Int)]) k p) k))::H) (by omega) (fun j hj=>?_) ?_
 · obtain ⟨t1,t2⟩:=htr j hj
   have ht:oV (fun q i=>S.g2 [q,(i:Int)]) k p (j+1)=S.g2 [oV (fun q i=>S.g2 [q,(i:Int)]) k p j,((k-j:Nat):Int)]:=rfl
   have hq:C8 P (fun q i=>S.g2 [q,(i:Int)]) k p j=P (oV (fun q i=>S.g2 [q,(i:Int)]) k p j).toNat:=rfl
   have e1:eO .i64 ((k-j:Nat):Int) (Int.ofNat 1)=((k-(j+1):Nat):Int):=by rw[gE,show Int.ofNat 1=1 from rfl,cr (by omega) (by omega)];omega
   rw[CL,hq,ht]
   have hl:=lT (C8 P (fun q i=>S.g2 [q,(i:Int)]) k p) j
   generalize oV (fun q i=>S.g2 [q,(i:Int)]) k p j=x at *
   have ei:au 0 x 1=x.toNat:=by rw[bB];omega
   have ex1:dD x (Int.negSucc 0)=false:=by rw[cn];exact beq_eq_false_iff_ne.2 (by show x≠-1;omega)
   cases e:qX (C8 P (fun q i=>S.g2 [q,(i:Int)]) k p) j with
   | nil =>
     refine aD (Nx n m P S.h S.g S.c S.h2 S.g2 S.c2 x ((k-j:Nat):Int) w H) (aI n) (af _ _) (ag _ _) ?_
     rw[ei,e1,ex1]
     exact wF
   | cons a r =>
     rw[e] at hl
     simp only[List.length_cons] at hl
     have e2:=ny (a::r) (P x.toNat)
     simp only[List.length_cons] at e2
     have e3:ah (r.length+1) 1=r.length+1+1:=by rw[aU]
     have e4:(r++[P x.toNat]).length=r.length+1:=by simp
     refine aD (Ny n m r.length (r.length+1) P (aB (a::r)) S.h S.g S.c S.h2 S.g2 S.c2 x ((k-j:Nat):Int) w H) (aI n) (af _ _) (ag _ _) ?_
     rw[ei,e1,ex1,e2,e3]
     repeat' first | (refine Tr.al (fun hc=>?_) (fun hc=>?_)<;>(try simp (disch:=omega) only[nV,nW] at hc)<;>(try (exfalso;omega))) | (refine Tr.a8 ?_ ?_;· ((try simp (disch:=omega) only[nV,nW]);try omega)) | (refine Tr.aw ?_ ?_;· first | exact trivial | rfl | exact ⟨rfl,rfl⟩ | exact ⟨trivial,rfl⟩ | exact ⟨rfl,by assumption⟩ | exact ⟨trivial,by assumption⟩ | exact ⟨rfl,rfl,rfl⟩ | (simp (disch:=omega) only[nV,nW];done) | ((try simp (disch:=omega) only[nV,nW]);omega)) | fail
     all_goals first
      | (refine Tr.av ⟨rfl,?_⟩
         show _=(kJ m P (.slc 0 5 (r++[P x.toNat]).length 0 1 ((r++[P x.toNat]).length+1) none) w,dH S.h S.g S.c S.h2 S.g2 S.c2 [_,_,_,((r++[P x.toNat]).length,.row (.M [.arr .i64 (aB (a::(r++[P x.toNat]))) ((r++[P x.toNat]).length+1)]))]::H)
         rw[e4];rfl)
      | fail
 · rw [hend,Nat.sub_self]
   cases e:qX (C8 P (fun q i=>S.g2 [q,(i:Int)]) k p) k with
   | nil =>
     obtain ⟨x,h1,rfl⟩:=aD (Q:=fun x=>x=(.exit 8,kJ m P .nils w++[(136,.bool false)],dH S.h S.g S.c S.h2 S.g2 S.c2 [fe (-1) 0,(0,.dead),fe (-1) 0]::H)) (Nx n m P S.h S.g S.c S.h2 S.g2 S.c2 (-1) ((0:Nat):Int) w H) (aI n) (af _ _) (ag _ _) (by
      rw[cn,cn]
      exact Tr.al (fun hc=>by
       have:bG (gJ true true)=true:=hc
       simp (disch:=omega) only[nV,nW] at this) (fun _=>Tr.av rfl))
     exact h1
   | cons a r =>
     obtain ⟨x,h1,rfl⟩:=aD (Q:=fun x=>x=(.exit 8,kJ m P (.slc 0 5 r.length 0 1 (r.length+1) none) w++[(136,.bool false)],dH S.h S.g S.c S.h2 S.g2 S.c2 [fe (-1) 0,(0,.dead),fe (-1) 0,(r.length,.row (.M [.arr .i64 (aB (a::r)) (r.length+1)]))]::H)) (Ny n m r.length (r.length+1) P (aB (a::r)) S.h S.g S.c S.h2 S.g2 S.c2 (-1) ((0:Nat):Int) w H) (aI n) (af _ _) (ag _ _) (by
      rw[cn,cn]
      exact Tr.al (fun hc=>by
       have:bG (gJ true true)=true:=hc
       simp (disch:=omega) only[nV,nW] at this) (fun _=>Tr.av rfl))
     exact h1
end Go.Eng
end
section
namespace Go.Eng
open Go.Proofs
noncomputable def yG (v k:Nat) (i j:Int):ay:=[(0,.slc 1 5 v 0 1 k none),(2,.int .i64 i),(3,.int .i64 j)]
noncomputable def qK (h:List Int→Bool) (g:List Int→Int) (c:Nat) (h2:List Int→Bool) (g2:List Int→Int) (c2:Nat) (x y:Int) (v k:Nat) (a:Nat→Int):bm:=dH h g c h2 g2 c2 [fe x y,(0,.dead),fe (-1) 0,(v,.row (.M [.arr .i64 a k]))]
theorem t94 (n v k:Nat) (a:Nat→Int) (h:List Int→Bool) (g:List Int→Int) (c:Nat) (h2:List Int→Bool) (g2:List Int→Int) (c2:Nat) (x y i j:Int) (H:aa):aN (bp n 94 28) (il aR n 0) aW aX (part Tryz.f94 [1,0,0]) (hints (yG v k i j)) (aC::qK h g c h2 g2 c2 x y v k a::H) =
 Tr.ite (df i j) (Tr.req (dR j k) (Tr.req (cM v v) (Tr.req (bx (au 0 j 1) k) (Tr.req (dR i k) (Tr.req (cM v v) (Tr.req (bx (au 0 i 1) k) (Tr.req (dR i k) (Tr.req (cM v v) (Tr.req (bx (au 0 i 1) k) (Tr.req (gJ (fA v v) (fA v (Nat.succ v))) (Tr.req (dR j k) (Tr.req (cM v v) (Tr.req (bx (au 0 j 1) k) (Tr.req (gJ (fA v v) (fA v (Nat.succ v))) (Tr.ok (Ex.normal,[(0,AV.slc 1 5 v 0 1 k none,none),(2,AV.int .i64 (aK .i64 i (Int.ofNat 1)),none),(3,AV.int .i64 (eO .i64 j (Int.ofNat 1)),none)],aC::{ lock:=false,bs:=[(0,ak.fmap (KK.str 2) h g c),(0,ak.fmap (KK.str 2) h2 g2 c2),(0,ak.row (Row.I .i64 [x,y])),(0,ak.dead),(0,ak.row (Row.I .i64 [Int.negSucc 0,Int.ofNat 0])),(v,ak.row (Row.M [aL.arr .i64 (iw (iw a (au 0 i 1) (a (au 0 j 1))) (au 0 j 1) (a (au 0 i 1))) k]))] } :: H)))))))))))))))) (Tr.ok (Ex.exit 0,[(0,AV.slc 1 5 v 0 1 k none,none),(2,AV.int .i64 i,none),(3,AV.int .i64 j,none),(9,AV.bool false,some 1)],aC::{ lock:=false,bs:=[(0,ak.fmap (KK.str 2) h g c),(0,ak.fmap (KK.str 2) h2 g2 c2),(0,ak.row (Row.I .i64 [x,y])),(0,ak.dead),(0,ak.row (Row.I .i64 [Int.negSucc 0,Int.ofNat 0])),(v,ak.row (Row.M [aL.arr .i64 a k]))] } :: H)):=by kernel_rfl
end Go.Eng
end
section
namespace Go.Eng
open Go.Proofs
noncomputable def RL (v k:Nat) (a b:Nat→Int) (h:List Int→Bool) (g:List Int→Int) (c:Nat) (h2:List Int→Bool) (g2:List Int→Int) (c2:Nat) (x y:Int) (H:aa) (args:List AV) (G:aa):Tr (AV×aa) :=
 .reqP (args=[.slc 0 5 v 0 1 k none]∧G=qK h g c h2 g2 c2 x y v k a::H) (.ok (.tup [],qK h g c h2 g2 c2 x y v k b::H))
theorem Uy (n v k:Nat) (a b:Nat→Int) (h:List Int→Bool) (g:List Int→Int) (c:Nat) (h2:List Int→Bool) (g2:List Int→Int) (c2:Nat) (x y i j:Int) (H:aa):bu Tryz.prog (cd n) 100000 94 Tryz.f94 (KtB.kt 94) (il aR n 0) (eP aW 0 (yG v k (Int.ofNat 0) (eO .i64 (Int.ofNat k) (Int.ofNat 1))) (aC::qK h g c h2 g2 c2 x y v k a::H) (.ok (.normal,hints (yG v k i j++[(9,.bool false)]),aC::qK h g c h2 g2 c2 x y v k b::H))) aX [(.slc 0 5 v 0 1 k none,none)] (qK h g c h2 g2 c2 x y v k a::H) =
 (fun (Z0:bm)=>((fun (Z1:ay)=>Tr.reqP (Z1=Z1∧aC::Z0::H=aC::Z0::H) (Tr.ok ((AV.tup [],none),{ lock:=false,bs:=[(0,ak.fmap (KK.str 2) h g c),(0,ak.fmap (KK.str 2) h2 g2 c2),(0,ak.row (Row.I .i64 [x,y])),(0,ak.dead),(0,ak.row (Row.I .i64 [Int.negSucc 0,Int.ofNat 0])),(v,ak.row (Row.M [aL.arr .i64 b k]))] } :: H))) [(0,AV.slc 1 5 v 0 1 k none),(2,AV.int .i64 (Int.ofNat 0)),(3,AV.int .i64 (eO .i64 (Int.ofNat k) (Int.ofNat 1)))])) { lock:=false,bs:=[(0,ak.fmap (KK.str 2) h g c),(0,ak.fmap (KK.str 2) h2 g2 c2),(0,ak.row (Row.I .i64 [x,y])),(0,ak.dead),(0,ak.row (Row.I .i64 [Int.negSucc 0,Int.ofNat 0])),(v,ak.row (Row.M [aL.arr .i64 a k]))] }:=by kernel_rfl
theorem R4:∀ b,(0,b) ∈ bc (bZ Tryz.f94)→b=.loop (part Tryz.f94 [1,0,0]):=jj (by kernel_rfl)
theorem LD (n:Nat) (H:aa):cd (n+2) (.fn 94) [.nils] H=some (.tup [],H):=by kernel_rfl
noncomputable def xT (k:Nat) (a:Nat→Int):Nat→Nat→Int
 | 0=>a
 | j+1=>iw (iw (xT k a j) j (xT k a j (k-1-j))) (k-1-j) (xT k a j j)
theorem Ac (k:Nat) (a:Nat→Int):∀ j,2*j≤k→∀ x,xT k a j x=if x<k∧(x<j∨k≤x+j) then a (k-1-x) else a x
 | 0,_,x=>by
   rw[if_neg (by omega)];rfl
 | j + 1,h,x=>by
   have ih:=Ac k a j (by omega)
   show iw (iw (xT k a j) j (xT k a j (k-1-j))) (k-1-j) (xT k a j j) x=_
   rw[Da,Da]
   dsimp only
   by_cases h1:x=k-1-j
   · rw[if_pos h1,ih,if_neg (by omega),if_pos (by omega),h1]
     congr 1;omega
   · rw[if_neg h1]
     by_cases h2:x=j
     · rw[if_pos h2,ih,if_neg (by omega),if_pos (by omega),h2]
     · rw[if_neg h2,ih]
       by_cases h3:x<k∧(x<j∨k≤x+j)
       · rw[if_pos h3,if_pos (by omega)]
       · rw[if_neg h3,if_neg (by omega)]
theorem Iu (L:List Int):xT L.length (aB L) (L.length / 2)=aB L.reverse:=by
 funext x
 rw[Ac _ _ _ (by omega),fI,fI]
 dsimp only
 simp only[List.getD_eq_getElem?_getD]
 by_cases hx:x<L.length
 · rw[List.getElem?_reverse hx]
   by_cases h3:x<L.length∧(x<L.length / 2∨L.length≤x+L.length / 2)
   · rw[if_pos h3]
   · rw[if_neg h3,show L.length-1-x=x by omega]
 · rw[if_neg (by omega),List.getElem?_eq_none (by omega),List.getElem?_eq_none (by simp;omega)]
section
variable (n v k:Nat) (a:Nat→Int) (h:List Int→Bool) (g:List Int→Int) (c:Nat) (h2:List Int→Bool) (g2:List Int→Int) (c2:Nat) (x y:Int) (H:aa)
theorem T4 (h1:1≤k) (h3:k≤1000):exec (bp n 94 28) (.block 0 (.loop (part Tryz.f94 [1,0,0]))) (yG v k (Int.ofNat 0) (eO .i64 (Int.ofNat k) (Int.ofNat 1))) (aC::qK h g c h2 g2 c2 x y v k a::H)=some (.normal,yG v k ((k / 2:Nat):Int) ((k-1-k / 2:Nat):Int)++[(9,.bool false)],aC::qK h g c h2 g2 c2 x y v k (xT k a (k / 2))::H):=by
 have e0:eO .i64 (Int.ofNat k) (Int.ofNat 1)=((k-1-0:Nat):Int):=by
  rw[gE,show Int.ofNat 1=1 from rfl,show Int.ofNat k=(k:Int) from rfl,cr (by omega) (by omega)];omega
 rw[e0]
 refine j9 0 (fun j=>yG v k (j:Nat) ((k-1-j:Nat):Int)) (fun j=>aC::qK h g c h2 g2 c2 x y v k (xT k a j)::H) (k / 2) (yG v k ((k / 2:Nat):Int) ((k-1-k / 2:Nat):Int)++[(9,.bool false)],aC::qK h g c h2 g2 c2 x y v k (xT k a (k / 2))::H) (by omega) (fun j hj=>?_) ?_
 · have hst:xT k a (j+1)=iw (iw (xT k a j) j (xT k a j (k-1-j))) (k-1-j) (xT k a j j):=rfl
   rw[hst]
   generalize xT k a j=b
   have e1:aK .i64 (j:Int) (Int.ofNat 1)=((j+1:Nat):Int):=rV (by omega)
   have e2:eO .i64 ((k-1-j:Nat):Int) (Int.ofNat 1)=((k-1-(j+1):Nat):Int):=by
    rw[gE,show Int.ofNat 1=1 from rfl,cr (by omega) (by omega)];omega
   have e3:au 0 (j:Int) 1=j:=by rw[bB];omega
   have e4:au 0 ((k-1-j:Nat):Int) 1=k-1-j:=by rw[bB];omega
   refine aD (t94 n v k b h g c h2 g2 c2 x y (j:Nat) ((k-1-j:Nat):Int) H) (aI n) (af _ _) (ag _ _) ?_
   rw[e1,e2,e3,e4]
   exact wF
 · generalize xT k a (k / 2)=b
   obtain ⟨q,q1,rfl⟩:=aD (Q:=fun q=>q=(.exit 0,yG v k ((k / 2:Nat):Int) ((k-1-k / 2:Nat):Int)++[(9,.bool false)],aC::qK h g c h2 g2 c2 x y v k b::H)) (t94 n v k b h g c h2 g2 c2 x y ((k / 2:Nat):Int) ((k-1-k / 2:Nat):Int) H) (aI n) (af _ _) (ag _ _) (by
    refine Tr.al (fun hc=>?_) (fun hc=>Tr.av rfl)
    simp (disch:=omega) only[nV,nW] at hc;omega)
   exact q1
theorem Sm (h1:1≤k) (h3:k≤1000):cd (n+1) (.fn 94) [.slc 0 5 v 0 1 k none] (qK h g c h2 g2 c2 x y v k a::H)=some (.tup [],qK h g c h2 g2 c2 x y v k (xT k a (k / 2))::H):=by
 have hx:=T4 n v k a h g c h2 g2 c2 x y H h1 h3
 generalize xT k a (k / 2)=b at *
 refine ba (n:=n) Tryz.func94 rfl rfl rfl (Uy n v k a b h g c h2 g2 c2 x y ((k / 2:Nat):Int) ((k-1-k / 2:Nat):Int) H) (aI n) (bz (af _ _) R4 (fun q h=>by rw[← Tr.ab h];simp only[gi.st,aP];exact hx)) (ag _ _) ?_
 exact wF
end
end Go.Eng
end
