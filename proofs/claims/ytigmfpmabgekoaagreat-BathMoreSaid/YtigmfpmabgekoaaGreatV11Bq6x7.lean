/- Bath: the most: all points. -/
import Derived.Test.YtigmfpmabgekoaaGreatV11Bq2x3
import Derived.Test.YtigmfpmabgekoaaGreatV11EngPostx9
set_option linter.unusedVariables false
set_option linter.unusedSimpArgs false
set_option maxRecDepth 100000
section
namespace Go.Eng
open Go.Proofs
theorem Mx (n s l m:Nat) (y P:Nat→Int) (K j f:Int) (h:List Int→Bool) (g:List Int→Int) (c:Nat) (h2:List Int→Bool) (g2:List Int→Int) (c2:Nat) (H:aa):aX (bz n 79 156) (il aU n 0) (pN aZ 4) a6 (part Tryz.f79 [1,1,1,1,0,1,0,0,1,1,0,0,1,1,0,0]) (hints (pf s l m y P K j f)) (dM h g c h2 g2 c2 []::H) =
 Tr.ite (dq f j) Tr.bad (Tr.ok (Ex.exit 2,[(0,AV.ptrT (some (Nat.succ s)) (Row.G [aJ 7 l y]) 0,none),(1,AV.int .i64 K,none),(6,AV.slcT none (Row.M [aW.arr .i64 P m]) 1 m false,none),(7,AV.map 0 0,none),(8,AV.map 0 1,none),(9,AV.int .i64 j,none),(10,AV.int .i64 f,none),(32,AV.int .i64 (Int.ofNat m),none),(33,AV.int .i64 j,none),(38,AV.bool false,some 1)],{ lock:=false,bs:=[(0,ak.fmap (KK.str 2) h g c),(0,ak.fmap (KK.str 2) h2 g2 c2)] } :: H)):=by kernel_rfl
theorem Mw (n s l m:Nat) (y P:Nat→Int) (K j:Int) (h:List Int→Bool) (g:List Int→Int) (c:Nat) (h2:List Int→Bool) (g2:List Int→Int) (c2:Nat) (H:aa):aX (bz n 79 156) (il aU n 0) (pN aZ 2) a6 (part Tryz.f79 [1,1,1,1,0,1,0,0]) (hints (sZ s l m y P K j)) (dM h g c h2 g2 c2 []::H) =
 Tr.ite (dq j (Int.ofNat m)) Tr.bad (Tr.ok (Ex.exit 0,[(0,AV.ptrT (some (Nat.succ s)) (Row.G [aJ 7 l y]) 0,none),(1,AV.int .i64 K,none),(6,AV.slcT none (Row.M [aW.arr .i64 P m]) 1 m false,none),(7,AV.map 0 0,none),(8,AV.map 0 1,none),(32,AV.int .i64 (Int.ofNat m),none),(33,AV.int .i64 j,none),(34,AV.bool false,some 1)],{ lock:=false,bs:=[(0,ak.fmap (KK.str 2) h g c),(0,ak.fmap (KK.str 2) h2 g2 c2)] } :: H)):=by kernel_rfl
section
variable (n s l m:Nat) (z P:Nat→Int) (H:aa)
theorem O7 (K p:Nat) (S:MS) (h:bp l z=0) (hK:K≤15) (hm:m≤14) (hj:p<m) (hB:Gk 1400000 S):exec (bz (n+3) 79 156) (.block 2 (.loop (part Tryz.f79 [1,1,1,1,0,1,0,0,1,1,0,0,1,1,0,0]))) (pf s l m (oY z l) P K p (-1)) (kf S []::H)=some (.normal,pf s l m (oY z l) P K p p++[(38,.bool false)],kf (lZ (eM l z P) K p (p+1) S) []::H):=by
 refine nD 2 (fun i=>pf s l m (oY z l) P K p ((i:Int)-1)) (fun i=>kf (lZ (eM l z P) K p i S) []::H) (p+1) (pf s l m (oY z l) P K p p++[(38,.bool false)],kf (lZ (eM l z P) K p (p+1) S) []::H) (by omega) (fun i hi=>?_) ?_
 · have hB2:=Jf (a:=eM l z P) (W:=1400000) (fun f p=>Bo l z P h f p) (K:=K) (p:=p) hB i
   have hst:lZ (eM l z P) K p (i+1) S=g8 (eM l z P) p ((i:Int)-1) K (lZ (eM l z P) K p i S):=rfl
   have e1:a8 .i64 ((i:Int)-1) (Int.ofNat 1)=((i+1:Nat):Int)-1:=by rw[bV,show Int.ofNat 1=1 from rfl,cK (by omega) (by omega)];omega
   rw[hst]
   have hx:=O8 n s l m z P H K p ((i:Int)-1) (lZ (eM l z P) K p i S) h hK hm (by omega) (by omega) hB2
   generalize g8 (eM l z P) p ((i:Int)-1) K (lZ (eM l z P) K p i S)=S2 at *
   generalize lZ (eM l z P) K p i S=S1 at *
   refine aG (P6 (n+3) s l m (oY z l) P K p ((i:Int)-1) S1.h S1.g S1.c S1.h2 S1.g2 S1.c2 S2.h S2.g S2.c S2.h2 S2.g2 S2.c2 H) (aO _) (bL (ag _ _) NG (fun x h=>by rw[← Tr.ab h];simp only[gY.st,aY];exact hx)) (ah _ _) ?_
   rw[e1]
   exact wF
 · have e:((p+1:Nat):Int)-1=p:=by omega
   rw[e]
   generalize lZ (eM l z P) K p (p+1) S=S2 at *
   obtain ⟨x,h1,rfl⟩:=aG (Q:=fun x=>x=(.exit 2,pf s l m (oY z l) P K p p++[(38,.bool false)],kf S2 []::H)) (Mx (n+3) s l m (oY z l) P K p p S2.h S2.g S2.c S2.h2 S2.g2 S2.c2 H) (aO _) (iq (ag _ _) 4) (ah _ _) (by
    refine Tr.al (fun hc=>?_) (fun hc=>Tr.aw rfl)
    simp (disch:=omega) only[nV,nW] at hc;omega)
   exact h1
theorem O9 (K:Nat) (h:bp l z=0) (hK:K≤15) (hm:m≤14):exec (bz (n+3) 79 156) (.block 0 (.loop (part Tryz.f79 [1,1,1,1,0,1,0,0]))) (sZ s l m (oY z l) P K (Int.ofNat 0)) (kf cR []::H)=some (.normal,sZ s l m (oY z l) P K (Int.ofNat m)++[(34,.bool false)],kf (gb (eM l z P) K m cR) []::H):=by
 refine nD 0 (fun i=>sZ s l m (oY z l) P K (i:Nat)) (fun i=>kf (gb (eM l z P) K i cR) []::H) m (sZ s l m (oY z l) P K (Int.ofNat m)++[(34,.bool false)],kf (gb (eM l z P) K m cR) []::H) (by omega) (fun i hi=>?_) ?_
 · have hB2:=Jh (a:=eM l z P) (W:=1400000) (fun f p=>Bo l z P h f p) (K:=K) i
   have e1:a8 .i64 (i:Int) (Int.ofNat 1)=((i+1:Nat):Int):=wx (by omega)
   have hst:gb (eM l z P) K (i+1) cR=lZ (eM l z P) K i (i+1) (gb (eM l z P) K i cR):=rfl
   rw[hst]
   have hx:=O7 n s l m z P H K i (gb (eM l z P) K i cR) h hK hm hi hB2
   generalize lZ (eM l z P) K i (i+1) (gb (eM l z P) K i cR)=S2 at *
   generalize gb (eM l z P) K i cR=S1 at *
   refine aG (P5 (n+3) s l m (oY z l) P K (i:Nat) S1.h S1.g S1.c S1.h2 S1.g2 S1.c2 S2.h S2.g S2.c S2.h2 S2.g2 S2.c2 H) (aO _) (bL (ag _ _) NF (fun x h=>by rw[← Tr.ab h];simp only[gY.st,aY];exact hx)) (ah _ _) ?_
   rw[e1]
   exact wF
 · generalize gb (eM l z P) K m cR=S2 at *
   obtain ⟨x,h1,rfl⟩:=aG (Q:=fun x=>x=(.exit 0,sZ s l m (oY z l) P K (Int.ofNat m)++[(34,.bool false)],kf S2 []::H)) (Mw (n+3) s l m (oY z l) P K (Int.ofNat m) S2.h S2.g S2.c S2.h2 S2.g2 S2.c2 H) (aO _) (iq (ag _ _) 2) (ah _ _) (by
    refine Tr.al (fun hc=>?_) (fun hc=>Tr.aw rfl)
    simp (disch:=omega) only[nV,nW] at hc;omega)
   exact h1
end
end Go.Eng
end
section
namespace Go.Eng
open Go.Proofs
open Go.Proofs.YtigmfpmabgekoaaGreat.Known (mostS mostL most)
noncomputable def eY (x y:Int):Nat×ak:=(0,.row (.I .i64 [x,y]))
noncomputable def IC (s l m:Nat) (y P:Nat→Int) (K:Int):av:=[(0,iJ (s+1) l y),(1,.int .i64 K),(6,cI m P false),(7,.map 0 0),(8,.map 0 1)]
theorem Py (n s l m:Nat) (y P:Nat→Int) (K:Int) (h:List Int→Bool) (g:List Int→Int) (c:Nat) (h2:List Int→Bool) (g2:List Int→Int) (c2:Nat) (h':List Int→Bool) (g':List Int→Int) (c':Nat) (h2':List Int→Bool) (g2':List Int→Int) (c2':Nat) (H:aa):aX (bz n 79 156) (il aU n 0) (gf aZ 0 (sZ s l m y P K (Int.ofNat 0)) (dM h g c h2 g2 c2 []::H) (.ok (.normal,hints (sZ s l m y P K (Int.ofNat m)++[(34,.bool false)]),dM h' g' c' h2' g2' c2' []::H))) a6 (part Tryz.f79 [1,1,1,1,0]) (hints (IC s l m y P K)) (dM h g c h2 g2 c2 []::H) =
 (fun (Z0:av)=>((fun (Z1:bn)=>Tr.reqP (Z0=Z0∧Z1::H=Z1::H) (Tr.ok (Ex.normal,[(0,AV.ptrT (some (Nat.succ s)) (Row.G [aJ 7 l y]) 0,none),(1,AV.int .i64 K,none),(6,AV.slcT none (Row.M [aW.arr .i64 P m]) 1 m false,none),(7,AV.map 0 0,none),(8,AV.map 0 1,none),(32,AV.int .i64 (Int.ofNat m),none),(33,AV.int .i64 (Int.ofNat m),none),(34,AV.bool false,none)],{ lock:=false,bs:=[(0,ak.fmap (KK.str 2) h' g' c'),(0,ak.fmap (KK.str 2) h2' g2' c2')] } :: H))) { lock:=false,bs:=[(0,ak.fmap (KK.str 2) h g c),(0,ak.fmap (KK.str 2) h2 g2 c2)] })) [(0,AV.ptrT (some (Nat.succ s)) (Row.G [aJ 7 l y]) 0),(1,AV.int .i64 K),(6,AV.slcT none (Row.M [aW.arr .i64 P m]) 1 m false),(7,AV.map 0 0),(8,AV.map 0 1),(32,AV.int .i64 (Int.ofNat m)),(33,AV.int .i64 (Int.ofNat 0))]:=by kernel_rfl
theorem Pz (n s l m:Nat) (y P:Nat→Int) (K:Int) (h:List Int→Bool) (g:List Int→Int) (c:Nat) (h2:List Int→Bool) (g2:List Int→Int) (c2:Nat) (H:aa):aX (bz n 79 156) (il aU n 0) aZ a6 (part Tryz.f79 [1,1,1,1,1,0]) (hints (sZ s l m y P K (Int.ofNat m)++[(34,.bool false)])) (dM h g c h2 g2 c2 []::H) =
 Tr.ok (Ex.normal,[(6,AV.slcT none (Row.M [aW.arr .i64 P m]) 1 m false,none),(7,AV.map 0 0,none),(8,AV.map 0 1,none),(17,AV.ptr 0 2 0 0,none)],{ lock:=false,bs:=[(0,ak.fmap (KK.str 2) h g c),(0,ak.fmap (KK.str 2) h2 g2 c2),(0,ak.row (Row.I .i64 [Int.negSucc 0,Int.ofNat 0]))] } :: H):=by kernel_rfl
theorem L6 (n m:Nat) (P:Nat→Int) (h:List Int→Bool) (g:List Int→Int) (c:Nat) (h2:List Int→Bool) (g2:List Int→Int) (c2:Nat) (x y:Int) (H:aa):(Go.Proofs.YtigmfpmabgekoaaGreat.Known.mostS).A0 (bz n 79 156) (il aU n 0) (hints [(6,cI m P false),(7,.map 0 0),(8,.map 0 1),(17,.ptr 0 2 0 0)]) (dM h g c h2 g2 c2 [eY x y]::H) =
 Tr.ok ([(6,AV.slcT none (Row.M [aW.arr .i64 P m]) 1 m false,none),(7,AV.map 0 0,none),(8,AV.map 0 1,none),(17,AV.ptr 0 2 0 0,none),(90,AV.map 0 0,none)],{ lock:=false,bs:=[(0,ak.fmap (KK.str 2) h g c),(0,ak.fmap (KK.str 2) h2 g2 c2),(0,ak.row (Row.I .i64 [x,y]))] } :: H):=by kernel_rfl
theorem PB (n m:Nat) (P:Nat→Int) (h:List Int→Bool) (g:List Int→Int) (c:Nat) (h2:List Int→Bool) (g2:List Int→Int) (c2:Nat) (b1 b2 b3:List (Nat×ak)) (a b v x y:Int):(Go.Proofs.YtigmfpmabgekoaaGreat.Known.mostL).oD (bz n 79 156) (il aU n 0) aZ a6 3 4 (.agg (.I .i64 [a,b]),.int .i64 v) (hints [(6,cI m P false),(7,.map 4 0),(8,.map 0 1),(17,.ptr 0 2 0 0),(91,.ptr 0 3 0 0)]) (⟨false,[(0,.dead),(0,.fmap (.str 2) h2 g2 c2),eY x y,(0,.dead)]⟩::[⟨true,b1⟩,⟨true,b2⟩,⟨true,b3⟩,iD (.fmap (.str 2) h g c)]) =
 (fun (Z0:aM)=>((fun (Z1:bn)=>((fun (Z2:bn)=>((fun (Z3:bn)=>Tr.ite (dq (g [x,y]) v) (Tr.ok (Z0,[Z2,{ lock:=true,bs:=b1 },{ lock:=true,bs:=b2 },{ lock:=true,bs:=b3 },Z1])) (Tr.ite (dm v (g [x,y])) (Tr.ite (dq b y) (Tr.ok (Z0,[Z2,{ lock:=true,bs:=b1 },{ lock:=true,bs:=b2 },{ lock:=true,bs:=b3 },Z1])) (Tr.ite (dm b y) (Tr.ite (dq a x) (Tr.ok (Z0,[Z2,{ lock:=true,bs:=b1 },{ lock:=true,bs:=b2 },{ lock:=true,bs:=b3 },Z1])) (Tr.ok (Z0,[Z3,{ lock:=true,bs:=b1 },{ lock:=true,bs:=b2 },{ lock:=true,bs:=b3 },Z1]))) (Tr.ok (Z0,[Z3,{ lock:=true,bs:=b1 },{ lock:=true,bs:=b2 },{ lock:=true,bs:=b3 },Z1])))) (Tr.ok (Z0,[Z3,{ lock:=true,bs:=b1 },{ lock:=true,bs:=b2 },{ lock:=true,bs:=b3 },Z1])))) { lock:=false,bs:=[(0,ak.dead),(0,ak.fmap (KK.str 2) h2 g2 c2),(0,ak.row (Row.I .i64 [x,y])),(0,ak.dead)] })) { lock:=false,bs:=[(0,ak.dead),(0,ak.fmap (KK.str 2) h2 g2 c2),(0,ak.row (Row.I .i64 [a,b])),(0,ak.dead)] })) { lock:=true,bs:=[(0,ak.fmap (KK.str 2) h g c)] })) [(6,AV.slcT none (Row.M [aW.arr .i64 P m]) 1 m false,none),(7,AV.map 4 0,none),(8,AV.map 0 1,none),(17,AV.ptr 0 2 0 0,none),(91,AV.ptr 0 3 0 0,none)]:=by kernel_rfl
theorem PC (n m:Nat) (P:Nat→Int) (h:List Int→Bool) (g:List Int→Int) (c:Nat) (h2:List Int→Bool) (g2:List Int→Int) (c2:Nat) (b1 b2 b3:List (Nat×ak)) (a b v x y:Int):(Go.Proofs.YtigmfpmabgekoaaGreat.Known.mostL).oD (bz n 79 156) (il aU n 0) aZ a6 3 4 (.agg (.I .i64 [a,b]),.int .i64 v) (hints [(6,cI m P false),(7,.map 4 0),(8,.map 0 1),(17,.ptr 0 2 0 0),(90,.map 4 0),(91,.ptr 0 3 0 0)]) (⟨false,[(0,.dead),(0,.fmap (.str 2) h2 g2 c2),eY x y,(0,.dead)]⟩::[⟨true,b1⟩,⟨true,b2⟩,⟨true,b3⟩,iD (.fmap (.str 2) h g c)]) =
 (fun (Z0:aM)=>((fun (Z1:bn)=>((fun (Z2:bn)=>((fun (Z3:bn)=>Tr.ite (dq (g [x,y]) v) (Tr.ok (Z0,[Z2,{ lock:=true,bs:=b1 },{ lock:=true,bs:=b2 },{ lock:=true,bs:=b3 },Z1])) (Tr.ite (dm v (g [x,y])) (Tr.ite (dq b y) (Tr.ok (Z0,[Z2,{ lock:=true,bs:=b1 },{ lock:=true,bs:=b2 },{ lock:=true,bs:=b3 },Z1])) (Tr.ite (dm b y) (Tr.ite (dq a x) (Tr.ok (Z0,[Z2,{ lock:=true,bs:=b1 },{ lock:=true,bs:=b2 },{ lock:=true,bs:=b3 },Z1])) (Tr.ok (Z0,[Z3,{ lock:=true,bs:=b1 },{ lock:=true,bs:=b2 },{ lock:=true,bs:=b3 },Z1]))) (Tr.ok (Z0,[Z3,{ lock:=true,bs:=b1 },{ lock:=true,bs:=b2 },{ lock:=true,bs:=b3 },Z1])))) (Tr.ok (Z0,[Z3,{ lock:=true,bs:=b1 },{ lock:=true,bs:=b2 },{ lock:=true,bs:=b3 },Z1])))) { lock:=false,bs:=[(0,ak.dead),(0,ak.fmap (KK.str 2) h2 g2 c2),(0,ak.row (Row.I .i64 [x,y])),(0,ak.dead)] })) { lock:=false,bs:=[(0,ak.dead),(0,ak.fmap (KK.str 2) h2 g2 c2),(0,ak.row (Row.I .i64 [a,b])),(0,ak.dead)] })) { lock:=true,bs:=[(0,ak.fmap (KK.str 2) h g c)] })) [(6,AV.slcT none (Row.M [aW.arr .i64 P m]) 1 m false,none),(7,AV.map 4 0,none),(8,AV.map 0 1,none),(17,AV.ptr 0 2 0 0,none),(91,AV.ptr 0 3 0 0,none)]:=by kernel_rfl
theorem PA (n D m:Nat) (P:Nat→Int) (h2:List Int→Bool) (g2:List Int→Int) (c2:Nat) (R:aa) (x y:Int):(Go.Proofs.YtigmfpmabgekoaaGreat.Known.mostL).yQ (bz n 79 156) (il aU n 0) (hints [(6,cI m P false),(7,.map D 0),(8,.map 0 1),(17,.ptr 0 2 0 0),(91,.ptr 0 3 0 0)]) (⟨false,[(0,.dead),(0,.fmap (.str 2) h2 g2 c2),eY x y,(0,.dead)]⟩::R) =
 Tr.ok ([(6,AV.slcT none (Row.M [aW.arr .i64 P m]) 1 m false,none),(7,AV.map D 0,none),(8,AV.map 0 1,none),(17,AV.ptr 0 2 0 0,none),(91,AV.ptr 0 3 0 0,none),(92,AV.tup [AV.bool false],none),(93,AV.bool false,none)],{ lock:=false,bs:=[(0,ak.dead),(0,ak.fmap (KK.str 2) h2 g2 c2),(0,ak.row (Row.I .i64 [x,y])),(0,ak.dead)] } :: R):=by kernel_rfl
end Go.Eng
end
section
namespace Go.Eng
open Go.Proofs
noncomputable def mL:bj:=Go.Proofs.YtigmfpmabgekoaaGreat.Known.mostL
noncomputable def rT (m:Nat) (P:Nat→Int):av:=[(6,cI m P false),(7,.map 4 0),(8,.map 0 1),(17,.ptr 0 2 0 0),(91,.ptr 0 3 0 0)]
noncomputable def Df (m:Nat) (P:Nat→Int):av:=[(6,cI m P false),(7,.map 4 0),(8,.map 0 1),(17,.ptr 0 2 0 0),(90,.map 4 0),(91,.ptr 0 3 0 0)]
noncomputable def fi (h2:List Int→Bool) (g2:List Int→Int) (c2:Nat) (x:Int×Int):bn:=⟨false,[(0,.dead),(0,.fmap (.str 2) h2 g2 c2),eY x.1 x.2,(0,.dead)]⟩
noncomputable def pS (b1 b2 b3:List (Nat×ak)) (h:List Int→Bool) (g:List Int→Int) (c:Nat):aa:=[⟨true,b1⟩,⟨true,b2⟩,⟨true,b3⟩,iD (.fmap (.str 2) h g c)]
noncomputable def yO (g:List Int→Int) (e:Int×Int):AV×AV:=(.agg (.I .i64 [e.1,e.2]),.int .i64 (g [e.1,e.2]))
theorem xn {L:bj} {cx:Cx} {callR:bE} {bl:g9} {rg:sk} {k n:Nat} {kv:AV×AV} {fr fr':av} {l l':bn} {R:aa} {T:Tr (aM×aa)} (e:L.oD cx callR bl rg k n kv (hints fr) (l::R)=T) (hC:callR.Ok cx.call) (hB:bl.Ok cx L.rest) (hR:rg.Ok cx L.rest)
 (h:T.all fun y=>strip y.1=fr'∧y.2=l'::R):cV L cx k n R kv (fr,l)=some (fr',l'):=by
 obtain ⟨y,h1,h2,h3⟩:=h
 have:=bj.DA hC hB hR (by rw[e];exact h1)
 rw[aY,h2,h3] at this
 unfold cV
 rw[this]
theorem yP {L:bj} {cx:Cx} {callR:bE} {fr:av} {H:aa} {T:Tr (aM×aa)} (e:L.yQ cx callR (hints fr) H=T) (hC:callR.Ok cx.call) {y:av×aa} (h:T.all fun z=>(strip z.1,z.2)=y):L.last cx fr H=some y:=by
 obtain ⟨z,h1,rfl⟩:=h
 have:=bj.EV hC (by rw[e];exact h1)
 rw[aY] at this;exact this
section
variable (n m:Nat) (P:Nat→Int) (h:List Int→Bool) (g:List Int→Int) (c:Nat) (h2:List Int→Bool) (g2:List Int→Int) (c2:Nat) (b1 b2 b3:List (Nat×ak))
theorem PI (x e:Int×Int):cV mL (bz n 79 156) 3 4 (pS b1 b2 b3 h g c) (yO g e) (rT m P,fi h2 g2 c2 x)=some (rT m P,fi h2 g2 c2 (if ur g e x=true then e else x)):=by
 obtain ⟨x,y⟩:=x
 obtain ⟨a,b⟩:=e
 refine xn (PB n m P h g c h2 g2 c2 b1 b2 b3 a b (g [a,b]) x y) (aO n) (ag _ _) (ah _ _) ?_
 have hb:=ng (g:=g) (x:=(a,b)) (y:=(x,y))
 dsimp only at hb
 rw[eV,eV,eV,cg,cg]
 by_cases k1:g [x,y]<g [a,b]
 · rw[decide_eq_true k1,if_pos (hb.2 (.inl k1))]
   exact Tr.al (fun _=>Tr.aw ⟨rfl,rfl⟩) (fun hc=>by cases hc)
 · rw[decide_eq_false k1]
   refine Tr.al (fun hc=>by cases hc) (fun _=>?_)
   by_cases k2:g [a,b]=g [x,y]
   · rw[show (g [a,b] == g [x,y])=true from beq_iff_eq.2 k2]
     refine Tr.al (fun _=>?_) (fun hc=>by cases hc)
     by_cases k3:b<y
     · rw[decide_eq_true k3,if_pos (hb.2 (.inr ⟨k2,.inl k3⟩))]
       exact Tr.al (fun _=>Tr.aw ⟨rfl,rfl⟩) (fun hc=>by cases hc)
     · rw[decide_eq_false k3]
       refine Tr.al (fun hc=>by cases hc) (fun _=>?_)
       by_cases k4:b=y
       · rw[show (b == y)=true from beq_iff_eq.2 k4]
         refine Tr.al (fun _=>?_) (fun hc=>by cases hc)
         by_cases k5:a<x
         · rw[decide_eq_true k5,if_pos (hb.2 (.inr ⟨k2,.inr ⟨k4,k5⟩⟩))]
           exact Tr.al (fun _=>Tr.aw ⟨rfl,rfl⟩) (fun hc=>by cases hc)
         · rw[decide_eq_false k5,if_neg (fun q=>by have:=hb.1 q;omega)]
           exact Tr.al (fun hc=>by cases hc) (fun _=>Tr.aw ⟨rfl,rfl⟩)
       · rw[show (b == y)=false from beq_eq_false_iff_ne.2 k4,if_neg (fun q=>by have:=hb.1 q;omega)]
         exact Tr.al (fun hc=>by cases hc) (fun _=>Tr.aw ⟨rfl,rfl⟩)
   · rw[show (g [a,b] == g [x,y])=false from beq_eq_false_iff_ne.2 k2,if_neg (fun q=>by have:=hb.1 q;omega)]
     exact Tr.al (fun hc=>by cases hc) (fun _=>Tr.aw ⟨rfl,rfl⟩)
theorem Mc (x e:Int×Int):cV mL (bz n 79 156) 3 4 (pS b1 b2 b3 h g c) (yO g e) (Df m P,fi h2 g2 c2 x)=some (rT m P,fi h2 g2 c2 (if ur g e x=true then e else x)):=by
 obtain ⟨x,y⟩:=x
 obtain ⟨a,b⟩:=e
 refine xn (PC n m P h g c h2 g2 c2 b1 b2 b3 a b (g [a,b]) x y) (aO n) (ag _ _) (ah _ _) ?_
 have hb:=ng (g:=g) (x:=(a,b)) (y:=(x,y))
 dsimp only at hb
 rw[eV,eV,eV,cg,cg]
 by_cases k1:g [x,y]<g [a,b]
 · rw[decide_eq_true k1,if_pos (hb.2 (.inl k1))]
   exact Tr.al (fun _=>Tr.aw ⟨rfl,rfl⟩) (fun hc=>by cases hc)
 · rw[decide_eq_false k1]
   refine Tr.al (fun hc=>by cases hc) (fun _=>?_)
   by_cases k2:g [a,b]=g [x,y]
   · rw[show (g [a,b] == g [x,y])=true from beq_iff_eq.2 k2]
     refine Tr.al (fun _=>?_) (fun hc=>by cases hc)
     by_cases k3:b<y
     · rw[decide_eq_true k3,if_pos (hb.2 (.inr ⟨k2,.inl k3⟩))]
       exact Tr.al (fun _=>Tr.aw ⟨rfl,rfl⟩) (fun hc=>by cases hc)
     · rw[decide_eq_false k3]
       refine Tr.al (fun hc=>by cases hc) (fun _=>?_)
       by_cases k4:b=y
       · rw[show (b == y)=true from beq_iff_eq.2 k4]
         refine Tr.al (fun _=>?_) (fun hc=>by cases hc)
         by_cases k5:a<x
         · rw[decide_eq_true k5,if_pos (hb.2 (.inr ⟨k2,.inr ⟨k4,k5⟩⟩))]
           exact Tr.al (fun _=>Tr.aw ⟨rfl,rfl⟩) (fun hc=>by cases hc)
         · rw[decide_eq_false k5,if_neg (fun q=>by have:=hb.1 q;omega)]
           exact Tr.al (fun hc=>by cases hc) (fun _=>Tr.aw ⟨rfl,rfl⟩)
       · rw[show (b == y)=false from beq_eq_false_iff_ne.2 k4,if_neg (fun q=>by have:=hb.1 q;omega)]
         exact Tr.al (fun hc=>by cases hc) (fun _=>Tr.aw ⟨rfl,rfl⟩)
   · rw[show (g [a,b] == g [x,y])=false from beq_eq_false_iff_ne.2 k2,if_neg (fun q=>by have:=hb.1 q;omega)]
     exact Tr.al (fun hc=>by cases hc) (fun _=>Tr.aw ⟨rfl,rfl⟩)
theorem Ez:∀ (ks:List (Int×Int)) (x:Int×Int),dv mL (bz n 79 156) 3 4 (pS b1 b2 b3 h g c) (ks.map (yO g)) (rT m P,fi h2 g2 c2 x)=some (rT m P,fi h2 g2 c2 (Bz g ks x))
 | [],x=>rfl
 | e::ks,x=>by
   show (match cV mL (bz n 79 156) 3 4 (pS b1 b2 b3 h g c) (yO g e) (rT m P,fi h2 g2 c2 x) with
    | some t=>dv mL (bz n 79 156) 3 4 (pS b1 b2 b3 h g c) (ks.map (yO g)) t
    | none=>none)=_
   rw[PI]
   exact Ez ks _
theorem Pe (x:Int×Int):mL.last (bz n 79 156) (rT m P) (fi h2 g2 c2 x::pS b1 b2 b3 h g c)=some (rT m P++[(92,.tup [.bool false]),(93,.bool false)],fi h2 g2 c2 x::pS b1 b2 b3 h g c) :=
 yP (PA n 4 m P h2 g2 c2 (pS b1 b2 b3 h g c) x.1 x.2) (aO _) (Tr.aw rfl)
end
theorem BF {es:List (AV×AV)} {h:List Int→Bool} {g:List Int→Int} {c:Nat} (hE:oM (.str 2) es h g c):∀ vs:List Nat,(∀ j ∈ vs,j<es.length) →
 ∃ ks:List (Int×Int),(vs.map fun j=>es.getD j (.undef,.undef))=ks.map (yO g)∧(∀ e ∈ ks,h [e.1,e.2]=true)∧(∀ j ∈ vs,∀ n,(es.getD j (.undef,.undef)).1=dX (.str 2) n→∃ e ∈ ks,n=[e.1,e.2])∧ks.length=vs.length
 | [],_=>⟨[],rfl,fun e he=>(by cases he),fun j hj=>(by cases hj),rfl⟩
 | j :: vs,hv=>by
   obtain ⟨l,l1,l2,l3,l4⟩:=BF hE vs (fun i hi=>hv i (List.mem_cons_of_mem _ hi))
   have hj:=hv j (by simp)
   obtain ⟨n,e1,e2⟩:=hE.ent j hj
   have hf:=(hE.all _ e2).1
   have hlen:n.length=2:=Nat.eq_of_beq_eq_true hf
   obtain ⟨a,b,rfl⟩:∃ a b,n=[a,b]:=by
    match n,hlen with
    | [a,b],_=>exact ⟨a,b,rfl⟩
   refine ⟨(a,b)::l,?_,fun e he=>?_,fun i hi n' hn'=>?_,by simp[l4]⟩
   · rw[List.map_cons,List.map_cons,l1]
     congr 1
   · rcases List.mem_cons.1 he with rfl | he
     · exact e2
     · exact l2 e he
   · rcases List.mem_cons.1 hi with rfl | hi
     · rw[e1] at hn'
       have hn':dX (.str 2) [a,b]=dX (.str 2) n':=hn'
       have:[a,b]=n':=by unfold dX at hn';simpa using hn'
       exact ⟨(a,b),by simp,this.symm⟩
     · obtain ⟨e,he,h'⟩:=l3 i hi n' hn'
       exact ⟨e,by simp[he],h'⟩
theorem vD:∀ (n:Nat) (vs:List Nat),vs.Nodup→(∀ j ∈ vs,j<n)→vs.length≤n
 | 0,vs,_,h=>by
   cases vs with
   | nil=>exact Nat.le_refl _
   | cons a r=>have:=h a (by simp);omega
 | n+1,vs,hn,h=>by
   have h1:=vD n (vs.erase n) (hn.erase n) (fun j hj=>by
    rw[hn.mem_erase_iff] at hj
    have:=h j hj.2
    omega)
   rw[List.length_erase] at h1
   split at h1<;>omega
theorem yo {vs:List Nat} {n:Nat} (hn:vs.Nodup) (hl:vs.length=n) (hb:∀ j ∈ vs,j<n) {j:Nat} (hj:j<n):j ∈ vs:=by
 apply Classical.byContradiction
 intro hc
 have:=vD n (j::vs) (List.nodup_cons.2 ⟨hc,hn⟩) (fun i hi=>by
  rcases List.mem_cons.1 hi with rfl | hi
  · exact hj
  · exact hb i hi)
 simp only[List.length_cons] at this
 omega
def sj (h:List Int→Bool) (g:List Int→Int) (r:Int×Int):Prop:=h [r.1,r.2]=true∧∀ e:Int×Int,h [e.1,e.2]=true→ur g e r=false
theorem Jw (n m:Nat) (P:Nat→Int) (h:List Int→Bool) (g:List Int→Int) (c:Nat) (h2:List Int→Bool) (g2:List Int→Int) (c2:Nat) (b1 b2 b3:List (Nat×ak)) (x r:Int×Int) (hx:h [x.1,x.2]=true) (hr:sj h g r) :
 sl (bz n 79 156) mL 3 (pS b1 b2 b3 h g c) (Df m P,fi h2 g2 c2 x) (.str 2) h g c (rT m P++[(92,.tup [.bool false]),(93,.bool false)],fi h2 g2 c2 r):=by
 refine ⟨rfl,fun es hE vs v1 v2 v3=>?_⟩
 obtain ⟨ks,l1,l2,l3,l4⟩:=BF hE vs v3
 have cov:∀ e:Int×Int,h [e.1,e.2]=true→e ∈ ks:=fun e he=>by
  obtain ⟨_,j,j1,j2⟩:=hE.all _ he
  obtain ⟨e',he',e2⟩:=l3 j (yo v1 v2 v3 j1) _ j2
  simp only[List.cons.injEq,and_true] at e2
  have:e=e':=Prod.ext e2.1 e2.2
  rw[this];exact he'
 obtain ⟨s1,s2⟩:=mh (g:=g) ks x
 have hb:Bz g ks x=r:=by
  refine BA (g:=g) ?_ (s2 r (.inr (cov r hr.1)))
  refine hr.2 _ ?_
  rcases s1 with e | e
  · rw[e];exact hx
  · exact l2 _ e
 rw[l1]
 have hf:dv mL (bz n 79 156) 3 4 (pS b1 b2 b3 h g c) (ks.map (yO g)) (Df m P,fi h2 g2 c2 x)=some (rT m P,fi h2 g2 c2 (Bz g ks x)):=by
  cases ks with
  | nil=>exact (List.not_mem_nil (cov x hx)).elim
  | cons e ks =>
    show (match cV mL (bz n 79 156) 3 4 (pS b1 b2 b3 h g c) (yO g e) (Df m P,fi h2 g2 c2 x) with
     | some t=>dv mL (bz n 79 156) 3 4 (pS b1 b2 b3 h g c) (ks.map (yO g)) t
     | none=>none)=_
    rw[Mc]
    exact Ez n m P h g c h2 g2 c2 b1 b2 b3 ks _
 refine ⟨_,hf,?_⟩
 rw[hb]
 exact Pe n m P h g c h2 g2 c2 b1 b2 b3 r
end Go.Eng
end
section
namespace Go.Eng
open Go.Proofs
theorem N2:∃ es,oM (.str 2) es (fun _=>false) (fun _=>0) 0 :=
 ⟨[],rfl,(fun j hj=>absurd hj (Nat.not_lt_zero _)),(fun n h=>by cases h),(fun n _=>rfl),(fun i j hi=>absurd hi (Nat.not_lt_zero _))⟩
theorem En {h:List Int→Bool} {g:List Int→Int} {c:Nat} (hE:∃ es,oM (.str 2) es h g c) (a b y:Int):∃ es,oM (.str 2) es (dE h [a,b] true) (fB g [a,b] y) (oV (h [a,b]) c):=by
 obtain ⟨es,hE⟩:=hE
 cases hh:h [a,b] with
 | false =>
   refine ⟨_,hh ▸ hE.QF (n:=[a,b]) (y:=y) rfl (r:=none) hh (fun j hj=>by cases hj)⟩
 | true =>
   obtain ⟨_,j,j1,j2⟩:=hE.all _ hh
   obtain ⟨n,e1,e2⟩:=hE.ent j j1
   have:dX (.str 2) n=dX (.str 2) [a,b]:=by rw[← j2,e1]
   have hn:n=[a,b]:=by unfold dX at this;simpa using this
   subst hn
   refine ⟨_,hh ▸ hE.QF (n:=[a,b]) (y:=y) rfl (r:=some j) hh (fun j' hj'=>by cases hj';exact ⟨j1,e1⟩)⟩
theorem N3 {a:Int→Int→Int} {p f n:Int} {s:MS} (h:∃ es,oM (.str 2) es s.h s.g s.c):∃ es,oM (.str 2) es (m9 a p f n s).h (m9 a p f n s).g (m9 a p f n s).c:=by
 unfold m9
 split
 · split
   · exact En h _ _ _
   · exact h
 · exact h
theorem Lj {a:Int→Int→Int} {p f:Int} {s:MS} (h:∃ es,oM (.str 2) es s.h s.g s.c):∀ n,∃ es,oM (.str 2) es (g8 a p f n s).h (g8 a p f n s).g (g8 a p f n s).c
 | 0=>h
 | n+1=>N3 (Lj h n)
theorem Li {a:Int→Int→Int} {K:Nat} {p:Int} {s:MS} (h:∃ es,oM (.str 2) es s.h s.g s.c):∀ n,∃ es,oM (.str 2) es (lZ a K p n s).h (lZ a K p n s).g (lZ a K p n s).c
 | 0=>h
 | n+1=>Lj (Li h n) K
theorem JC {a:Int→Int→Int} {K:Nat}:∀ n,∃ es,oM (.str 2) es (gb a K n cR).h (gb a K n cR).g (gb a K n cR).c
 | 0=>En N2 (-1) 0 0
 | n+1=>Li (JC n) (n+1)
noncomputable def mS:bD:=Go.Proofs.YtigmfpmabgekoaaGreat.Known.mostS
noncomputable def nI (m:Nat) (P:Nat→Int):av:=[(6,cI m P false),(7,.map 0 0),(8,.map 0 1),(17,.ptr 0 2 0 0)]
noncomputable def yl (m:Nat) (P:Nat→Int):av:=nI m P++[(91,.ptr 0 3 0 0),(92,.tup [.bool false]),(93,.bool false)]
theorem HO (n m:Nat) (P:Nat→Int) (S:MS) (k1 k2 k3:Bool) (b1 b2 b3:List (Nat×ak)) (x r:Int×Int) (hE:∃ es,oM (.str 2) es S.h S.g S.c) (hx:S.h [x.1,x.2]=true) (hr:sj S.h S.g r) :
 gR (bz n 79 156) mS mL (nI m P) (kf S [eY x.1 x.2]::[⟨k1,b1⟩,⟨k2,b2⟩,⟨k3,b3⟩])=some (yl m P,kf S [eY r.1 r.2,(0,.dead)]::[⟨k1,b1⟩,⟨k2,b2⟩,⟨k3,b3⟩]):=by
 have hp:cO (bz n 79 156).P (bz n 79 156).nt (bz n 79 156).call mS.ops0 mS.pre (nI m P) (kf S [eY x.1 x.2]::[⟨k1,b1⟩,⟨k2,b2⟩,⟨k3,b3⟩])=some (nI m P++[(90,.map 0 0)],kf S [eY x.1 x.2]::[⟨k1,b1⟩,⟨k2,b2⟩,⟨k3,b3⟩]):=by
  have:=bD.r8 (S:=mS) (cx:=bz n 79 156) (callR:=il aU n 0) (aO _) (fr:=hints (nI m P)) (H:=kf S [eY x.1 x.2]::[⟨k1,b1⟩,⟨k2,b2⟩,⟨k3,b3⟩]) (by
   show (bD.A0 _ _ _ _ _).run=_
   have:=L6 n m P S.h S.g S.c S.h2 S.g2 S.c2 x.1 x.2 [⟨k1,b1⟩,⟨k2,b2⟩,⟨k3,b3⟩]
   exact congrArg Tr.run this)
  rw[aY] at this
  exact this
 have hends:=Jw n m P S.h S.g S.c S.h2 S.g2 S.c2 b1 b2 b3 x r hx hr
 unfold gR
 rw[hp]
 show (@dite _ (∃ y,sl (bz n 79 156) mL 3 (pS b1 b2 b3 S.h S.g S.c) (Df m P,fi S.h2 S.g2 S.c2 x) (.str 2) S.h S.g S.c y) (Classical.propDecidable _)
  (fun hx=>if (Classical.choose hx).2.bs.all (fun x=>qV 4 0 x.2) && ((j6 (su 4 0) (Classical.choose hx).1).all (fun x=>lV 4 0 x.2) && eT (ao (Classical.choose hx).2.bs 0).2) then some (j6 (su 4 0) (Classical.choose hx).1,dB ((Classical.choose hx).2::[⟨k1,b1⟩,⟨k2,b2⟩,⟨k3,b3⟩]) 0 0 (0,.fmap (.str 2) S.h S.g S.c)) else none)
  (fun _=>none))=_
 have hex:∃ y,sl (bz n 79 156) mL 3 (pS b1 b2 b3 S.h S.g S.c) (Df m P,fi S.h2 S.g2 S.c2 x) (.str 2) S.h S.g S.c y:=⟨_,hends⟩
 have hy:Classical.choose hex=(rT m P++[(92,.tup [.bool false]),(93,.bool false)],fi S.h2 S.g2 S.c2 r):=by
  have hc:=Classical.choose_spec hex
  obtain ⟨es,hE⟩:=hE
  obtain ⟨s1,e1,e2⟩:=hc.2 es hE (List.range es.length) List.nodup_range (by simp) (fun j hj=>by simpa using hj)
  obtain ⟨s2,f1,f2⟩:=hends.2 es hE (List.range es.length) List.nodup_range (by simp) (fun j hj=>by simpa using hj)
  rw[e1] at f1
  obtain rfl:=Option.some.inj f1
  rw[e2] at f2
  simp only[Option.some.injEq,Prod.mk.injEq,List.cons.injEq,and_true] at f2
  exact Prod.ext f2.1 f2.2
 rw[dif_pos hex,hy]
 refine (if_pos ?_).trans ?_
 · rfl
 · rfl
end Go.Eng
end
section
namespace Go.Eng
open Go.Proofs
noncomputable def kA (m:Nat) (P:Nat→Int) (L:AV) (w:Int):av:=[(6,cI m P false),(8,.map 0 1),(17,.ptr 0 2 0 0),(21,.int .i64 w),(22,L),(23,.ptr 0 4 0 0)]
theorem Mz (n m:Nat) (P:Nat→Int) (h:List Int→Bool) (g:List Int→Int) (c:Nat) (h2:List Int→Bool) (g2:List Int→Int) (c2:Nat) (x y w:Int) (H:aa):aX (bz n 79 156) (il aU n 0) aZ a6 (part Tryz.f79 [1,1,1,1,1,1,1,1,1,1,0,0,0]) (hints (kA m P .nils w)) (dM h g c h2 g2 c2 [eY x y,(0,.dead),eY (-1) 0]::H) =
 Tr.ite (b8 (fa (dm x (Int.negSucc 0)) (dm y (Int.ofNat 0)))) (Tr.req (dF x m) (Tr.req (bA (ar 0 x 1) m) (Tr.req (dU 0 1 8) (Tr.req (bX 0 0) (Tr.req (dG 1 1) (Tr.req (fa (dG 0 0) (dG 0 1)) (Tr.ok (Ex.normal,[(6,AV.slcT none (Row.M [aW.arr .i64 P m]) 1 m false,none),(8,AV.map 0 1,none),(17,AV.ptr 0 2 0 0,none),(21,AV.int .i64 w,none),(22,AV.slc 0 6 0 0 1 1 none,none),(23,AV.ptr 0 4 0 0,none)],{ lock:=false,bs:=[(0,ak.fmap (KK.str 2) h g c),(0,ak.fmap (KK.str 2) h2 g2 c2),(0,ak.row (Row.I .i64 [g2 [x,y],cu .i64 y (Int.ofNat 1)])),(0,ak.dead),(0,ak.row (Row.I .i64 [Int.negSucc 0,Int.ofNat 0])),(0,ak.row (Row.I .i64 [P (ar 0 x 1)])),(0,ak.row (Row.M [aW.arr .i64 (an [P (ar 0 x 1)]) 1]))] } :: H)))))))) (Tr.ok (Ex.exit 8,[(6,AV.slcT none (Row.M [aW.arr .i64 P m]) 1 m false,none),(8,AV.map 0 1,none),(17,AV.ptr 0 2 0 0,none),(21,AV.int .i64 w,none),(22,AV.nils,none),(23,AV.ptr 0 4 0 0,none),(136,AV.bool false,some 1)],{ lock:=false,bs:=[(0,ak.fmap (KK.str 2) h g c),(0,ak.fmap (KK.str 2) h2 g2 c2),(0,ak.row (Row.I .i64 [x,y])),(0,ak.dead),(0,ak.row (Row.I .i64 [Int.negSucc 0,Int.ofNat 0]))] } :: H)):=by kernel_rfl
theorem MA (n m v k:Nat) (P b:Nat→Int) (h:List Int→Bool) (g:List Int→Int) (c:Nat) (h2:List Int→Bool) (g2:List Int→Int) (c2:Nat) (x y w:Int) (H:aa):aX (bz n 79 156) (il aU n 0) aZ a6 (part Tryz.f79 [1,1,1,1,1,1,1,1,1,1,0,0,0]) (hints (kA m P (.slc 0 5 v 0 1 k none) w)) (dM h g c h2 g2 c2 [eY x y,(0,.dead),eY (-1) 0,(v,.row (.M [.arr .i64 b k]))]::H) =
 Tr.ite (b8 (fa (dm x (Int.negSucc 0)) (dm y (Int.ofNat 0)))) (Tr.req (dF x m) (Tr.req (bA (ar 0 x 1) m) (Tr.req (dU k 1 8) (Tr.req (bX 0 0) (Tr.req (dG 1 1) (Tr.req (bX v v) (Tr.req (bX (af 0 k) k) (Tr.req (fa (dG 0 0) (dG 0 1)) (Tr.ok (Ex.normal,[(6,AV.slcT none (Row.M [aW.arr .i64 P m]) 1 m false,none),(8,AV.map 0 1,none),(17,AV.ptr 0 2 0 0,none),(21,AV.int .i64 w,none),(22,AV.slc 0 5 (Nat.succ v) 0 1 (af k 1) none,none),(23,AV.ptr 0 4 0 0,none)],{ lock:=false,bs:=[(0,ak.fmap (KK.str 2) h g c),(0,ak.fmap (KK.str 2) h2 g2 c2),(0,ak.row (Row.I .i64 [g2 [x,y],cu .i64 y (Int.ofNat 1)])),(0,ak.dead),(0,ak.row (Row.I .i64 [Int.negSucc 0,Int.ofNat 0])),(Nat.succ v,ak.row (Row.M [aW.arr .i64 (bF (g7 b 0) k (an [P (ar 0 x 1)])) (af k 1)])),(0,ak.row (Row.I .i64 [P (ar 0 x 1)]))] } :: H)))))))))) (Tr.ok (Ex.exit 8,[(6,AV.slcT none (Row.M [aW.arr .i64 P m]) 1 m false,none),(8,AV.map 0 1,none),(17,AV.ptr 0 2 0 0,none),(21,AV.int .i64 w,none),(22,AV.slc 0 5 v 0 1 k none,none),(23,AV.ptr 0 4 0 0,none),(136,AV.bool false,some 1)],{ lock:=false,bs:=[(0,ak.fmap (KK.str 2) h g c),(0,ak.fmap (KK.str 2) h2 g2 c2),(0,ak.row (Row.I .i64 [x,y])),(0,ak.dead),(0,ak.row (Row.I .i64 [Int.negSucc 0,Int.ofNat 0])),(v,ak.row (Row.M [aW.arr .i64 b k]))] } :: H)):=by kernel_rfl
theorem KU:∀ b,(8,b) ∈ bo (part Tryz.f79 [1,1,1,1,1,1,1])→b=.loop (part Tryz.f79 [1,1,1,1,1,1,1,1,1,1,0,0,0]):=kX (by kernel_rfl)
noncomputable def sT:List Int→AV
 | []=>.nils
 | _::r=>.slc 0 5 r.length 0 1 (r.length+1) none
noncomputable def bT (x y:Int):List Int→List (Nat×ak)
 | []=>[eY x y,(0,.dead),eY (-1) 0]
 | a::r=>[eY x y,(0,.dead),eY (-1) 0,(r.length,.row (.M [.arr .i64 (an (a::r)) (r.length+1)]))]
def CJ (P:Nat→Int) (b:Int→Nat→Int) (k:Nat) (p:Int) (j:Nat):Int:=P (oL b k p j).toNat
theorem Pa (n m:Nat) (P:Nat→Int) (S:MS) (k:Nat) (p w:Int) (H:aa) (hk:k≤1000) (hm:m≤1000) (htr:∀ j,j<k→0≤oL (fun q i=>S.g2 [q,(i:Int)]) k p j∧oL (fun q i=>S.g2 [q,(i:Int)]) k p j<m) (hend:oL (fun q i=>S.g2 [q,(i:Int)]) k p k=-1) :
 exec (bz n 79 156) (.block 8 (.loop (part Tryz.f79 [1,1,1,1,1,1,1,1,1,1,0,0,0]))) (kA m P .nils w) (dM S.h S.g S.c S.h2 S.g2 S.c2 [eY p (k:Nat),(0,.dead),eY (-1) 0]::H)=some (.normal,kA m P (sT (qI (CJ P (fun q i=>S.g2 [q,(i:Int)]) k p) k)) w++[(136,.bool false)],dM S.h S.g S.c S.h2 S.g2 S.c2 (bT (-1) 0 (qI (CJ P (fun q i=>S.g2 [q,(i:Int)]) k p) k))::H):=by
 refine nD 8 (fun j=>kA m P (sT (qI (CJ P (fun q i=>S.g2 [q,(i:Int)]) k p) j)) w) (fun j=>dM S.h S.g S.c S.h2 S.g2 S.c2 (bT (oL (fun q i=>S.g2 [q,(i:Int)]) k p j) ((k-j:Nat):Int) (qI (CJ P (fun q i=>S.g2 [q,(i:Int)]) k p) j))::H) k (kA m P (sT (qI (CJ P (fun q i=>S.g2 [q,(i:Int)]) k p) k)) w++[(136,.bool false)],dM S.h S.g S.c S.h2 S.g2 S.c2 (bT (-1) 0 (qI (CJ P (fun q i=>S.g2 [q,(i:Int)]) k p) k))::H) (by omega) (fun j hj=>?_) ?_
 · obtain ⟨t1,t2⟩:=htr j hj
   have ht:oL (fun q i=>S.g2 [q,(i:Int)]) k p (j+1)=S.g2 [oL (fun q i=>S.g2 [q,(i:Int)]) k p j,((k-j:Nat):Int)]:=rfl
   have hq:CJ P (fun q i=>S.g2 [q,(i:Int)]) k p j=P (oL (fun q i=>S.g2 [q,(i:Int)]) k p j).toNat:=rfl
   have e1:cu .i64 ((k-j:Nat):Int) (Int.ofNat 1)=((k-(j+1):Nat):Int):=by rw[eh,show Int.ofNat 1=1 from rfl,cK (by omega) (by omega)];omega
   rw[Co,hq,ht]
   have hl:=lK (CJ P (fun q i=>S.g2 [q,(i:Int)]) k p) j
   generalize oL (fun q i=>S.g2 [q,(i:Int)]) k p j=x at *
   have ei:ar 0 x 1=x.toNat:=by rw[bC];omega
   have ex1:dm x (Int.negSucc 0)=false:=by rw[cg];exact beq_eq_false_iff_ne.2 (by show x≠-1;omega)
   cases e:qI (CJ P (fun q i=>S.g2 [q,(i:Int)]) k p) j with
   | nil =>
     refine aG (Mz n m P S.h S.g S.c S.h2 S.g2 S.c2 x ((k-j:Nat):Int) w H) (aO n) (ag _ _) (ah _ _) ?_
     rw[ei,e1,ex1]
     exact wF
   | cons a r =>
     rw[e] at hl
     simp only[List.length_cons] at hl
     have e2:=nm (a::r) (P x.toNat)
     simp only[List.length_cons] at e2
     have e3:af (r.length+1) 1=r.length+1+1:=by rw[aQ]
     have e4:(r++[P x.toNat]).length=r.length+1:=by simp
     refine aG (MA n m r.length (r.length+1) P (an (a::r)) S.h S.g S.c S.h2 S.g2 S.c2 x ((k-j:Nat):Int) w H) (aO n) (ag _ _) (ah _ _) ?_
     rw[ei,e1,ex1,e2,e3]
     repeat' first | (refine Tr.al (fun hc=>?_) (fun hc=>?_)<;>(try simp (disch:=omega) only[nV,nW] at hc)<;>(try (exfalso;omega))) | (refine Tr.bf ?_ ?_;· ((try simp (disch:=omega) only[nV,nW]);try omega)) | (refine Tr.ay ?_ ?_;· first | exact trivial | rfl | exact ⟨rfl,rfl⟩ | exact ⟨trivial,rfl⟩ | exact ⟨rfl,by assumption⟩ | exact ⟨trivial,by assumption⟩ | exact ⟨rfl,rfl,rfl⟩ | (simp (disch:=omega) only[nV,nW];done) | ((try simp (disch:=omega) only[nV,nW]);omega)) | fail
     all_goals first
      | (refine Tr.aw ⟨rfl,?_⟩
         show _=(kA m P (.slc 0 5 (r++[P x.toNat]).length 0 1 ((r++[P x.toNat]).length+1) none) w,dM S.h S.g S.c S.h2 S.g2 S.c2 [_,_,_,((r++[P x.toNat]).length,.row (.M [.arr .i64 (an (a::(r++[P x.toNat]))) ((r++[P x.toNat]).length+1)]))]::H)
         rw[e4];rfl)
      | fail
 · rw [hend,Nat.sub_self]
   cases e:qI (CJ P (fun q i=>S.g2 [q,(i:Int)]) k p) k with
   | nil =>
     obtain ⟨x,h1,rfl⟩:=aG (Q:=fun x=>x=(.exit 8,kA m P .nils w++[(136,.bool false)],dM S.h S.g S.c S.h2 S.g2 S.c2 [eY (-1) 0,(0,.dead),eY (-1) 0]::H)) (Mz n m P S.h S.g S.c S.h2 S.g2 S.c2 (-1) ((0:Nat):Int) w H) (aO n) (ag _ _) (ah _ _) (by
      rw[cg,cg]
      exact Tr.al (fun hc=>by
       have:b8 (fa true true)=true:=hc
       simp (disch:=omega) only[nV,nW] at this) (fun _=>Tr.aw rfl))
     exact h1
   | cons a r =>
     obtain ⟨x,h1,rfl⟩:=aG (Q:=fun x=>x=(.exit 8,kA m P (.slc 0 5 r.length 0 1 (r.length+1) none) w++[(136,.bool false)],dM S.h S.g S.c S.h2 S.g2 S.c2 [eY (-1) 0,(0,.dead),eY (-1) 0,(r.length,.row (.M [.arr .i64 (an (a::r)) (r.length+1)]))]::H)) (MA n m r.length (r.length+1) P (an (a::r)) S.h S.g S.c S.h2 S.g2 S.c2 (-1) ((0:Nat):Int) w H) (aO n) (ag _ _) (ah _ _) (by
      rw[cg,cg]
      exact Tr.al (fun hc=>by
       have:b8 (fa true true)=true:=hc
       simp (disch:=omega) only[nV,nW] at this) (fun _=>Tr.aw rfl))
     exact h1
end Go.Eng
end
section
namespace Go.Eng
open Go.Proofs
noncomputable def yn (v k:Nat) (i j:Int):av:=[(0,.slc 1 5 v 0 1 k none),(2,.int .i64 i),(3,.int .i64 j)]
noncomputable def qv (h:List Int→Bool) (g:List Int→Int) (c:Nat) (h2:List Int→Bool) (g2:List Int→Int) (c2:Nat) (x y:Int) (v k:Nat) (a:Nat→Int):bn:=dM h g c h2 g2 c2 [eY x y,(0,.dead),eY (-1) 0,(v,.row (.M [.arr .i64 a k]))]
theorem t94 (n v k:Nat) (a:Nat→Int) (h:List Int→Bool) (g:List Int→Int) (c:Nat) (h2:List Int→Bool) (g2:List Int→Int) (c2:Nat) (x y i j:Int) (H:aa):aX (bz n 94 28) (il aU n 0) aZ a6 (part Tryz.f94 [1,0,0]) (hints (yn v k i j)) (aB::qv h g c h2 g2 c2 x y v k a::H) =
 Tr.ite (dq i j) (Tr.req (dF j k) (Tr.req (bX v v) (Tr.req (bA (ar 0 j 1) k) (Tr.req (dF i k) (Tr.req (bX v v) (Tr.req (bA (ar 0 i 1) k) (Tr.req (dF i k) (Tr.req (bX v v) (Tr.req (bA (ar 0 i 1) k) (Tr.req (fa (dG v v) (dG v (Nat.succ v))) (Tr.req (dF j k) (Tr.req (bX v v) (Tr.req (bA (ar 0 j 1) k) (Tr.req (fa (dG v v) (dG v (Nat.succ v))) (Tr.ok (Ex.normal,[(0,AV.slc 1 5 v 0 1 k none,none),(2,AV.int .i64 (a8 .i64 i (Int.ofNat 1)),none),(3,AV.int .i64 (cu .i64 j (Int.ofNat 1)),none)],aB::{ lock:=false,bs:=[(0,ak.fmap (KK.str 2) h g c),(0,ak.fmap (KK.str 2) h2 g2 c2),(0,ak.row (Row.I .i64 [x,y])),(0,ak.dead),(0,ak.row (Row.I .i64 [Int.negSucc 0,Int.ofNat 0])),(v,ak.row (Row.M [aW.arr .i64 (bG (bG a (ar 0 i 1) (a (ar 0 j 1))) (ar 0 j 1) (a (ar 0 i 1))) k]))] } :: H)))))))))))))))) (Tr.ok (Ex.exit 0,[(0,AV.slc 1 5 v 0 1 k none,none),(2,AV.int .i64 i,none),(3,AV.int .i64 j,none),(9,AV.bool false,some 1)],aB::{ lock:=false,bs:=[(0,ak.fmap (KK.str 2) h g c),(0,ak.fmap (KK.str 2) h2 g2 c2),(0,ak.row (Row.I .i64 [x,y])),(0,ak.dead),(0,ak.row (Row.I .i64 [Int.negSucc 0,Int.ofNat 0])),(v,ak.row (Row.M [aW.arr .i64 a k]))] } :: H)):=by kernel_rfl
end Go.Eng
end
section
namespace Go.Eng
open Go.Proofs
noncomputable def Q0 (v k:Nat) (a b:Nat→Int) (h:List Int→Bool) (g:List Int→Int) (c:Nat) (h2:List Int→Bool) (g2:List Int→Int) (c2:Nat) (x y:Int) (H:aa) (args:List AV) (G:aa):Tr (AV×aa) :=
 .reqP (args=[.slc 0 5 v 0 1 k none]∧G=qv h g c h2 g2 c2 x y v k a::H) (.ok (.tup [],qv h g c h2 g2 c2 x y v k b::H))
theorem TJ (n v k:Nat) (a b:Nat→Int) (h:List Int→Bool) (g:List Int→Int) (c:Nat) (h2:List Int→Bool) (g2:List Int→Int) (c2:Nat) (x y i j:Int) (H:aa):bw Tryz.prog (cd n) 100000 94 Tryz.f94 (KtB.kt 94) (il aU n 0) (gf aZ 0 (yn v k (Int.ofNat 0) (cu .i64 (Int.ofNat k) (Int.ofNat 1))) (aB::qv h g c h2 g2 c2 x y v k a::H) (.ok (.normal,hints (yn v k i j++[(9,.bool false)]),aB::qv h g c h2 g2 c2 x y v k b::H))) a6 [(.slc 0 5 v 0 1 k none,none)] (qv h g c h2 g2 c2 x y v k a::H) =
 (fun (Z0:bn)=>((fun (Z1:av)=>Tr.reqP (Z1=Z1∧aB::Z0::H=aB::Z0::H) (Tr.ok ((AV.tup [],none),{ lock:=false,bs:=[(0,ak.fmap (KK.str 2) h g c),(0,ak.fmap (KK.str 2) h2 g2 c2),(0,ak.row (Row.I .i64 [x,y])),(0,ak.dead),(0,ak.row (Row.I .i64 [Int.negSucc 0,Int.ofNat 0])),(v,ak.row (Row.M [aW.arr .i64 b k]))] } :: H))) [(0,AV.slc 1 5 v 0 1 k none),(2,AV.int .i64 (Int.ofNat 0)),(3,AV.int .i64 (cu .i64 (Int.ofNat k) (Int.ofNat 1)))])) { lock:=false,bs:=[(0,ak.fmap (KK.str 2) h g c),(0,ak.fmap (KK.str 2) h2 g2 c2),(0,ak.row (Row.I .i64 [x,y])),(0,ak.dead),(0,ak.row (Row.I .i64 [Int.negSucc 0,Int.ofNat 0])),(v,ak.row (Row.M [aW.arr .i64 a k]))] }:=by kernel_rfl
theorem Rc:∀ b,(0,b) ∈ bo (ct Tryz.f94)→b=.loop (part Tryz.f94 [1,0,0]):=kX (by kernel_rfl)
theorem K1 (n:Nat) (H:aa):cd (n+2) (.fn 94) [.nils] H=some (.tup [],H):=by kernel_rfl
noncomputable def xw (k:Nat) (a:Nat→Int):Nat→Nat→Int
 | 0=>a
 | j+1=>bG (bG (xw k a j) j (xw k a j (k-1-j))) (k-1-j) (xw k a j j)
theorem zP (k:Nat) (a:Nat→Int):∀ j,2*j≤k→∀ x,xw k a j x=if x<k∧(x<j∨k≤x+j) then a (k-1-x) else a x
 | 0,_,x=>by
   rw[if_neg (by omega)];rfl
 | j + 1,h,x=>by
   have ih:=zP k a j (by omega)
   show bG (bG (xw k a j) j (xw k a j (k-1-j))) (k-1-j) (xw k a j j) x=_
   rw[jR,jR]
   dsimp only
   by_cases h1:x=k-1-j
   · rw[if_pos h1,ih,if_neg (by omega),if_pos (by omega),h1]
     congr 1;omega
   · rw[if_neg h1]
     by_cases h2:x=j
     · rw[if_pos h2,ih,if_neg (by omega),if_pos (by omega),h2]
     · rw[if_neg h2,ih]
       by_cases h3:x<k∧(x<j∨k≤x+j)
       · rw[if_pos h3,if_pos (by omega)]
       · rw[if_neg h3,if_neg (by omega)]
theorem HT (L:List Int):xw L.length (an L) (L.length / 2)=an L.reverse:=by
 funext x
 rw[zP _ _ _ (by omega),gu,gu]
 dsimp only
 simp only[List.getD_eq_getElem?_getD]
 by_cases hx:x<L.length
 · rw[List.getElem?_reverse hx]
   by_cases h3:x<L.length∧(x<L.length / 2∨L.length≤x+L.length / 2)
   · rw[if_pos h3]
   · rw[if_neg h3,show L.length-1-x=x by omega]
 · rw[if_neg (by omega),List.getElem?_eq_none (by omega),List.getElem?_eq_none (by simp;omega)]
section
variable (n v k:Nat) (a:Nat→Int) (h:List Int→Bool) (g:List Int→Int) (c:Nat) (h2:List Int→Bool) (g2:List Int→Int) (c2:Nat) (x y:Int) (H:aa)
theorem Tf (h1:1≤k) (h3:k≤1000):exec (bz n 94 28) (.block 0 (.loop (part Tryz.f94 [1,0,0]))) (yn v k (Int.ofNat 0) (cu .i64 (Int.ofNat k) (Int.ofNat 1))) (aB::qv h g c h2 g2 c2 x y v k a::H)=some (.normal,yn v k ((k / 2:Nat):Int) ((k-1-k / 2:Nat):Int)++[(9,.bool false)],aB::qv h g c h2 g2 c2 x y v k (xw k a (k / 2))::H):=by
 have e0:cu .i64 (Int.ofNat k) (Int.ofNat 1)=((k-1-0:Nat):Int):=by
  rw[eh,show Int.ofNat 1=1 from rfl,show Int.ofNat k=(k:Int) from rfl,cK (by omega) (by omega)];omega
 rw[e0]
 refine nD 0 (fun j=>yn v k (j:Nat) ((k-1-j:Nat):Int)) (fun j=>aB::qv h g c h2 g2 c2 x y v k (xw k a j)::H) (k / 2) (yn v k ((k / 2:Nat):Int) ((k-1-k / 2:Nat):Int)++[(9,.bool false)],aB::qv h g c h2 g2 c2 x y v k (xw k a (k / 2))::H) (by omega) (fun j hj=>?_) ?_
 · have hst:xw k a (j+1)=bG (bG (xw k a j) j (xw k a j (k-1-j))) (k-1-j) (xw k a j j):=rfl
   rw[hst]
   generalize xw k a j=b
   have e1:a8 .i64 (j:Int) (Int.ofNat 1)=((j+1:Nat):Int):=wx (by omega)
   have e2:cu .i64 ((k-1-j:Nat):Int) (Int.ofNat 1)=((k-1-(j+1):Nat):Int):=by
    rw[eh,show Int.ofNat 1=1 from rfl,cK (by omega) (by omega)];omega
   have e3:ar 0 (j:Int) 1=j:=by rw[bC];omega
   have e4:ar 0 ((k-1-j:Nat):Int) 1=k-1-j:=by rw[bC];omega
   refine aG (t94 n v k b h g c h2 g2 c2 x y (j:Nat) ((k-1-j:Nat):Int) H) (aO n) (ag _ _) (ah _ _) ?_
   rw[e1,e2,e3,e4]
   exact wF
 · generalize xw k a (k / 2)=b
   obtain ⟨q,q1,rfl⟩:=aG (Q:=fun q=>q=(.exit 0,yn v k ((k / 2:Nat):Int) ((k-1-k / 2:Nat):Int)++[(9,.bool false)],aB::qv h g c h2 g2 c2 x y v k b::H)) (t94 n v k b h g c h2 g2 c2 x y ((k / 2:Nat):Int) ((k-1-k / 2:Nat):Int) H) (aO n) (ag _ _) (ah _ _) (by
    refine Tr.al (fun hc=>?_) (fun hc=>Tr.aw rfl)
    simp (disch:=omega) only[nV,nW] at hc;omega)
   exact q1
theorem Ru (h1:1≤k) (h3:k≤1000):cd (n+1) (.fn 94) [.slc 0 5 v 0 1 k none] (qv h g c h2 g2 c2 x y v k a::H)=some (.tup [],qv h g c h2 g2 c2 x y v k (xw k a (k / 2))::H):=by
 have hx:=Tf n v k a h g c h2 g2 c2 x y H h1 h3
 generalize xw k a (k / 2)=b at *
 refine ba (n:=n) Tryz.func94 rfl rfl rfl (TJ n v k a b h g c h2 g2 c2 x y ((k / 2:Nat):Int) ((k-1-k / 2:Nat):Int) H) (aO n) (bL (ag _ _) Rc (fun q h=>by rw[← Tr.ab h];simp only[gY.st,aY];exact hx)) (ah _ _) ?_
 exact wF
end
end Go.Eng
end
