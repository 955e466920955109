/- Bath: the closure of best; the fewest baths. -/
import Derived.Test.YtigmfpmabgekoaaGreatV12Bb3
set_option linter.unusedVariables false
set_option linter.unusedSimpArgs false
set_option maxRecDepth 100000
section
namespace Go.Eng
open Go.Proofs
noncomputable def ka (L:AV) (B A:AV):ay:=[(1,L),(2,.ptr 0 0 0 0),(6,B),(7,A)]
noncomputable def J0 (m:Nat) (g:Nat→Int) (args:List AV) (H:aa):Tr (AV×aa) :=
 match H with
 | ⟨false,bs⟩::r=>.reqP (args=[bD m g false]) (.ok (.slc 0 (iH bs) 0 0 1 m none,⟨false,bs++[(0,.row (.M [.arr .i64 g m]))]⟩::r))
 | _=>.bad
noncomputable def hB (y:Nat→Int) (i:Int):Int:=y (ah (ah (au 0 i 7) 5) 1)
noncomputable def mf (l:Nat) (y:Nat→Int):bm:=⟨false,[eQ l y]⟩
noncomputable def uY (l k k2 v2:Nat) (y b a:Nat→Int):bm:=⟨false,[eQ l y,(k2,.row (.M [.arr .i64 a k])),(v2,.row (.M [.arr .i64 b k]))]⟩
noncomputable def Mc (l m:Nat) (y g:Nat→Int) (i:Int):bm:=je (eQ l y) (0,.row (.I .i64 [hB y i])) (0,.row (.I .i64 [hB y i])) (0,.row (.M [.arr .i64 (aB [hB y i]) 1])) (0,.row (.I .i64 [i])) (0,.row (.M [.arr .i64 (aB [i]) 1])) m g
noncomputable def Me (l m k k2 v2:Nat) (y b a g:Nat→Int) (i:Int):bm:=jf (eQ l y) (k2+1,.row (.M [.arr .i64 (iE (fE a 0) k (aB [i])) (ah k 1)])) (v2,.row (.M [.arr .i64 b k])) (0,.row (.I .i64 [hB y i])) (0,.row (.I .i64 [hB y i])) (0,.row (.M [.arr .i64 (iE (fE b 0) (dB (Int.ofNat k)) (aB [hB y i])) (ah (dB (Int.ofNat k)) 1)])) (0,.row (.I .i64 [i])) m g
noncomputable def LK (c:List Nat) (K m p:Nat) (g:Nat→Int) (i:Int) (L0 L1 L2:bm) (H:aa):me :=
 I6 (I6 (fS aR 68 (J0 m g)) 85 [bD m g false,.fn (.func 86) [] [.ptr 0 0 0 0]] (L0::H) (.ok (.int .i64 i,L0::H))) 67 [.slc 0 K 0 0 1 m none,.fn (.func 87) [] (c.map fun x=>.ptr 0 x 0 0)] (L1::H) (.ok (.slc 0 K 0 0 1 p none,L2::H))
theorem NY (n l:Nat) (y:Nat→Int) (b:Int) (b2 b3 b4 b5:Nat×ak) (m:Nat) (g:Nat→Int) (H:aa) (x:Int):bu Tryz.prog (cd (n+1)) 100000 87 Tryz.f87 (KtB.kt 87) (il aR n 1) aW aX [(.int .i64 x,none),(.ptr 1 0 0 0,none),(.ptr 1 1 0 0,none)] (aC::je (eQ l y) (0,.row (.I .i64 [b])) b2 b3 b4 b5 m g::H) =
 (fun (Z0:bm)=>Tr.req (dR x l) (Tr.req (bx (au 0 x 7) (aq l 7)) (Tr.req (bx (ah (au 0 x 7) 1) (aq l 7)) (Tr.req (bx (ah (au 0 x 7) 2) (aq l 7)) (Tr.req (bx (ah (au 0 x 7) 3) (aq l 7)) (Tr.req (bx (ah (au 0 x 7) 4) (aq l 7)) (Tr.req (bx (ah (au 0 x 7) 5) (aq l 7)) (Tr.req (bx (ah (au 0 x 7) 6) (aq l 7)) (Tr.ite (nM (y (ah (au 0 x 7) 5)) b) (Tr.ok ((AV.bool (nM b (y (ah (au 0 x 7) 6))),none),aC::Z0::H)) (Tr.ok ((AV.bool false,some 1),aC::Z0::H))))))))))) { lock:=false,bs:=[(0,ak.row (Row.G [AV.ptrT (some 1) (Row.G [aG 7 l y]) 0])),(0,ak.row (Row.I .i64 [b])),b2,b3,b4,b5,(0,ak.row (Row.M [aL.arr .i64 g m]))] }:=by kernel_rfl
theorem NZ (n l:Nat) (y:Nat→Int) (b:Int) (b2 b3 b4 b5:Nat×ak) (m:Nat) (g:Nat→Int) (H:aa) (x:Int):bu Tryz.prog (cd (n+1)) 100000 87 Tryz.f87 (KtB.kt 87) (il aR n 1) aW aX [(.int .i64 x,none),(.ptr 2 0 0 0,none),(.ptr 2 1 0 0,none)] (aC::aC::je (eQ l y) (0,.row (.I .i64 [b])) b2 b3 b4 b5 m g::H) =
 (fun (Z0:bm)=>Tr.req (dR x l) (Tr.req (bx (au 0 x 7) (aq l 7)) (Tr.req (bx (ah (au 0 x 7) 1) (aq l 7)) (Tr.req (bx (ah (au 0 x 7) 2) (aq l 7)) (Tr.req (bx (ah (au 0 x 7) 3) (aq l 7)) (Tr.req (bx (ah (au 0 x 7) 4) (aq l 7)) (Tr.req (bx (ah (au 0 x 7) 5) (aq l 7)) (Tr.req (bx (ah (au 0 x 7) 6) (aq l 7)) (Tr.ite (nM (y (ah (au 0 x 7) 5)) b) (Tr.ok ((AV.bool (nM b (y (ah (au 0 x 7) 6))),none),aC::aC::Z0::H)) (Tr.ok ((AV.bool false,some 1),aC::aC::Z0::H))))))))))) { lock:=false,bs:=[(0,ak.row (Row.G [AV.ptrT (some 1) (Row.G [aG 7 l y]) 0])),(0,ak.row (Row.I .i64 [b])),b2,b3,b4,b5,(0,ak.row (Row.M [aL.arr .i64 g m]))] }:=by kernel_rfl
theorem N0 (n l:Nat) (y:Nat→Int) (b:Int) (b1 b2 b4 b5 b6:Nat×ak) (m:Nat) (g:Nat→Int) (H:aa) (x:Int):bu Tryz.prog (cd (n+1)) 100000 87 Tryz.f87 (KtB.kt 87) (il aR n 1) aW aX [(.int .i64 x,none),(.ptr 1 0 0 0,none),(.ptr 1 3 0 0,none)] (aC::jf (eQ l y) b1 b2 (0,.row (.I .i64 [b])) b4 b5 b6 m g::H) =
 (fun (Z0:bm)=>Tr.req (dR x l) (Tr.req (bx (au 0 x 7) (aq l 7)) (Tr.req (bx (ah (au 0 x 7) 1) (aq l 7)) (Tr.req (bx (ah (au 0 x 7) 2) (aq l 7)) (Tr.req (bx (ah (au 0 x 7) 3) (aq l 7)) (Tr.req (bx (ah (au 0 x 7) 4) (aq l 7)) (Tr.req (bx (ah (au 0 x 7) 5) (aq l 7)) (Tr.req (bx (ah (au 0 x 7) 6) (aq l 7)) (Tr.ite (nM (y (ah (au 0 x 7) 5)) b) (Tr.ok ((AV.bool (nM b (y (ah (au 0 x 7) 6))),none),aC::Z0::H)) (Tr.ok ((AV.bool false,some 1),aC::Z0::H))))))))))) { lock:=false,bs:=[(0,ak.row (Row.G [AV.ptrT (some 1) (Row.G [aG 7 l y]) 0])),b1,b2,(0,ak.row (Row.I .i64 [b])),b4,b5,b6,(0,ak.row (Row.M [aL.arr .i64 g m]))] }:=by kernel_rfl
theorem N1 (n l:Nat) (y:Nat→Int) (b:Int) (b1 b2 b4 b5 b6:Nat×ak) (m:Nat) (g:Nat→Int) (H:aa) (x:Int):bu Tryz.prog (cd (n+1)) 100000 87 Tryz.f87 (KtB.kt 87) (il aR n 1) aW aX [(.int .i64 x,none),(.ptr 2 0 0 0,none),(.ptr 2 3 0 0,none)] (aC::aC::jf (eQ l y) b1 b2 (0,.row (.I .i64 [b])) b4 b5 b6 m g::H) =
 (fun (Z0:bm)=>Tr.req (dR x l) (Tr.req (bx (au 0 x 7) (aq l 7)) (Tr.req (bx (ah (au 0 x 7) 1) (aq l 7)) (Tr.req (bx (ah (au 0 x 7) 2) (aq l 7)) (Tr.req (bx (ah (au 0 x 7) 3) (aq l 7)) (Tr.req (bx (ah (au 0 x 7) 4) (aq l 7)) (Tr.req (bx (ah (au 0 x 7) 5) (aq l 7)) (Tr.req (bx (ah (au 0 x 7) 6) (aq l 7)) (Tr.ite (nM (y (ah (au 0 x 7) 5)) b) (Tr.ok ((AV.bool (nM b (y (ah (au 0 x 7) 6))),none),aC::aC::Z0::H)) (Tr.ok ((AV.bool false,some 1),aC::aC::Z0::H))))))))))) { lock:=false,bs:=[(0,ak.row (Row.G [AV.ptrT (some 1) (Row.G [aG 7 l y]) 0])),b1,b2,(0,ak.row (Row.I .i64 [b])),b4,b5,b6,(0,ak.row (Row.M [aL.arr .i64 g m]))] }:=by kernel_rfl
theorem QN (n:Nat) (l m p:Nat) (y g g2:Nat→Int) (H:aa) (i:Int):aN (bp n 63 44) (il (LK [0,1] 6 m p g i (mf l y) (Mc l m y g i) (Mc l m y g2 i) H) n 0) aW aX (part Tryz.f63 [1,1,1,0,0,0]) (hints (ka (bD m g false) .nils .nils)) (mf l y::H) =
 (fun (Z0:bm)=>((fun (Z1:List AV)=>Tr.ite (df (Int.ofNat 0) (Int.ofNat m)) (Tr.reqP (Z1=Z1∧mf l y::H=mf l y::H) (Tr.req (dR i l) (Tr.req (bx (ah (ah (au 0 i 7) 5) 1) (aq l 7)) (Tr.req (jk (Int.ofNat 0) 0) (Tr.req (jk (Int.ofNat 0) (dB (Int.ofNat 0))) (Tr.req (dJ 0 1 8) (Tr.req (cM 0 0) (Tr.req (fA 1 1) (Tr.req (dJ 0 1 8) (Tr.req (cM 0 0) (Tr.req (fA 1 1) (Tr.reqP ([AV.slcT none (Row.M [aL.arr .i64 g m]) 1 m false]=[AV.slcT none (Row.M [aL.arr .i64 g m]) 1 m false]) (Tr.reqP ([AV.slc 0 6 0 0 1 m none,AV.fn (Fn.func 87) [] [AV.ptr 0 0 0 0,AV.ptr 0 1 0 0]]=[AV.slc 0 6 0 0 1 m none,AV.fn (Fn.func 87) [] [AV.ptr 0 0 0 0,AV.ptr 0 1 0 0]]∧Z0::H=Z0::H) (Tr.req (cM 0 0) (Tr.req (la 0 p 0 m) (Tr.ok (Ex.normal,[(1,AV.slcT none (Row.M [aL.arr .i64 (fE g2 0) p]) 1 p false,none),(2,AV.ptr 0 0 0 0,none),(6,AV.slc 0 3 0 0 1 1 none,none),(7,AV.slc 0 5 0 0 1 1 none,none)],{ lock:=false,bs:=[(0,ak.row (Row.G [AV.ptrT (some 1) (Row.G [aG 7 l y]) 0])),(0,ak.row (Row.I .i64 [y (ah (ah (au 0 i 7) 5) 1)])),(0,ak.row (Row.I .i64 [y (ah (ah (au 0 i 7) 5) 1)])),(0,ak.row (Row.M [aL.arr .i64 (aB [y (ah (ah (au 0 i 7) 5) 1)]) 1])),(0,ak.row (Row.I .i64 [i])),(0,ak.row (Row.M [aL.arr .i64 (aB [i]) 1])),(0,ak.dead)] } :: H))))))))))))))))) (Tr.ok (Ex.exit 0,[(1,AV.slcT none (Row.M [aL.arr .i64 g m]) 1 m false,none),(2,AV.ptr 0 0 0 0,none),(6,AV.nils,none),(7,AV.nils,none),(12,AV.bool false,some 1)],mf l y::H))) [AV.slcT none (Row.M [aL.arr .i64 g m]) 1 m false,AV.fn (Fn.func 86) [] [AV.ptr 0 0 0 0]])) { lock:=false,bs:=[(0,ak.row (Row.G [AV.ptrT (some 1) (Row.G [aG 7 l y]) 0])),(0,ak.row (Row.I .i64 [y (ah (ah (au 0 i 7) 5) 1)])),(0,ak.row (Row.I .i64 [y (ah (ah (au 0 i 7) 5) 1)])),(0,ak.row (Row.M [aL.arr .i64 (aB [y (ah (ah (au 0 i 7) 5) 1)]) 1])),(0,ak.row (Row.I .i64 [i])),(0,ak.row (Row.M [aL.arr .i64 (aB [i]) 1])),(0,ak.row (Row.M [aL.arr .i64 g m]))] }:=by kernel_rfl
theorem QO (n:Nat) (l m p k k2 v2:Nat) (y b a g g2:Nat→Int) (H:aa) (i:Int):aN (bp n 63 44) (il (LK [0,3] 7 m p g i (uY l k k2 v2 y b a) (Me l m k k2 v2 y b a g i) (Me l m k k2 v2 y b a g2 i) H) n 0) aW aX (part Tryz.f63 [1,1,1,0,0,0]) (hints (ka (bD m g false) (.slc 0 2 v2 0 1 k none) (.slc 0 1 k2 0 1 k none))) (uY l k k2 v2 y b a::H) =
 (fun (Z0:bm)=>((fun (Z1:bm)=>((fun (Z2:bm)=>((fun (Z3:List AV)=>((fun (Z4:List AV)=>((fun (Z5:List AV)=>Tr.ite (df (Int.ofNat 0) (Int.ofNat m)) (Tr.reqP (Z5=Z5∧Z2::H=Z2::H) (Tr.req (dR i l) (Tr.req (bx (ah (ah (au 0 i 7) 5) 1) (aq l 7)) (Tr.req (jk (Int.ofNat k) k) (Tr.req (jk (Int.ofNat k) (dB (Int.ofNat k))) (Tr.req (dJ (dB (Int.ofNat k)) 1 8) (Tr.req (cM 0 0) (Tr.req (fA 1 1) (Tr.ite (bx (dB (Int.ofNat k)) (ah (dB (Int.ofNat k)) 1)) (Tr.req (cM v2 v2) (Tr.req (fA (dB (Int.ofNat k)) (dB (Int.ofNat k))) (Tr.req (la 0 (dB (Int.ofNat k)) 0 k) (Tr.req (dJ k 1 8) (Tr.req (cM 0 0) (Tr.req (fA 1 1) (Tr.req (cM k2 k2) (Tr.req (cM (ah 0 k) k) (Tr.reqP (Z4=Z4) (Tr.reqP (Z3=Z3∧Z0::H=Z0::H) (Tr.req (cM 0 0) (Tr.req (la 0 p 0 m) (Tr.ok (Ex.normal,[(1,AV.slcT none (Row.M [aL.arr .i64 (fE g2 0) p]) 1 p false,none),(2,AV.ptr 0 0 0 0,none),(6,AV.slc 0 5 0 0 1 (ah (dB (Int.ofNat k)) 1) none,none),(7,AV.slc 0 1 (Nat.succ k2) 0 1 (ah k 1) none,none)],Z1::H)))))))))))))) (Tr.req (cM v2 v2) (Tr.req (bx (ah 0 (dB (Int.ofNat k))) k) (Tr.req (gJ (fA v2 v2) (fA v2 (Nat.succ v2))) (Tr.req (dJ k 1 8) (Tr.req (cM 0 0) (Tr.req (fA 1 1) (Tr.req (cM k2 k2) (Tr.req (cM (ah 0 k) k) (Tr.reqP (Z4=Z4) (Tr.reqP (Z3=Z3∧{ lock:=false,bs:=[(0,ak.row (Row.G [AV.ptrT (some 1) (Row.G [aG 7 l y]) 0])),(Nat.succ k2,ak.row (Row.M [aL.arr .i64 (iE (fE a 0) k (aB [i])) (ah k 1)])),(v2,ak.row (Row.M [aL.arr .i64 (iw b (ah 0 (dB (Int.ofNat k))) (y (ah (ah (au 0 i 7) 5) 1))) k])),(0,ak.row (Row.I .i64 [y (ah (ah (au 0 i 7) 5) 1)])),(0,ak.row (Row.I .i64 [y (ah (ah (au 0 i 7) 5) 1)])),(0,ak.dead),(0,ak.row (Row.I .i64 [i])),(0,ak.row (Row.M [aL.arr .i64 g m]))] } :: H=Z0::H) (Tr.req (cM 0 0) (Tr.req (la 0 p 0 m) (Tr.ok (Ex.normal,[(1,AV.slcT none (Row.M [aL.arr .i64 (fE g2 0) p]) 1 p false,none),(2,AV.ptr 0 0 0 0,none),(6,AV.slc 0 2 v2 0 1 (ah (dB (Int.ofNat k)) 1) (some (dB (Int.ofNat k))),none),(7,AV.slc 0 1 (Nat.succ k2) 0 1 (ah k 1) none,none)],Z1::H))))))))))))))))))))))) (Tr.ok (Ex.exit 0,[(1,AV.slcT none (Row.M [aL.arr .i64 g m]) 1 m false,none),(2,AV.ptr 0 0 0 0,none),(6,AV.slc 0 2 v2 0 1 k none,none),(7,AV.slc 0 1 k2 0 1 k none,none),(12,AV.bool false,some 1)],Z2::H))) [AV.slcT none (Row.M [aL.arr .i64 g m]) 1 m false,AV.fn (Fn.func 86) [] [AV.ptr 0 0 0 0]])) [AV.slcT none (Row.M [aL.arr .i64 g m]) 1 m false])) [AV.slc 0 7 0 0 1 m none,AV.fn (Fn.func 87) [] [AV.ptr 0 0 0 0,AV.ptr 0 3 0 0]])) { lock:=false,bs:=[(0,ak.row (Row.G [AV.ptrT (some 1) (Row.G [aG 7 l y]) 0])),(k2,ak.row (Row.M [aL.arr .i64 a k])),(v2,ak.row (Row.M [aL.arr .i64 b k]))] })) { lock:=false,bs:=[(0,ak.row (Row.G [AV.ptrT (some 1) (Row.G [aG 7 l y]) 0])),(Nat.succ k2,ak.row (Row.M [aL.arr .i64 (iE (fE a 0) k (aB [i])) (ah k 1)])),(v2,ak.row (Row.M [aL.arr .i64 b k])),(0,ak.row (Row.I .i64 [y (ah (ah (au 0 i 7) 5) 1)])),(0,ak.row (Row.I .i64 [y (ah (ah (au 0 i 7) 5) 1)])),(0,ak.row (Row.M [aL.arr .i64 (iE (fE b 0) (dB (Int.ofNat k)) (aB [y (ah (ah (au 0 i 7) 5) 1)])) (ah (dB (Int.ofNat k)) 1)])),(0,ak.row (Row.I .i64 [i])),(0,ak.dead)] })) { lock:=false,bs:=[(0,ak.row (Row.G [AV.ptrT (some 1) (Row.G [aG 7 l y]) 0])),(Nat.succ k2,ak.row (Row.M [aL.arr .i64 (iE (fE a 0) k (aB [i])) (ah k 1)])),(v2,ak.row (Row.M [aL.arr .i64 b k])),(0,ak.row (Row.I .i64 [y (ah (ah (au 0 i 7) 5) 1)])),(0,ak.row (Row.I .i64 [y (ah (ah (au 0 i 7) 5) 1)])),(0,ak.row (Row.M [aL.arr .i64 (iE (fE b 0) (dB (Int.ofNat k)) (aB [y (ah (ah (au 0 i 7) 5) 1)])) (ah (dB (Int.ofNat k)) 1)])),(0,ak.row (Row.I .i64 [i])),(0,ak.row (Row.M [aL.arr .i64 g m]))] }:=by kernel_rfl
theorem Ra (n:Nat) (l m p k k2 v2:Nat) (y b a g g2:Nat→Int) (H:aa):bu Tryz.prog (cd n) 100000 63 Tryz.f63 (KtB.kt 63) (il aR n 0) (eP aW 0 (ka (bD m g false) .nils .nils) (mf l y::H) (.ok (.normal,hints (ka (bD p g2 false) (.slc 0 2 v2 0 1 k none) (.slc 0 1 k2 0 1 k none)++[(12,.bool false)]),uY l k k2 v2 y b a::H))) aX [(.ptrT (some 0) (.G [aG 7 l y]) 0,none),(bD m g false,none)] H =
 (fun (Z0:ay)=>Tr.reqP (Z0=Z0∧mf l y::H=mf l y::H) (Tr.req (cM v2 v2) (Tr.req (la 0 k 0 k) (Tr.req (cM k2 k2) (Tr.req (la 0 k 0 k) (Tr.ok ((AV.tup [AV.slcT none (Row.M [aL.arr .i64 (fE b 0) k]) 1 k false,AV.slcT none (Row.M [aL.arr .i64 (fE a 0) k]) 1 k false],none),H))))))) [(1,AV.slcT none (Row.M [aL.arr .i64 g m]) 1 m false),(2,AV.ptr 0 0 0 0),(6,AV.nils),(7,AV.nils)]:=by kernel_rfl
theorem BY {k m:Nat} {g:Nat→Int} {t:me} (h1:1≤m) (h2:m≤1000) (ht:t.Ok (cd (k+1))):(fS t 68 (J0 m g)).Ok (cd (k+1)):=by
 refine ji ht (fun args H x hx=>?_)
 unfold J0 at hx
 split at hx
 · obtain ⟨e,hx⟩:=Tr.cY hx
   rw[e,Sf k _ m g false _ h1 h2,← Tr.ab hx,db]
 · exact (Tr.ae hx).elim
def xG (l:Nat) (z:Nat→Int) (x:Int):Prop:=0≤x∧x<l∧cq z x.toNat≤bE z x.toNat
def pB (z:Nat→Int) (b x:Int):Bool:=wX z b x.toNat
theorem Je {l:Nat} {z:Nat→Int} {i:Int} (hl:l≤14) (h:xG l z i):hB (oY z l) i=bE z i.toNat:=by
 unfold hB;rw[aU,aU];exact CA l z i hl ⟨h.1,h.2.1⟩
theorem CB {l:Nat} {z:Nat→Int} {i:Int} (hl:l≤14) (h:0≤i∧i<l):oY z l (au 0 i 7+5)=cq z i.toNat:=by
 rw[bB,show 0+i.toNat*7+5=i.toNat*7+5 by omega]
 exact nU z (by omega) (by omega)
theorem Cz {l:Nat} {z:Nat→Int} {i:Int} (hl:l≤14) (h:0≤i∧i<l):oY z l (au 0 i 7+6)=bE z i.toNat:=CA l z i hl h
section
variable (n l:Nat) (z:Nat→Int) (b:Int) (m:Nat) (g:Nat→Int) (H:aa) (x:Int) (hl:l≤14) (hx:0≤x∧x<l)
include hl hx
theorem Lz (b2 b3 b4 b5:Nat×ak):cd (n+2) (.fn 87) [.int .i64 x,.ptr 1 0 0 0,.ptr 1 1 0 0] (aC::je (eQ l (oY z l)) (0,.row (.I .i64 [b])) b2 b3 b4 b5 m g::H)=some (.bool (pB z b x),aC::je (eQ l (oY z l)) (0,.row (.I .i64 [b])) b2 b3 b4 b5 m g::H):=by
 have o1:=CB (z:=z) hl hx
 have o2:=Cz (z:=z) hl hx
 have hd:pB z b x=(decide (cq z x.toNat≤b) && decide (b≤bE z x.toNat)):=rfl
 refine ba (n:=n+1) Tryz.func87 rfl rfl rfl (NY n l (oY z l) b b2 b3 b4 b5 m g H x) (dO n 1) (af _ _) (ag _ _) ?_
 simp only[aU]
 rw[o1,o2,hd,iG b]
 clear hd o1 o2
 generalize cq z x.toNat=lo at *
 generalize bE z x.toNat=hi at *
 have e7:au 0 x 7=x.toNat*7:=by rw[bB];omega
 rw[e7]
 by_cases h:lo≤b
 · rw[decide_eq_true h]
   exact wF
 · rw[decide_eq_false h]
   exact wF
theorem LA (b2 b3 b4 b5:Nat×ak):cd (n+2) (.fn 87) [.int .i64 x,.ptr 2 0 0 0,.ptr 2 1 0 0] (aC::aC::je (eQ l (oY z l)) (0,.row (.I .i64 [b])) b2 b3 b4 b5 m g::H)=some (.bool (pB z b x),aC::aC::je (eQ l (oY z l)) (0,.row (.I .i64 [b])) b2 b3 b4 b5 m g::H):=by
 have o1:=CB (z:=z) hl hx
 have o2:=Cz (z:=z) hl hx
 have hd:pB z b x=(decide (cq z x.toNat≤b) && decide (b≤bE z x.toNat)):=rfl
 refine ba (n:=n+1) Tryz.func87 rfl rfl rfl (NZ n l (oY z l) b b2 b3 b4 b5 m g H x) (dO n 1) (af _ _) (ag _ _) ?_
 simp only[aU]
 rw[o1,o2,hd,iG b]
 clear hd o1 o2
 generalize cq z x.toNat=lo at *
 generalize bE z x.toNat=hi at *
 have e7:au 0 x 7=x.toNat*7:=by rw[bB];omega
 rw[e7]
 by_cases h:lo≤b
 · rw[decide_eq_true h]
   exact wF
 · rw[decide_eq_false h]
   exact wF
theorem LB (b1 b2 b4 b5 b6:Nat×ak):cd (n+2) (.fn 87) [.int .i64 x,.ptr 1 0 0 0,.ptr 1 3 0 0] (aC::jf (eQ l (oY z l)) b1 b2 (0,.row (.I .i64 [b])) b4 b5 b6 m g::H)=some (.bool (pB z b x),aC::jf (eQ l (oY z l)) b1 b2 (0,.row (.I .i64 [b])) b4 b5 b6 m g::H):=by
 have o1:=CB (z:=z) hl hx
 have o2:=Cz (z:=z) hl hx
 have hd:pB z b x=(decide (cq z x.toNat≤b) && decide (b≤bE z x.toNat)):=rfl
 refine ba (n:=n+1) Tryz.func87 rfl rfl rfl (N0 n l (oY z l) b b1 b2 b4 b5 b6 m g H x) (dO n 1) (af _ _) (ag _ _) ?_
 simp only[aU]
 rw[o1,o2,hd,iG b]
 clear hd o1 o2
 generalize cq z x.toNat=lo at *
 generalize bE z x.toNat=hi at *
 have e7:au 0 x 7=x.toNat*7:=by rw[bB];omega
 rw[e7]
 by_cases h:lo≤b
 · rw[decide_eq_true h]
   exact wF
 · rw[decide_eq_false h]
   exact wF
theorem LC (b1 b2 b4 b5 b6:Nat×ak):cd (n+2) (.fn 87) [.int .i64 x,.ptr 2 0 0 0,.ptr 2 3 0 0] (aC::aC::jf (eQ l (oY z l)) b1 b2 (0,.row (.I .i64 [b])) b4 b5 b6 m g::H)=some (.bool (pB z b x),aC::aC::jf (eQ l (oY z l)) b1 b2 (0,.row (.I .i64 [b])) b4 b5 b6 m g::H):=by
 have o1:=CB (z:=z) hl hx
 have o2:=Cz (z:=z) hl hx
 have hd:pB z b x=(decide (cq z x.toNat≤b) && decide (b≤bE z x.toNat)):=rfl
 refine ba (n:=n+1) Tryz.func87 rfl rfl rfl (N1 n l (oY z l) b b1 b2 b4 b5 b6 m g H x) (dO n 1) (af _ _) (ag _ _) ?_
 simp only[aU]
 rw[o1,o2,hd,iG b]
 clear hd o1 o2
 generalize cq z x.toNat=lo at *
 generalize bE z x.toNat=hi at *
 have e7:au 0 x 7=x.toNat*7:=by rw[bB];omega
 rw[e7]
 by_cases h:lo≤b
 · rw[decide_eq_true h]
   exact wF
 · rw[decide_eq_false h]
   exact wF
end
end Go.Eng
end
section
namespace Go.Eng
open Go.Proofs
theorem cD (tab:me) (n:Nat) (ht:tab.Ok (cd n)):(il tab n 0).Ok (cd n) :=
 ⟨we _,fun tgt args H x h=>by
   unfold il DO at h
   split at h
   · split at h
     · rename_i c hc
       exact ht _ _ hc _ _ _ h
     · exact (Tr.ae h).elim
   · exact (Tr.ae h).elim⟩
section
variable (n l:Nat) (z:Nat→Int) (b:Int) (m:Nat) (g:Nat→Int) (H:aa) (hl:l≤14) (hm:m≤1000) (hg:∀ j,j<m→0≤g j∧g j<l)
include hl hm hg
theorem J2 (b2 b3 b4 b5:Nat×ak):∃ g',cd (n+4) (.fn 67) [.slc 0 6 0 0 1 m none,.fn (.func 87) [] [.ptr 0 0 0 0,.ptr 0 1 0 0]] (je (eQ l (oY z l)) (0,.row (.I .i64 [b])) b2 b3 b4 b5 m g::H)=some (.slc 0 6 0 0 1 (cu (pB z b) g m).length none,je (eQ l (oY z l)) (0,.row (.I .i64 [b])) b2 b3 b4 b5 m g'::H)∧∀ x,x<(cu (pB z b) g m).length→g' x=(cu (pB z b) g m).getD x 0:=by
 refine OC (n+2) (pB z b) (fun x C H'=>(0≤x∧x<l)∧((C=[.ptr 1 0 0 0,.ptr 1 1 0 0]∧∃ g,H'=aC::je (eQ l (oY z l)) (0,.row (.I .i64 [b])) b2 b3 b4 b5 m g::H)∨(C=[.ptr 2 0 0 0,.ptr 2 1 0 0]∧∃ g,H'=aC::aC::je (eQ l (oY z l)) (0,.row (.I .i64 [b])) b2 b3 b4 b5 m g::H))) _ _ _ _ _ _ m g H ?_ hm (fun j g' hj=>⟨hg j hj,.inl ⟨rfl,g',rfl⟩⟩) (fun j hj=>⟨hg j hj,.inr ⟨rfl,g,rfl⟩⟩)
 rintro k x C H' ⟨hx,h⟩
 rw[show n+2+k=n+k+2 by omega]
 rcases h with ⟨rfl,g,rfl⟩ | ⟨rfl,g,rfl⟩
 · exact Lz (n+k) l z b m g H x hl hx b2 b3 b4 b5
 · exact LA (n+k) l z b m g H x hl hx b2 b3 b4 b5
theorem J3 (b1 b2 b4 b5 b6:Nat×ak):∃ g',cd (n+4) (.fn 67) [.slc 0 7 0 0 1 m none,.fn (.func 87) [] [.ptr 0 0 0 0,.ptr 0 3 0 0]] (jf (eQ l (oY z l)) b1 b2 (0,.row (.I .i64 [b])) b4 b5 b6 m g::H)=some (.slc 0 7 0 0 1 (cu (pB z b) g m).length none,jf (eQ l (oY z l)) b1 b2 (0,.row (.I .i64 [b])) b4 b5 b6 m g'::H)∧∀ x,x<(cu (pB z b) g m).length→g' x=(cu (pB z b) g m).getD x 0:=by
 refine OD (n+2) (pB z b) (fun x C H'=>(0≤x∧x<l)∧((C=[.ptr 1 0 0 0,.ptr 1 3 0 0]∧∃ g,H'=aC::jf (eQ l (oY z l)) b1 b2 (0,.row (.I .i64 [b])) b4 b5 b6 m g::H)∨(C=[.ptr 2 0 0 0,.ptr 2 3 0 0]∧∃ g,H'=aC::aC::jf (eQ l (oY z l)) b1 b2 (0,.row (.I .i64 [b])) b4 b5 b6 m g::H))) _ _ _ _ _ _ _ m g H ?_ hm (fun j g' hj=>⟨hg j hj,.inl ⟨rfl,g',rfl⟩⟩) (fun j hj=>⟨hg j hj,.inr ⟨rfl,g,rfl⟩⟩)
 rintro k x C H' ⟨hx,h⟩
 rw[show n+2+k=n+k+2 by omega]
 rcases h with ⟨rfl,g,rfl⟩ | ⟨rfl,g,rfl⟩
 · exact LB (n+k) l z b m g H x hl hx b1 b2 b4 b5 b6
 · exact LC (n+k) l z b m g H x hl hx b1 b2 b4 b5 b6
end
section
variable (n l:Nat) (z:Nat→Int) (m:Nat) (g:Nat→Int) (H:aa) (hl:l≤14) (hm:m+1≤1000) (hg:∀ j,j<m+1→xG l z (g j))
include hg in
theorem Jk:xG l z (dG z g m):=by
 obtain ⟨j,h1,h2⟩:=xy z g m
 rw[h2];exact hg j (by omega)
include hl hm hg in
theorem Qt:∃ g',(∃ x,exec (bp (n+4) 63 44) (part Tryz.f63 [1,1,1,0,0,0]) (ka (bD (m+1) g false) .nils .nils) (mf l (oY z l)::H)=some x∧x.1=.normal∧tidy 1 x.2.1 x.2.2=(ka (bD (cu (pB z (bE z (dG z g m).toNat)) g (m+1)).length g' false) (.slc 0 2 0 0 1 1 none) (.slc 0 1 0 0 1 1 none),uY l 1 0 0 (oY z l) (aB [bE z (dG z g m).toNat]) (aB [dG z g m])::H))∧∀ x,x<(cu (pB z (bE z (dG z g m).toNat)) g (m+1)).length→g' x=(cu (pB z (bE z (dG z g m).toNat)) g (m+1)).getD x 0:=by
 have hi:=Jk l z m g hg
 have hb:=Je hl hi
 have g1:∀ j,j<m+1→0≤g j∧g j<l:=fun j hj=>⟨(hg j hj).1,(hg j hj).2.1⟩
 obtain ⟨g2,h1,h2⟩:=J2 n l z (hB (oY z l) (dG z g m)) (m+1) g H hl hm g1 (0,.row (.I .i64 [hB (oY z l) (dG z g m)])) (0,.row (.M [.arr .i64 (aB [hB (oY z l) (dG z g m)]) 1])) (0,.row (.I .i64 [dG z g m])) (0,.row (.M [.arr .i64 (aB [dG z g m]) 1]))
 refine ⟨fE g2 0,?_,fun x hx=>by rw[c9,h2 x (by rw[hb];exact hx),hb]⟩
 have h85:=RJ (n+2) l z g m [] H hl (by omega) g1
 have hlen:=qG (pB z (hB (oY z l) (dG z g m))) g (m+1)
 obtain ⟨hi1,hi2,_⟩:=hi
 rw[← hb]
 generalize (cu (pB z (hB (oY z l) (dG z g m))) g (m+1)).length=p at *
 generalize dG z g m=i at *
 have e7:au 0 i 7=i.toNat*7:=by rw[bB];omega
 refine aD (QN (n+4) l (m+1) p (oY z l) g g2 H i) (cD _ (n+4) (mC (mC (BY (k:=n+3) (by omega) hm (aO _)) (fun x hx=>by rw[← Tr.ab hx];exact h85)) (fun x hx=>by rw[← Tr.ab hx];exact h1))) (af _ _) (ag _ _) ?_
 rw[show oY z l (ah (ah (au 0 i 7) 5) 1)=hB (oY z l) i from rfl]
 clear hb h1 h2 h85
 generalize hB (oY z l) i=b at *
 rw[e7]
 repeat' first | (refine Tr.al (fun hc=>?_) (fun hc=>?_)<;>(try simp (disch:=omega) only[nV,nW] at hc)<;>try omega) | (refine Tr.a8 ?_ ?_;· (try simp (disch:=omega) only[nV,nW]);try omega) | (refine Tr.aw ?_ ?_;· first | exact trivial | rfl | exact ⟨rfl,rfl⟩ | exact ⟨rfl,rfl,rfl⟩ | (simp (disch:=omega) only[nV,nW];done) | ((try simp (disch:=omega) only[nV,nW]);omega)) | fail
 all_goals exact Tr.av ⟨rfl,by kernel_rfl⟩
include hl hm hg in
theorem Qu (q:Nat) (hq:q≤1000) (B A:List Int) (hB:B.length=q+1) (hA:A.length=q+1):∃ g',(∃ x,exec (bp (n+4) 63 44) (part Tryz.f63 [1,1,1,0,0,0]) (ka (bD (m+1) g false) (.slc 0 2 0 0 1 (q+1) none) (.slc 0 1 q 0 1 (q+1) none)) (uY l (q+1) q 0 (oY z l) (aB B) (aB A)::H)=some x∧x.1=.normal∧tidy 1 x.2.1 x.2.2=(ka (bD (cu (pB z (bE z (dG z g m).toNat)) g (m+1)).length g' false) (.slc 0 2 0 0 1 (q+2) none) (.slc 0 1 (q+1) 0 1 (q+2) none),uY l (q+2) (q+1) 0 (oY z l) (aB (B++[bE z (dG z g m).toNat])) (aB (A++[dG z g m]))::H))∧∀ x,x<(cu (pB z (bE z (dG z g m).toNat)) g (m+1)).length→g' x=(cu (pB z (bE z (dG z g m).toNat)) g (m+1)).getD x 0:=by
 have hi:=Jk l z m g hg
 have hb:=Je hl hi
 have g1:∀ j,j<m+1→0≤g j∧g j<l:=fun j hj=>⟨(hg j hj).1,(hg j hj).2.1⟩
 obtain ⟨g2,h1,h2⟩:=J3 n l z (Go.Eng.hB (oY z l) (dG z g m)) (m+1) g H hl hm g1 (q+1,.row (.M [.arr .i64 (iE (fE (aB A) 0) (q+1) (aB [dG z g m])) (ah (q+1) 1)])) (0,.row (.M [.arr .i64 (aB B) (q+1)])) (0,.row (.I .i64 [Go.Eng.hB (oY z l) (dG z g m)])) (0,.row (.M [.arr .i64 (iE (fE (aB B) 0) (dB (Int.ofNat (q+1))) (aB [Go.Eng.hB (oY z l) (dG z g m)])) (ah (dB (Int.ofNat (q+1))) 1)])) (0,.row (.I .i64 [dG z g m]))
 refine ⟨fE g2 0,?_,fun x hx=>by rw[c9,h2 x (by rw[hb];exact hx),hb]⟩
 have h85:=RJ (n+2) l z g m [(q,.row (.M [.arr .i64 (aB A) (q+1)])),(0,.row (.M [.arr .i64 (aB B) (q+1)]))] H hl (by omega) g1
 have hlen:=qG (pB z (Go.Eng.hB (oY z l) (dG z g m))) g (m+1)
 obtain ⟨hi1,hi2,_⟩:=hi
 rw[← hb]
 generalize (cu (pB z (Go.Eng.hB (oY z l) (dG z g m))) g (m+1)).length=p at *
 generalize dG z g m=i at *
 have e7:au 0 i 7=i.toNat*7:=by rw[bB];omega
 have e8:dB (Int.ofNat (q+1))=q+1:=fR _
 have e9:ah (q+1) 1=q+2:=by rw[aU]
 have a1:=ny A i
 have a2:=ny B (Go.Eng.hB (oY z l) i)
 rw[hA] at a1
 rw[hB] at a2
 refine aD (QO (n+4) l (m+1) p (q+1) q 0 (oY z l) (aB B) (aB A) g g2 H i) (cD _ (n+4) (mC (mC (BY (k:=n+3) (by omega) hm (aO _)) (fun x hx=>by rw[← Tr.ab hx];exact h85)) (fun x hx=>by rw[← Tr.ab hx];exact h1))) (af _ _) (ag _ _) ?_
 rw[show oY z l (ah (ah (au 0 i 7) 5) 1)=Go.Eng.hB (oY z l) i from rfl]
 clear hb h1 h2 h85
 rw[e8,e9,a1,a2]
 generalize Go.Eng.hB (oY z l) i=b at *
 rw[e7]
 repeat' first | (refine Tr.al (fun hc=>?_) (fun hc=>?_)<;>(try simp (disch:=omega) only[nV,nW] at hc)<;>try omega) | (refine Tr.a8 ?_ ?_;· (try simp (disch:=omega) only[nV,nW]);try omega) | (refine Tr.aw ?_ ?_;· first | exact trivial | rfl | exact ⟨rfl,rfl⟩ | exact ⟨rfl,rfl,rfl⟩ | (simp (disch:=omega) only[nV,nW];done) | ((try simp (disch:=omega) only[nV,nW]);omega)) | fail
 all_goals exact Tr.av ⟨rfl,by kernel_rfl⟩
end
noncomputable def pc (z:Nat→Int):Nat→List Int→List (Int×Int)
 | 0,_=>[]
 | _+1,[]=>[]
 | k+1,a::r=>(bE z (dG z (aB (a::r)) r.length).toNat,dG z (aB (a::r)) r.length)::pc z k (cu (pB z (bE z (dG z (aB (a::r)) r.length).toNat)) (aB (a::r)) (r.length+1))
theorem FC (P:Int→Bool) (g h:Nat→Int) (m:Nat) (e:∀ j,j<m→g j=h j):cu P g m=cu P h m:=by
 induction m with
 | zero=>rfl
 | succ m ih =>
   show (if P (g m)=true then cu P g m else cu P g m++[g m])=(if P (h m)=true then cu P h m else cu P h m++[h m])
   rw[ih (fun j hj=>e j (by omega)),e m (by omega)]
theorem FH (z g h:Nat→Int) (m:Nat) (e:∀ j,j<m+1→g j=h j):dG z g m=dG z h m:=by
 induction m with
 | zero=>exact e 0 (by omega)
 | succ m ih =>
   have h1:=ih (fun j hj=>e j (by omega))
   have h2:=e (m+1) (by omega)
   show (if bE z (g (m+1)).toNat<bE z (dG z g m).toNat then g (m+1) else dG z g m)=(if bE z (h (m+1)).toNat<bE z (dG z h m).toNat then h (m+1) else dG z h m)
   rw[h1,h2]
theorem FD (P:Int→Bool) (g:Nat→Int) (m:Nat):∀ x,x ∈ cu P g m↔∃ j,j<m∧g j=x∧P x=false:=by
 induction m with
 | zero=>intro x;simp[cu]
 | succ m ih =>
   intro x
   show x ∈ (if P (g m)=true then cu P g m else cu P g m++[g m])↔_
   constructor
   · intro hx
     split at hx
     · obtain ⟨j,h1,h2⟩:=(ih x).1 hx
       exact ⟨j,by omega,h2⟩
     · rename_i hp
       rcases List.mem_append.1 hx with h | h
       · obtain ⟨j,h1,h2⟩:=(ih x).1 h
         exact ⟨j,by omega,h2⟩
       · rw[List.mem_singleton] at h;subst h
         exact ⟨m,by omega,rfl,by simpa using hp⟩
   · rintro ⟨j,h1,rfl,h3⟩
     by_cases e:j<m
     · have:=(ih (g j)).2 ⟨j,e,rfl,h3⟩
       split
       · exact this
       · exact List.mem_append_left _ this
     · have:j=m:=by omega
       subst this
       rw[if_neg (by rw[h3];decide)]
       simp
theorem Ji (P:Int→Bool) (g:Nat→Int) (m j:Nat) (hj:j<m) (h:P (g j)=true):(cu P g m).length<m:=by
 induction m with
 | zero=>omega
 | succ m ih =>
   show (if P (g m)=true then cu P g m else cu P g m++[g m]).length<m+1
   have:=qG P g m
   by_cases e:j<m
   · have:=ih e
     split
     · omega
     · rw[List.length_append];simp only[List.length_cons,List.length_nil];omega
   · have:j=m:=by omega
     subst this
     rw[if_pos h];omega
theorem nz (L:List Int) (j:Nat) (h:j<L.length):aB L j ∈ L:=by
 rw[fI]
 simp[List.getD_eq_getElem?_getD,h]
end Go.Eng
end
section
namespace Go.Eng
open Go.Proofs
theorem QP (n:Nat) (l m:Nat) (y g:Nat→Int) (H:aa):aN (bp n 63 44) (il aR n 0) aW aX (part Tryz.f63 [1,1,1,0,0,0]) (hints (ka (bD m g false) .nils .nils)) (mf l y::H) =
 Tr.ite (df (Int.ofNat 0) (Int.ofNat m)) Tr.bad (Tr.ok (Ex.exit 0,[(1,AV.slcT none (Row.M [aL.arr .i64 g m]) 1 m false,none),(2,AV.ptr 0 0 0 0,none),(6,AV.nils,none),(7,AV.nils,none),(12,AV.bool false,some 1)],mf l y::H)):=by kernel_rfl
theorem QQ (n:Nat) (l m k k2 v2:Nat) (y b a g:Nat→Int) (H:aa):aN (bp n 63 44) (il aR n 0) aW aX (part Tryz.f63 [1,1,1,0,0,0]) (hints (ka (bD m g false) (.slc 0 2 v2 0 1 k none) (.slc 0 1 k2 0 1 k none))) (uY l k k2 v2 y b a::H) =
 Tr.ite (df (Int.ofNat 0) (Int.ofNat m)) Tr.bad (Tr.ok (Ex.exit 0,[(1,AV.slcT none (Row.M [aL.arr .i64 g m]) 1 m false,none),(2,AV.ptr 0 0 0 0,none),(6,AV.slc 0 2 v2 0 1 k none,none),(7,AV.slc 0 1 k2 0 1 k none,none),(12,AV.bool false,some 1)],{ lock:=false,bs:=[(0,ak.row (Row.G [AV.ptrT (some 1) (Row.G [aG 7 l y]) 0])),(k2,ak.row (Row.M [aL.arr .i64 a k])),(v2,ak.row (Row.M [aL.arr .i64 b k]))] } :: H)):=by kernel_rfl
theorem Rb (n:Nat) (l m p:Nat) (y g g2:Nat→Int) (H:aa):bu Tryz.prog (cd n) 100000 63 Tryz.f63 (KtB.kt 63) (il aR n 0) (eP aW 0 (ka (bD m g false) .nils .nils) (mf l y::H) (.ok (.normal,hints (ka (bD p g2 false) .nils .nils++[(12,.bool false)]),mf l y::H))) aX [(.ptrT (some 0) (.G [aG 7 l y]) 0,none),(bD m g false,none)] H =
 (fun (Z0:ay)=>Tr.reqP (Z0=Z0∧mf l y::H=mf l y::H) (Tr.ok ((AV.tup [AV.nils,AV.nils],none),H))) [(1,AV.slcT none (Row.M [aL.arr .i64 g m]) 1 m false),(2,AV.ptr 0 0 0 0),(6,AV.nils),(7,AV.nils)]:=by kernel_rfl
noncomputable def Gp:List (Int×Int)→AV
 | []=>.nils
 | _::r=>.slc 0 2 0 0 1 (r.length+1) none
noncomputable def Gn:List (Int×Int)→AV
 | []=>.nils
 | _::r=>.slc 0 1 r.length 0 1 (r.length+1) none
noncomputable def Bo (l:Nat) (y:Nat→Int):List (Int×Int)→bm
 | []=>mf l y
 | a::r=>uY l (r.length+1) r.length 0 y (aB ((a::r).map (·.1))) (aB ((a::r).map (·.2)))
theorem RA:∀ b,(0,b) ∈ bc (bZ Tryz.f63)→b=.loop (part Tryz.f63 [1,1,1,0,0,0]):=jj (by kernel_rfl)
section
variable (n l:Nat) (z:Nat→Int) (H:aa) (hl:l≤14)
include hl
theorem TZ (L:List Int) (g:Nat→Int) (hL:L.length≤1000) (hg:∀ j,j<L.length→g j=aB L j) (he:∀ x ∈ L,xG l z x) :
 ∃ y,exec (bp (n+4) 63 44) (.block 0 (.loop (part Tryz.f63 [1,1,1,0,0,0]))) (ka (bD L.length g false) .nils .nils) (mf l (oY z l)::H)=some (.normal,y)∧∃ g',y=(ka (bD 0 g' false) (Gp (pc z L.length L)) (Gn (pc z L.length L))++[(12,.bool false)],Bo l (oY z l) (pc z L.length L)::H):=by
 refine Ml 0 (fun j fr Hx=>∃ (S:List (Int×Int)) (L':List Int) (g':Nat→Int),S.length=j∧j≤L.length∧S++pc z (L.length-j) L'=pc z L.length L∧L'.length≤L.length-j∧(∀ j,j<L'.length→g' j=aB L' j)∧(∀ x ∈ L',xG l z x)∧fr=ka (bD L'.length g' false) (Gp S) (Gn S)∧Hx=Bo l (oY z l) S::H)
  (fun y=>∃ g',y=(ka (bD 0 g' false) (Gp (pc z L.length L)) (Gn (pc z L.length L))++[(12,.bool false)],Bo l (oY z l) (pc z L.length L)::H)) L.length (by omega) ⟨[],L,g,rfl,by omega,rfl,Nat.le_refl _,hg,he,rfl,rfl⟩ ?_
 rintro j fr Hx ⟨S,L',g',h1,h2,h3,h4,h5,h6,rfl,rfl⟩
 cases L' with
 | nil =>
   have e3:pc z L.length L=S:=by
    rw[← h3]
    cases e:L.length-j with
    | zero=>simp[pc]
    | succ k=>simp[pc]
   rw[e3]
   cases S with
   | nil =>
     obtain ⟨x,y1,rfl⟩:=aD (Q:=fun x=>x=(.exit 0,ka (bD 0 g' false) .nils .nils++[(12,.bool false)],mf l (oY z l)::H)) (QP (n+4) l 0 (oY z l) g' H) (aI _) (af _ _) (ag _ _) (by
      exact wF)
     exact ⟨_,y1,.inr ⟨rfl,g',rfl⟩⟩
   | cons a r =>
     obtain ⟨x,y1,rfl⟩:=aD (Q:=fun x=>x=(.exit 0,ka (bD 0 g' false) (.slc 0 2 0 0 1 (r.length+1) none) (.slc 0 1 r.length 0 1 (r.length+1) none)++[(12,.bool false)],uY l (r.length+1) r.length 0 (oY z l) (aB ((a::r).map (·.1))) (aB ((a::r).map (·.2)))::H)) (QQ (n+4) l 0 (r.length+1) r.length 0 (oY z l) (aB ((a::r).map (·.1))) (aB ((a::r).map (·.2))) g' H) (aI _) (af _ _) (ag _ _) (by
      exact wF)
     exact ⟨_,y1,.inr ⟨rfl,g',rfl⟩⟩
 | cons a0 r0 =>
   simp only[List.length_cons] at h4 h5
   have hgo:∀ j,j<r0.length+1→xG l z (g' j):=fun j hj=>by
    rw[h5 j hj];exact h6 _ (nz (a0::r0) j (by simpa using hj))
   have els:=FH z g' (aB (a0::r0)) r0.length h5
   obtain ⟨i0,hi1,hi2⟩:=xy z (aB (a0::r0)) r0.length
   have hP:pB z (bE z (dG z (aB (a0::r0)) r0.length).toNat) (aB (a0::r0) i0)=true:=by
    have:=hgo i0 (by omega)
    rw[h5 i0 (by omega)] at this
    unfold pB wX
    rw[hi2]
    simp only[Bool.and_eq_true,decide_eq_true_eq]
    exact ⟨this.2.2,Int.le_refl _⟩
   have hlt:=Ji _ (aB (a0::r0)) (r0.length+1) i0 (by omega) hP
   have ekp:=FC (pB z (bE z (dG z (aB (a0::r0)) r0.length).toNat)) g' (aB (a0::r0)) (r0.length+1) h5
   have hmm:=FD (pB z (bE z (dG z (aB (a0::r0)) r0.length).toNat)) (aB (a0::r0)) (r0.length+1)
   have eS:S++[(bE z (dG z (aB (a0::r0)) r0.length).toNat,dG z (aB (a0::r0)) r0.length)]++pc z (L.length-(j+1)) (cu (pB z (bE z (dG z (aB (a0::r0)) r0.length).toNat)) (aB (a0::r0)) (r0.length+1))=pc z L.length L:=by
    rw[← h3,List.append_assoc]
    congr 1
    rw[show L.length-j=(L.length-(j+1))+1 by omega]
    rfl
   have hok:∀ x ∈ cu (pB z (bE z (dG z (aB (a0::r0)) r0.length).toNat)) (aB (a0::r0)) (r0.length+1),xG l z x:=fun x hx=>by
    obtain ⟨i,y1,y2,_⟩:=(hmm x).1 hx
    rw[← y2,← h5 i y1];exact hgo i y1
   have R:∃ g2 x,exec (bp (n+4) 63 44) (part Tryz.f63 [1,1,1,0,0,0]) (ka (bD (r0.length+1) g' false) (Gp S) (Gn S)) (Bo l (oY z l) S::H)=some x∧x.1=.normal∧tidy 1 x.2.1 x.2.2=(ka (bD (cu (pB z (bE z (dG z g' r0.length).toNat)) g' (r0.length+1)).length g2 false) (Gp (S++[(bE z (dG z g' r0.length).toNat,dG z g' r0.length)])) (Gn (S++[(bE z (dG z g' r0.length).toNat,dG z g' r0.length)])),Bo l (oY z l) (S++[(bE z (dG z g' r0.length).toNat,dG z g' r0.length)])::H)∧∀ x,x<(cu (pB z (bE z (dG z g' r0.length).toNat)) g' (r0.length+1)).length→g2 x=(cu (pB z (bE z (dG z g' r0.length).toNat)) g' (r0.length+1)).getD x 0:=by
    cases S with
    | nil =>
      obtain ⟨g2,⟨x,y1,y2,y3⟩,y4⟩:=Qt n l z r0.length g' H hl (by omega) hgo
      exact ⟨g2,x,y1,y2,y3,y4⟩
    | cons a r =>
      simp only[List.length_cons] at h1
      obtain ⟨g2,⟨x,y1,y2,y3⟩,y4⟩:=Qu n l z r0.length g' H hl (by omega) hgo r.length (by omega) ((a::r).map (·.1)) ((a::r).map (·.2)) (by simp) (by simp)
      refine ⟨g2,x,y1,y2,y3.trans ?_,y4⟩
      show _=(ka _ (.slc 0 2 0 0 1 ((r++[_]).length+1) none) (.slc 0 1 (r++[_]).length 0 1 ((r++[_]).length+1) none),uY l ((r++[_]).length+1) (r++[_]).length 0 (oY z l) (aB ((a::(r++[_])).map (·.1))) (aB ((a::(r++[_])).map (·.2)))::H)
      simp only[List.length_append,List.length_cons,List.length_nil,List.map_cons,List.map_append,List.cons_append,List.map_nil]
   obtain ⟨g2,x,y1,y2,y3,y4⟩:=R
   rw[els,ekp] at y3 y4
   refine ⟨x,y1,.inl ⟨y2,by omega,_,_,g2,?_,by omega,eS,by omega,fun j hj=>by rw[y4 j hj];exact (congrFun (fI _) j).symm,hok,?_,?_⟩⟩
   · rw[List.length_append,h1];rfl
   · have:ao (Bo l (oY z l) []::H)=1:=rfl
     rw[this,y3]
   · have:ao (Bo l (oY z l) []::H)=1:=rfl
     rw[this,y3]
theorem Se (L:List Int) (g:Nat→Int) (hL:L.length≤1000) (hg:∀ j,j<L.length→g j=aB L j) (he:∀ x ∈ L,xG l z x) :
 cd (n+5) (.fn 63) [vu l z,bD L.length g false] H=some (.tup [dA ((pc z L.length L).map (·.1)),dA ((pc z L.length L).map (·.2))],H):=by
 obtain ⟨y,h1,g',rfl⟩:=TZ n l z H hl L g hL hg he
 cases e:pc z L.length L with
 | nil =>
   rw[e] at h1
   refine ba (n:=n+4) Tryz.func63 rfl rfl rfl (Rb (n+4) l L.length 0 (oY z l) g g' H) (aI _) (bz (af _ _) RA (fun x h=>by rw[← Tr.ab h];simp only[gi.st,aP];exact h1)) (ag _ _) ?_
   exact wF
 | cons a r =>
   rw[e] at h1
   refine ba (n:=n+4) Tryz.func63 rfl rfl rfl (Ra (n+4) l L.length 0 (r.length+1) r.length 0 (oY z l) (aB ((a::r).map (·.1))) (aB ((a::r).map (·.2))) g g' H) (aI _) (bz (af _ _) RA (fun x h=>by rw[← Tr.ab h];simp only[gi.st,aP];exact h1)) (ag _ _) ?_
   rw[c9,c9]
   repeat' first | (refine Tr.al (fun hc=>?_) (fun hc=>?_)<;>(try simp (disch:=omega) only[nV,nW] at hc)<;>try omega) | (refine Tr.a8 ?_ ?_;· (try simp (disch:=omega) only[nV,nW]);try omega) | (refine Tr.aw ?_ ?_;· first | exact trivial | rfl | exact ⟨rfl,rfl⟩ | exact ⟨rfl,rfl,rfl⟩ | (simp (disch:=omega) only[nV,nW];done) | ((try simp (disch:=omega) only[nV,nW]);omega)) | fail
   all_goals first
    | (refine Tr.av ⟨?_,rfl⟩
       show _=AV.tup [.slcT none (.M [.arr .i64 (aB ((a::r).map (·.1))) ((r.map (·.1)).length+1)]) 1 ((r.map (·.1)).length+1) false,.slcT none (.M [.arr .i64 (aB ((a::r).map (·.2))) ((r.map (·.2)).length+1)]) 1 ((r.map (·.2)).length+1) false]
       rw[List.length_map,List.length_map])
    | fail
end
end Go.Eng
end
section
namespace Go.Eng
open Go.Proofs
def I8 (z y:Nat→Int) (k i:Nat):Bool:=iA (fun j=>wX z (y j) i) k
section
variable (n l k:Nat) (z y:Nat→Int) (H:aa) (i:Nat)
end
end Go.Eng
end
section
namespace Go.Eng
open Go.Proofs
noncomputable def LO (z:Nat→Int) (B:List Int) (i:Nat):Bool:=I8 z (aB B) B.length i
theorem qJ (L:List Int) (j:Nat):aB L j=L.getD j 0:=congrFun (fI L) j
theorem Hj (z:Nat→Int) (B:List Int) (i:Nat):LO z B i=true↔∃ b,b ∈ B∧wX z b i=true:=by
 unfold LO I8
 rw[eI]
 constructor
 · rintro ⟨j,h1,h2⟩;exact ⟨_,nz B j h1,h2⟩
 · rintro ⟨b,h1,h2⟩
   obtain ⟨j,hj,rfl⟩:=List.getElem_of_mem h1
   refine ⟨j,hj,?_⟩
   rw[qJ,List.getD_eq_getElem?_getD,List.getElem?_eq_getElem hj]
   exact h2
noncomputable def vf (z:Nat→Int) (B:List Int) (i:Nat):Int:=if LO z B i=true then 0 else 1
theorem ET {m p:Nat→Int} {j:Nat} (h:∀ i,i<j→(m i=1↔p i=1)):dl m j=dl p j:=by
 induction j with
 | zero=>rfl
 | succ j ih =>
   show (if m j=1 then dl m j++[(j:Int)] else dl m j)=(if p j=1 then dl p j++[(j:Int)] else dl p j)
   rw[ih (fun i hi=>h i (by omega))]
   have:=h j (by omega)
   by_cases e:m j=1
   · rw[if_pos e,if_pos (this.1 e)]
   · rw[if_neg e,if_neg (fun x=>e (this.2 x))]
theorem qm (m:Nat→Int) (j:Nat) (x:Int):x ∈ dl m j↔∃ i:Nat,x=i∧i<j∧m i=1:=by
 induction j with
 | zero=>simp[dl]
 | succ j ih =>
   show x ∈ (if m j=1 then dl m j++[(j:Int)] else dl m j)↔_
   constructor
   · intro h
     split at h
     · rename_i e
       rcases List.mem_append.1 h with h | h
       · obtain ⟨i,h1,h2,h3⟩:=ih.1 h
         exact ⟨i,h1,by omega,h3⟩
       · rw[List.mem_singleton] at h;exact ⟨j,h,by omega,e⟩
     · obtain ⟨i,h1,h2,h3⟩:=ih.1 h
       exact ⟨i,h1,by omega,h3⟩
   · rintro ⟨i,h1,h2,h3⟩
     by_cases e:i<j
     · have:=ih.2 ⟨i,h1,e,h3⟩
       split
       · exact List.mem_append_left _ this
       · exact this
     · have:i=j:=by omega
       subst this
       rw[if_pos h3,h1];simp
end Go.Eng
end
section
namespace Go.Eng
open Go.Proofs
section
variable (n l k:Nat) (z y:Nat→Int) (H:aa)
end
theorem wW {m:Nat→Int} {j:Nat} (h:∀ i,i<j→m i=1):(dl m j).length=j:=by
 induction j with
 | zero=>rfl
 | succ j ih =>
   show (if m j=1 then dl m j++[(j:Int)] else dl m j).length=_
   rw[if_pos (h j (by omega)),List.length_append,ih (fun i hi=>h i (by omega))];rfl
theorem tR (z:Nat→Int) (i:Nat):LO z [] i=false:=by
 cases h:LO z [] i with
 | false=>rfl
 | true=>obtain ⟨b,h1,_⟩:=(Hj z [] i).1 h;cases h1
noncomputable def tu (z:Nat→Int) (L:List Int):List (Int×Int):=pc z L.length L
section
variable (n l:Nat) (z:Nat→Int) (H:aa)
end
end Go.Eng
end
section
namespace Go.Eng
open Go.Proofs
noncomputable def DH (m p:Nat) (z y:Nat→Int) (a b:Bool) (j:Int):ay:=[(0,bD m z a),(1,bD p y b),(5,.int .i64 j)]
noncomputable def OR (l m k:Nat) (y g b a:Nat→Int):List AV→Option (Prop×AV):=fun x=>some (x=[.ptrT (some 0) (.G [aG 7 l y]) 0,bD m g false],.tup [bD k b false,bD k a false])
theorem Q0 (n l:Nat) (z:Nat→Int) (H:aa) (e:Int):bu Tryz.prog (cd n) 100000 23 Tryz.f23 (KtB.kt 23) (il (iz aR 62 (gO (aG 5 l z) (.tup [.nilp,.int .i64 e]))) n 0) aW aX [(aG 5 l z,none)] H =
 Tr.reqP (aG 5 l z=aG 5 l z) (Tr.ite (bG (dD e (Int.ofNat 0))) (Tr.ok ((AV.tup [AV.nils,AV.int .i64 e],none),H)) Tr.bad):=by kernel_rfl
theorem Um (n l m k:Nat) (z y g b a:Nat→Int) (H:aa):bu Tryz.prog (cd n) 100000 23 Tryz.f23 (KtB.kt 23) (il (iz (iz (iz aR 62 (gO (aG 5 l z) (.tup [.ptrT (some 0) (.G [aG 7 l y]) 0,.int .i64 0]))) 64 (gO (.ptrT (some 0) (.G [aG 7 l y]) 0) (bD m g false))) 63 (OR l m k y g b a)) n 0) aW aX [(aG 5 l z,none)] H =
 (fun (Z0:List AV)=>Tr.reqP (aG 5 l z=aG 5 l z) (Tr.ite (bG (dD (Int.ofNat 0) (Int.ofNat 0))) (Tr.ok ((AV.tup [AV.nils,AV.int .i64 (Int.ofNat 0)],none),H)) (Tr.reqP (AV.ptrT (some 0) (Row.G [aG 7 l y]) 0=AV.ptrT (some 0) (Row.G [aG 7 l y]) 0) (Tr.reqP (Z0=Z0) (Tr.req (Kz (Int.ofNat k) (Int.ofNat k) 8) (Tr.req (fA (xB k (dB (Int.ofNat k))) k) (Tr.req (fA (ah 0 (xB k (dB (Int.ofNat k)))) k) (Tr.req (cM 0 0) (Tr.req (la 0 (xB k (dB (Int.ofNat k))) 0 (dB (Int.ofNat k))) (Tr.req (cM 0 0) (Tr.req (la 0 (dB (Int.ofNat k)) 0 (dB (Int.ofNat k))) (Tr.ok ((AV.tup [AV.slcT none (Row.M [aL.arr .i64 (fE (fK (fun x=>Int.ofNat 0) 0 b (xB k (dB (Int.ofNat k)))) 0) (dB (Int.ofNat k))]) 1 (dB (Int.ofNat k)) (cM (dB (Int.ofNat k)) (dB (Int.ofNat k))),AV.int .i64 (Int.ofNat 0)],none),H))))))))))))) [AV.ptrT (some 0) (Row.G [aG 7 l y]) 0,AV.slcT none (Row.M [aL.arr .i64 g m]) 1 m false]:=by kernel_rfl
theorem t31 (n:Nat) (H:aa) (m p:Nat) (z y:Nat→Int) (a b:Bool) (j:Int):aN (bp n 31 26) (il aR n 0) aW aX (part Tryz.f31 [1,1,0,1,0,0]) (hints (DH m p z y a b j)) (aC::H) =
 Tr.ite (df j (Int.ofNat m)) (Tr.req (dR j m) (Tr.req (bx (au 0 j 1) m) (Tr.req (dR j p) (Tr.req (bx (au 0 j 1) p) (Tr.ite (bG (dD (z (au 0 j 1)) (y (au 0 j 1)))) (Tr.ok (Ex.ret,[(4,AV.bool false,some 1)],aC::H)) (Tr.ok (Ex.normal,[(0,AV.slcT none (Row.M [aL.arr .i64 z m]) 1 m a,none),(1,AV.slcT none (Row.M [aL.arr .i64 y p]) 1 p b,none),(5,AV.int .i64 (aK .i64 j (Int.ofNat 1)),none)],aC::H))))))) (Tr.ok (Ex.exit 0,[(0,AV.slcT none (Row.M [aL.arr .i64 z m]) 1 m a,none),(1,AV.slcT none (Row.M [aL.arr .i64 y p]) 1 p b,none),(5,AV.int .i64 j,none),(14,AV.bool false,some 1)],aC::H)):=by kernel_rfl
theorem Un (n:Nat) (H:aa) (m p:Nat) (z y:Nat→Int) (a b:Bool):bu Tryz.prog (cd n) 100000 31 Tryz.f31 (KtB.kt 31) (il aR n 0) (eP aW 0 (DH m p z y a b 0) (aC::H) (.ok (.normal,hints (DH m p z y a b (Int.ofNat m)++[(14,.bool false)]),aC::H))) aX [(bD m z a,none),(bD p y b,none)] H =
 (fun (Z0:ay)=>Tr.ite (bG (dD (Int.ofNat m) (Int.ofNat p))) (Tr.ok ((AV.bool false,some 1),H)) (Tr.reqP (Z0=Z0∧aC::H=aC::H) (Tr.ok ((AV.bool true,some 1),H)))) [(0,AV.slcT none (Row.M [aL.arr .i64 z m]) 1 m a),(1,AV.slcT none (Row.M [aL.arr .i64 y p]) 1 p b),(5,AV.int .i64 (Int.ofNat 0))]:=by kernel_rfl
theorem Q1 (n:Nat) (H:aa):bu Tryz.prog (cd n) 100000 31 Tryz.f31 (KtB.kt 31) (il aR n 0) aW aX [(.nils,none),(.nils,none)] H =
 Tr.ok ((AV.bool true,some 1),H):=by kernel_rfl
theorem RU:∀ b,(0,b) ∈ bc (bZ Tryz.f31)→b=.loop (part Tryz.f31 [1,1,0,1,0,0]):=jj (by kernel_rfl)
def GS (z:Nat→Int) (j:Nat):Bool:=decide (bE z j<cq z j)
section
variable (n l:Nat) (z:Nat→Int) (H:aa)
theorem xF:iA (GS z) l=false↔∀ i,i<l→cq z i≤bE z i:=by
 constructor
 · intro h i hi
   apply Int.not_lt.1
   intro hc
   have:iA (GS z) l=true:=(eI _ _).2 ⟨i,hi,by unfold GS;rw[decide_eq_true hc]⟩
   rw[h] at this;cases this
 · intro h
   cases hx:iA (GS z) l with
   | false=>rfl
   | true =>
     obtain ⟨i,h1,h2⟩:=(eI _ _).1 hx
     unfold GS at h2
     have:=h i h1
     rw[decide_eq_true_eq] at h2
     omega
theorem LM {m:Nat→Int} {j i:Nat} (hi:i<j) (h:m i≠1):(dl m j).length<j:=by
 induction j with
 | zero=>omega
 | succ j ih =>
   show (if m j=1 then dl m j++[(j:Int)] else dl m j).length < _
   have:=s7 m j
   by_cases e:i<j
   · have:=ih e
     split
     · rw[List.length_append];simp only[List.length_cons,List.length_nil];omega
     · omega
   · have:i=j:=by omega
     subst this
     rw[if_neg h];omega
theorem GK:cg l z=if bh l z≠0 then bh l z else if iA (GS z) l=true then 22 else 0:=by
 unfold cg
 by_cases h:bh l z≠0
 · rw[if_pos h,if_pos h]
 · rw[if_neg h,if_neg h]
   by_cases h2:iA (GS z) l=true
   · rw[if_pos h2]
     obtain ⟨i,h3,h4⟩:=(eI _ _).1 h2
     unfold GS at h4
     rw[decide_eq_true_eq] at h4
     rw[if_pos (LM h3 (by unfold gK;rw[if_neg (by omega)];decide))]
   · have h3:=(xF l z).1 (by simpa using h2)
     rw[if_neg h2,if_neg]
     rw[wW (fun i hi=>by unfold gK;rw[if_pos (h3 i hi)])]
     omega
theorem jG (h:cg l z=0):bh l z=0∧∀ i,i<l→cq z i≤bE z i:=by
 rw[GK] at h
 by_cases h1:bh l z≠0
 · rw[if_pos h1] at h;exact absurd h h1
 · rw[if_neg h1] at h
   refine ⟨by simpa using h1,(xF l z).1 ?_⟩
   cases h2:iA (GS z) l with
   | false=>rfl
   | true=>rw[h2,if_pos rfl] at h;cases h
theorem Jq (h:cg l z=0):dl (gK z) l=dl (vf z []) l:=by
 obtain ⟨_,h2⟩:=jG l z h
 refine ET (fun i hi=>?_)
 unfold gK vf
 rw[if_pos (h2 i hi),tR];simp
noncomputable def dM (l:Nat) (z:Nat→Int):List Int:=(tu z (dl (vf z []) l)).map (·.1)
noncomputable def Ca (l:Nat) (z:Nat→Int):List Int:=(tu z (dl (vf z []) l)).map (·.2)
end
end Go.Eng
end
