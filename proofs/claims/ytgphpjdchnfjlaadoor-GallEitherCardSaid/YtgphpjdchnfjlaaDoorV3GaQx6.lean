/- Gall: calls within count: those of the functions that it alone reaches. -/
import Derived.Test.YtgphpjdchnfjlaaDoorV3EngThx10
import Derived.Test.YtgphpjdchnfjlaaDoorV3EngRnFx7
import Derived.Test.YtgphpjdchnfjlaaDoorV3EngTkx3
import Derived.Test.YtgphpjdchnfjlaaDoorProg
import Derived.KernelRfl
import Derived.Test.YtgphpjdchnfjlaaDoorV3Gp2x6
import Derived.IntWalk
set_option linter.unusedVariables false
set_option maxRecDepth 100000
set_option linter.unusedSimpArgs false
section
namespace Go.Eng
open Go.Proofs
def ll:List Nat→Code→Code
 | [],c=>c
 | x :: p,c=>match c with
   | .seq a b=>match x with
     | 0=>ll p a
     | _=>ll p b
   | .cond _ a b=>match x with
     | 0=>ll p a
     | _=>ll p b
   | .block _ b=>ll p b
   | .loop b=>ll p b
   | .scope b=>ll p b
   | .rangeFunc _ _ a b=>match x with
     | 0=>ll p a
     | _=>ll p b
   | c=>c
noncomputable def part (f:Func) (p:List Nat):Code:=ll p (aV f)
theorem Cn (j:Nat) (h:j<2 ^ 31):IntKind.i64.wrap ((j:Int)+1)=((j+1:Nat):Int):=by
 rw[show ((j:Int)+1)=((j+1:Nat):Int) by omega];exact Go.IntWalk.i64_in _ (by omega)

def cC (p:Nat→Bool) (N:Nat):Bool:=decide (fN p N 0<N)
theorem mh {p:Nat→Bool} {N:Nat} (h:cC p N=true):fN p N 0<N:=by simpa[cC] using h
theorem vH {p:Nat→Bool} {N:Nat} (h:cC p N=false):fN p N 0=N:=by
 have h1:=(m6 p N 0).2.1;have:¬ fN p N 0<N:=by simpa[cC] using h
 omega
theorem cQ (p:Nat→Bool) (N:Nat):cC p N=true↔∃ i,i<N∧p i=true:=by
 obtain ⟨h1,h2,h3,h4⟩:=m6 p N 0;constructor
 · intro h;have:=mh h;exact ⟨_,this,h4 (by omega)⟩
 · rintro ⟨i,hi,hp⟩;unfold cC;rw[decide_eq_true_eq];apply Nat.lt_of_not_le;intro hc;have:=h3 i (by omega) (by omega);rw[this] at hp;cases hp
namespace Q
noncomputable def ia:aO→FuncId→List AV→ab→Option (AV×ab):=tM []
def H8 (f:FuncId):Bool:=Nat.beq f 1000000
noncomputable def cd (n:Nat):aO:=db Tryd.prog ia KtG.kt 100000 n
noncomputable def il (tab:mW) (n k:Nat):bt:=BE Tryd.prog ia KtG.kt 100000 H8 tab n k
theorem xu (g:FuncId) (h:H8 g=false) (c:aO) (args:List AV) (H:ab):ia c g args H=none:=by
 unfold H8 at h;unfold ia tM;rw[h,cond_false];rfl
theorem nq (n:Nat):∃ x,db Tryd.prog ia KtG.kt 100000 n .mode [] []=some x:=by
 cases n<;>exact ⟨_,rfl⟩
theorem xz:sg Tryd.prog ia:=Dz [] (fun e he=>by cases he)
theorem mA (tab:mW) (n k:Nat) (ht:∀ k,tab.Ok (cd (n+k))):(il tab n k).Ok (cd (n+k)):=xe _ _ _ _ _ _ _ xu (fun k=>nq _) ht k
theorem fa (n k:Nat):(il aD n k).Ok (cd (n+k)):=mA _ _ _ (fun k=>aW _)
theorem av (n:Nat):(il aD n 0).Ok (cd n):=fa n 0
end Q
end Go.Eng
end
section
namespace Go.Eng.Q
open Go.Proofs
noncomputable def slA (n len:Nat) (z:Nat→Int):AV:=.slcT none (.M [.arr .i64 z (fP len n)]) n len false
noncomputable def shR (dr:Int) (lc:Nat) (zc:Nat→Int) (lb:Nat) (zb:Nat→Int) (W B:Nat→Int):Row:=.M [.one (.int .i64 dr),.one (slA 4 lc zc),.one (slA 2 lb zb),.arr .i64 W 20,.arr .u64 B 10]
noncomputable def shV (dr:Int) (lc:Nat) (zc:Nat→Int) (lb:Nat) (zb:Nat→Int) (W B:Nat→Int):AV:=.ptrT none (shR dr lc zc lb zb W B) 0
noncomputable def au:bF:=⟨false,[]⟩
noncomputable def iQ (n f nt d i:Nat):Cx:=⟨Tryd.prog,cd n,100000,f,nt,KtG.kt f,some (d,i)⟩
def xy:Code→Array Oper
 | .region _ ops _=>ops
 | _=>#[]
def Q8 (l:List Oper):Oper:=l.headD { dst:=none,op:=.move (.tmp 0),type:=0,pos := "",after:=#[],guard:=none }
noncomputable def cB:Code:=part Tryd.f73 [1,1,1,0,1,0,1]
noncomputable def cS:eJ:={ id0:=6,ops0:=xy (ll [0,1,0,0] cB),pre:=(xy (ll [0,1,0,0] cB)).toList.take 1,ro:=Q8 ((xy (ll [0,1,0,0] cB)).toList.drop 1),m:=18,ty:=128 }
noncomputable def cL:bS:={ out:=2,qt:=7,id2:=8,nxt:=3,ops1:=xy (ll [0,1,0,1,0,0,0] cB),ops2:=xy (ll [0,1,0,1,0,0,1,1,0,0] cB),no:=Q8 (xy (ll [0,1,0,1,0,0,0] cB)).toList,eo:=Q8 (xy (ll [0,1,0,1,0,0,1,1,0,0] cB)).toList,t1:=(xy (ll [0,1,0,1,0,0,0] cB)).toList.tail,t2:=(xy (ll [0,1,0,1,0,0,1,1,0,0] cB)).toList.tail,it:=19,nx:=20,mo:=21,en:=22,rest:=ll [0,1,0,1,0,0,1,1,0,1] cB,km:=267386880+128 }
noncomputable def rB:Code:=ll [0,1,1] cB
noncomputable def cR:p7:={ f:=73,id:=1,body:=cB,pre:=[ll [0,0] cB],S:=cS,L:=cL,suf:=rB }
noncomputable def jb (k:Int):aF:=[(1,.ptr 2 0 0 0),(3,.ptr 2 2 0 0),(4,.ptr 2 3 0 0),(5,.int .i64 k)]
noncomputable def mE (dr:Int) (lc:Nat) (zc:Nat→Int) (lb:Nat) (zb:Nat→Int) (W B:Nat→Int) (h:List Int→Bool) (g:List Int→Int) (c:Nat) (b:an):bF:=⟨false,[(0,.row (.G [shV dr lc zc lb zb W B])),(0,.fmap (.num .u64) h g c),(0,.row (.G [.map 0 1])),(0,.row (.G [.fn (.func 71) [shV dr lc zc lb zb W B] []])),(0,b)]⟩
theorem t5 (n:Nat) (k:Int) (H:ab):aH (iQ n 73 83 2 4) (il aD n 0) aL aJ (ll [0,0] cB) (hints (jb k)) (au::H) =
 Tr.ok (Ex.normal,[(1,AV.ptr 2 0 0 0,none),(3,AV.ptr 2 2 0 0,none),(4,AV.ptr 2 3 0 0,none),(5,AV.int .i64 k,none),(6,AV.nils,none)],au::H):=by kernel_rfl
theorem tS (n:Nat) (k:Int) (dr:Int) (lc:Nat) (zc:Nat→Int) (lb:Nat) (zb:Nat→Int) (W B:Nat→Int) (h:List Int→Bool) (g:List Int→Int) (c:Nat) (b:an) (H:ab):eJ.MU cS (iQ n 73 83 2 4) (il aD n 0) (hints (jb k++[(6,.nils)])) (au::au::mE dr lc zc lb zb W B h g c b::H) =
 (fun (Z0:List AV)=>Tr.ok ([(1,AV.ptr 2 0 0 0,none),(3,AV.ptr 2 2 0 0,none),(4,AV.ptr 2 3 0 0,none),(5,AV.int .i64 k,none),(6,AV.nils,none),(18,AV.map 2 1,none)],au::au::{ lock:=false,bs:=[(0,an.row (Row.G Z0)),(0,an.fmap (KK.num IntKind.u64) h g c),(0,an.row (Row.G [AV.map 0 1])),(0,an.row (Row.G [AV.fn (Fn.func 71) Z0 []])),(0,b)] } :: H)) [AV.ptrT none (Row.M [df.one (AV.int .i64 dr),df.one (AV.slcT none (Row.M [df.arr .i64 zc (bU lc 4)]) 4 lc false),df.one (AV.slcT none (Row.M [df.arr .i64 zb (bU lb 2)]) 2 lb false),df.arr .i64 W 20,df.arr IntKind.u64 B 10]) 0]:=by kernel_rfl
theorem tB (n:Nat) (k x y x0:Int) (v m:Nat) (z:Nat→Int) (H:ab):bS.ud cL (iQ n 73 83 2 4) (il aD n 0) aL aJ 0 1 (.int .u64 x,.int .i64 y) (hints (jb k++[(6,.slc 0 2 v 0 1 m none),(19,.ptr 0 0 0 0)])) (⟨false,[(0,.dead),(0,.row (.I .u64 [x0])),(v,.row (.M [.arr .u64 z m]))]⟩::H) =
 Tr.req (ie m 1 8) (Tr.req (cD 0 0) (Tr.req (eR 1 1) (Tr.req (cD v v) (Tr.req (cD (ar 0 m) m) (Tr.ok ([(1,AV.ptr 2 0 0 0,none),(3,AV.ptr 2 2 0 0,none),(4,AV.ptr 2 3 0 0,none),(5,AV.int .i64 k,none),(6,AV.slc 0 2 (Nat.succ v) 0 1 (ar m 1) none,none),(19,AV.ptr 0 0 0 0,none)],{ lock:=false,bs:=[(0,an.dead),(0,an.row (Row.I IntKind.u64 [x0])),(Nat.succ v,an.row (Row.M [df.arr IntKind.u64 (nZ (pZ z 0) m (az [x])) (ar m 1)]))] } :: H)))))):=by kernel_rfl
theorem tX (n:Nat) (k x0:Int) (v m:Nat) (z:Nat→Int) (H:ab):bS.vU cL (iQ n 73 83 2 4) (il aD n 0) (hints (jb k++[(6,.slc 0 2 v 0 1 m none),(19,.ptr 0 0 0 0)])) (⟨false,[(0,.dead),(0,.row (.I .u64 [x0])),(v,.row (.M [.arr .u64 z m]))]⟩::H) =
 Tr.ok ([(1,AV.ptr 2 0 0 0,none),(3,AV.ptr 2 2 0 0,none),(4,AV.ptr 2 3 0 0,none),(5,AV.int .i64 k,none),(6,AV.slc 0 2 v 0 1 m none,none),(19,AV.ptr 0 0 0 0,none),(20,AV.tup [AV.bool false],none),(21,AV.bool false,none)],{ lock:=false,bs:=[(0,an.dead),(0,an.row (Row.I IntKind.u64 [x0])),(v,an.row (Row.M [df.arr IntKind.u64 z m]))] } :: H):=by kernel_rfl
theorem tN (n:Nat) (k:Int) (H:ab):bS.vU cL (iQ n 73 83 2 4) (il aD n 0) (hints (jb k++[(6,.nils),(19,.ptr 0 0 0 0)])) (⟨false,[(0,.dead)]⟩::H) =
 Tr.ok ([(1,AV.ptr 2 0 0 0,none),(3,AV.ptr 2 2 0 0,none),(4,AV.ptr 2 3 0 0,none),(5,AV.int .i64 k,none),(6,AV.nils,none),(19,AV.ptr 0 0 0 0,none),(20,AV.tup [AV.bool false],none),(21,AV.bool false,none)],{ lock:=false,bs:=[(0,an.dead)] } :: H):=by kernel_rfl
end Go.Eng.Q
end
section
namespace Go.Eng.Q
open Go.Proofs
noncomputable def gl (x0:Int) (v m:Nat) (z:Nat→Int):bF:=⟨false,[(0,.dead),(0,.row (.I .u64 [x0])),(v,.row (.M [.arr .u64 z m]))]⟩
noncomputable def Q5 (k:Int) (v m:Nat):aF:=jb k++[(6,.slc 0 2 v 0 1 m none),(19,.ptr 0 0 0 0),(20,.tup [.bool false]),(21,.bool false)]
noncomputable def oT (n:Nat):Cx:=iQ n 73 83 2 4
noncomputable def Fg (k:Int) (v m:Nat) (j:Int):aF:=jb k++[(28,.slc 0 2 v 0 1 m none),(29,.int .i64 (Int.ofNat m)),(30,.int .i64 j)]
noncomputable def Ge (k:Int) (v m:Nat) (x j:Int) (lc:Nat) (c:Int):aF:=jb k++[(9,.int .u64 x),(28,.slc 0 2 v 0 1 m none),(29,.int .i64 (Int.ofNat m)),(30,.int .i64 j),(39,.int .i64 (Int.ofNat lc)),(40,.int .i64 c)]
theorem t10 (n:Nat) (k x0:Int) (v m:Nat) (z:Nat→Int) (G G':ab):aH (oT n) (il aD n 0) (cr aL 4 (Fg k v m (Int.ofNat 0)) (gl x0 v m z::au::G) (.ok (.normal,hints (Fg k v m (Int.ofNat m)++[(31,.bool false)]),gl x0 v m z::au::G'))) aJ rB (hints (Q5 k v m)) (gl x0 v m z::au::G) =
 (fun (Z0:aF)=>Tr.reqP (Z0=Z0∧gl x0 v m z::au::G=gl x0 v m z::au::G) (Tr.ok (Ex.normal,[(1,AV.ptr 2 0 0 0,none),(3,AV.ptr 2 2 0 0,none),(4,AV.ptr 2 3 0 0,none),(5,AV.int .i64 k,none),(28,AV.slc 0 2 v 0 1 m none,none),(29,AV.int .i64 (Int.ofNat m),none),(30,AV.int .i64 (Int.ofNat m),none),(31,AV.bool false,none)],gl x0 v m z::au::G'))) [(1,AV.ptr 2 0 0 0),(3,AV.ptr 2 2 0 0),(4,AV.ptr 2 3 0 0),(5,AV.int .i64 k),(28,AV.slc 0 2 v 0 1 m none),(29,AV.int .i64 (Int.ofNat m)),(30,AV.int .i64 (Int.ofNat 0))]:=by kernel_rfl
theorem tO (n:Nat) (h':List Int→Bool) (g':List Int→Int) (q':Nat) (k j x0:Int) (v m:Nat) (z:Nat→Int) (dr:Int) (lc:Nat) (zc:Nat→Int) (lb:Nat) (zb:Nat→Int) (W B:Nat→Int) (h:List Int→Bool) (g:List Int→Int) (q:Nat) (b:an) (G:ab):aH (oT n) (il aD n 0) (cr aL 6 (Ge k v m (z (aq 0 j 1)) j lc (Int.ofNat 0)) (gl x0 v m z::au::mE dr lc zc lb zb W B h g q b::G) (.ok (.normal,hints (Ge k v m (z (aq 0 j 1)) j lc (Int.ofNat lc)++[(41,.bool false)]),gl x0 v m z::au::mE dr lc zc lb zb W B h' g' q' b::G))) aJ (ll [0,1,1,1,0,0] cB) (hints (Fg k v m j)) (gl x0 v m z::au::mE dr lc zc lb zb W B h g q b::G) =
 (fun (Z0:aF)=>Tr.ite (bD j (Int.ofNat m)) (Tr.req (cj j m) (Tr.req (cD v v) (Tr.req (bW (aq 0 j 1) m) (Tr.reqP (Z0=Z0∧gl x0 v m z::au::mE dr lc zc lb zb W B h g q b::G=gl x0 v m z::au::mE dr lc zc lb zb W B h g q b::G) (Tr.ok (Ex.normal,[(1,AV.ptr 2 0 0 0,none),(3,AV.ptr 2 2 0 0,none),(4,AV.ptr 2 3 0 0,none),(5,AV.int .i64 k,none),(28,AV.slc 0 2 v 0 1 m none,none),(29,AV.int .i64 (Int.ofNat m),none),(30,AV.int .i64 (bh .i64 j (Int.ofNat 1)),none)],gl x0 v m z::au::{ lock:=false,bs:=[(0,an.row (Row.G [shV dr lc zc lb zb W B])),(0,an.fmap (KK.num IntKind.u64) (mR h' [z (aq 0 j 1)] false) (mS g' [z (aq 0 j 1)] (Int.ofNat 0)) (yi (h' [z (aq 0 j 1)]) q')),(0,an.row (Row.G [AV.map 0 1])),(0,an.row (Row.G [AV.fn (Fn.func 71) [shV dr lc zc lb zb W B] []])),(0,b)] } :: G)))))) (Tr.ok (Ex.exit 4,[(1,AV.ptr 2 0 0 0,none),(3,AV.ptr 2 2 0 0,none),(4,AV.ptr 2 3 0 0,none),(5,AV.int .i64 k,none),(28,AV.slc 0 2 v 0 1 m none,none),(29,AV.int .i64 (Int.ofNat m),none),(30,AV.int .i64 j,none),(31,AV.bool false,some 1)],gl x0 v m z::au::mE dr lc zc lb zb W B h g q b::G))) [(1,AV.ptr 2 0 0 0),(3,AV.ptr 2 2 0 0),(4,AV.ptr 2 3 0 0),(5,AV.int .i64 k),(9,AV.int IntKind.u64 (z (aq 0 j 1))),(28,AV.slc 0 2 v 0 1 m none),(29,AV.int .i64 (Int.ofNat m)),(30,AV.int .i64 j),(39,AV.int .i64 (Int.ofNat lc)),(40,AV.int .i64 (Int.ofNat 0))]:=by kernel_rfl
theorem tI (n:Nat) (k j x x0 c:Int) (v m:Nat) (z:Nat→Int) (dr:Int) (lc:Nat) (zc:Nat→Int) (lb:Nat) (zb:Nat→Int) (W B:Nat→Int) (h:List Int→Bool) (g:List Int→Int) (q:Nat) (b:an) (G:ab):aH (oT (n+1)) (il aD n 1) aL aJ (ll [0,1,1,1,0,0,1,1,0,0,1,0,1,0,0] cB) (hints (Ge k v m x j lc c)) (gl x0 v m z::au::mE dr lc zc lb zb W B h g q b::G) =
 (fun (Z0:aS)=>Tr.ite (bD c (Int.ofNat lc)) (Tr.req (c8 (Int.ofNat 0) c) (Tr.ite (cw (l9 IntKind.u64 x (eh IntKind.u64 (Int.ofNat 1) c)) (Int.ofNat 0)) (Tr.req (cj c 10) (Tr.req (eD (aq 23 c 1) 1 23 10) (Tr.ite (cw (AY IntKind.u64 (B (dC (aq 23 c 1) 23)) x) (Int.ofNat 0)) (Tr.req (cj c 10) (Tr.req (eD (aq 3 c 2) 1 3 20) (Tr.req (eD (ar (aq 3 c 2) 1) 1 3 20) (Tr.ite (c8 (W (dC (aq 3 c 2) 3)) k) (Tr.ite (c8 k (W (dC (ar (aq 3 c 2) 1) 3))) (Tr.req (c8 (Int.ofNat 0) c) (Tr.req (bO (eR 0 0) (eR 0 1)) (Tr.ok (Ex.normal,Z0,gl x0 v m z::au::{ lock:=false,bs:=[(0,an.row (Row.G [shV dr lc zc lb zb W B])),(0,an.fmap (KK.num IntKind.u64) (mR h [sa IntKind.u64 x (eh IntKind.u64 (Int.ofNat 1) c)] true) (mS g [sa IntKind.u64 x (eh IntKind.u64 (Int.ofNat 1) c)] (bh .i64 (g [sa IntKind.u64 x (eh IntKind.u64 (Int.ofNat 1) c)]) (g [x]))) (qU (h [sa IntKind.u64 x (eh IntKind.u64 (Int.ofNat 1) c)]) q)),(0,an.row (Row.G [AV.map 0 1])),(0,an.row (Row.G [AV.fn (Fn.func 71) [shV dr lc zc lb zb W B] []])),(0,b)] } :: G)))) (Tr.ok (Ex.normal,Z0,gl x0 v m z::au::mE dr lc zc lb zb W B h g q b::G))) (Tr.ok (Ex.normal,Z0,gl x0 v m z::au::mE dr lc zc lb zb W B h g q b::G)))))) (Tr.ok (Ex.normal,Z0,gl x0 v m z::au::mE dr lc zc lb zb W B h g q b::G))))) (Tr.ok (Ex.normal,Z0,gl x0 v m z::au::mE dr lc zc lb zb W B h g q b::G)))) (Tr.ok (Ex.exit 6,[(1,AV.ptr 2 0 0 0,none),(3,AV.ptr 2 2 0 0,none),(4,AV.ptr 2 3 0 0,none),(5,AV.int .i64 k,none),(9,AV.int IntKind.u64 x,none),(28,AV.slc 0 2 v 0 1 m none,none),(29,AV.int .i64 (Int.ofNat m),none),(30,AV.int .i64 j,none),(39,AV.int .i64 (Int.ofNat lc),none),(40,AV.int .i64 c,none),(41,AV.bool false,some 1)],gl x0 v m z::au::mE dr lc zc lb zb W B h g q b::G))) [(1,AV.ptr 2 0 0 0,none),(3,AV.ptr 2 2 0 0,none),(4,AV.ptr 2 3 0 0,none),(5,AV.int .i64 k,none),(9,AV.int IntKind.u64 x,none),(28,AV.slc 0 2 v 0 1 m none,none),(29,AV.int .i64 (Int.ofNat m),none),(30,AV.int .i64 j,none),(39,AV.int .i64 (Int.ofNat lc),none),(40,AV.int .i64 (bh .i64 c (Int.ofNat 1)),none)]:=by kernel_rfl
end Go.Eng.Q
end
section
namespace Go.Eng.Q
open Go.Proofs
theorem iZ {n f nt d i:Nat} {c:Code} {callR:bt} {bl:eS} {rg:nY} {fr:aF} {H:ab} {T:Tr eI} (e:aH (iQ n f nt d i) callR bl rg c (hints fr) H=T) (hC:callR.Ok (cd n)) (hB:bl.Ok (iQ n f nt d i) c) (hR:rg.Ok (iQ n f nt d i) c) {y:Ex×aF×ab} (h:T.all fun x=>x.st=y):exec (iQ n f nt d i) c fr H=some y:=by
 obtain ⟨x,h1,rfl⟩:=h;have:=fU (cx:=iQ n f nt d i) hC c hB hR (hints fr) H x (by rw[e];exact h1);rw[aT] at this;exact this
theorem od {n f nt d i:Nat} {c:Code} {callR:bt} {bl:eS} {rg:nY} {fr:aF} {H:ab} {T:Tr eI} {Q:Ex×aF×ab→Prop} (e:aH (iQ n f nt d i) callR bl rg c (hints fr) H=T) (hC:callR.Ok (cd n)) (hB:bl.Ok (iQ n f nt d i) c) (hR:rg.Ok (iQ n f nt d i) c) (h:T.all fun x=>Q x.st):∃ y,exec (iQ n f nt d i) c fr H=some y∧Q y:=by
 obtain ⟨x,h1,h2⟩:=h;have:=fU (cx:=iQ n f nt d i) hC c hB hR (hints fr) H x (by rw[e];exact h1);rw[aT] at this;exact ⟨_,this,h2⟩
theorem L5 {n f nt d i:Nat} {c:Code} (id:Nat) (F:Nat→aF) (G:Nat→ab) (N:Nat) (p:Nat→Bool) (X:Nat→aF×ab) (Y:aF×ab) (hN:N<99999)
 (hs:∀ j,j<N→∃ x,exec (iQ n f nt d i) c (F j) (G j)=some x∧if p j=true then x=(.ret,X j) else x.1=.normal∧tidy (a8 (G 0)) x.2.1 x.2.2=(F (j+1),G (j+1)))
 (he:exec (iQ n f nt d i) c (F N) (G N)=some (.exit id,Y)):exec (iQ n f nt d i) (.block id (.loop c)) (F 0) (G 0)=some (cond (cC p N) (.ret,X (fN p N 0)) (.normal,Y)):=by
 have key:=iT (body:=exec (iQ n f nt d i) c) (n:=a8 (G 0)) F G N p (fun j=>if j<N then (.ret,X j) else (.exit id,Y))
  (fun j hj hp=>by
    obtain ⟨x,h1,h2⟩:=hs j hj;rw[if_neg (by rw[hp];simp)] at h2;obtain ⟨e,f1,g1⟩:=x;obtain ⟨rfl,h3⟩:=h2;exact ⟨_,_,h1,h3⟩)
  (fun j hj hp=>by
    obtain ⟨x,h1,h2⟩:=hs j hj;rw[if_pos hp] at h2;subst h2;rw[if_pos hj];exact ⟨h1,by simp⟩)
  (by
    rw[if_neg (by omega)];exact ⟨he,by simp⟩) N 0 100000 (by omega) (by omega)
 cases hc:cC p N with
 | true =>
   have:=mh hc
   rw[if_pos this] at key
   exact dp (fun id' h=>by cases h) key
 | false =>
   have:=vH hc
   rw[if_neg (by omega)] at key
   exact iu key

theorem Kk {n f nt d i:Nat} {c:Code} (id:Nat) (F:Nat→aF) (G:Nat→ab) (N:Nat) (Y:aF×ab) (hN:N<99999)
 (hs:∀ j,j<N→∃ x,exec (iQ n f nt d i) c (F j) (G j)=some x∧(x.1=.normal∧tidy (a8 (G 0)) x.2.1 x.2.2=(F (j+1),G (j+1))))
 (he:exec (iQ n f nt d i) c (F N) (G N)=some (.exit id,Y)):exec (iQ n f nt d i) (.block id (.loop c)) (F 0) (G 0)=some (.normal,Y):=by
 have:=L5 id F G N (fun _=>false) (fun _=>Y) Y hN (fun j hj=>by
  obtain ⟨x,h1,h2⟩:=hs j hj;exact ⟨x,h1,by rw[if_neg (by simp)];exact h2⟩) he
 have h0:cC (fun _=>false) N=false:=by
  cases h:cC (fun _=>false) N with
  | false=>rfl
  | true=>obtain ⟨i2,_,h2⟩:=(cQ _ _).1 h;cases h2
 rw[h0] at this
 exact this

structure CS where
 h:List Int→Bool
 g:List Int→Int
 q:Nat
noncomputable def Qh (x c:Int) (s:CS):CS:=⟨mR s.h [sa .u64 x (eh .u64 (Int.ofNat 1) c)] true,mS s.g [sa .u64 x (eh .u64 (Int.ofNat 1) c)] (bh .i64 (s.g [sa .u64 x (eh .u64 (Int.ofNat 1) c)]) (s.g [x])),qU (s.h [sa .u64 x (eh .u64 (Int.ofNat 1) c)]) s.q⟩
noncomputable def Ia (W B:Nat→Int) (k x c:Int):Bool:=cond (cw (l9 .u64 x (eh .u64 (Int.ofNat 1) c)) (Int.ofNat 0)) (cond (cw (AY .u64 (B (dC (aq 23 c 1) 23)) x) (Int.ofNat 0)) (cond (c8 (W (dC (aq 3 c 2) 3)) k) (c8 k (W (dC (ar (aq 3 c 2) 1) 3))) false) false) false
noncomputable def JP (W B:Nat→Int) (k x c:Int) (s:CS):CS:=cond (Ia W B k x c) (Qh x c s) s
noncomputable def Cb (W B:Nat→Int) (k x:Int):Nat→CS→CS
 | 0,s=>s
 | j+1,s=>JP W B k x (Int.ofNat j) (Cb W B k x j s)
noncomputable def Qr (x:Int) (s:CS):CS:=⟨mR s.h [x] false,mS s.g [x] (Int.ofNat 0),yi (s.h [x]) s.q⟩
noncomputable def Nk (W B:Nat→Int) (k:Int) (n:Nat) (x:Int) (s:CS):CS:=Qr x (Cb W B k x n s)
noncomputable def HF (W B:Nat→Int) (k:Int) (n:Nat) (z:Nat→Int):Nat→CS→CS
 | 0,s=>s
 | j+1,s=>Nk W B k n (z j) (HF W B k n z j s)
section
variable (n:Nat) (k x0:Int) (v m:Nat) (z:Nat→Int) (dr:Int) (lc:Nat) (zc:Nat→Int) (lb:Nat) (zb:Nat→Int) (W B:Nat→Int) (b:an) (G:ab)
noncomputable def iC (s:CS):bF:=mE dr lc zc lb zb W B s.h s.g s.q b
theorem X4 (j x:Int) (c:Nat) (hc:c<lc) (hl:lc≤10) (s:CS):∃ y,exec (oT (n+1)) (ll [0,1,1,1,0,0,1,1,0,0,1,0,1,0,0] cB) (Ge k v m x j lc (Int.ofNat c)) (gl x0 v m z::au::iC dr lc zc lb zb W B b s::G)=some y ∧
 (y.1=.normal∧tidy 3 y.2.1 y.2.2=(Ge k v m x j lc (Int.ofNat (c+1)),gl x0 v m z::au::iC dr lc zc lb zb W B b (JP W B k x (Int.ofNat c) s)::G)):=by
 refine od (Q:=fun y=>y.1=.normal∧tidy 3 y.2.1 y.2.2=(Ge k v m x j lc (Int.ofNat (c+1)),gl x0 v m z::au::iC dr lc zc lb zb W B b (JP W B k x (Int.ofNat c) s)::G)) (tI n k j x x0 (Int.ofNat c) v m z dr lc zc lb zb W B s.h s.g s.q b G) (fa n 1) (ai _ _) (aj _ _) ?_
 have ec:bh .i64 (Int.ofNat c) (Int.ofNat 1)=Int.ofNat (c+1):=by
  have:=Cn c (by omega);rw[fS];exact this
 have no:Ia W B k x (Int.ofNat c)=false→JP W B k x (Int.ofNat c) s=s:=fun h=>by unfold JP;rw[h];rfl
 have yes:Ia W B k x (Int.ofNat c)=true→JP W B k x (Int.ofNat c) s=Qh x (Int.ofNat c) s:=fun h=>by unfold JP;rw[h];rfl
 refine Tr.ae (fun h0=>?_) (fun h0=>?_)
 · refine Tr.aa wG ?_
   refine Tr.ae (fun h1=>?_) (fun h1=>?_)
   · refine Tr.aa wG (Tr.aa wG ?_)
     refine Tr.ae (fun h2=>?_) (fun h2=>?_)
     · refine Tr.aa wG (Tr.aa wG (Tr.aa wG ?_))
       refine Tr.ae (fun h3=>?_) (fun h3=>?_)
       · refine Tr.ae (fun h4=>?_) (fun h4=>?_)
         · refine Tr.aa wG (Tr.aa wG ?_)
           rw[yes (by unfold Ia;rw[h1,h2,h3,h4];rfl),ec]
           exact Tr.ag ⟨rfl,rfl⟩
         · rw[no (by unfold Ia;rw[h1,h2,h3,h4];rfl),ec]
           exact Tr.ag ⟨rfl,rfl⟩
       · rw[no (by unfold Ia;rw[h1,h2,h3];rfl),ec]
         exact Tr.ag ⟨rfl,rfl⟩
     · rw[no (by unfold Ia;rw[h1,h2];rfl),ec]
       exact Tr.ag ⟨rfl,rfl⟩
   · rw[no (by unfold Ia;rw[h1];rfl),ec]
     exact Tr.ag ⟨rfl,rfl⟩
 · exfalso
   simp (disch:=omega) only[nV,nW] at h0
   omega
theorem V6 (j x:Int) (hl:lc≤10) (s:CS):exec (oT (n+1)) (ll [0,1,1,1,0,0,1,1,0,0,1,0,1,0,0] cB) (Ge k v m x j lc (Int.ofNat lc)) (gl x0 v m z::au::iC dr lc zc lb zb W B b s::G)=some (.exit 6,Ge k v m x j lc (Int.ofNat lc)++[(41,.bool false)],gl x0 v m z::au::iC dr lc zc lb zb W B b s::G):=by
 refine iZ (tI n k j x x0 (Int.ofNat lc) v m z dr lc zc lb zb W B s.h s.g s.q b G) (fa n 1) (ai _ _) (aj _ _) ?_;refine Tr.ae (fun h0=>?_) (fun h0=>Tr.ag rfl);exfalso;simp (disch:=omega) only[nV,nW] at h0;omega
theorem Va (j x:Int) (hl:lc≤10) (s:CS):exec (oT (n+1)) (.block 6 (.loop (ll [0,1,1,1,0,0,1,1,0,0,1,0,1,0,0] cB))) (Ge k v m x j lc (Int.ofNat 0)) (gl x0 v m z::au::iC dr lc zc lb zb W B b s::G) =
 some (.normal,Ge k v m x j lc (Int.ofNat lc)++[(41,.bool false)],gl x0 v m z::au::iC dr lc zc lb zb W B b (Cb W B k x lc s)::G):=by
 refine Kk (n:=n+1) (f:=73) (nt:=83) (d:=2) (i:=4) 6 (fun c=>Ge k v m x j lc (Int.ofNat c)) (fun c=>gl x0 v m z::au::iC dr lc zc lb zb W B b (Cb W B k x c s)::G) lc (_,_) (by omega) (fun c hc=>?_) ?_
 · exact X4 n k x0 v m z dr lc zc lb zb W B b G j x c hc hl (Cb W B k x c s)
 · exact V6 n k x0 v m z dr lc zc lb zb W B b G j x hl _
theorem b6:∀ b,(6,b) ∈ aE (part Tryd.f73 [1,1,1,0,1,0,1,0,1,1,1,0,0])→b=.loop (part Tryd.f73 [1,1,1,0,1,0,1,0,1,1,1,0,0,1,1,0,0,1,0,1,0,0]):=dz (by kernel_rfl)
theorem b4:∀ b,(4,b) ∈ aE (part Tryd.f73 [1,1,1,0,1,0,1,0,1,1])→b=.loop (part Tryd.f73 [1,1,1,0,1,0,1,0,1,1,1,0,0]):=dz (by kernel_rfl)
end
end Go.Eng.Q
end
section
namespace Go.Eng.Q
open Go.Proofs Go.Eng.Gall
theorem LN (x:Nat):BitVec.ofInt 64 (x:Int)=BitVec.ofNat 64 x:=by
 apply BitVec.eq_of_toInt_eq;simp
theorem jQ {x:Nat} (h:x<2 ^ 64):IntKind.u64.wrap (x:Int)=x:=Go.IntWalk.u64_in _ (by omega)
theorem Qx {x y:Nat} (hx:x<2 ^ 63) (hy:y<2 ^ 63):sa .u64 (x:Int) (y:Int)=((x ||| y:Nat):Int):=by
 rw[tL];show IntKind.u64.wrap ((BitVec.ofInt 64 (x:Int) ||| BitVec.ofInt 64 (y:Int)).toNat:Nat)=_;have h1:x ||| y<2 ^ 63:=Nat.or_lt_two_pow hx hy;rw[LN,LN,BitVec.toNat_or,BitVec.toNat_ofNat,BitVec.toNat_ofNat,Nat.mod_eq_of_lt (by omega),Nat.mod_eq_of_lt (by omega),jQ (by omega)]
theorem LG {x y:Nat} (hx:x<2 ^ 63) (hy:y<2 ^ 63):l9 .u64 (x:Int) (y:Int)=((x &&& y:Nat):Int):=by
 rw[rL];show IntKind.u64.wrap ((BitVec.ofInt 64 (x:Int) &&& BitVec.ofInt 64 (y:Int)).toNat:Nat)=_;have h1:x &&& y<2 ^ 63:=Nat.and_lt_two_pow x hy;rw[LN,LN,BitVec.toNat_and,BitVec.toNat_ofNat,BitVec.toNat_ofNat,Nat.mod_eq_of_lt (by omega),Nat.mod_eq_of_lt (by omega),jQ (by omega)]
theorem B8 {i:Nat} (hi:i<62):eh .u64 (Int.ofNat 1) (Int.ofNat i)=((2 ^ i:Nat):Int):=by
 rw[xS];show IntKind.u64.wrap (1*2 ^ min i 64)=_;have:(2:Nat) ^ i≤2 ^ 62:=Nat.pow_le_pow_right (by decide) (by omega);rw[Nat.min_eq_left (by omega),Int.one_mul,show (2:Int) ^ i=((2 ^ i:Nat):Int) from by rw[Int.natCast_pow];rfl];generalize (2:Nat) ^ i=P at *;exact jQ (by omega)
theorem A8 {X c:Nat} (hX:X<2 ^ 62) (hc:c<62):cw (l9 .u64 (X:Int) (eh .u64 (Int.ofNat 1) (Int.ofNat c))) (Int.ofNat 0)=!X.testBit c:=by
 have:(2:Nat) ^ c≤2 ^ 61:=Nat.pow_le_pow_right (by decide) (by omega);rw[B8 hc,LG (by omega) (by omega),aQ];have key:(X &&& 2 ^ c=0)↔X.testBit c=false:=by
  constructor
  · intro h;have:=congrArg (fun y=>y.testBit c) h;simpa[Nat.testBit_and,Nat.testBit_two_pow_self] using this
  · intro h;apply Nat.eq_of_testBit_eq;intro i;rw[Nat.testBit_and,Nat.testBit_two_pow,Nat.zero_testBit];by_cases e:c=i
    · subst e;rw[h];rfl
    · rw[decide_eq_false e,Bool.and_false]
 rw[Bool.eq_iff_iff,beq_iff_eq,Bool.not_eq_true',← key];show ((X &&& 2 ^ c:Nat):Int)=0↔_;omega
theorem A9 {X c:Nat} (hX:X<2 ^ 62) (hc:c<62) (h:X.testBit c=false):sa .u64 (X:Int) (eh .u64 (Int.ofNat 1) (Int.ofNat c))=((X+2 ^ c:Nat):Int):=by
 have:(2:Nat) ^ c≤2 ^ 61:=Nat.pow_le_pow_right (by decide) (by omega);rw[B8 hc,Qx (by omega) (by omega),G5 h]
noncomputable def okW (W B:Nat→Int) (k X c:Nat):Bool:=cw (AY .u64 (B c) (X:Int)) (Int.ofNat 0) && (c8 (W (2*c)) (k:Int) && c8 (k:Int) (W (2*c+1)))
theorem MM (W B:Nat→Int) (k:Nat) {X c:Nat} (hX:X<2 ^ 62) (hc:c<62):Ia W B (k:Int) (X:Int) (Int.ofNat c)=(!X.testBit c && okW W B k X c):=by
 unfold Ia okW;rw[A8 hX hc];simp only[bG,aI,dv];rw[show 23+(Int.ofNat c).toNat*1-23=c by show 23+c*1-23=c;omega,show 3+(Int.ofNat c).toNat*2-3=2*c by show 3+c*2-3=2*c;omega,show 3+(Int.ofNat c).toNat*2+1-3=2*c+1 by show 3+c*2+1-3=2*c+1;omega];cases (!X.testBit c)<;>cases (cw (AY .u64 (B c) (X:Int)) (Int.ofNat 0))<;>cases (c8 (W (2*c)) (k:Int))<;>cases (c8 (k:Int) (W (2*c+1)))<;>rfl
def mC (h:Nat→Bool) (g:Nat→Nat) (q:Nat):CS:=⟨fun l=>match l with | [y]=>decide (0≤y) && h y.toNat | _=>false,fun l=>match l with | [y]=>if 0≤y then (g y.toNat:Int) else 0 | _=>0,q⟩
theorem ta (h:Nat→Bool) (g:Nat→Nat) (q:Nat) (X:Nat) (b:Bool):fE (mC h g q).h [(X:Int)] b=(mC (fun y=>if y=X then b else h y) g q).h:=by
 funext l;unfold fE;by_cases e:l=[(X:Int)]
 · subst e;rw[if_pos rfl];show b=(decide ((0:Int)≤(X:Int)) && (if (X:Int).toNat=X then b else _));rw[if_pos (Int.toNat_natCast X),decide_eq_true (by omega)];simp
 · rw[if_neg e];match l,e with
   | [],_=>rfl
   | [y],e =>
     show (decide (0≤y) && h y.toNat)=(decide (0≤y) && (if y.toNat=X then b else h y.toNat));by_cases h0:0≤y
     · rw[if_neg (fun hy=>e (by rw[show y=(X:Int) by omega]))]
     · rw[decide_eq_false h0];rfl
   | _::_::_,_=>rfl
theorem tb (h:Nat→Bool) (g:Nat→Nat) (q:Nat) (X:Nat) (z:Nat):iP (mC h g q).g [(X:Int)] (z:Int)=(mC h (fun y=>if y=X then z else g y) q).g:=by
 funext l;unfold iP;by_cases e:l=[(X:Int)]
 · subst e;rw[if_pos rfl];show (z:Int)=(if (0:Int)≤(X:Int) then (((if (X:Int).toNat=X then z else _):Nat):Int) else 0);rw[if_pos (by omega),if_pos (Int.toNat_natCast X)]
 · rw[if_neg e];match l,e with
   | [],_=>rfl
   | [y],e =>
     show (if 0≤y then (g y.toNat:Int) else 0)=(if 0≤y then (((if y.toNat=X then z else g y.toNat):Nat):Int) else 0);by_cases h0:0≤y
     · rw[if_pos h0,if_pos h0,if_neg (fun hy=>e (by rw[show y=(X:Int) by omega]))]
     · rw[if_neg h0,if_neg h0]
   | _::_::_,_=>rfl
theorem GC (h:Nat→Bool) (g:Nat→Nat) (q X:Nat):(mC h g q).g [(X:Int)]=(g X:Int):=by
 show (if (0:Int)≤(X:Int) then (g (X:Int).toNat:Int) else 0)=_;rw[if_pos (by omega),Int.toNat_natCast]
def Gd (s:CS):Prop:=∃ es,rK (.num .u64) es s.h s.g s.q
theorem Gn {h:List Int→Bool} {g:List Int→Int} {q:Nat} (hE:∃ es,rK (.num .u64) es h g q) (a y:Int):∃ es,rK (.num .u64) es (fE h [a] true) (iP g [a] y) (uP (h [a]) q):=by
 obtain ⟨es,hE⟩:=hE;cases hh:h [a] with
 | false=>exact ⟨_,hh ▸ hE.T4 (n:=[a]) (y:=y) rfl (r:=none) hh (fun j hj=>by cases hj)⟩
 | true =>
   obtain ⟨_,j,j1,j2⟩:=hE.all _ hh;obtain ⟨n,e1,e2⟩:=hE.ent j j1;have:eH (.num .u64) n=eH (.num .u64) [a]:=by rw[← j2,e1]
   have hn:n=[a]:=ji (hE.fit e2) rfl this;subst hn;exact ⟨_,hh ▸ hE.T4 (n:=[a]) (y:=y) rfl (r:=some j) hh (fun j' hj'=>by cases hj';exact ⟨j1,e1⟩)⟩
theorem Mf {h:List Int→Bool} {g:List Int→Int} {q:Nat} (hE:∃ es,rK (.num .u64) es h g q) (a:Int):∃ es,rK (.num .u64) es (fE h [a] false) (iP g [a] 0) (yh (h [a]) q):=by
 obtain ⟨es,hE⟩:=hE;cases hh:h [a] with
 | false=>exact ⟨_,hh ▸ hE.del (n:=[a]) rfl (r:=none) hh (fun j hj=>by cases hj)⟩
 | true =>
   obtain ⟨_,j,j1,j2⟩:=hE.all _ hh;obtain ⟨n,e1,e2⟩:=hE.ent j j1;have:eH (.num .u64) n=eH (.num .u64) [a]:=by rw[← j2,e1]
   have hn:n=[a]:=ji (hE.fit e2) rfl this;subst hn;exact ⟨_,hh ▸ hE.del (n:=[a]) rfl (r:=some j) hh (fun j' hj'=>by cases hj';exact ⟨j1,e1⟩)⟩
theorem HG (W B:Nat→Int) (k X:Nat) (hX:X<2 ^ 10) (h:Nat→Bool) (g:Nat→Nat) (q:Nat) (hG:Gd (mC h g q)):∀ j,j≤10→(∀ i,i≤j→∀ Y,g Y+g X*cT (okW W B) i k X Y<2 ^ 60) →
 ∃ q',Cb W B (k:Int) (X:Int) j (mC h g q)=mC (fun Y=>h Y || decide (0<cT (okW W B) j k X Y)) (fun Y=>g Y+g X*cT (okW W B) j k X Y) q'∧Gd (Cb W B (k:Int) (X:Int) j (mC h g q))
 | 0,_,_=>⟨q,by
    have e:∀ Y,cT (okW W B) 0 k X Y=0:=fun Y=>rfl;simp only[e,Nat.mul_zero,Nat.add_zero];show mC h g q=_;congr 1;funext Y;simp,hG⟩
 | j + 1,hj,hb=>by
   obtain ⟨q',e,hG'⟩:=HG W B k X hX h g q hG j (by omega) (fun i hi=>hb i (by omega));have hX2:X<2 ^ 62:=by omega
   have e2:Cb W B (k:Int) (X:Int) (j+1) (mC h g q)=JP W B (k:Int) (X:Int) (Int.ofNat j) (Cb W B (k:Int) (X:Int) j (mC h g q)):=rfl;rw[e2];rw[e] at hG' ⊢;unfold JP;rw[MM W B k hX2 (by omega)];cases ho:(!X.testBit j && okW W B k X j) with
   | false =>
     refine ⟨q',?_,hG'⟩;have:∀ Y,cT (okW W B) (j+1) k X Y=cT (okW W B) j k X Y:=fun Y=>by rw[Bc,ho];simp
     simp only[this];rfl
   | true =>
     have hbit:X.testBit j=false:=by
      cases hx:X.testBit j with
      | false=>rfl
      | true=>rw[hx] at ho;cases ho
     have hc:∀ Y,cT (okW W B) (j+1) k X Y=cT (okW W B) j k X Y+if X+2 ^ j=Y then 1 else 0:=fun Y=>by rw[Bc,ho];simp
     have hself:=CE (ok:=okW W B) j k X;have hp:=Nat.two_pow_pos j;rw[cond_true];have e3:Qh (X:Int) (Int.ofNat j) (mC (fun Y=>h Y || decide (0<cT (okW W B) j k X Y)) (fun Y=>g Y+g X*cT (okW W B) j k X Y) q') =
      mC (fun Y=>h Y || decide (0<cT (okW W B) (j+1) k X Y)) (fun Y=>g Y+g X*cT (okW W B) (j+1) k X Y) (uP ((mC (fun Y=>h Y || decide (0<cT (okW W B) j k X Y)) (fun Y=>g Y+g X*cT (okW W B) j k X Y) q').h [((X+2 ^ j:Nat):Int)]) q'):=by
      unfold Qh
      rw[A9 hX2 (by omega) hbit,ig,ij,me,GC,GC,fS,hself]
      have hb2:=hb (j+1) (by omega) (X+2 ^ j)
      rw[hc,if_pos rfl,Nat.mul_add] at hb2
      rw[show (((g (X+2 ^ j)+g X*cT (okW W B) j k X (X+2 ^ j):Nat):Int)+((g X+g X*0:Nat):Int))=((g (X+2 ^ j)+g X*cT (okW W B) j k X (X+2 ^ j)+g X:Nat):Int) by omega,Go.IntWalk.i64_in _ (by omega),ta,tb]
      show CS.mk (mC _ (fun Y=>g Y+g X*cT (okW W B) j k X Y) q').h (mC (fun Y=>h Y || decide (0<cT (okW W B) j k X Y)) _ q').g _=_
      have a1:(fun y=>if y=X+2 ^ j then true else (h y || decide (0<cT (okW W B) j k X y)))=fun Y=>h Y || decide (0<cT (okW W B) (j+1) k X Y):=by
       funext Y;rw[hc];by_cases e:Y=X+2 ^ j
       · subst e;rw[if_pos rfl,if_pos rfl,decide_eq_true (by omega)];simp
       · rw[if_neg e,if_neg (fun h=>e h.symm)];rfl
      have a2:(fun y=>if y=X+2 ^ j then g (X+2 ^ j)+g X*cT (okW W B) j k X (X+2 ^ j)+g X else g y+g X*cT (okW W B) j k X y)=fun Y=>g Y+g X*cT (okW W B) (j+1) k X Y:=by
       funext Y;rw[hc];by_cases e:Y=X+2 ^ j
       · subst e;rw[if_pos rfl,if_pos rfl,Nat.mul_add];omega
       · rw[if_neg e,if_neg (fun h=>e h.symm)];rfl
      rw[a1,a2];rfl
     refine ⟨_,e3,?_⟩;unfold Qh;rw[ig,ij,me];exact Gn hG' _ _
theorem Nl (W B:Nat→Int) (k X n:Nat) (hX:X<2 ^ 10) (h:Nat→Bool) (g:Nat→Nat) (q:Nat) (hG:Gd (mC h g q)) (hn:n≤10) (hb:∀ i,i≤n→∀ Y,g Y+g X*cT (okW W B) i k X Y<2 ^ 60) :
 ∃ q',Nk W B (k:Int) n (X:Int) (mC h g q)=mC (fun Y=>!decide (Y=X) && (h Y || decide (0<cT (okW W B) n k X Y))) (fun Y=>if Y=X then 0 else g Y+g X*cT (okW W B) n k X Y) q'∧Gd (Nk W B (k:Int) n (X:Int) (mC h g q)):=by
 obtain ⟨q',e,hG'⟩:=HG W B k X hX h g q hG n hn hb
 unfold Nk
 rw[e] at hG' ⊢
 have e3:Qr (X:Int) (mC (fun Y=>h Y || decide (0<cT (okW W B) n k X Y)) (fun Y=>g Y+g X*cT (okW W B) n k X Y) q')=mC (fun Y=>!decide (Y=X) && (h Y || decide (0<cT (okW W B) n k X Y))) (fun Y=>if Y=X then 0 else g Y+g X*cT (okW W B) n k X Y) (yh ((mC (fun Y=>h Y || decide (0<cT (okW W B) n k X Y)) (fun Y=>g Y+g X*cT (okW W B) n k X Y) q').h [(X:Int)]) q'):=by
  unfold Qr;rw[ig,ij,sA,ta,show (Int.ofNat 0:Int)=((0:Nat):Int) from rfl,tb];have a1:(fun y=>if y=X then false else (h y || decide (0<cT (okW W B) n k X y)))=fun Y=>!decide (Y=X) && (h Y || decide (0<cT (okW W B) n k X Y)):=by
   funext Y;by_cases e:Y=X
   · rw[if_pos e,decide_eq_true e];rfl
   · rw[if_neg e,decide_eq_false e];rfl
  rw[a1];rfl
 refine ⟨_,e3,?_⟩
 unfold Qr
 rw[ig,ij,sA]
 exact Mf hG' _
theorem Nj (W B:Nat→Int) (k n:Nat) (hn:n≤10) (hk:k≤10) (q:Nat):∀ (L:List Nat) (z:Nat→Int),(∀ j (h:j<L.length),z j=((L[j]:Nat):Int))→L.Nodup→(∀ x ∈ L,0<cF n (okW W B) k x)→Gd (mC (hD n (okW W B) k []) (gD n (okW W B) k []) q)→∀ m,m≤L.length →
 ∃ q',HF W B (k:Int) n z m (mC (hD n (okW W B) k []) (gD n (okW W B) k []) q)=mC (hD n (okW W B) k (L.take m)) (gD n (okW W B) k (L.take m)) q'∧Gd (HF W B (k:Int) n z m (mC (hD n (okW W B) k []) (gD n (okW W B) k []) q)):=by
 intro L z hz hnd hL hG m
 induction m with
 | zero=>intro _;exact ⟨q,rfl,hG⟩
 | succ m ih =>
   intro hm
   obtain ⟨q',e,hG'⟩:=ih (by omega)
   have e2:HF W B (k:Int) n z (m+1) (mC (hD n (okW W B) k []) (gD n (okW W B) k []) q)=Nk W B (k:Int) n (z m) (HF W B (k:Int) n z m (mC (hD n (okW W B) k []) (gD n (okW W B) k []) q)):=rfl
   rw[e2]
   rw[e] at hG' ⊢
   rw[hz m (by omega)]
   have hx:=hL _ (List.getElem_mem (show m<L.length by omega))
   have hlt:=FG hx
   have hp:(2:Nat) ^ n≤2 ^ 10:=Nat.pow_le_pow_right (by decide) hn
   have htake:L.take (m+1)=L.take m++[L[m]'(by omega)]:=by rw[List.take_add_one,List.getElem?_eq_getElem (by omega)];rfl
   have hnin:L[m]'(by omega) ∉ L.take m:=fun hc=>by
    have:=hnd.sublist (List.take_sublist (m+1) L);rw[htake,List.nodup_append] at this;exact this.2.2 _ hc _ List.mem_cons_self rfl
   have hLt:∀ x ∈ L.take m,0<cF n (okW W B) k x:=fun x hx=>hL x (List.mem_of_mem_take hx)
   have hb:∀ i,i≤n→∀ Y,gD n (okW W B) k (L.take m) Y+gD n (okW W B) k (L.take m) (L[m]'(by omega))*cT (okW W B) i k (L[m]'(by omega)) Y<2 ^ 60:=fun i hi Y=>by
    have h1:=OA (hnd.sublist (List.take_sublist m L)) hLt hx hnin i Y hi;have h2:=Kf (n:=n) (ok:=okW W B) k Y;have h3:=Kf (n:=n) (ok:=okW W B) (k+1) Y;have h4:n ^ k≤10 ^ 10:=Nat.le_trans (Nat.pow_le_pow_left hn k) (Nat.pow_le_pow_right (by decide) hk);have h5:n ^ (k+1)≤10 ^ 11:=Nat.le_trans (Nat.pow_le_pow_left hn _) (Nat.pow_le_pow_right (by decide) (by omega));omega
   obtain ⟨q'',e3,hG''⟩:=Nl W B k (L[m]'(by omega)) n (by omega) _ _ q' hG' hn hb
   refine ⟨q'',?_,hG''⟩
   rw[e3,htake]
   congr 1
   · funext Y;exact IP hLt hx Y
   · funext Y;exact IN hLt hx hnin Y
end Go.Eng.Q
end
section
namespace Go.Eng.Q
open Go.Proofs Go.Eng.Gall
noncomputable def Q4 (k:Int):aF:=jb k++[(6,.nils),(18,.map 2 1),(19,.ptr 0 0 0 0),(20,.tup [.bool false]),(21,.bool false)]
noncomputable def Vb:bF:=⟨false,[(0,.dead)]⟩
theorem X8 (n:Nat) (k x y:Int) (H:ab):bS.ud cL (oT n) (il aD n 0) aL aJ 0 1 (.int .u64 x,.int .i64 y) (hints (jb k++[(6,.nils),(18,.map 2 1),(19,.ptr 0 0 0 0)])) (⟨false,[(0,.dead)]⟩::H) =
 Tr.req (ie 0 1 8) (Tr.req (cD 0 0) (Tr.req (eR 1 1) (Tr.ok ([(1,AV.ptr 2 0 0 0,none),(3,AV.ptr 2 2 0 0,none),(4,AV.ptr 2 3 0 0,none),(5,AV.int .i64 k,none),(6,AV.slc 0 2 0 0 1 1 none,none),(19,AV.ptr 0 0 0 0,none)],{ lock:=false,bs:=[(0,an.dead),(0,an.row (Row.I IntKind.u64 [x])),(0,an.row (Row.M [df.arr IntKind.u64 (az [x]) 1]))] } :: H)))):=by kernel_rfl
theorem X9 (n:Nat) (k:Int) (H:ab):bS.vU cL (oT n) (il aD n 0) (hints (jb k++[(6,.nils),(18,.map 2 1),(19,.ptr 0 0 0 0)])) (⟨false,[(0,.dead)]⟩::H) =
 Tr.ok ([(1,AV.ptr 2 0 0 0,none),(3,AV.ptr 2 2 0 0,none),(4,AV.ptr 2 3 0 0,none),(5,AV.int .i64 k,none),(6,AV.nils,none),(18,AV.map 2 1,none),(19,AV.ptr 0 0 0 0,none),(20,AV.tup [AV.bool false],none),(21,AV.bool false,none)],{ lock:=false,bs:=[(0,an.dead)] } :: H):=by kernel_rfl
theorem tZ (n:Nat) (k:Int) (G:ab):aH (oT n) (il aD n 0) aL aJ rB (hints (Q4 k)) (⟨false,[(0,.dead)]⟩::au::G) =
 Tr.ok (Ex.normal,[(1,AV.ptr 2 0 0 0,none),(3,AV.ptr 2 2 0 0,none),(4,AV.ptr 2 3 0 0,none),(5,AV.int .i64 k,none),(28,AV.nils,none),(29,AV.int .i64 (Int.ofNat 0),some 1),(30,AV.int .i64 (Int.ofNat 0),some 1),(31,AV.bool false,some 1)],{ lock:=false,bs:=[(0,an.dead)] } :: au::G):=by kernel_rfl
theorem nO:ll [0,1,1,1,0,0] cB=part Tryd.f73 [1,1,1,0,1,0,1,0,1,1,1,0,0]:=by kernel_rfl
theorem nI:ll [0,1,1,1,0,0,1,1,0,0,1,0,1,0,0] cB=part Tryd.f73 [1,1,1,0,1,0,1,0,1,1,1,0,0,1,1,0,0,1,0,1,0,0]:=by kernel_rfl
theorem XO:rB=part Tryd.f73 [1,1,1,0,1,0,1,0,1,1]:=by kernel_rfl
theorem UT:∀ b,(6,b) ∈ aE (ll [0,1,1,1,0,0] cB)→b=.loop (ll [0,1,1,1,0,0,1,1,0,0,1,0,1,0,0] cB):=by rw[nO,nI];exact b6
theorem Vk:∀ b,(4,b) ∈ aE rB→b=.loop (ll [0,1,1,1,0,0] cB):=by rw[XO,nO];exact b4
section
variable (n:Nat) (k x0:Int) (v m:Nat) (z:Nat→Int) (dr:Int) (lc:Nat) (zc:Nat→Int) (lb:Nat) (zb:Nat→Int) (W B:Nat→Int) (b:an) (G:ab)
theorem X5 (j:Nat) (hj:j<m) (hm:m≤99990) (hl:lc≤10) (s:CS):∃ y,exec (oT (n+1)) (ll [0,1,1,1,0,0] cB) (Fg k v m (Int.ofNat j)) (gl x0 v m z::au::iC dr lc zc lb zb W B b s::G)=some y ∧
 (y.1=.normal∧tidy 3 y.2.1 y.2.2=(Fg k v m (Int.ofNat (j+1)),gl x0 v m z::au::iC dr lc zc lb zb W B b (Nk W B k lc (z j) s)::G)):=by
 have ez:aq 0 (Int.ofNat j) 1=j:=by rw[bG];show 0+j*1=j;omega
 have ec:bh .i64 (Int.ofNat j) (Int.ofNat 1)=Int.ofNat (j+1):=by
  have:=Cn j (by omega);rw[fS];exact this
 have T:=tO (n+1) (Cb W B k (z j) lc s).h (Cb W B k (z j) lc s).g (Cb W B k (z j) lc s).q k (Int.ofNat j) x0 v m z dr lc zc lb zb W B s.h s.g s.q b G
 rw[ez,ec] at T
 refine od (Q:=fun y=>y.1=.normal∧tidy 3 y.2.1 y.2.2=(Fg k v m (Int.ofNat (j+1)),gl x0 v m z::au::iC dr lc zc lb zb W B b (Nk W B k lc (z j) s)::G)) T (av _) (aP (ai _ _) UT (fun x h=>by rw[← Tr.af h];simp only[eI.st,aT];exact Va n k x0 v m z dr lc zc lb zb W B b G (Int.ofNat j) (z j) hl s)) (aj _ _) ?_
 refine Tr.ae (fun h0=>?_) (fun h0=>?_)
 · refine Tr.aa wG (Tr.aa (by rw[fz];simp) (Tr.aa wG (Tr.ak ⟨rfl,rfl⟩ (Tr.ag ⟨rfl,rfl⟩))))
 · exfalso
   simp (disch:=omega) only[nV,nW] at h0
   omega
theorem V7 (hm:m≤99990) (hl:lc≤10) (s:CS):exec (oT (n+1)) (ll [0,1,1,1,0,0] cB) (Fg k v m (Int.ofNat m)) (gl x0 v m z::au::iC dr lc zc lb zb W B b s::G)=some (.exit 4,Fg k v m (Int.ofNat m)++[(31,.bool false)],gl x0 v m z::au::iC dr lc zc lb zb W B b s::G):=by
 have ez:aq 0 (Int.ofNat m) 1=m:=by rw[bG];show 0+m*1=m;omega
 have T:=tO (n+1) (Cb W B k (z m) lc s).h (Cb W B k (z m) lc s).g (Cb W B k (z m) lc s).q k (Int.ofNat m) x0 v m z dr lc zc lb zb W B s.h s.g s.q b G;rw[ez] at T;refine iZ T (av _) (aP (ai _ _) UT (fun x h=>by rw[← Tr.af h];simp only[eI.st,aT];exact Va n k x0 v m z dr lc zc lb zb W B b G (Int.ofNat m) (z m) hl s)) (aj _ _) ?_;refine Tr.ae (fun h0=>?_) (fun h0=>Tr.ag rfl);exfalso;simp (disch:=omega) only[nV,nW] at h0;omega
theorem XK (hm:m≤99990) (hl:lc≤10) (s:CS):exec (oT (n+1)) (.block 4 (.loop (ll [0,1,1,1,0,0] cB))) (Fg k v m (Int.ofNat 0)) (gl x0 v m z::au::iC dr lc zc lb zb W B b s::G) =
 some (.normal,Fg k v m (Int.ofNat m)++[(31,.bool false)],gl x0 v m z::au::iC dr lc zc lb zb W B b (HF W B k lc z m s)::G):=by
 refine Kk (n:=n+1) (f:=73) (nt:=83) (d:=2) (i:=4) 4 (fun c=>Fg k v m (Int.ofNat c)) (fun c=>gl x0 v m z::au::iC dr lc zc lb zb W B b (HF W B k lc z c s)::G) m (_,_) (by omega) (fun c hc=>?_) ?_
 · exact X5 n k x0 v m z dr lc zc lb zb W B b G c hc hm hl (HF W B k lc z c s)
 · exact V7 n k x0 v m z dr lc zc lb zb W B b G hm hl _
theorem Tj (hm:m≤99990) (hl:lc≤10) (s:CS):exec (oT (n+1)) rB (Q5 k v m) (gl x0 v m z::au::iC dr lc zc lb zb W B b s::G)=some (.normal,Fg k v m (Int.ofNat m)++[(31,.bool false)],gl x0 v m z::au::iC dr lc zc lb zb W B b (HF W B k lc z m s)::G):=by
 refine iZ (t10 (n+1) k x0 v m z (iC dr lc zc lb zb W B b s::G) (iC dr lc zc lb zb W B b (HF W B k lc z m s)::G)) (av _) (aP (ai _ _) Vk (fun x h=>by rw[← Tr.af h];simp only[eI.st,aT];exact XK n k x0 v m z dr lc zc lb zb W B b G hm hl s)) (aj _ _) ?_;exact Tr.ak ⟨rfl,rfl⟩ (Tr.ag rfl)
end
end Go.Eng.Q
end
