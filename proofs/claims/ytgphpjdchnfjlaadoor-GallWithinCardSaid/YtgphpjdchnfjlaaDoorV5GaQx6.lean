/- Gall: calls within count: those of the functions that it alone reaches. -/
import Derived.Test.YtgphpjdchnfjlaaDoorV5EngThx10
import Derived.Test.YtgphpjdchnfjlaaDoorV5EngRnFx7
import Derived.Test.YtgphpjdchnfjlaaDoorV5EngTkx3
import Derived.Test.YtgphpjdchnfjlaaDoorProg
import Derived.KernelRfl
import Derived.Test.YtgphpjdchnfjlaaDoorV5Gp2x6
import Derived.IntWalk
set_option linter.unusedVariables false
set_option maxRecDepth 100000
set_option linter.unusedSimpArgs false
section
namespace Go.Eng
open Go.Proofs
def lA:List Nat→Code→Code
 | [],c=>c
 | x :: p,c=>match c with
   | .seq a b=>match x with
     | 0=>lA p a
     | _=>lA p b
   | .cond _ a b=>match x with
     | 0=>lA p a
     | _=>lA p b
   | .block _ b=>lA p b
   | .loop b=>lA p b
   | .scope b=>lA p b
   | .rangeFunc _ _ a b=>match x with
     | 0=>lA p a
     | _=>lA p b
   | c=>c
noncomputable def part (f:Func) (p:List Nat):Code:=lA p (aW f)
theorem Cq (j:Nat) (h:j<2 ^ 31):IntKind.i64.wrap ((j:Int)+1)=((j+1:Nat):Int):=by
 rw[show ((j:Int)+1)=((j+1:Nat):Int) by omega];exact Go.IntWalk.i64_in _ wO

def dk (p:Nat→Bool) (N:Nat):Bool:=decide (fN p N 0<N)
theorem pd {p:Nat→Bool} {N:Nat} (h:dk p N=true):fN p N 0<N:=by simpa[dk] using h
theorem vO {p:Nat→Bool} {N:Nat} (h:dk p N=false):fN p N 0=N:=by
 have h1:=(rR p N 0).2.1;have:¬ fN p N 0<N:=by simpa[dk] using h
 omega
theorem cQ (p:Nat→Bool) (N:Nat):dk p N=true↔∃ i,i<N∧p i=true:=by
 obtain ⟨h1,h2,h3,h4⟩:=rR p N 0;constructor
 · intro h;have:=pd h;exact ⟨_,this,h4 wO⟩
 · rintro ⟨i,hi,hp⟩;unfold dk;rw[decide_eq_true_eq];apply Nat.lt_of_not_le;intro hc;have:=h3 i wO wO;rw[this] at hp;cases hp
namespace Q
noncomputable def gL:aO→FuncId→List AV→aa→Option (AV×aa):=tY []
def Ih (f:FuncId):Bool:=Nat.beq f 1000000
noncomputable def cd (n:Nat):aO:=dv Tryd.prog gL KtG.kt 100000 n
noncomputable def il (tab:nH) (n k:Nat):bx:=BF Tryd.prog gL KtG.kt 100000 Ih tab n k
theorem xz (g:FuncId) (h:Ih g=false) (c:aO) (args:List AV) (H:aa):gL c g args H=none:=by
 unfold Ih at h;unfold gL tY;rw[h,cond_false];rfl
theorem nm (n:Nat):∃ x,dv Tryd.prog gL KtG.kt 100000 n .mode [] []=some x:=by
 cases n<;>exact ⟨_,rfl⟩
theorem xD:sl Tryd.prog gL:=Dz [] (fun e he=>by cases he)
theorem gx (tab:nH) (n k:Nat) (ht:∀ k,tab.Ok (cd (n+k))):(il tab n k).Ok (cd (n+k)):=xl _ _ _ _ _ _ _ xz (fun k=>nm _) ht k
theorem dT (n k:Nat):(il aC n k).Ok (cd (n+k)):=gx _ _ _ (fun k=>aR _)
theorem aw (n:Nat):(il aC n 0).Ok (cd n):=dT n 0
end Q
end Go.Eng
end
section
namespace Go.Eng.Q
open Go.Proofs
noncomputable def slA (n len:Nat) (z:Nat→Int):AV:=.slcT none (.M [.arr .i64 z (fR len n)]) n len false
noncomputable def shR (O:Int) (U:Nat) (Z:Nat→Int) (V:Nat) (J:Nat→Int) (W B:Nat→Int):Row:=.M [.one (.int .i64 O),.one (slA 4 U Z),.one (slA 2 V J),.arr .i64 W 20,.arr .u64 B 10]
noncomputable def shV (O:Int) (U:Nat) (Z:Nat→Int) (V:Nat) (J:Nat→Int) (W B:Nat→Int):AV:=.ptrT none (shR O U Z V J W B) 0
noncomputable def ao:bC:=⟨false,[]⟩
noncomputable def gw (n f nt d i:Nat):Cx:=⟨Tryd.prog,cd n,100000,f,nt,KtG.kt f,some (d,i)⟩
def xC:Code→Array Oper
 | .region _ ops _=>ops
 | _=>#[]
def Rq (l:List Oper):Oper:=l.headD { dst:=none,op:=.move (.tmp 0),type:=0,pos := "",after:=#[],guard:=none }
noncomputable def cB:Code:=part Tryd.f73 [1,1,1,0,1,0,1]
noncomputable def cS:eM:={ id0:=6,ops0:=xC (lA [0,1,0,0] cB),pre:=(xC (lA [0,1,0,0] cB)).toList.take 1,ro:=Rq ((xC (lA [0,1,0,0] cB)).toList.drop 1),m:=18,ty:=128 }
noncomputable def cL:bS:={ out:=2,uP:=7,id2:=8,nxt:=3,ops1:=xC (lA [0,1,0,1,0,0,0] cB),ops2:=xC (lA [0,1,0,1,0,0,1,1,0,0] cB),no:=Rq (xC (lA [0,1,0,1,0,0,0] cB)).toList,eo:=Rq (xC (lA [0,1,0,1,0,0,1,1,0,0] cB)).toList,t1:=(xC (lA [0,1,0,1,0,0,0] cB)).toList.tail,t2:=(xC (lA [0,1,0,1,0,0,1,1,0,0] cB)).toList.tail,it:=19,nx:=20,mo:=21,en:=22,rest:=lA [0,1,0,1,0,0,1,1,0,1] cB,km:=267386880+128 }
noncomputable def rz:Code:=lA [0,1,1] cB
noncomputable def cR:p8:={ f:=73,id:=1,body:=cB,pre:=[lA [0,0] cB],S:=cS,L:=cL,suf:=rz }
noncomputable def ji (k:Int):aD:=[(1,.ptr 2 0 0 0),(3,.ptr 2 2 0 0),(4,.ptr 2 3 0 0),(5,.int .i64 k)]
noncomputable def mK (O:Int) (U:Nat) (Z:Nat→Int) (V:Nat) (J:Nat→Int) (W B:Nat→Int) (h:List Int→Bool) (g:List Int→Int) (c:Nat) (b:al):bC:=⟨false,[(0,.row (.G [shV O U Z V J W B])),(0,.fmap (.num .u64) h g c),(0,.row (.G [.map 0 1])),(0,.row (.G [.fn (.func 71) [shV O U Z V J W B] []])),(0,b)]⟩
theorem t5 (n:Nat) (k:Int) (H:aa):aF (gw n 73 83 2 4) (il aC n 0) aK aJ (lA [0,0] cB) (hints (ji k)) (ao::H) =
 Tr.ok (Ex.normal,[(1,AV.ptr 2 0 0 0,none),(3,AV.ptr 2 2 0 0,none),(4,AV.ptr 2 3 0 0,none),(5,AV.int .i64 k,none),(6,AV.nils,none)],ao::H):=by kernel_rfl
theorem tS (n:Nat) (k:Int) (O:Int) (U:Nat) (Z:Nat→Int) (V:Nat) (J:Nat→Int) (W B:Nat→Int) (h:List Int→Bool) (g:List Int→Int) (c:Nat) (b:al) (H:aa):eM.Ng cS (gw n 73 83 2 4) (il aC n 0) (hints (ji k++[(6,.nils)])) (ao::ao::mK O U Z V J W B h g c b::H) =
 (fun (Z0:List AV)=>Tr.ok ([(1,AV.ptr 2 0 0 0,none),(3,AV.ptr 2 2 0 0,none),(4,AV.ptr 2 3 0 0,none),(5,AV.int .i64 k,none),(6,AV.nils,none),(18,AV.map 2 1,none)],ao::ao::{ lock:=false,bs:=[(0,al.row (Row.G Z0)),(0,al.fmap (KK.num IntKind.u64) h g c),(0,al.row (Row.G [AV.map 0 1])),(0,al.row (Row.G [AV.fn (Fn.func 71) Z0 []])),(0,b)] } :: H)) [AV.ptrT none (Row.M [da.one (AV.int .i64 O),da.one (AV.slcT none (Row.M [da.arr .i64 Z (cr U 4)]) 4 U false),da.one (AV.slcT none (Row.M [da.arr .i64 J (cr V 2)]) 2 V false),da.arr .i64 W 20,da.arr IntKind.u64 B 10]) 0]:=by kernel_rfl
theorem tB (n:Nat) (k x y x0:Int) (v m:Nat) (z:Nat→Int) (H:aa):bS.um cL (gw n 73 83 2 4) (il aC n 0) aK aJ 0 1 (.int .u64 x,.int .i64 y) (hints (ji k++[(6,.slc 0 2 v 0 1 m none),(19,.ptr 0 0 0 0)])) (⟨false,[(0,.dead),(0,.row (.I .u64 [x0])),(v,.row (.M [.arr .u64 z m]))]⟩::H) =
 Tr.req (iv m 1 8) (Tr.req (cH 0 0) (Tr.req (dW 1 1) (Tr.req (cH v v) (Tr.req (cH (au 0 m) m) (Tr.ok ([(1,AV.ptr 2 0 0 0,none),(3,AV.ptr 2 2 0 0,none),(4,AV.ptr 2 3 0 0,none),(5,AV.int .i64 k,none),(6,AV.slc 0 2 (Nat.succ v) 0 1 (au m 1) none,none),(19,AV.ptr 0 0 0 0,none)],{ lock:=false,bs:=[(0,al.dead),(0,al.row (Row.I IntKind.u64 [x0])),(Nat.succ v,al.row (Row.M [da.arr IntKind.u64 (qb (qO z 0) m (az [x])) (au m 1)]))] } :: H)))))):=by kernel_rfl
theorem tX (n:Nat) (k x0:Int) (v m:Nat) (z:Nat→Int) (H:aa):bS.v7 cL (gw n 73 83 2 4) (il aC n 0) (hints (ji k++[(6,.slc 0 2 v 0 1 m none),(19,.ptr 0 0 0 0)])) (⟨false,[(0,.dead),(0,.row (.I .u64 [x0])),(v,.row (.M [.arr .u64 z m]))]⟩::H) =
 Tr.ok ([(1,AV.ptr 2 0 0 0,none),(3,AV.ptr 2 2 0 0,none),(4,AV.ptr 2 3 0 0,none),(5,AV.int .i64 k,none),(6,AV.slc 0 2 v 0 1 m none,none),(19,AV.ptr 0 0 0 0,none),(20,AV.tup [AV.bool false],none),(21,AV.bool false,none)],{ lock:=false,bs:=[(0,al.dead),(0,al.row (Row.I IntKind.u64 [x0])),(v,al.row (Row.M [da.arr IntKind.u64 z m]))] } :: H):=by kernel_rfl
theorem tN (n:Nat) (k:Int) (H:aa):bS.v7 cL (gw n 73 83 2 4) (il aC n 0) (hints (ji k++[(6,.nils),(19,.ptr 0 0 0 0)])) (⟨false,[(0,.dead)]⟩::H) =
 Tr.ok ([(1,AV.ptr 2 0 0 0,none),(3,AV.ptr 2 2 0 0,none),(4,AV.ptr 2 3 0 0,none),(5,AV.int .i64 k,none),(6,AV.nils,none),(19,AV.ptr 0 0 0 0,none),(20,AV.tup [AV.bool false],none),(21,AV.bool false,none)],{ lock:=false,bs:=[(0,al.dead)] } :: H):=by kernel_rfl
end Go.Eng.Q
end
section
namespace Go.Eng.Q
open Go.Proofs
noncomputable def gq (x0:Int) (v m:Nat) (z:Nat→Int):bC:=⟨false,[(0,.dead),(0,.row (.I .u64 [x0])),(v,.row (.M [.arr .u64 z m]))]⟩
noncomputable def Ro (k:Int) (v m:Nat):aD:=ji k++[(6,.slc 0 2 v 0 1 m none),(19,.ptr 0 0 0 0),(20,.tup [.bool false]),(21,.bool false)]
noncomputable def oS (n:Nat):Cx:=gw n 73 83 2 4
noncomputable def Ft (k:Int) (v m:Nat) (j:Int):aD:=ji k++[(28,.slc 0 2 v 0 1 m none),(29,.int .i64 (Int.ofNat m)),(30,.int .i64 j)]
noncomputable def Gn (k:Int) (v m:Nat) (x j:Int) (U:Nat) (c:Int):aD:=ji k++[(9,.int .u64 x),(28,.slc 0 2 v 0 1 m none),(29,.int .i64 (Int.ofNat m)),(30,.int .i64 j),(39,.int .i64 (Int.ofNat U)),(40,.int .i64 c)]
theorem t10 (n:Nat) (k x0:Int) (v m:Nat) (z:Nat→Int) (G G':aa):aF (oS n) (il aC n 0) (cE aK 4 (Ft k v m (Int.ofNat 0)) (gq x0 v m z::ao::G) (.ok (.normal,hints (Ft k v m (Int.ofNat m)++[(31,.bool false)]),gq x0 v m z::ao::G'))) aJ rz (hints (Ro k v m)) (gq x0 v m z::ao::G) =
 (fun (Z0:aD)=>Tr.reqP (Z0=Z0∧gq x0 v m z::ao::G=gq x0 v m z::ao::G) (Tr.ok (Ex.normal,[(1,AV.ptr 2 0 0 0,none),(3,AV.ptr 2 2 0 0,none),(4,AV.ptr 2 3 0 0,none),(5,AV.int .i64 k,none),(28,AV.slc 0 2 v 0 1 m none,none),(29,AV.int .i64 (Int.ofNat m),none),(30,AV.int .i64 (Int.ofNat m),none),(31,AV.bool false,none)],gq x0 v m z::ao::G'))) [(1,AV.ptr 2 0 0 0),(3,AV.ptr 2 2 0 0),(4,AV.ptr 2 3 0 0),(5,AV.int .i64 k),(28,AV.slc 0 2 v 0 1 m none),(29,AV.int .i64 (Int.ofNat m)),(30,AV.int .i64 (Int.ofNat 0))]:=by kernel_rfl
theorem tO (n:Nat) (h':List Int→Bool) (g':List Int→Int) (q':Nat) (k j x0:Int) (v m:Nat) (z:Nat→Int) (O:Int) (U:Nat) (Z:Nat→Int) (V:Nat) (J:Nat→Int) (W B:Nat→Int) (h:List Int→Bool) (g:List Int→Int) (q:Nat) (b:al) (G:aa):aF (oS n) (il aC n 0) (cE aK 6 (Gn k v m (z (aq 0 j 1)) j U (Int.ofNat 0)) (gq x0 v m z::ao::mK O U Z V J W B h g q b::G) (.ok (.normal,hints (Gn k v m (z (aq 0 j 1)) j U (Int.ofNat U)++[(41,.bool false)]),gq x0 v m z::ao::mK O U Z V J W B h' g' q' b::G))) aJ (lA [0,1,1,1,0,0] cB) (hints (Ft k v m j)) (gq x0 v m z::ao::mK O U Z V J W B h g q b::G) =
 (fun (Z0:aD)=>Tr.ite (bF j (Int.ofNat m)) (Tr.req (cu j m) (Tr.req (cH v v) (Tr.req (bX (aq 0 j 1) m) (Tr.reqP (Z0=Z0∧gq x0 v m z::ao::mK O U Z V J W B h g q b::G=gq x0 v m z::ao::mK O U Z V J W B h g q b::G) (Tr.ok (Ex.normal,[(1,AV.ptr 2 0 0 0,none),(3,AV.ptr 2 2 0 0,none),(4,AV.ptr 2 3 0 0,none),(5,AV.int .i64 k,none),(28,AV.slc 0 2 v 0 1 m none,none),(29,AV.int .i64 (Int.ofNat m),none),(30,AV.int .i64 (bj .i64 j (Int.ofNat 1)),none)],gq x0 v m z::ao::{ lock:=false,bs:=[(0,al.row (Row.G [shV O U Z V J W B])),(0,al.fmap (KK.num IntKind.u64) (mZ h' [z (aq 0 j 1)] false) (m4 g' [z (aq 0 j 1)] (Int.ofNat 0)) (yk (h' [z (aq 0 j 1)]) q')),(0,al.row (Row.G [AV.map 0 1])),(0,al.row (Row.G [AV.fn (Fn.func 71) [shV O U Z V J W B] []])),(0,b)] } :: G)))))) (Tr.ok (Ex.exit 4,[(1,AV.ptr 2 0 0 0,none),(3,AV.ptr 2 2 0 0,none),(4,AV.ptr 2 3 0 0,none),(5,AV.int .i64 k,none),(28,AV.slc 0 2 v 0 1 m none,none),(29,AV.int .i64 (Int.ofNat m),none),(30,AV.int .i64 j,none),(31,AV.bool false,some 1)],gq x0 v m z::ao::mK O U Z V J W B h g q b::G))) [(1,AV.ptr 2 0 0 0),(3,AV.ptr 2 2 0 0),(4,AV.ptr 2 3 0 0),(5,AV.int .i64 k),(9,AV.int IntKind.u64 (z (aq 0 j 1))),(28,AV.slc 0 2 v 0 1 m none),(29,AV.int .i64 (Int.ofNat m)),(30,AV.int .i64 j),(39,AV.int .i64 (Int.ofNat U)),(40,AV.int .i64 (Int.ofNat 0))]:=by kernel_rfl
theorem tI (n:Nat) (k j x x0 c:Int) (v m:Nat) (z:Nat→Int) (O:Int) (U:Nat) (Z:Nat→Int) (V:Nat) (J:Nat→Int) (W B:Nat→Int) (h:List Int→Bool) (g:List Int→Int) (q:Nat) (b:al) (G:aa):aF (oS (n+1)) (il aC n 1) aK aJ (lA [0,1,1,1,0,0,1,1,0,0,1,0,1,0,0] cB) (hints (Gn k v m x j U c)) (gq x0 v m z::ao::mK O U Z V J W B h g q b::G) =
 (fun (Z0:aT)=>Tr.ite (bF c (Int.ofNat U)) (Tr.req (di (Int.ofNat 0) c) (Tr.ite (cq (mj IntKind.u64 x (eC IntKind.u64 (Int.ofNat 1) c)) (Int.ofNat 0)) (Tr.req (cu c 10) (Tr.req (dP (aq 23 c 1) 1 23 10) (Tr.ite (cq (A3 IntKind.u64 (B (bQ (aq 23 c 1) 23)) x) (Int.ofNat 0)) (Tr.req (cu c 10) (Tr.req (dP (aq 3 c 2) 1 3 20) (Tr.req (dP (au (aq 3 c 2) 1) 1 3 20) (Tr.ite (di (W (bQ (aq 3 c 2) 3)) k) (Tr.ite (di k (W (bQ (au (aq 3 c 2) 1) 3))) (Tr.req (di (Int.ofNat 0) c) (Tr.req (bT (dW 0 0) (dW 0 1)) (Tr.ok (Ex.normal,Z0,gq x0 v m z::ao::{ lock:=false,bs:=[(0,al.row (Row.G [shV O U Z V J W B])),(0,al.fmap (KK.num IntKind.u64) (mZ h [sf IntKind.u64 x (eC IntKind.u64 (Int.ofNat 1) c)] true) (m4 g [sf IntKind.u64 x (eC IntKind.u64 (Int.ofNat 1) c)] (bj .i64 (g [sf IntKind.u64 x (eC IntKind.u64 (Int.ofNat 1) c)]) (g [x]))) (qU (h [sf IntKind.u64 x (eC IntKind.u64 (Int.ofNat 1) c)]) q)),(0,al.row (Row.G [AV.map 0 1])),(0,al.row (Row.G [AV.fn (Fn.func 71) [shV O U Z V J W B] []])),(0,b)] } :: G)))) (Tr.ok (Ex.normal,Z0,gq x0 v m z::ao::mK O U Z V J W B h g q b::G))) (Tr.ok (Ex.normal,Z0,gq x0 v m z::ao::mK O U Z V J W B h g q b::G)))))) (Tr.ok (Ex.normal,Z0,gq x0 v m z::ao::mK O U Z V J W B h g q b::G))))) (Tr.ok (Ex.normal,Z0,gq x0 v m z::ao::mK O U Z V J W B h g q b::G)))) (Tr.ok (Ex.exit 6,[(1,AV.ptr 2 0 0 0,none),(3,AV.ptr 2 2 0 0,none),(4,AV.ptr 2 3 0 0,none),(5,AV.int .i64 k,none),(9,AV.int IntKind.u64 x,none),(28,AV.slc 0 2 v 0 1 m none,none),(29,AV.int .i64 (Int.ofNat m),none),(30,AV.int .i64 j,none),(39,AV.int .i64 (Int.ofNat U),none),(40,AV.int .i64 c,none),(41,AV.bool false,some 1)],gq x0 v m z::ao::mK O U Z V J W B h g q b::G))) [(1,AV.ptr 2 0 0 0,none),(3,AV.ptr 2 2 0 0,none),(4,AV.ptr 2 3 0 0,none),(5,AV.int .i64 k,none),(9,AV.int IntKind.u64 x,none),(28,AV.slc 0 2 v 0 1 m none,none),(29,AV.int .i64 (Int.ofNat m),none),(30,AV.int .i64 j,none),(39,AV.int .i64 (Int.ofNat U),none),(40,AV.int .i64 (bj .i64 c (Int.ofNat 1)),none)]:=by kernel_rfl
end Go.Eng.Q
end
section
namespace Go.Eng.Q
open Go.Proofs
theorem fW {n f nt d i:Nat} {c:Code} {callR:bx} {bl:eV} {rg:nZ} {fr:aD} {H:aa} {T:Tr ev} (e:aF (gw n f nt d i) callR bl rg c (hints fr) H=T) (hC:callR.Ok (cd n)) (hB:bl.Ok (gw n f nt d i) c) (hR:rg.Ok (gw n f nt d i) c) {y:Ex×aD×aa} (h:T.all fun x=>x.st=y):exec (gw n f nt d i) c fr H=some y:=by
 obtain ⟨x,h1,rfl⟩:=h;have:=fX (cx:=gw n f nt d i) hC c hB hR (hints fr) H x (by rw[e];exact h1);rw[aN] at this;exact this
theorem j0 {n f nt d i:Nat} {c:Code} {callR:bx} {bl:eV} {rg:nZ} {fr:aD} {H:aa} {T:Tr ev} {Q:Ex×aD×aa→Prop} (e:aF (gw n f nt d i) callR bl rg c (hints fr) H=T) (hC:callR.Ok (cd n)) (hB:bl.Ok (gw n f nt d i) c) (hR:rg.Ok (gw n f nt d i) c) (h:T.all fun x=>Q x.st):∃ y,exec (gw n f nt d i) c fr H=some y∧Q y:=by
 obtain ⟨x,h1,h2⟩:=h;have:=fX (cx:=gw n f nt d i) hC c hB hR (hints fr) H x (by rw[e];exact h1);rw[aN] at this;exact ⟨_,this,h2⟩
theorem Mi {n f nt d i:Nat} {c:Code} (id:Nat) (F:Nat→aD) (G:Nat→aa) (N:Nat) (p:Nat→Bool) (X:Nat→aD×aa) (Y:aD×aa) (hN:N<99999)
 (hs:∀ j,j<N→∃ x,exec (gw n f nt d i) c (F j) (G j)=some x∧if p j=true then x=(.ret,X j) else x.1=.normal∧tidy (a6 (G 0)) x.2.1 x.2.2=(F (j+1),G (j+1)))
 (he:exec (gw n f nt d i) c (F N) (G N)=some (.exit id,Y)):exec (gw n f nt d i) (.block id (.loop c)) (F 0) (G 0)=some (cond (dk p N) (.ret,X (fN p N 0)) (.normal,Y)):=by
 have key:=jb (body:=exec (gw n f nt d i) c) (n:=a6 (G 0)) F G N p (fun j=>if j<N then (.ret,X j) else (.exit id,Y))
  (fun j hj hp=>by
    obtain ⟨x,h1,h2⟩:=hs j hj;rw[if_neg (by rw[hp];simp)] at h2;obtain ⟨e,f1,g1⟩:=x;obtain ⟨rfl,h3⟩:=h2;exact ⟨_,_,h1,h3⟩)
  (fun j hj hp=>by
    obtain ⟨x,h1,h2⟩:=hs j hj;rw[if_pos hp] at h2;subst h2;rw[if_pos hj];exact ⟨h1,by simp⟩)
  (by
    rw[if_neg (by omega)];exact ⟨he,by simp⟩) N 0 100000 (by omega) (by omega)
 cases hc:dk p N with
 | true =>
   have:=pd hc
   rw[if_pos this] at key
   exact cU (fun id' h=>by cases h) key
 | false =>
   have:=vO hc
   rw[if_neg (by omega)] at key
   exact iD key

theorem Kw {n f nt d i:Nat} {c:Code} (id:Nat) (F:Nat→aD) (G:Nat→aa) (N:Nat) (Y:aD×aa) (hN:N<99999)
 (hs:∀ j,j<N→∃ x,exec (gw n f nt d i) c (F j) (G j)=some x∧(x.1=.normal∧tidy (a6 (G 0)) x.2.1 x.2.2=(F (j+1),G (j+1))))
 (he:exec (gw n f nt d i) c (F N) (G N)=some (.exit id,Y)):exec (gw n f nt d i) (.block id (.loop c)) (F 0) (G 0)=some (.normal,Y):=by
 have:=Mi id F G N (fun _=>false) (fun _=>Y) Y hN (fun j hj=>by
  obtain ⟨x,h1,h2⟩:=hs j hj;exact ⟨x,h1,by rw[if_neg (by simp)];exact h2⟩) he
 have h0:dk (fun _=>false) N=false:=by
  cases h:dk (fun _=>false) N with
  | false=>rfl
  | true=>obtain ⟨i2,_,h2⟩:=(cQ _ _).1 h;cases h2
 rw[h0] at this
 exact this

structure CS where
 h:List Int→Bool
 g:List Int→Int
 q:Nat
noncomputable def Qy (x c:Int) (s:CS):CS:=⟨mZ s.h [sf .u64 x (eC .u64 (Int.ofNat 1) c)] true,m4 s.g [sf .u64 x (eC .u64 (Int.ofNat 1) c)] (bj .i64 (s.g [sf .u64 x (eC .u64 (Int.ofNat 1) c)]) (s.g [x])),qU (s.h [sf .u64 x (eC .u64 (Int.ofNat 1) c)]) s.q⟩
noncomputable def Ij (W B:Nat→Int) (k x c:Int):Bool:=cond (cq (mj .u64 x (eC .u64 (Int.ofNat 1) c)) (Int.ofNat 0)) (cond (cq (A3 .u64 (B (bQ (aq 23 c 1) 23)) x) (Int.ofNat 0)) (cond (di (W (bQ (aq 3 c 2) 3)) k) (di k (W (bQ (au (aq 3 c 2) 1) 3))) false) false) false
noncomputable def JZ (W B:Nat→Int) (k x c:Int) (s:CS):CS:=cond (Ij W B k x c) (Qy x c s) s
noncomputable def Cc (W B:Nat→Int) (k x:Int):Nat→CS→CS
 | 0,s=>s
 | j+1,s=>JZ W B k x (Int.ofNat j) (Cc W B k x j s)
noncomputable def QG (x:Int) (s:CS):CS:=⟨mZ s.h [x] false,m4 s.g [x] (Int.ofNat 0),yk (s.h [x]) s.q⟩
noncomputable def Nz (W B:Nat→Int) (k:Int) (n:Nat) (x:Int) (s:CS):CS:=QG x (Cc W B k x n s)
noncomputable def HN (W B:Nat→Int) (k:Int) (n:Nat) (z:Nat→Int):Nat→CS→CS
 | 0,s=>s
 | j+1,s=>Nz W B k n (z j) (HN W B k n z j s)
section
variable (n:Nat) (k x0:Int) (v m:Nat) (z:Nat→Int) (O:Int) (U:Nat) (Z:Nat→Int) (V:Nat) (J:Nat→Int) (W B:Nat→Int) (b:al) (G:aa)
noncomputable def iM (s:CS):bC:=mK O U Z V J W B s.h s.g s.q b
theorem Yj (j x:Int) (c:Nat) (hc:c<U) (hl:U≤10) (s:CS):∃ y,exec (oS (n+1)) (lA [0,1,1,1,0,0,1,1,0,0,1,0,1,0,0] cB) (Gn k v m x j U (Int.ofNat c)) (gq x0 v m z::ao::iM O U Z V J W B b s::G)=some y ∧
 (y.1=.normal∧tidy 3 y.2.1 y.2.2=(Gn k v m x j U (Int.ofNat (c+1)),gq x0 v m z::ao::iM O U Z V J W B b (JZ W B k x (Int.ofNat c) s)::G)):=by
 refine j0 (Q:=fun y=>y.1=.normal∧tidy 3 y.2.1 y.2.2=(Gn k v m x j U (Int.ofNat (c+1)),gq x0 v m z::ao::iM O U Z V J W B b (JZ W B k x (Int.ofNat c) s)::G)) (tI n k j x x0 (Int.ofNat c) v m z O U Z V J W B s.h s.g s.q b G) (dT n 1) (ah _ _) (aj _ _) ?_
 have ec:bj .i64 (Int.ofNat c) (Int.ofNat 1)=Int.ofNat (c+1):=by
  have:=Cq c (by omega);rw[fT];exact this
 have no:Ij W B k x (Int.ofNat c)=false→JZ W B k x (Int.ofNat c) s=s:=fun h=>by unfold JZ;rw[h];rfl
 have yes:Ij W B k x (Int.ofNat c)=true→JZ W B k x (Int.ofNat c) s=Qy x (Int.ofNat c) s:=fun h=>by unfold JZ;rw[h];rfl
 refine Tr.ae (fun h0=>?_) (fun h0=>?_)
 · refine Tr.ab wG ?_
   refine Tr.ae (fun h1=>?_) (fun h1=>?_)
   · refine Tr.ab wG (Tr.ab wG ?_)
     refine Tr.ae (fun h2=>?_) (fun h2=>?_)
     · refine Tr.ab wG (Tr.ab wG (Tr.ab wG ?_))
       refine Tr.ae (fun h3=>?_) (fun h3=>?_)
       · refine Tr.ae (fun h4=>?_) (fun h4=>?_)
         · refine Tr.ab wG (Tr.ab wG ?_)
           rw[yes (by unfold Ij;rw[h1,h2,h3,h4];rfl),ec]
           exact Tr.ag ⟨rfl,rfl⟩
         · rw[no (by unfold Ij;rw[h1,h2,h3,h4];rfl),ec]
           exact Tr.ag ⟨rfl,rfl⟩
       · rw[no (by unfold Ij;rw[h1,h2,h3];rfl),ec]
         exact Tr.ag ⟨rfl,rfl⟩
     · rw[no (by unfold Ij;rw[h1,h2];rfl),ec]
       exact Tr.ag ⟨rfl,rfl⟩
   · rw[no (by unfold Ij;rw[h1];rfl),ec]
     exact Tr.ag ⟨rfl,rfl⟩
 · exfalso
   simp (disch:=omega) only[nV,nW] at h0
   omega
theorem Wp (j x:Int) (hl:U≤10) (s:CS):exec (oS (n+1)) (lA [0,1,1,1,0,0,1,1,0,0,1,0,1,0,0] cB) (Gn k v m x j U (Int.ofNat U)) (gq x0 v m z::ao::iM O U Z V J W B b s::G)=some (.exit 6,Gn k v m x j U (Int.ofNat U)++[(41,.bool false)],gq x0 v m z::ao::iM O U Z V J W B b s::G):=by
 refine fW (tI n k j x x0 (Int.ofNat U) v m z O U Z V J W B s.h s.g s.q b G) (dT n 1) (ah _ _) (aj _ _) ?_;refine Tr.ae (fun h0=>?_) (fun h0=>Tr.ag rfl);exfalso;simp (disch:=omega) only[nV,nW] at h0;omega
theorem Vv (j x:Int) (hl:U≤10) (s:CS):exec (oS (n+1)) (.block 6 (.loop (lA [0,1,1,1,0,0,1,1,0,0,1,0,1,0,0] cB))) (Gn k v m x j U (Int.ofNat 0)) (gq x0 v m z::ao::iM O U Z V J W B b s::G) =
 some (.normal,Gn k v m x j U (Int.ofNat U)++[(41,.bool false)],gq x0 v m z::ao::iM O U Z V J W B b (Cc W B k x U s)::G):=by
 refine Kw (n:=n+1) (f:=73) (nt:=83) (d:=2) (i:=4) 6 (fun c=>Gn k v m x j U (Int.ofNat c)) (fun c=>gq x0 v m z::ao::iM O U Z V J W B b (Cc W B k x c s)::G) U (_,_) (by omega) (fun c hc=>?_) ?_
 · exact Yj n k x0 v m z O U Z V J W B b G j x c hc hl (Cc W B k x c s)
 · exact Wp n k x0 v m z O U Z V J W B b G j x hl _
theorem b6:∀ b,(6,b) ∈ aI (part Tryd.f73 [1,1,1,0,1,0,1,0,1,1,1,0,0])→b=.loop (part Tryd.f73 [1,1,1,0,1,0,1,0,1,1,1,0,0,1,1,0,0,1,0,1,0,0]):=dJ (by kernel_rfl)
theorem b4:∀ b,(4,b) ∈ aI (part Tryd.f73 [1,1,1,0,1,0,1,0,1,1])→b=.loop (part Tryd.f73 [1,1,1,0,1,0,1,0,1,1,1,0,0]):=dJ (by kernel_rfl)
end
end Go.Eng.Q
end
section
namespace Go.Eng.Q
open Go.Proofs Go.Eng.Gall
theorem LZ (x:Nat):BitVec.ofInt 64 (x:Int)=BitVec.ofNat 64 x:=by
 apply BitVec.eq_of_toInt_eq;simp
theorem jT {x:Nat} (h:x<2 ^ 64):IntKind.u64.wrap (x:Int)=x:=Go.IntWalk.u64_in _ (by omega)
theorem QP {x y:Nat} (hx:x<2 ^ 63) (hy:y<2 ^ 63):sf .u64 (x:Int) (y:Int)=((x ||| y:Nat):Int):=by
 rw[tW];show IntKind.u64.wrap ((BitVec.ofInt 64 (x:Int) ||| BitVec.ofInt 64 (y:Int)).toNat:Nat)=_;have h1:x ||| y<2 ^ 63:=Nat.or_lt_two_pow hx hy;rw[LZ,LZ,BitVec.toNat_or,BitVec.toNat_ofNat,BitVec.toNat_ofNat,Nat.mod_eq_of_lt (by omega),Nat.mod_eq_of_lt (by omega),jT (by omega)]
theorem LS {x y:Nat} (hx:x<2 ^ 63) (hy:y<2 ^ 63):mj .u64 (x:Int) (y:Int)=((x &&& y:Nat):Int):=by
 rw[rG];show IntKind.u64.wrap ((BitVec.ofInt 64 (x:Int) &&& BitVec.ofInt 64 (y:Int)).toNat:Nat)=_;have h1:x &&& y<2 ^ 63:=Nat.and_lt_two_pow x hy;rw[LZ,LZ,BitVec.toNat_and,BitVec.toNat_ofNat,BitVec.toNat_ofNat,Nat.mod_eq_of_lt (by omega),Nat.mod_eq_of_lt (by omega),jT (by omega)]
theorem B9 {i:Nat} (hi:i<62):eC .u64 (Int.ofNat 1) (Int.ofNat i)=((2 ^ i:Nat):Int):=by
 rw[xU];show IntKind.u64.wrap (1*2 ^ min i 64)=_;have:(2:Nat) ^ i≤2 ^ 62:=Nat.pow_le_pow_right (by decide) (by omega);rw[Nat.min_eq_left (by omega),Int.one_mul,show (2:Int) ^ i=((2 ^ i:Nat):Int) from by rw[Int.natCast_pow];rfl];generalize (2:Nat) ^ i=P at *;exact jT (by omega)
theorem Bb {X c:Nat} (hX:X<2 ^ 62) (hc:c<62):cq (mj .u64 (X:Int) (eC .u64 (Int.ofNat 1) (Int.ofNat c))) (Int.ofNat 0)=!X.testBit c:=by
 have:(2:Nat) ^ c≤2 ^ 61:=Nat.pow_le_pow_right (by decide) (by omega);rw[B9 hc,LS (by omega) (by omega),aQ];have key:(X &&& 2 ^ c=0)↔X.testBit c=false:=by
  constructor
  · intro h;have:=congrArg (fun y=>y.testBit c) h;simpa[Nat.testBit_and,Nat.testBit_two_pow_self] using this
  · intro h;apply Nat.eq_of_testBit_eq;intro i;rw[Nat.testBit_and,Nat.testBit_two_pow,Nat.zero_testBit];by_cases e:c=i
    · subst e;rw[h];rfl
    · rw[decide_eq_false e,Bool.and_false]
 rw[Bool.eq_iff_iff,beq_iff_eq,Bool.not_eq_true',← key];show ((X &&& 2 ^ c:Nat):Int)=0↔_;omega
theorem Bc {X c:Nat} (hX:X<2 ^ 62) (hc:c<62) (h:X.testBit c=false):sf .u64 (X:Int) (eC .u64 (Int.ofNat 1) (Int.ofNat c))=((X+2 ^ c:Nat):Int):=by
 have:(2:Nat) ^ c≤2 ^ 61:=Nat.pow_le_pow_right (by decide) (by omega);rw[B9 hc,QP (by omega) (by omega),Hc h]
noncomputable def okW (W B:Nat→Int) (k X c:Nat):Bool:=cq (A3 .u64 (B c) (X:Int)) (Int.ofNat 0) && (di (W (2*c)) (k:Int) && di (k:Int) (W (2*c+1)))
theorem MW (W B:Nat→Int) (k:Nat) {X c:Nat} (hX:X<2 ^ 62) (hc:c<62):Ij W B (k:Int) (X:Int) (Int.ofNat c)=(!X.testBit c && okW W B k X c):=by
 unfold Ij okW;rw[Bb hX hc];simp only[bo,aH,cw];rw[show 23+(Int.ofNat c).toNat*1-23=c by show 23+c*1-23=c;omega,show 3+(Int.ofNat c).toNat*2-3=2*c by show 3+c*2-3=2*c;omega,show 3+(Int.ofNat c).toNat*2+1-3=2*c+1 by show 3+c*2+1-3=2*c+1;omega];cases (!X.testBit c)<;>cases (cq (A3 .u64 (B c) (X:Int)) (Int.ofNat 0))<;>cases (di (W (2*c)) (k:Int))<;>cases (di (k:Int) (W (2*c+1)))<;>rfl
def mJ (h:Nat→Bool) (g:Nat→Nat) (q:Nat):CS:=⟨fun l=>match l with | [y]=>decide (0≤y) && h y.toNat | _=>false,fun l=>match l with | [y]=>if 0≤y then (g y.toNat:Int) else 0 | _=>0,q⟩
theorem tk (h:Nat→Bool) (g:Nat→Nat) (q:Nat) (X:Nat) (b:Bool):fH (mJ h g q).h [(X:Int)] b=(mJ (fun y=>if y=X then b else h y) g q).h:=by
 funext l;unfold fH;by_cases e:l=[(X:Int)]
 · subst e;rw[if_pos rfl];show b=(decide ((0:Int)≤(X:Int)) && (if (X:Int).toNat=X then b else _));rw[if_pos (Int.toNat_natCast X),decide_eq_true (by omega)];simp
 · rw[if_neg e];match l,e with
   | [],_=>rfl
   | [y],e =>
     show (decide (0≤y) && h y.toNat)=(decide (0≤y) && (if y.toNat=X then b else h y.toNat));by_cases h0:0≤y
     · rw[if_neg (fun hy=>e (by rw[show y=(X:Int) by omega]))]
     · rw[decide_eq_false h0];rfl
   | _::_::_,_=>rfl
theorem tl (h:Nat→Bool) (g:Nat→Nat) (q:Nat) (X:Nat) (z:Nat):iX (mJ h g q).g [(X:Int)] (z:Int)=(mJ h (fun y=>if y=X then z else g y) q).g:=by
 funext l;unfold iX;by_cases e:l=[(X:Int)]
 · subst e;rw[if_pos rfl];show (z:Int)=(if (0:Int)≤(X:Int) then (((if (X:Int).toNat=X then z else _):Nat):Int) else 0);rw[if_pos (by omega),if_pos (Int.toNat_natCast X)]
 · rw[if_neg e];match l,e with
   | [],_=>rfl
   | [y],e =>
     show (if 0≤y then (g y.toNat:Int) else 0)=(if 0≤y then (((if y.toNat=X then z else g y.toNat):Nat):Int) else 0);by_cases h0:0≤y
     · rw[if_pos h0,if_pos h0,if_neg (fun hy=>e (by rw[show y=(X:Int) by omega]))]
     · rw[if_neg h0,if_neg h0]
   | _::_::_,_=>rfl
theorem GM (h:Nat→Bool) (g:Nat→Nat) (q X:Nat):(mJ h g q).g [(X:Int)]=(g X:Int):=by
 show (if (0:Int)≤(X:Int) then (g (X:Int).toNat:Int) else 0)=_;rw[if_pos (by omega),Int.toNat_natCast]
def Gd (s:CS):Prop:=∃ es,rF (.num .u64) es s.h s.g s.q
theorem Gw {h:List Int→Bool} {g:List Int→Int} {q:Nat} (hE:∃ es,rF (.num .u64) es h g q) (a y:Int):∃ es,rF (.num .u64) es (fH h [a] true) (iX g [a] y) (uZ (h [a]) q):=by
 obtain ⟨es,hE⟩:=hE;cases hh:h [a] with
 | false=>exact ⟨_,hh ▸ hE.Us (n:=[a]) (y:=y) rfl (r:=none) hh (fun j hj=>by cases hj)⟩
 | true =>
   obtain ⟨_,j,j1,j2⟩:=hE.all _ hh;obtain ⟨n,e1,e2⟩:=hE.ent j j1;have:eK (.num .u64) n=eK (.num .u64) [a]:=by rw[← j2,e1]
   have hn:n=[a]:=jo (hE.fit e2) rfl this;subst hn;exact ⟨_,hh ▸ hE.Us (n:=[a]) (y:=y) rfl (r:=some j) hh (fun j' hj'=>by cases hj';exact ⟨j1,e1⟩)⟩
theorem Mp {h:List Int→Bool} {g:List Int→Int} {q:Nat} (hE:∃ es,rF (.num .u64) es h g q) (a:Int):∃ es,rF (.num .u64) es (fH h [a] false) (iX g [a] 0) (yj (h [a]) q):=by
 obtain ⟨es,hE⟩:=hE;cases hh:h [a] with
 | false=>exact ⟨_,hh ▸ hE.del (n:=[a]) rfl (r:=none) hh (fun j hj=>by cases hj)⟩
 | true =>
   obtain ⟨_,j,j1,j2⟩:=hE.all _ hh;obtain ⟨n,e1,e2⟩:=hE.ent j j1;have:eK (.num .u64) n=eK (.num .u64) [a]:=by rw[← j2,e1]
   have hn:n=[a]:=jo (hE.fit e2) rfl this;subst hn;exact ⟨_,hh ▸ hE.del (n:=[a]) rfl (r:=some j) hh (fun j' hj'=>by cases hj';exact ⟨j1,e1⟩)⟩
theorem HO (W B:Nat→Int) (k X:Nat) (hX:X<2 ^ 10) (h:Nat→Bool) (g:Nat→Nat) (q:Nat) (hG:Gd (mJ h g q)):∀ j,j≤10→(∀ i,i≤j→∀ Y,g Y+g X*cT (okW W B) i k X Y<2 ^ 60) →
 ∃ q',Cc W B (k:Int) (X:Int) j (mJ h g q)=mJ (fun Y=>h Y || decide (0<cT (okW W B) j k X Y)) (fun Y=>g Y+g X*cT (okW W B) j k X Y) q'∧Gd (Cc W B (k:Int) (X:Int) j (mJ h g q))
 | 0,_,_=>⟨q,by
    have e:∀ Y,cT (okW W B) 0 k X Y=0:=fun Y=>rfl;simp only[e,Nat.mul_zero,Nat.add_zero];show mJ h g q=_;congr 1;funext Y;simp,hG⟩
 | j + 1,hj,hb=>by
   obtain ⟨q',e,hG'⟩:=HO W B k X hX h g q hG j (by omega) (fun i hi=>hb i (by omega));have hX2:X<2 ^ 62:=by omega
   have e2:Cc W B (k:Int) (X:Int) (j+1) (mJ h g q)=JZ W B (k:Int) (X:Int) (Int.ofNat j) (Cc W B (k:Int) (X:Int) j (mJ h g q)):=rfl;rw[e2];rw[e] at hG' ⊢;unfold JZ;rw[MW W B k hX2 (by omega)];cases ho:(!X.testBit j && okW W B k X j) with
   | false =>
     refine ⟨q',?_,hG'⟩;have:∀ Y,cT (okW W B) (j+1) k X Y=cT (okW W B) j k X Y:=fun Y=>by rw[Bg,ho];simp
     simp only[this];rfl
   | true =>
     have hbit:X.testBit j=false:=by
      cases hx:X.testBit j with
      | false=>rfl
      | true=>rw[hx] at ho;cases ho
     have hc:∀ Y,cT (okW W B) (j+1) k X Y=cT (okW W B) j k X Y+if X+2 ^ j=Y then 1 else 0:=fun Y=>by rw[Bg,ho];simp
     have hself:=CG (ok:=okW W B) j k X;have hp:=Nat.two_pow_pos j;rw[cond_true];have e3:Qy (X:Int) (Int.ofNat j) (mJ (fun Y=>h Y || decide (0<cT (okW W B) j k X Y)) (fun Y=>g Y+g X*cT (okW W B) j k X Y) q') =
      mJ (fun Y=>h Y || decide (0<cT (okW W B) (j+1) k X Y)) (fun Y=>g Y+g X*cT (okW W B) (j+1) k X Y) (uZ ((mJ (fun Y=>h Y || decide (0<cT (okW W B) j k X Y)) (fun Y=>g Y+g X*cT (okW W B) j k X Y) q').h [((X+2 ^ j:Nat):Int)]) q'):=by
      unfold Qy
      rw[Bc hX2 (by omega) hbit,iw,iy,mr,GM,GM,fT,hself]
      have hb2:=hb (j+1) (by omega) (X+2 ^ j)
      rw[hc,if_pos rfl,Nat.mul_add] at hb2
      rw[show (((g (X+2 ^ j)+g X*cT (okW W B) j k X (X+2 ^ j):Nat):Int)+((g X+g X*0:Nat):Int))=((g (X+2 ^ j)+g X*cT (okW W B) j k X (X+2 ^ j)+g X:Nat):Int) by omega,Go.IntWalk.i64_in _ (by omega),tk,tl]
      show CS.mk (mJ _ (fun Y=>g Y+g X*cT (okW W B) j k X Y) q').h (mJ (fun Y=>h Y || decide (0<cT (okW W B) j k X Y)) _ q').g _=_
      have a1:(fun y=>if y=X+2 ^ j then true else (h y || decide (0<cT (okW W B) j k X y)))=fun Y=>h Y || decide (0<cT (okW W B) (j+1) k X Y):=by
       funext Y;rw[hc];by_cases e:Y=X+2 ^ j
       · subst e;rw[if_pos rfl,if_pos rfl,decide_eq_true (by omega)];simp
       · rw[if_neg e,if_neg (fun h=>e h.symm)];rfl
      have a2:(fun y=>if y=X+2 ^ j then g (X+2 ^ j)+g X*cT (okW W B) j k X (X+2 ^ j)+g X else g y+g X*cT (okW W B) j k X y)=fun Y=>g Y+g X*cT (okW W B) (j+1) k X Y:=by
       funext Y;rw[hc];by_cases e:Y=X+2 ^ j
       · subst e;rw[if_pos rfl,if_pos rfl,Nat.mul_add];omega
       · rw[if_neg e,if_neg (fun h=>e h.symm)];rfl
      rw[a1,a2];rfl
     refine ⟨_,e3,?_⟩;unfold Qy;rw[iw,iy,mr];exact Gw hG' _ _
theorem NA (W B:Nat→Int) (k X n:Nat) (hX:X<2 ^ 10) (h:Nat→Bool) (g:Nat→Nat) (q:Nat) (hG:Gd (mJ h g q)) (hn:n≤10) (hb:∀ i,i≤n→∀ Y,g Y+g X*cT (okW W B) i k X Y<2 ^ 60) :
 ∃ q',Nz W B (k:Int) n (X:Int) (mJ h g q)=mJ (fun Y=>!decide (Y=X) && (h Y || decide (0<cT (okW W B) n k X Y))) (fun Y=>if Y=X then 0 else g Y+g X*cT (okW W B) n k X Y) q'∧Gd (Nz W B (k:Int) n (X:Int) (mJ h g q)):=by
 obtain ⟨q',e,hG'⟩:=HO W B k X hX h g q hG n hn hb
 unfold Nz
 rw[e] at hG' ⊢
 have e3:QG (X:Int) (mJ (fun Y=>h Y || decide (0<cT (okW W B) n k X Y)) (fun Y=>g Y+g X*cT (okW W B) n k X Y) q')=mJ (fun Y=>!decide (Y=X) && (h Y || decide (0<cT (okW W B) n k X Y))) (fun Y=>if Y=X then 0 else g Y+g X*cT (okW W B) n k X Y) (yj ((mJ (fun Y=>h Y || decide (0<cT (okW W B) n k X Y)) (fun Y=>g Y+g X*cT (okW W B) n k X Y) q').h [(X:Int)]) q'):=by
  unfold QG;rw[iw,iy,sG,tk,show (Int.ofNat 0:Int)=((0:Nat):Int) from rfl,tl];have a1:(fun y=>if y=X then false else (h y || decide (0<cT (okW W B) n k X y)))=fun Y=>!decide (Y=X) && (h Y || decide (0<cT (okW W B) n k X Y)):=by
   funext Y;by_cases e:Y=X
   · rw[if_pos e,decide_eq_true e];rfl
   · rw[if_neg e,decide_eq_false e];rfl
  rw[a1];rfl
 refine ⟨_,e3,?_⟩
 unfold QG
 rw[iw,iy,sG]
 exact Mp hG' _
theorem Ny (W B:Nat→Int) (k n:Nat) (hn:n≤10) (hk:k≤10) (q:Nat):∀ (L:List Nat) (z:Nat→Int),(∀ j (h:j<L.length),z j=((L[j]:Nat):Int))→L.Nodup→(∀ x ∈ L,0<cF n (okW W B) k x)→Gd (mJ (hD n (okW W B) k []) (gD n (okW W B) k []) q)→∀ m,m≤L.length →
 ∃ q',HN W B (k:Int) n z m (mJ (hD n (okW W B) k []) (gD n (okW W B) k []) q)=mJ (hD n (okW W B) k (L.take m)) (gD n (okW W B) k (L.take m)) q'∧Gd (HN W B (k:Int) n z m (mJ (hD n (okW W B) k []) (gD n (okW W B) k []) q)):=by
 intro L z hz hnd hL hG m
 induction m with
 | zero=>intro _;exact ⟨q,rfl,hG⟩
 | succ m ih =>
   intro hm
   obtain ⟨q',e,hG'⟩:=ih (by omega)
   have e2:HN W B (k:Int) n z (m+1) (mJ (hD n (okW W B) k []) (gD n (okW W B) k []) q)=Nz W B (k:Int) n (z m) (HN W B (k:Int) n z m (mJ (hD n (okW W B) k []) (gD n (okW W B) k []) q)):=rfl
   rw[e2]
   rw[e] at hG' ⊢
   rw[hz m (by omega)]
   have hx:=hL _ (List.getElem_mem (show m<L.length by omega))
   have hlt:=FR hx
   have hp:(2:Nat) ^ n≤2 ^ 10:=Nat.pow_le_pow_right (by decide) hn
   have htake:L.take (m+1)=L.take m++[L[m]'(by omega)]:=by rw[List.take_add_one,List.getElem?_eq_getElem (by omega)];rfl
   have hnin:L[m]'(by omega) ∉ L.take m:=fun hc=>by
    have:=hnd.sublist (List.take_sublist (m+1) L);rw[htake,List.nodup_append] at this;exact this.2.2 _ hc _ List.mem_cons_self rfl
   have hLt:∀ x ∈ L.take m,0<cF n (okW W B) k x:=fun x hx=>hL x (List.mem_of_mem_take hx)
   have hb:∀ i,i≤n→∀ Y,gD n (okW W B) k (L.take m) Y+gD n (okW W B) k (L.take m) (L[m]'(by omega))*cT (okW W B) i k (L[m]'(by omega)) Y<2 ^ 60:=fun i hi Y=>by
    have h1:=OT (hnd.sublist (List.take_sublist m L)) hLt hx hnin i Y hi;have h2:=Kq (n:=n) (ok:=okW W B) k Y;have h3:=Kq (n:=n) (ok:=okW W B) (k+1) Y;have h4:n ^ k≤10 ^ 10:=Nat.le_trans (Nat.pow_le_pow_left hn k) (Nat.pow_le_pow_right (by decide) hk);have h5:n ^ (k+1)≤10 ^ 11:=Nat.le_trans (Nat.pow_le_pow_left hn _) (Nat.pow_le_pow_right (by decide) (by omega));omega
   obtain ⟨q'',e3,hG''⟩:=NA W B k (L[m]'(by omega)) n (by omega) _ _ q' hG' hn hb
   refine ⟨q'',?_,hG''⟩
   rw[e3,htake]
   congr 1
   · funext Y;exact I0 hLt hx Y
   · funext Y;exact IZ hLt hx hnin Y
end Go.Eng.Q
end
section
namespace Go.Eng.Q
open Go.Proofs Go.Eng.Gall
noncomputable def Rn (k:Int):aD:=ji k++[(6,.nils),(18,.map 2 1),(19,.ptr 0 0 0 0),(20,.tup [.bool false]),(21,.bool false)]
noncomputable def Vw:bC:=⟨false,[(0,.dead)]⟩
theorem Yo (n:Nat) (k x y:Int) (H:aa):bS.um cL (oS n) (il aC n 0) aK aJ 0 1 (.int .u64 x,.int .i64 y) (hints (ji k++[(6,.nils),(18,.map 2 1),(19,.ptr 0 0 0 0)])) (⟨false,[(0,.dead)]⟩::H) =
 Tr.req (iv 0 1 8) (Tr.req (cH 0 0) (Tr.req (dW 1 1) (Tr.ok ([(1,AV.ptr 2 0 0 0,none),(3,AV.ptr 2 2 0 0,none),(4,AV.ptr 2 3 0 0,none),(5,AV.int .i64 k,none),(6,AV.slc 0 2 0 0 1 1 none,none),(19,AV.ptr 0 0 0 0,none)],{ lock:=false,bs:=[(0,al.dead),(0,al.row (Row.I IntKind.u64 [x])),(0,al.row (Row.M [da.arr IntKind.u64 (az [x]) 1]))] } :: H)))):=by kernel_rfl
theorem Yp (n:Nat) (k:Int) (H:aa):bS.v7 cL (oS n) (il aC n 0) (hints (ji k++[(6,.nils),(18,.map 2 1),(19,.ptr 0 0 0 0)])) (⟨false,[(0,.dead)]⟩::H) =
 Tr.ok ([(1,AV.ptr 2 0 0 0,none),(3,AV.ptr 2 2 0 0,none),(4,AV.ptr 2 3 0 0,none),(5,AV.int .i64 k,none),(6,AV.nils,none),(18,AV.map 2 1,none),(19,AV.ptr 0 0 0 0,none),(20,AV.tup [AV.bool false],none),(21,AV.bool false,none)],{ lock:=false,bs:=[(0,al.dead)] } :: H):=by kernel_rfl
theorem tZ (n:Nat) (k:Int) (G:aa):aF (oS n) (il aC n 0) aK aJ rz (hints (Rn k)) (⟨false,[(0,.dead)]⟩::ao::G) =
 Tr.ok (Ex.normal,[(1,AV.ptr 2 0 0 0,none),(3,AV.ptr 2 2 0 0,none),(4,AV.ptr 2 3 0 0,none),(5,AV.int .i64 k,none),(28,AV.nils,none),(29,AV.int .i64 (Int.ofNat 0),some 1),(30,AV.int .i64 (Int.ofNat 0),some 1),(31,AV.bool false,some 1)],{ lock:=false,bs:=[(0,al.dead)] } :: ao::G):=by kernel_rfl
theorem nO:lA [0,1,1,1,0,0] cB=part Tryd.f73 [1,1,1,0,1,0,1,0,1,1,1,0,0]:=by kernel_rfl
theorem nI:lA [0,1,1,1,0,0,1,1,0,0,1,0,1,0,0] cB=part Tryd.f73 [1,1,1,0,1,0,1,0,1,1,1,0,0,1,1,0,0,1,0,1,0,0]:=by kernel_rfl
theorem X1:rz=part Tryd.f73 [1,1,1,0,1,0,1,0,1,1]:=by kernel_rfl
theorem Vg:∀ b,(6,b) ∈ aI (lA [0,1,1,1,0,0] cB)→b=.loop (lA [0,1,1,1,0,0,1,1,0,0,1,0,1,0,0] cB):=by rw[nO,nI];exact b6
theorem VF:∀ b,(4,b) ∈ aI rz→b=.loop (lA [0,1,1,1,0,0] cB):=by rw[X1,nO];exact b4
section
variable (n:Nat) (k x0:Int) (v m:Nat) (z:Nat→Int) (O:Int) (U:Nat) (Z:Nat→Int) (V:Nat) (J:Nat→Int) (W B:Nat→Int) (b:al) (G:aa)
theorem Yk (j:Nat) (hj:j<m) (hm:m≤99990) (hl:U≤10) (s:CS):∃ y,exec (oS (n+1)) (lA [0,1,1,1,0,0] cB) (Ft k v m (Int.ofNat j)) (gq x0 v m z::ao::iM O U Z V J W B b s::G)=some y ∧
 (y.1=.normal∧tidy 3 y.2.1 y.2.2=(Ft k v m (Int.ofNat (j+1)),gq x0 v m z::ao::iM O U Z V J W B b (Nz W B k U (z j) s)::G)):=by
 have ez:aq 0 (Int.ofNat j) 1=j:=by rw[bo];show 0+j*1=j;omega
 have ec:bj .i64 (Int.ofNat j) (Int.ofNat 1)=Int.ofNat (j+1):=by
  have:=Cq j (by omega);rw[fT];exact this
 have T:=tO (n+1) (Cc W B k (z j) U s).h (Cc W B k (z j) U s).g (Cc W B k (z j) U s).q k (Int.ofNat j) x0 v m z O U Z V J W B s.h s.g s.q b G
 rw[ez,ec] at T
 refine j0 (Q:=fun y=>y.1=.normal∧tidy 3 y.2.1 y.2.2=(Ft k v m (Int.ofNat (j+1)),gq x0 v m z::ao::iM O U Z V J W B b (Nz W B k U (z j) s)::G)) T (aw _) (aU (ah _ _) Vg (fun x h=>by rw[← Tr.af h];simp only[ev.st,aN];exact Vv n k x0 v m z O U Z V J W B b G (Int.ofNat j) (z j) hl s)) (aj _ _) ?_
 refine Tr.ae (fun h0=>?_) (fun h0=>?_)
 · refine Tr.ab wG (Tr.ab (by rw[fV];simp) (Tr.ab wG (Tr.ak ⟨rfl,rfl⟩ (Tr.ag ⟨rfl,rfl⟩))))
 · exfalso
   simp (disch:=omega) only[nV,nW] at h0
   omega
theorem Wq (hm:m≤99990) (hl:U≤10) (s:CS):exec (oS (n+1)) (lA [0,1,1,1,0,0] cB) (Ft k v m (Int.ofNat m)) (gq x0 v m z::ao::iM O U Z V J W B b s::G)=some (.exit 4,Ft k v m (Int.ofNat m)++[(31,.bool false)],gq x0 v m z::ao::iM O U Z V J W B b s::G):=by
 have ez:aq 0 (Int.ofNat m) 1=m:=by rw[bo];show 0+m*1=m;omega
 have T:=tO (n+1) (Cc W B k (z m) U s).h (Cc W B k (z m) U s).g (Cc W B k (z m) U s).q k (Int.ofNat m) x0 v m z O U Z V J W B s.h s.g s.q b G;rw[ez] at T;refine fW T (aw _) (aU (ah _ _) Vg (fun x h=>by rw[← Tr.af h];simp only[ev.st,aN];exact Vv n k x0 v m z O U Z V J W B b G (Int.ofNat m) (z m) hl s)) (aj _ _) ?_;refine Tr.ae (fun h0=>?_) (fun h0=>Tr.ag rfl);exfalso;simp (disch:=omega) only[nV,nW] at h0;omega
theorem XX (hm:m≤99990) (hl:U≤10) (s:CS):exec (oS (n+1)) (.block 4 (.loop (lA [0,1,1,1,0,0] cB))) (Ft k v m (Int.ofNat 0)) (gq x0 v m z::ao::iM O U Z V J W B b s::G) =
 some (.normal,Ft k v m (Int.ofNat m)++[(31,.bool false)],gq x0 v m z::ao::iM O U Z V J W B b (HN W B k U z m s)::G):=by
 refine Kw (n:=n+1) (f:=73) (nt:=83) (d:=2) (i:=4) 4 (fun c=>Ft k v m (Int.ofNat c)) (fun c=>gq x0 v m z::ao::iM O U Z V J W B b (HN W B k U z c s)::G) m (_,_) (by omega) (fun c hc=>?_) ?_
 · exact Yk n k x0 v m z O U Z V J W B b G c hc hm hl (HN W B k U z c s)
 · exact Wq n k x0 v m z O U Z V J W B b G hm hl _
theorem TA (hm:m≤99990) (hl:U≤10) (s:CS):exec (oS (n+1)) rz (Ro k v m) (gq x0 v m z::ao::iM O U Z V J W B b s::G)=some (.normal,Ft k v m (Int.ofNat m)++[(31,.bool false)],gq x0 v m z::ao::iM O U Z V J W B b (HN W B k U z m s)::G):=by
 refine fW (t10 (n+1) k x0 v m z (iM O U Z V J W B b s::G) (iM O U Z V J W B b (HN W B k U z m s)::G)) (aw _) (aU (ah _ _) VF (fun x h=>by rw[← Tr.af h];simp only[ev.st,aN];exact XX n k x0 v m z O U Z V J W B b G hm hl s)) (aj _ _) ?_;exact Tr.ak ⟨rfl,rfl⟩ (Tr.ag rfl)
end
end Go.Eng.Q
end
