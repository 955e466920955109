/- Gall: calls within count: those of the functions that it alone reaches. -/
import Derived.Test.YtgphpjdchnfjlaaDoorV2EngThx10
import Derived.Test.YtgphpjdchnfjlaaDoorV2EngRnFx7
import Derived.Test.YtgphpjdchnfjlaaDoorV2EngTkx2
import Derived.Test.YtgphpjdchnfjlaaDoorProg
import Derived.KernelRfl
import Derived.Test.YtgphpjdchnfjlaaDoorV2Gp1x4
import Derived.IntWalk
set_option linter.unusedVariables false
set_option maxRecDepth 100000
set_option linter.unusedSimpArgs false
section
namespace Go.Eng
open Go.Proofs
def kQ:List Nat→Code→Code
 | [],c=>c
 | x :: p,c=>match c with
   | .seq a b=>match x with
     | 0=>kQ p a
     | _=>kQ p b
   | .cond _ a b=>match x with
     | 0=>kQ p a
     | _=>kQ p b
   | .block _ b=>kQ p b
   | .loop b=>kQ p b
   | .scope b=>kQ p b
   | .rangeFunc _ _ a b=>match x with
     | 0=>kQ p a
     | _=>kQ p b
   | c=>c
noncomputable def part (f:Func) (p:List Nat):Code:=kQ p (bz f)
theorem A5 (j:Nat) (h:j<2 ^ 31):IntKind.i64.wrap ((j:Int)+1)=((j+1:Nat):Int):=by
 rw[show ((j:Int)+1)=((j+1:Nat):Int) by omega]
 exact Go.IntWalk.i64_in _ (by omega)

def eK (p:Nat→Bool) (N:Nat):Bool:=decide (fN p N 0<N)
theorem r6 {p:Nat→Bool} {N:Nat} (h:eK p N=true):fN p N 0<N:=by simpa[eK] using h
theorem uN {p:Nat→Bool} {N:Nat} (h:eK p N=false):fN p N 0=N:=by
 have h1:=(vS p N 0).2.1
 have:¬ fN p N 0<N:=by simpa[eK] using h
 omega
theorem dq (p:Nat→Bool) (N:Nat):eK p N=true↔∃ i,i<N∧p i=true:=by
 obtain ⟨h1,h2,h3,h4⟩:=vS p N 0
 constructor
 · intro h
   have:=r6 h
   exact ⟨_,this,h4 (by omega)⟩
 · rintro ⟨i,hi,hp⟩
   unfold eK
   rw[decide_eq_true_eq]
   apply Nat.lt_of_not_le
   intro hc
   have:=h3 i (by omega) (by omega)
   rw[this] at hp;cases hp
namespace Q
noncomputable def ka:aB→FuncId→List AV→aa→Option (AV×aa):=wv []
def Gi (f:FuncId):Bool:=Nat.beq f 1000000
noncomputable def cd (n:Nat):aB:=c6 Tryd.prog ka KtG.kt 100000 n
noncomputable def il (tab:mZ) (n k:Nat):bo:=Am Tryd.prog ka KtG.kt 100000 Gi tab n k
theorem wk (g:FuncId) (h:Gi g=false) (c:aB) (args:List AV) (H:aa):ka c g args H=none:=by
 unfold Gi at h
 unfold ka wv
 rw[h,cond_false];rfl
theorem mK (n:Nat):∃ x,c6 Tryd.prog ka KtG.kt 100000 n .mode [] []=some x:=by
 cases n<;>exact ⟨_,rfl⟩
theorem wu:rC Tryd.prog ka:=Cf [] (fun e he=>by cases he)
theorem m6 (tab:mZ) (n k:Nat) (ht:∀ k,tab.Ok (cd (n+k))):(il tab n k).Ok (cd (n+k)):=wb _ _ _ _ _ _ _ wk (fun k=>mK _) ht k
theorem iv (n k:Nat):(il a6 n k).Ok (cd (n+k)):=m6 _ _ _ (fun k=>bx _)
theorem aJ (n:Nat):(il a6 n 0).Ok (cd n):=iv n 0
end Q
end Go.Eng
end
section
namespace Go.Eng.Q
open Go.Proofs
noncomputable def slA (n len:Nat) (z:Nat→Int):AV:=.slcT none (.M [.arr .i64 z (fE len n)]) n len false
noncomputable def shR (dr:Int) (lc:Nat) (zc:Nat→Int) (lb:Nat) (zb:Nat→Int) (W B:Nat→Int):Row:=.M [.one (.int .i64 dr),.one (slA 4 lc zc),.one (slA 2 lb zb),.arr .i64 W 20,.arr .u64 B 10]
noncomputable def shV (dr:Int) (lc:Nat) (zc:Nat→Int) (lb:Nat) (zb:Nat→Int) (W B:Nat→Int):AV:=.ptrT none (shR dr lc zc lb zb W B) 0
noncomputable def aZ:bA:=⟨false,[]⟩
noncomputable def mE (n f nt d i:Nat):Cx:=⟨Tryd.prog,cd n,100000,f,nt,KtG.kt f,some (d,i)⟩
def wq:Code→Array Oper
 | .region _ ops _=>ops
 | _=>#[]
def Ov (l:List Oper):Oper:=l.headD { dst:=none,op:=.move (.tmp 0),type:=0,pos := "",after:=#[],guard:=none }
noncomputable def cB:Code:=part Tryd.f73 [1,1,1,0,1,0,1]
noncomputable def cS:dV:={ id0:=6,ops0:=wq (kQ [0,1,0,0] cB),pre:=(wq (kQ [0,1,0,0] cB)).toList.take 1,ro:=Ov ((wq (kQ [0,1,0,0] cB)).toList.drop 1),m:=18,ty:=128 }
noncomputable def cL:bH:={ out:=2,DN:=7,id2:=8,nxt:=3,ops1:=wq (kQ [0,1,0,1,0,0,0] cB),ops2:=wq (kQ [0,1,0,1,0,0,1,1,0,0] cB),no:=Ov (wq (kQ [0,1,0,1,0,0,0] cB)).toList,eo:=Ov (wq (kQ [0,1,0,1,0,0,1,1,0,0] cB)).toList,t1:=(wq (kQ [0,1,0,1,0,0,0] cB)).toList.tail,t2:=(wq (kQ [0,1,0,1,0,0,1,1,0,0] cB)).toList.tail,it:=19,nx:=20,mo:=21,en:=22,rest:=kQ [0,1,0,1,0,0,1,1,0,1] cB,km:=267386880+128 }
noncomputable def qK:Code:=kQ [0,1,1] cB
noncomputable def cR:ph:={ f:=73,id:=1,body:=cB,pre:=[kQ [0,0] cB],S:=cS,L:=cL,suf:=qK }
noncomputable def iR (k:Int):az:=[(1,.ptr 2 0 0 0),(3,.ptr 2 2 0 0),(4,.ptr 2 3 0 0),(5,.int .i64 k)]
noncomputable def lZ (dr:Int) (lc:Nat) (zc:Nat→Int) (lb:Nat) (zb:Nat→Int) (W B:Nat→Int) (h:List Int→Bool) (g:List Int→Int) (c:Nat) (b:aq):bA:=⟨false,[(0,.row (.G [shV dr lc zc lb zb W B])),(0,.fmap (.num .u64) h g c),(0,.row (.G [.map 0 1])),(0,.row (.G [.fn (.func 71) [shV dr lc zc lb zb W B] []])),(0,b)]⟩
theorem t5 (n:Nat) (k:Int) (H:aa):aW (mE n 73 83 2 4) (il a6 n 0) bp br (kQ [0,0] cB) (hints (iR k)) (aZ::H) =
 Tr.ok (Ex.normal,[(1,AV.ptr 2 0 0 0,none),(3,AV.ptr 2 2 0 0,none),(4,AV.ptr 2 3 0 0,none),(5,AV.int .i64 k,none),(6,AV.nils,none)],aZ::H):=by kernel_rfl
theorem tS (n:Nat) (k:Int) (dr:Int) (lc:Nat) (zc:Nat→Int) (lb:Nat) (zb:Nat→Int) (W B:Nat→Int) (h:List Int→Bool) (g:List Int→Int) (c:Nat) (b:aq) (H:aa):dV.K4 cS (mE n 73 83 2 4) (il a6 n 0) (hints (iR k++[(6,.nils)])) (aZ::aZ::lZ dr lc zc lb zb W B h g c b::H) =
 (fun (Z0:List AV)=>Tr.ok ([(1,AV.ptr 2 0 0 0,none),(3,AV.ptr 2 2 0 0,none),(4,AV.ptr 2 3 0 0,none),(5,AV.int .i64 k,none),(6,AV.nils,none),(18,AV.map 2 1,none)],aZ::aZ::{ lock:=false,bs:=[(0,aq.row (Row.G Z0)),(0,aq.fmap (KK.num IntKind.u64) h g c),(0,aq.row (Row.G [AV.map 0 1])),(0,aq.row (Row.G [AV.fn (Fn.func 71) Z0 []])),(0,b)] } :: H)) [AV.ptrT none (Row.M [an.one (AV.int .i64 dr),an.one (AV.slcT none (Row.M [an.arr .i64 zc (ar lc 4)]) 4 lc false),an.one (AV.slcT none (Row.M [an.arr .i64 zb (ar lb 2)]) 2 lb false),an.arr .i64 W 20,an.arr IntKind.u64 B 10]) 0]:=by kernel_rfl
theorem tB (n:Nat) (k x y x0:Int) (v m:Nat) (z:Nat→Int) (H:aa):bH.tc cL (mE n 73 83 2 4) (il a6 n 0) bp br 0 1 (.int .u64 x,.int .i64 y) (hints (iR k++[(6,.slc 0 2 v 0 1 m none),(19,.ptr 0 0 0 0)])) (⟨false,[(0,.dead),(0,.row (.I .u64 [x0])),(v,.row (.M [.arr .u64 z m]))]⟩::H) =
 Tr.req (jA m 1 8) (Tr.req (cG 0 0) (Tr.req (gm 1 1) (Tr.req (cG v v) (Tr.req (cG (av 0 m) m) (Tr.ok ([(1,AV.ptr 2 0 0 0,none),(3,AV.ptr 2 2 0 0,none),(4,AV.ptr 2 3 0 0,none),(5,AV.int .i64 k,none),(6,AV.slc 0 2 (Nat.succ v) 0 1 (av m 1) none,none),(19,AV.ptr 0 0 0 0,none)],{ lock:=false,bs:=[(0,aq.dead),(0,aq.row (Row.I IntKind.u64 [x0])),(Nat.succ v,aq.row (Row.M [an.arr IntKind.u64 (po (rv z 0) m (aS [x])) (av m 1)]))] } :: H)))))):=by kernel_rfl
theorem tX (n:Nat) (k x0:Int) (v m:Nat) (z:Nat→Int) (H:aa):bH.u0 cL (mE n 73 83 2 4) (il a6 n 0) (hints (iR k++[(6,.slc 0 2 v 0 1 m none),(19,.ptr 0 0 0 0)])) (⟨false,[(0,.dead),(0,.row (.I .u64 [x0])),(v,.row (.M [.arr .u64 z m]))]⟩::H) =
 Tr.ok ([(1,AV.ptr 2 0 0 0,none),(3,AV.ptr 2 2 0 0,none),(4,AV.ptr 2 3 0 0,none),(5,AV.int .i64 k,none),(6,AV.slc 0 2 v 0 1 m none,none),(19,AV.ptr 0 0 0 0,none),(20,AV.tup [AV.bool false],none),(21,AV.bool false,none)],{ lock:=false,bs:=[(0,aq.dead),(0,aq.row (Row.I IntKind.u64 [x0])),(v,aq.row (Row.M [an.arr IntKind.u64 z m]))] } :: H):=by kernel_rfl
theorem tN (n:Nat) (k:Int) (H:aa):bH.u0 cL (mE n 73 83 2 4) (il a6 n 0) (hints (iR k++[(6,.nils),(19,.ptr 0 0 0 0)])) (⟨false,[(0,.dead)]⟩::H) =
 Tr.ok ([(1,AV.ptr 2 0 0 0,none),(3,AV.ptr 2 2 0 0,none),(4,AV.ptr 2 3 0 0,none),(5,AV.int .i64 k,none),(6,AV.nils,none),(19,AV.ptr 0 0 0 0,none),(20,AV.tup [AV.bool false],none),(21,AV.bool false,none)],{ lock:=false,bs:=[(0,aq.dead)] } :: H):=by kernel_rfl
end Go.Eng.Q
end
section
namespace Go.Eng.Q
open Go.Proofs
noncomputable def jO (x0:Int) (v m:Nat) (z:Nat→Int):bA:=⟨false,[(0,.dead),(0,.row (.I .u64 [x0])),(v,.row (.M [.arr .u64 z m]))]⟩
noncomputable def Ot (k:Int) (v m:Nat):az:=iR k++[(6,.slc 0 2 v 0 1 m none),(19,.ptr 0 0 0 0),(20,.tup [.bool false]),(21,.bool false)]
noncomputable def ob (n:Nat):Cx:=mE n 73 83 2 4
noncomputable def DL (k:Int) (v m:Nat) (j:Int):az:=iR k++[(28,.slc 0 2 v 0 1 m none),(29,.int .i64 (Int.ofNat m)),(30,.int .i64 j)]
noncomputable def Ey (k:Int) (v m:Nat) (x j:Int) (lc:Nat) (c:Int):az:=iR k++[(9,.int .u64 x),(28,.slc 0 2 v 0 1 m none),(29,.int .i64 (Int.ofNat m)),(30,.int .i64 j),(39,.int .i64 (Int.ofNat lc)),(40,.int .i64 c)]
theorem t10 (n:Nat) (k x0:Int) (v m:Nat) (z:Nat→Int) (G G':aa):aW (ob n) (il a6 n 0) (dc bp 4 (DL k v m (Int.ofNat 0)) (jO x0 v m z::aZ::G) (.ok (.normal,hints (DL k v m (Int.ofNat m)++[(31,.bool false)]),jO x0 v m z::aZ::G'))) br qK (hints (Ot k v m)) (jO x0 v m z::aZ::G) =
 (fun (Z0:az)=>Tr.reqP (Z0=Z0∧jO x0 v m z::aZ::G=jO x0 v m z::aZ::G) (Tr.ok (Ex.normal,[(1,AV.ptr 2 0 0 0,none),(3,AV.ptr 2 2 0 0,none),(4,AV.ptr 2 3 0 0,none),(5,AV.int .i64 k,none),(28,AV.slc 0 2 v 0 1 m none,none),(29,AV.int .i64 (Int.ofNat m),none),(30,AV.int .i64 (Int.ofNat m),none),(31,AV.bool false,none)],jO x0 v m z::aZ::G'))) [(1,AV.ptr 2 0 0 0),(3,AV.ptr 2 2 0 0),(4,AV.ptr 2 3 0 0),(5,AV.int .i64 k),(28,AV.slc 0 2 v 0 1 m none),(29,AV.int .i64 (Int.ofNat m)),(30,AV.int .i64 (Int.ofNat 0))]:=by kernel_rfl
theorem tO (n:Nat) (h':List Int→Bool) (g':List Int→Int) (q':Nat) (k j x0:Int) (v m:Nat) (z:Nat→Int) (dr:Int) (lc:Nat) (zc:Nat→Int) (lb:Nat) (zb:Nat→Int) (W B:Nat→Int) (h:List Int→Bool) (g:List Int→Int) (q:Nat) (b:aq) (G:aa):aW (ob n) (il a6 n 0) (dc bp 6 (Ey k v m (z (aC 0 j 1)) j lc (Int.ofNat 0)) (jO x0 v m z::aZ::lZ dr lc zc lb zb W B h g q b::G) (.ok (.normal,hints (Ey k v m (z (aC 0 j 1)) j lc (Int.ofNat lc)++[(41,.bool false)]),jO x0 v m z::aZ::lZ dr lc zc lb zb W B h' g' q' b::G))) br (kQ [0,1,1,1,0,0] cB) (hints (DL k v m j)) (jO x0 v m z::aZ::lZ dr lc zc lb zb W B h g q b::G) =
 (fun (Z0:az)=>Tr.ite (bO j (Int.ofNat m)) (Tr.req (dj j m) (Tr.req (cG v v) (Tr.req (cZ (aC 0 j 1) m) (Tr.reqP (Z0=Z0∧jO x0 v m z::aZ::lZ dr lc zc lb zb W B h g q b::G=jO x0 v m z::aZ::lZ dr lc zc lb zb W B h g q b::G) (Tr.ok (Ex.normal,[(1,AV.ptr 2 0 0 0,none),(3,AV.ptr 2 2 0 0,none),(4,AV.ptr 2 3 0 0,none),(5,AV.int .i64 k,none),(28,AV.slc 0 2 v 0 1 m none,none),(29,AV.int .i64 (Int.ofNat m),none),(30,AV.int .i64 (bg .i64 j (Int.ofNat 1)),none)],jO x0 v m z::aZ::{ lock:=false,bs:=[(0,aq.row (Row.G [shV dr lc zc lb zb W B])),(0,aq.fmap (KK.num IntKind.u64) (mn h' [z (aC 0 j 1)] false) (mq g' [z (aC 0 j 1)] (Int.ofNat 0)) (xg (h' [z (aC 0 j 1)]) q')),(0,aq.row (Row.G [AV.map 0 1])),(0,aq.row (Row.G [AV.fn (Fn.func 71) [shV dr lc zc lb zb W B] []])),(0,b)] } :: G)))))) (Tr.ok (Ex.exit 4,[(1,AV.ptr 2 0 0 0,none),(3,AV.ptr 2 2 0 0,none),(4,AV.ptr 2 3 0 0,none),(5,AV.int .i64 k,none),(28,AV.slc 0 2 v 0 1 m none,none),(29,AV.int .i64 (Int.ofNat m),none),(30,AV.int .i64 j,none),(31,AV.bool false,some 1)],jO x0 v m z::aZ::lZ dr lc zc lb zb W B h g q b::G))) [(1,AV.ptr 2 0 0 0),(3,AV.ptr 2 2 0 0),(4,AV.ptr 2 3 0 0),(5,AV.int .i64 k),(9,AV.int IntKind.u64 (z (aC 0 j 1))),(28,AV.slc 0 2 v 0 1 m none),(29,AV.int .i64 (Int.ofNat m)),(30,AV.int .i64 j),(39,AV.int .i64 (Int.ofNat lc)),(40,AV.int .i64 (Int.ofNat 0))]:=by kernel_rfl
theorem tI (n:Nat) (k j x x0 c:Int) (v m:Nat) (z:Nat→Int) (dr:Int) (lc:Nat) (zc:Nat→Int) (lb:Nat) (zb:Nat→Int) (W B:Nat→Int) (h:List Int→Bool) (g:List Int→Int) (q:Nat) (b:aq) (G:aa):aW (ob (n+1)) (il a6 n 1) bp br (kQ [0,1,1,1,0,0,1,1,0,0,1,0,1,0,0] cB) (hints (Ey k v m x j lc c)) (jO x0 v m z::aZ::lZ dr lc zc lb zb W B h g q b::G) =
 (fun (Z0:aI)=>Tr.ite (bO c (Int.ofNat lc)) (Tr.req (dN (Int.ofNat 0) c) (Tr.ite (cJ (pj IntKind.u64 x (dO IntKind.u64 (Int.ofNat 1) c)) (Int.ofNat 0)) (Tr.req (dj c 10) (Tr.req (fC (aC 23 c 1) 1 23 10) (Tr.ite (cJ (Gt IntKind.u64 (B (dD (aC 23 c 1) 23)) x) (Int.ofNat 0)) (Tr.req (dj c 10) (Tr.req (fC (aC 3 c 2) 1 3 20) (Tr.req (fC (av (aC 3 c 2) 1) 1 3 20) (Tr.ite (dN (W (dD (aC 3 c 2) 3)) k) (Tr.ite (dN k (W (dD (av (aC 3 c 2) 1) 3))) (Tr.req (dN (Int.ofNat 0) c) (Tr.req (b7 (gm 0 0) (gm 0 1)) (Tr.ok (Ex.normal,Z0,jO x0 v m z::aZ::{ lock:=false,bs:=[(0,aq.row (Row.G [shV dr lc zc lb zb W B])),(0,aq.fmap (KK.num IntKind.u64) (mn h [pU IntKind.u64 x (dO IntKind.u64 (Int.ofNat 1) c)] true) (mq g [pU IntKind.u64 x (dO IntKind.u64 (Int.ofNat 1) c)] (bg .i64 (g [pU IntKind.u64 x (dO IntKind.u64 (Int.ofNat 1) c)]) (g [x]))) (qd (h [pU IntKind.u64 x (dO IntKind.u64 (Int.ofNat 1) c)]) q)),(0,aq.row (Row.G [AV.map 0 1])),(0,aq.row (Row.G [AV.fn (Fn.func 71) [shV dr lc zc lb zb W B] []])),(0,b)] } :: G)))) (Tr.ok (Ex.normal,Z0,jO x0 v m z::aZ::lZ dr lc zc lb zb W B h g q b::G))) (Tr.ok (Ex.normal,Z0,jO x0 v m z::aZ::lZ dr lc zc lb zb W B h g q b::G)))))) (Tr.ok (Ex.normal,Z0,jO x0 v m z::aZ::lZ dr lc zc lb zb W B h g q b::G))))) (Tr.ok (Ex.normal,Z0,jO x0 v m z::aZ::lZ dr lc zc lb zb W B h g q b::G)))) (Tr.ok (Ex.exit 6,[(1,AV.ptr 2 0 0 0,none),(3,AV.ptr 2 2 0 0,none),(4,AV.ptr 2 3 0 0,none),(5,AV.int .i64 k,none),(9,AV.int IntKind.u64 x,none),(28,AV.slc 0 2 v 0 1 m none,none),(29,AV.int .i64 (Int.ofNat m),none),(30,AV.int .i64 j,none),(39,AV.int .i64 (Int.ofNat lc),none),(40,AV.int .i64 c,none),(41,AV.bool false,some 1)],jO x0 v m z::aZ::lZ dr lc zc lb zb W B h g q b::G))) [(1,AV.ptr 2 0 0 0,none),(3,AV.ptr 2 2 0 0,none),(4,AV.ptr 2 3 0 0,none),(5,AV.int .i64 k,none),(9,AV.int IntKind.u64 x,none),(28,AV.slc 0 2 v 0 1 m none,none),(29,AV.int .i64 (Int.ofNat m),none),(30,AV.int .i64 j,none),(39,AV.int .i64 (Int.ofNat lc),none),(40,AV.int .i64 (bg .i64 c (Int.ofNat 1)),none)]:=by kernel_rfl
end Go.Eng.Q
end
section
namespace Go.Eng.Q
open Go.Proofs
theorem ni {n f nt d i:Nat} {c:Code} {callR:bo} {bl:eP} {rg:od} {fr:az} {H:aa} {T:Tr fq} (e:aW (mE n f nt d i) callR bl rg c (hints fr) H=T) (hC:callR.Ok (cd n)) (hB:bl.Ok (mE n f nt d i) c) (hR:rg.Ok (mE n f nt d i) c) {y:Ex×az×aa} (h:T.all fun x=>x.st=y):exec (mE n f nt d i) c fr H=some y:=by
 obtain ⟨x,h1,rfl⟩:=h
 have:=fP (cx:=mE n f nt d i) hC c hB hR (hints fr) H x (by rw[e];exact h1)
 rw[aV] at this;exact this
theorem Ac {n f nt d i:Nat} {c:Code} {callR:bo} {bl:eP} {rg:od} {fr:az} {H:aa} {T:Tr fq} {Q:Ex×az×aa→Prop} (e:aW (mE n f nt d i) callR bl rg c (hints fr) H=T) (hC:callR.Ok (cd n)) (hB:bl.Ok (mE n f nt d i) c) (hR:rg.Ok (mE n f nt d i) c) (h:T.all fun x=>Q x.st):∃ y,exec (mE n f nt d i) c fr H=some y∧Q y:=by
 obtain ⟨x,h1,h2⟩:=h
 have:=fP (cx:=mE n f nt d i) hC c hB hR (hints fr) H x (by rw[e];exact h1)
 rw[aV] at this;exact ⟨_,this,h2⟩
theorem Kk {n f nt d i:Nat} {c:Code} (id:Nat) (F:Nat→az) (G:Nat→aa) (N:Nat) (p:Nat→Bool) (X:Nat→az×aa) (Y:az×aa) (hN:N<99999)
 (hs:∀ j,j<N→∃ x,exec (mE n f nt d i) c (F j) (G j)=some x∧if p j=true then x=(.ret,X j) else x.1=.normal∧tidy (aN (G 0)) x.2.1 x.2.2=(F (j+1),G (j+1)))
 (he:exec (mE n f nt d i) c (F N) (G N)=some (.exit id,Y)):exec (mE n f nt d i) (.block id (.loop c)) (F 0) (G 0)=some (cond (eK p N) (.ret,X (fN p N 0)) (.normal,Y)):=by
 have key:=iM (body:=exec (mE n f nt d i) c) (n:=aN (G 0)) F G N p (fun j=>if j<N then (.ret,X j) else (.exit id,Y))
  (fun j hj hp=>by
    obtain ⟨x,h1,h2⟩:=hs j hj
    rw[if_neg (by rw[hp];simp)] at h2
    obtain ⟨e,f1,g1⟩:=x
    obtain ⟨rfl,h3⟩:=h2
    exact ⟨_,_,h1,h3⟩)
  (fun j hj hp=>by
    obtain ⟨x,h1,h2⟩:=hs j hj
    rw[if_pos hp] at h2
    subst h2
    rw[if_pos hj]
    exact ⟨h1,by simp⟩)
  (by
    rw[if_neg (by omega)]
    exact ⟨he,by simp⟩) N 0 100000 (by omega) (by omega)
 cases hc:eK p N with
 | true =>
   have:=r6 hc
   rw[if_pos this] at key
   exact cX (fun id' h=>by cases h) key
 | false =>
   have:=uN hc
   rw[if_neg (by omega)] at key
   exact ib key

theorem IG {n f nt d i:Nat} {c:Code} (id:Nat) (F:Nat→az) (G:Nat→aa) (N:Nat) (Y:az×aa) (hN:N<99999)
 (hs:∀ j,j<N→∃ x,exec (mE n f nt d i) c (F j) (G j)=some x∧(x.1=.normal∧tidy (aN (G 0)) x.2.1 x.2.2=(F (j+1),G (j+1))))
 (he:exec (mE n f nt d i) c (F N) (G N)=some (.exit id,Y)):exec (mE n f nt d i) (.block id (.loop c)) (F 0) (G 0)=some (.normal,Y):=by
 have:=Kk id F G N (fun _=>false) (fun _=>Y) Y hN (fun j hj=>by
  obtain ⟨x,h1,h2⟩:=hs j hj
  exact ⟨x,h1,by rw[if_neg (by simp)];exact h2⟩) he
 have h0:eK (fun _=>false) N=false:=by
  cases h:eK (fun _=>false) N with
  | false=>rfl
  | true=>obtain ⟨i2,_,h2⟩:=(dq _ _).1 h;cases h2
 rw[h0] at this
 exact this

structure CS where
 h:List Int→Bool
 g:List Int→Int
 q:Nat
noncomputable def NQ (x c:Int) (s:CS):CS:=⟨mn s.h [pU .u64 x (dO .u64 (Int.ofNat 1) c)] true,mq s.g [pU .u64 x (dO .u64 (Int.ofNat 1) c)] (bg .i64 (s.g [pU .u64 x (dO .u64 (Int.ofNat 1) c)]) (s.g [x])),qd (s.h [pU .u64 x (dO .u64 (Int.ofNat 1) c)]) s.q⟩
noncomputable def Gk (W B:Nat→Int) (k x c:Int):Bool:=cond (cJ (pj .u64 x (dO .u64 (Int.ofNat 1) c)) (Int.ofNat 0)) (cond (cJ (Gt .u64 (B (dD (aC 23 c 1) 23)) x) (Int.ofNat 0)) (cond (dN (W (dD (aC 3 c 2) 3)) k) (dN k (W (dD (av (aC 3 c 2) 1) 3))) false) false) false
noncomputable def Ia (W B:Nat→Int) (k x c:Int) (s:CS):CS:=cond (Gk W B k x c) (NQ x c s) s
noncomputable def AS (W B:Nat→Int) (k x:Int):Nat→CS→CS
 | 0,s=>s
 | j+1,s=>Ia W B k x (Int.ofNat j) (AS W B k x j s)
noncomputable def NX (x:Int) (s:CS):CS:=⟨mn s.h [x] false,mq s.g [x] (Int.ofNat 0),xg (s.h [x]) s.q⟩
noncomputable def Lm (W B:Nat→Int) (k:Int) (n:Nat) (x:Int) (s:CS):CS:=NX x (AS W B k x n s)
noncomputable def FY (W B:Nat→Int) (k:Int) (n:Nat) (z:Nat→Int):Nat→CS→CS
 | 0,s=>s
 | j+1,s=>Lm W B k n (z j) (FY W B k n z j s)
section
variable (n:Nat) (k x0:Int) (v m:Nat) (z:Nat→Int) (dr:Int) (lc:Nat) (zc:Nat→Int) (lb:Nat) (zb:Nat→Int) (W B:Nat→Int) (b:aq) (G:aa)
noncomputable def dF (s:CS):bA:=lZ dr lc zc lb zb W B s.h s.g s.q b
theorem Uh (j x:Int) (c:Nat) (hc:c<lc) (hl:lc≤10) (s:CS):∃ y,exec (ob (n+1)) (kQ [0,1,1,1,0,0,1,1,0,0,1,0,1,0,0] cB) (Ey k v m x j lc (Int.ofNat c)) (jO x0 v m z::aZ::dF dr lc zc lb zb W B b s::G)=some y ∧
 (y.1=.normal∧tidy 3 y.2.1 y.2.2=(Ey k v m x j lc (Int.ofNat (c+1)),jO x0 v m z::aZ::dF dr lc zc lb zb W B b (Ia W B k x (Int.ofNat c) s)::G)):=by
 refine Ac (Q:=fun y=>y.1=.normal∧tidy 3 y.2.1 y.2.2=(Ey k v m x j lc (Int.ofNat (c+1)),jO x0 v m z::aZ::dF dr lc zc lb zb W B b (Ia W B k x (Int.ofNat c) s)::G)) (tI n k j x x0 (Int.ofNat c) v m z dr lc zc lb zb W B s.h s.g s.q b G) (iv n 1) (ak _ _) (al _ _) ?_
 have ec:bg .i64 (Int.ofNat c) (Int.ofNat 1)=Int.ofNat (c+1):=by
  have:=A5 c (by omega)
  rw[fI];exact this
 have no:Gk W B k x (Int.ofNat c)=false→Ia W B k x (Int.ofNat c) s=s:=fun h=>by unfold Ia;rw[h];rfl
 have yes:Gk W B k x (Int.ofNat c)=true→Ia W B k x (Int.ofNat c) s=NQ x (Int.ofNat c) s:=fun h=>by unfold Ia;rw[h];rfl
 refine Tr.af (fun h0=>?_) (fun h0=>?_)
 · refine Tr.ab (by simp (disch:=omega) only[nV,nW];try omega) ?_
   refine Tr.af (fun h1=>?_) (fun h1=>?_)
   · refine Tr.ab (by simp (disch:=omega) only[nV,nW];omega) (Tr.ab (by simp (disch:=omega) only[nV,nW];omega) ?_)
     refine Tr.af (fun h2=>?_) (fun h2=>?_)
     · refine Tr.ab (by simp (disch:=omega) only[nV,nW];omega) (Tr.ab (by simp (disch:=omega) only[nV,nW];omega) (Tr.ab (by simp (disch:=omega) only[nV,nW];omega) ?_))
       refine Tr.af (fun h3=>?_) (fun h3=>?_)
       · refine Tr.af (fun h4=>?_) (fun h4=>?_)
         · refine Tr.ab (by simp (disch:=omega) only[nV,nW];try omega) (Tr.ab (by simp (disch:=omega) only[nV,nW];try omega) ?_)
           rw[yes (by unfold Gk;rw[h1,h2,h3,h4];rfl),ec]
           exact Tr.ah ⟨rfl,rfl⟩
         · rw[no (by unfold Gk;rw[h1,h2,h3,h4];rfl),ec]
           exact Tr.ah ⟨rfl,rfl⟩
       · rw[no (by unfold Gk;rw[h1,h2,h3];rfl),ec]
         exact Tr.ah ⟨rfl,rfl⟩
     · rw[no (by unfold Gk;rw[h1,h2];rfl),ec]
       exact Tr.ah ⟨rfl,rfl⟩
   · rw[no (by unfold Gk;rw[h1];rfl),ec]
     exact Tr.ah ⟨rfl,rfl⟩
 · exfalso
   simp (disch:=omega) only[nV,nW] at h0
   omega
theorem Sj (j x:Int) (hl:lc≤10) (s:CS):exec (ob (n+1)) (kQ [0,1,1,1,0,0,1,1,0,0,1,0,1,0,0] cB) (Ey k v m x j lc (Int.ofNat lc)) (jO x0 v m z::aZ::dF dr lc zc lb zb W B b s::G)=some (.exit 6,Ey k v m x j lc (Int.ofNat lc)++[(41,.bool false)],jO x0 v m z::aZ::dF dr lc zc lb zb W B b s::G):=by
 refine ni (tI n k j x x0 (Int.ofNat lc) v m z dr lc zc lb zb W B s.h s.g s.q b G) (iv n 1) (ak _ _) (al _ _) ?_
 refine Tr.af (fun h0=>?_) (fun h0=>Tr.ah rfl)
 exfalso
 simp (disch:=omega) only[nV,nW] at h0
 omega
theorem RK (j x:Int) (hl:lc≤10) (s:CS):exec (ob (n+1)) (.block 6 (.loop (kQ [0,1,1,1,0,0,1,1,0,0,1,0,1,0,0] cB))) (Ey k v m x j lc (Int.ofNat 0)) (jO x0 v m z::aZ::dF dr lc zc lb zb W B b s::G) =
 some (.normal,Ey k v m x j lc (Int.ofNat lc)++[(41,.bool false)],jO x0 v m z::aZ::dF dr lc zc lb zb W B b (AS W B k x lc s)::G):=by
 refine IG (n:=n+1) (f:=73) (nt:=83) (d:=2) (i:=4) 6 (fun c=>Ey k v m x j lc (Int.ofNat c)) (fun c=>jO x0 v m z::aZ::dF dr lc zc lb zb W B b (AS W B k x c s)::G) lc (_,_) (by omega) (fun c hc=>?_) ?_
 · exact Uh n k x0 v m z dr lc zc lb zb W B b G j x c hc hl (AS W B k x c s)
 · exact Sj n k x0 v m z dr lc zc lb zb W B b G j x hl _
theorem b6:∀ b,(6,b) ∈ aO (part Tryd.f73 [1,1,1,0,1,0,1,0,1,1,1,0,0])→b=.loop (part Tryd.f73 [1,1,1,0,1,0,1,0,1,1,1,0,0,1,1,0,0,1,0,1,0,0]):=gk (by kernel_rfl)
theorem b4:∀ b,(4,b) ∈ aO (part Tryd.f73 [1,1,1,0,1,0,1,0,1,1])→b=.loop (part Tryd.f73 [1,1,1,0,1,0,1,0,1,1,1,0,0]):=gk (by kernel_rfl)
end
end Go.Eng.Q
end
section
namespace Go.Eng.Q
open Go.Proofs Go.Eng.Gall
theorem J4 (x:Nat):BitVec.ofInt 64 (x:Int)=BitVec.ofNat 64 x:=by
 apply BitVec.eq_of_toInt_eq;simp
theorem jE {x:Nat} (h:x<2 ^ 64):IntKind.u64.wrap (x:Int)=x:=Go.IntWalk.u64_in _ (by omega)
theorem N1 {x y:Nat} (hx:x<2 ^ 63) (hy:y<2 ^ 63):pU .u64 (x:Int) (y:Int)=((x ||| y:Nat):Int):=by
 rw[sW]
 show IntKind.u64.wrap ((BitVec.ofInt 64 (x:Int) ||| BitVec.ofInt 64 (y:Int)).toNat:Nat)=_
 have h1:x ||| y<2 ^ 63:=Nat.or_lt_two_pow hx hy
 rw[J4,J4,BitVec.toNat_or,BitVec.toNat_ofNat,BitVec.toNat_ofNat,Nat.mod_eq_of_lt (by omega),Nat.mod_eq_of_lt (by omega),jE (by omega)]
theorem JX {x y:Nat} (hx:x<2 ^ 63) (hy:y<2 ^ 63):pj .u64 (x:Int) (y:Int)=((x &&& y:Nat):Int):=by
 rw[qU]
 show IntKind.u64.wrap ((BitVec.ofInt 64 (x:Int) &&& BitVec.ofInt 64 (y:Int)).toNat:Nat)=_
 have h1:x &&& y<2 ^ 63:=Nat.and_lt_two_pow x hy
 rw[J4,J4,BitVec.toNat_and,BitVec.toNat_ofNat,BitVec.toNat_ofNat,Nat.mod_eq_of_lt (by omega),Nat.mod_eq_of_lt (by omega),jE (by omega)]
theorem AO {i:Nat} (hi:i<62):dO .u64 (Int.ofNat 1) (Int.ofNat i)=((2 ^ i:Nat):Int):=by
 rw[wM]
 show IntKind.u64.wrap (1*2 ^ min i 64)=_
 have:(2:Nat) ^ i≤2 ^ 62:=Nat.pow_le_pow_right (by decide) (by omega)
 rw[Nat.min_eq_left (by omega),Int.one_mul,show (2:Int) ^ i=((2 ^ i:Nat):Int) from by rw[Int.natCast_pow];rfl]
 generalize (2:Nat) ^ i=P at *
 exact jE (by omega)
theorem D5 {X c:Nat} (hX:X<2 ^ 62) (hc:c<62):cJ (pj .u64 (X:Int) (dO .u64 (Int.ofNat 1) (Int.ofNat c))) (Int.ofNat 0)=!X.testBit c:=by
 have:(2:Nat) ^ c≤2 ^ 61:=Nat.pow_le_pow_right (by decide) (by omega)
 rw[AO hc,JX (by omega) (by omega),aT]
 have key:(X &&& 2 ^ c=0)↔X.testBit c=false:=by
  constructor
  · intro h
    have:=congrArg (fun y=>y.testBit c) h
    simpa[Nat.testBit_and,Nat.testBit_two_pow_self] using this
  · intro h
    apply Nat.eq_of_testBit_eq
    intro i
    rw[Nat.testBit_and,Nat.testBit_two_pow,Nat.zero_testBit]
    by_cases e:c=i
    · subst e;rw[h];rfl
    · rw[decide_eq_false e,Bool.and_false]
 rw[Bool.eq_iff_iff,beq_iff_eq,Bool.not_eq_true',← key]
 show ((X &&& 2 ^ c:Nat):Int)=0↔_
 omega
theorem D6 {X c:Nat} (hX:X<2 ^ 62) (hc:c<62) (h:X.testBit c=false):pU .u64 (X:Int) (dO .u64 (Int.ofNat 1) (Int.ofNat c))=((X+2 ^ c:Nat):Int):=by
 have:(2:Nat) ^ c≤2 ^ 61:=Nat.pow_le_pow_right (by decide) (by omega)
 rw[AO hc,N1 (by omega) (by omega),KZ h]
noncomputable def okW (W B:Nat→Int) (k X c:Nat):Bool:=cJ (Gt .u64 (B c) (X:Int)) (Int.ofNat 0) && (dN (W (2*c)) (k:Int) && dN (k:Int) (W (2*c+1)))
theorem KX (W B:Nat→Int) (k:Nat) {X c:Nat} (hX:X<2 ^ 62) (hc:c<62):Gk W B (k:Int) (X:Int) (Int.ofNat c)=(!X.testBit c && okW W B k X c):=by
 unfold Gk okW
 rw[D5 hX hc]
 simp only[bY,aH,gf]
 rw[show 23+(Int.ofNat c).toNat*1-23=c by show 23+c*1-23=c;omega,show 3+(Int.ofNat c).toNat*2-3=2*c by show 3+c*2-3=2*c;omega,show 3+(Int.ofNat c).toNat*2+1-3=2*c+1 by show 3+c*2+1-3=2*c+1;omega]
 cases (!X.testBit c)<;>cases (cJ (Gt .u64 (B c) (X:Int)) (Int.ofNat 0))<;>cases (dN (W (2*c)) (k:Int))<;>cases (dN (k:Int) (W (2*c+1)))<;>rfl
def lX (h:Nat→Bool) (g:Nat→Nat) (q:Nat):CS:=⟨fun l=>match l with | [y]=>decide (0≤y) && h y.toNat | _=>false,fun l=>match l with | [y]=>if 0≤y then (g y.toNat:Int) else 0 | _=>0,q⟩
theorem su (h:Nat→Bool) (g:Nat→Nat) (q:Nat) (X:Nat) (b:Bool):fo (lX h g q).h [(X:Int)] b=(lX (fun y=>if y=X then b else h y) g q).h:=by
 funext l
 unfold fo
 by_cases e:l=[(X:Int)]
 · subst e
   rw[if_pos rfl]
   show b=(decide ((0:Int)≤(X:Int)) && (if (X:Int).toNat=X then b else _))
   rw[if_pos (Int.toNat_natCast X),decide_eq_true (by omega)];simp
 · rw[if_neg e]
   match l,e with
   | [],_=>rfl
   | [y],e =>
     show (decide (0≤y) && h y.toNat)=(decide (0≤y) && (if y.toNat=X then b else h y.toNat))
     by_cases h0:0≤y
     · rw[if_neg (fun hy=>e (by rw[show y=(X:Int) by omega]))]
     · rw[decide_eq_false h0];rfl
   | _::_::_,_=>rfl
theorem sv (h:Nat→Bool) (g:Nat→Nat) (q:Nat) (X:Nat) (z:Nat):iJ (lX h g q).g [(X:Int)] (z:Int)=(lX h (fun y=>if y=X then z else g y) q).g:=by
 funext l
 unfold iJ
 by_cases e:l=[(X:Int)]
 · subst e
   rw[if_pos rfl]
   show (z:Int)=(if (0:Int)≤(X:Int) then (((if (X:Int).toNat=X then z else _):Nat):Int) else 0)
   rw[if_pos (by omega),if_pos (Int.toNat_natCast X)]
 · rw[if_neg e]
   match l,e with
   | [],_=>rfl
   | [y],e =>
     show (if 0≤y then (g y.toNat:Int) else 0)=(if 0≤y then (((if y.toNat=X then z else g y.toNat):Nat):Int) else 0)
     by_cases h0:0≤y
     · rw[if_pos h0,if_pos h0,if_neg (fun hy=>e (by rw[show y=(X:Int) by omega]))]
     · rw[if_neg h0,if_neg h0]
   | _::_::_,_=>rfl
theorem EX (h:Nat→Bool) (g:Nat→Nat) (q X:Nat):(lX h g q).g [(X:Int)]=(g X:Int):=by
 show (if (0:Int)≤(X:Int) then (g (X:Int).toNat:Int) else 0)=_
 rw[if_pos (by omega),Int.toNat_natCast]
def Gd (s:CS):Prop:=∃ es,qT (.num .u64) es s.h s.g s.q
theorem EE {h:List Int→Bool} {g:List Int→Int} {q:Nat} (hE:∃ es,qT (.num .u64) es h g q) (a y:Int):∃ es,qT (.num .u64) es (fo h [a] true) (iJ g [a] y) (tU (h [a]) q):=by
 obtain ⟨es,hE⟩:=hE
 cases hh:h [a] with
 | false=>exact ⟨_,hh ▸ hE.QO (n:=[a]) (y:=y) rfl (r:=none) hh (fun j hj=>by cases hj)⟩
 | true =>
   obtain ⟨_,j,j1,j2⟩:=hE.all _ hh
   obtain ⟨n,e1,e2⟩:=hE.ent j j1
   have:dU (.num .u64) n=dU (.num .u64) [a]:=by rw[← j2,e1]
   have hn:n=[a]:=iZ (hE.fit e2) rfl this
   subst hn
   exact ⟨_,hh ▸ hE.QO (n:=[a]) (y:=y) rfl (r:=some j) hh (fun j' hj'=>by cases hj';exact ⟨j1,e1⟩)⟩
theorem Kr {h:List Int→Bool} {g:List Int→Int} {q:Nat} (hE:∃ es,qT (.num .u64) es h g q) (a:Int):∃ es,qT (.num .u64) es (fo h [a] false) (iJ g [a] 0) (xf (h [a]) q):=by
 obtain ⟨es,hE⟩:=hE
 cases hh:h [a] with
 | false=>exact ⟨_,hh ▸ hE.del (n:=[a]) rfl (r:=none) hh (fun j hj=>by cases hj)⟩
 | true =>
   obtain ⟨_,j,j1,j2⟩:=hE.all _ hh
   obtain ⟨n,e1,e2⟩:=hE.ent j j1
   have:dU (.num .u64) n=dU (.num .u64) [a]:=by rw[← j2,e1]
   have hn:n=[a]:=iZ (hE.fit e2) rfl this
   subst hn
   exact ⟨_,hh ▸ hE.del (n:=[a]) rfl (r:=some j) hh (fun j' hj'=>by cases hj';exact ⟨j1,e1⟩)⟩
theorem FZ (W B:Nat→Int) (k X:Nat) (hX:X<2 ^ 10) (h:Nat→Bool) (g:Nat→Nat) (q:Nat) (hG:Gd (lX h g q)):∀ j,j≤10→(∀ i,i≤j→∀ Y,g Y+g X*cT (okW W B) i k X Y<2 ^ 60) →
 ∃ q',AS W B (k:Int) (X:Int) j (lX h g q)=lX (fun Y=>h Y || decide (0<cT (okW W B) j k X Y)) (fun Y=>g Y+g X*cT (okW W B) j k X Y) q'∧Gd (AS W B (k:Int) (X:Int) j (lX h g q))
 | 0,_,_=>⟨q,by
    have e:∀ Y,cT (okW W B) 0 k X Y=0:=fun Y=>rfl
    simp only[e,Nat.mul_zero,Nat.add_zero]
    show lX h g q=_
    congr 1
    funext Y;simp,hG⟩
 | j + 1,hj,hb=>by
   obtain ⟨q',e,hG'⟩:=FZ W B k X hX h g q hG j (by omega) (fun i hi=>hb i (by omega))
   have hX2:X<2 ^ 62:=by omega
   have e2:AS W B (k:Int) (X:Int) (j+1) (lX h g q)=Ia W B (k:Int) (X:Int) (Int.ofNat j) (AS W B (k:Int) (X:Int) j (lX h g q)):=rfl
   rw[e2]
   rw[e] at hG' ⊢
   unfold Ia
   rw[KX W B k hX2 (by omega)]
   cases ho:(!X.testBit j && okW W B k X j) with
   | false =>
     refine ⟨q',?_,hG'⟩
     have:∀ Y,cT (okW W B) (j+1) k X Y=cT (okW W B) j k X Y:=fun Y=>by rw[zS,ho];simp
     simp only[this];rfl
   | true =>
     have hbit:X.testBit j=false:=by
      cases hx:X.testBit j with
      | false=>rfl
      | true=>rw[hx] at ho;cases ho
     have hc:∀ Y,cT (okW W B) (j+1) k X Y=cT (okW W B) j k X Y+if X+2 ^ j=Y then 1 else 0:=fun Y=>by rw[zS,ho];simp
     have hself:=Bo (ok:=okW W B) j k X
     have hp:=Nat.two_pow_pos j
     rw[cond_true]
     have e3:NQ (X:Int) (Int.ofNat j) (lX (fun Y=>h Y || decide (0<cT (okW W B) j k X Y)) (fun Y=>g Y+g X*cT (okW W B) j k X Y) q') =
      lX (fun Y=>h Y || decide (0<cT (okW W B) (j+1) k X Y)) (fun Y=>g Y+g X*cT (okW W B) (j+1) k X Y) (tU ((lX (fun Y=>h Y || decide (0<cT (okW W B) j k X Y)) (fun Y=>g Y+g X*cT (okW W B) j k X Y) q').h [((X+2 ^ j:Nat):Int)]) q'):=by
      unfold NQ
      rw[D6 hX2 (by omega) hbit,gU,gY,lF,EX,EX,fI,hself]
      have hb2:=hb (j+1) (by omega) (X+2 ^ j)
      rw[hc,if_pos rfl,Nat.mul_add] at hb2
      rw[show (((g (X+2 ^ j)+g X*cT (okW W B) j k X (X+2 ^ j):Nat):Int)+((g X+g X*0:Nat):Int))=((g (X+2 ^ j)+g X*cT (okW W B) j k X (X+2 ^ j)+g X:Nat):Int) by omega,Go.IntWalk.i64_in _ (by omega),su,sv]
      show CS.mk (lX _ (fun Y=>g Y+g X*cT (okW W B) j k X Y) q').h (lX (fun Y=>h Y || decide (0<cT (okW W B) j k X Y)) _ q').g _=_
      have a1:(fun y=>if y=X+2 ^ j then true else (h y || decide (0<cT (okW W B) j k X y)))=fun Y=>h Y || decide (0<cT (okW W B) (j+1) k X Y):=by
       funext Y
       rw[hc]
       by_cases e:Y=X+2 ^ j
       · subst e;rw[if_pos rfl,if_pos rfl,decide_eq_true (by omega)];simp
       · rw[if_neg e,if_neg (fun h=>e h.symm)];rfl
      have a2:(fun y=>if y=X+2 ^ j then g (X+2 ^ j)+g X*cT (okW W B) j k X (X+2 ^ j)+g X else g y+g X*cT (okW W B) j k X y)=fun Y=>g Y+g X*cT (okW W B) (j+1) k X Y:=by
       funext Y
       rw[hc]
       by_cases e:Y=X+2 ^ j
       · subst e;rw[if_pos rfl,if_pos rfl,Nat.mul_add];omega
       · rw[if_neg e,if_neg (fun h=>e h.symm)];rfl
      rw[a1,a2];rfl
     refine ⟨_,e3,?_⟩
     unfold NQ
     rw[gU,gY,lF]
     exact EE hG' _ _
theorem Ln (W B:Nat→Int) (k X n:Nat) (hX:X<2 ^ 10) (h:Nat→Bool) (g:Nat→Nat) (q:Nat) (hG:Gd (lX h g q)) (hn:n≤10) (hb:∀ i,i≤n→∀ Y,g Y+g X*cT (okW W B) i k X Y<2 ^ 60) :
 ∃ q',Lm W B (k:Int) n (X:Int) (lX h g q)=lX (fun Y=>!decide (Y=X) && (h Y || decide (0<cT (okW W B) n k X Y))) (fun Y=>if Y=X then 0 else g Y+g X*cT (okW W B) n k X Y) q'∧Gd (Lm W B (k:Int) n (X:Int) (lX h g q)):=by
 obtain ⟨q',e,hG'⟩:=FZ W B k X hX h g q hG n hn hb
 unfold Lm
 rw[e] at hG' ⊢
 have e3:NX (X:Int) (lX (fun Y=>h Y || decide (0<cT (okW W B) n k X Y)) (fun Y=>g Y+g X*cT (okW W B) n k X Y) q')=lX (fun Y=>!decide (Y=X) && (h Y || decide (0<cT (okW W B) n k X Y))) (fun Y=>if Y=X then 0 else g Y+g X*cT (okW W B) n k X Y) (xf ((lX (fun Y=>h Y || decide (0<cT (okW W B) n k X Y)) (fun Y=>g Y+g X*cT (okW W B) n k X Y) q').h [(X:Int)]) q'):=by
  unfold NX
  rw[gU,gY,rW,su,show (Int.ofNat 0:Int)=((0:Nat):Int) from rfl,sv]
  have a1:(fun y=>if y=X then false else (h y || decide (0<cT (okW W B) n k X y)))=fun Y=>!decide (Y=X) && (h Y || decide (0<cT (okW W B) n k X Y)):=by
   funext Y
   by_cases e:Y=X
   · rw[if_pos e,decide_eq_true e];rfl
   · rw[if_neg e,decide_eq_false e];rfl
  rw[a1];rfl
 refine ⟨_,e3,?_⟩
 unfold NX
 rw[gU,gY,rW]
 exact Kr hG' _
theorem Ll (W B:Nat→Int) (k n:Nat) (hn:n≤10) (hk:k≤10) (q:Nat):∀ (L:List Nat) (z:Nat→Int),(∀ j (h:j<L.length),z j=((L[j]:Nat):Int))→L.Nodup→(∀ x ∈ L,0<cF n (okW W B) k x)→Gd (lX (hD n (okW W B) k []) (gD n (okW W B) k []) q)→∀ m,m≤L.length →
 ∃ q',FY W B (k:Int) n z m (lX (hD n (okW W B) k []) (gD n (okW W B) k []) q)=lX (hD n (okW W B) k (L.take m)) (gD n (okW W B) k (L.take m)) q'∧Gd (FY W B (k:Int) n z m (lX (hD n (okW W B) k []) (gD n (okW W B) k []) q)):=by
 intro L z hz hnd hL hG m
 induction m with
 | zero=>intro _;exact ⟨q,rfl,hG⟩
 | succ m ih =>
   intro hm
   obtain ⟨q',e,hG'⟩:=ih (by omega)
   have e2:FY W B (k:Int) n z (m+1) (lX (hD n (okW W B) k []) (gD n (okW W B) k []) q)=Lm W B (k:Int) n (z m) (FY W B (k:Int) n z m (lX (hD n (okW W B) k []) (gD n (okW W B) k []) q)):=rfl
   rw[e2]
   rw[e] at hG' ⊢
   rw[hz m (by omega)]
   have hx:=hL _ (List.getElem_mem (show m<L.length by omega))
   have hlt:=D9 hx
   have hp:(2:Nat) ^ n≤2 ^ 10:=Nat.pow_le_pow_right (by decide) hn
   have htake:L.take (m+1)=L.take m++[L[m]'(by omega)]:=by rw[List.take_add_one,List.getElem?_eq_getElem (by omega)];rfl
   have hnin:L[m]'(by omega) ∉ L.take m:=fun hc=>by
    have:=hnd.sublist (List.take_sublist (m+1) L)
    rw[htake,List.nodup_append] at this
    exact this.2.2 _ hc _ List.mem_cons_self rfl
   have hLt:∀ x ∈ L.take m,0<cF n (okW W B) k x:=fun x hx=>hL x (List.mem_of_mem_take hx)
   have hb:∀ i,i≤n→∀ Y,gD n (okW W B) k (L.take m) Y+gD n (okW W B) k (L.take m) (L[m]'(by omega))*cT (okW W B) i k (L[m]'(by omega)) Y<2 ^ 60:=fun i hi Y=>by
    have h1:=Mq (hnd.sublist (List.take_sublist m L)) hLt hx hnin i Y hi
    have h2:=IC (n:=n) (ok:=okW W B) k Y
    have h3:=IC (n:=n) (ok:=okW W B) (k+1) Y
    have h4:n ^ k≤10 ^ 10:=Nat.le_trans (Nat.pow_le_pow_left hn k) (Nat.pow_le_pow_right (by decide) hk)
    have h5:n ^ (k+1)≤10 ^ 11:=Nat.le_trans (Nat.pow_le_pow_left hn _) (Nat.pow_le_pow_right (by decide) (by omega))
    omega
   obtain ⟨q'',e3,hG''⟩:=Ln W B k (L[m]'(by omega)) n (by omega) _ _ q' hG' hn hb
   refine ⟨q'',?_,hG''⟩
   rw[e3,htake]
   congr 1
   · funext Y;exact G0 hLt hx Y
   · funext Y;exact GZ hLt hx hnin Y
end Go.Eng.Q
end
section
namespace Go.Eng.Q
open Go.Proofs Go.Eng.Gall
noncomputable def Oq (k:Int):az:=iR k++[(6,.nils),(18,.map 2 1),(19,.ptr 0 0 0 0),(20,.tup [.bool false]),(21,.bool false)]
noncomputable def RL:bA:=⟨false,[(0,.dead)]⟩
theorem Uk (n:Nat) (k x y:Int) (H:aa):bH.tc cL (ob n) (il a6 n 0) bp br 0 1 (.int .u64 x,.int .i64 y) (hints (iR k++[(6,.nils),(18,.map 2 1),(19,.ptr 0 0 0 0)])) (⟨false,[(0,.dead)]⟩::H) =
 Tr.req (jA 0 1 8) (Tr.req (cG 0 0) (Tr.req (gm 1 1) (Tr.ok ([(1,AV.ptr 2 0 0 0,none),(3,AV.ptr 2 2 0 0,none),(4,AV.ptr 2 3 0 0,none),(5,AV.int .i64 k,none),(6,AV.slc 0 2 0 0 1 1 none,none),(19,AV.ptr 0 0 0 0,none)],{ lock:=false,bs:=[(0,aq.dead),(0,aq.row (Row.I IntKind.u64 [x])),(0,aq.row (Row.M [an.arr IntKind.u64 (aS [x]) 1]))] } :: H)))):=by kernel_rfl
theorem Ul (n:Nat) (k:Int) (H:aa):bH.u0 cL (ob n) (il a6 n 0) (hints (iR k++[(6,.nils),(18,.map 2 1),(19,.ptr 0 0 0 0)])) (⟨false,[(0,.dead)]⟩::H) =
 Tr.ok ([(1,AV.ptr 2 0 0 0,none),(3,AV.ptr 2 2 0 0,none),(4,AV.ptr 2 3 0 0,none),(5,AV.int .i64 k,none),(6,AV.nils,none),(18,AV.map 2 1,none),(19,AV.ptr 0 0 0 0,none),(20,AV.tup [AV.bool false],none),(21,AV.bool false,none)],{ lock:=false,bs:=[(0,aq.dead)] } :: H):=by kernel_rfl
theorem tZ (n:Nat) (k:Int) (G:aa):aW (ob n) (il a6 n 0) bp br qK (hints (Oq k)) (⟨false,[(0,.dead)]⟩::aZ::G) =
 Tr.ok (Ex.normal,[(1,AV.ptr 2 0 0 0,none),(3,AV.ptr 2 2 0 0,none),(4,AV.ptr 2 3 0 0,none),(5,AV.int .i64 k,none),(28,AV.nils,none),(29,AV.int .i64 (Int.ofNat 0),some 1),(30,AV.int .i64 (Int.ofNat 0),some 1),(31,AV.bool false,some 1)],{ lock:=false,bs:=[(0,aq.dead)] } :: aZ::G):=by kernel_rfl
theorem nO:kQ [0,1,1,1,0,0] cB=part Tryd.f73 [1,1,1,0,1,0,1,0,1,1,1,0,0]:=by kernel_rfl
theorem nI:kQ [0,1,1,1,0,0,1,1,0,0,1,0,1,0,0] cB=part Tryd.f73 [1,1,1,0,1,0,1,0,1,1,1,0,0,1,1,0,0,1,0,1,0,0]:=by kernel_rfl
theorem T3:qK=part Tryd.f73 [1,1,1,0,1,0,1,0,1,1]:=by kernel_rfl
theorem RB:∀ b,(6,b) ∈ aO (kQ [0,1,1,1,0,0] cB)→b=.loop (kQ [0,1,1,1,0,0,1,1,0,0,1,0,1,0,0] cB):=by rw[nO,nI];exact b6
theorem RT:∀ b,(4,b) ∈ aO qK→b=.loop (kQ [0,1,1,1,0,0] cB):=by rw[T3,nO];exact b4
section
variable (n:Nat) (k x0:Int) (v m:Nat) (z:Nat→Int) (dr:Int) (lc:Nat) (zc:Nat→Int) (lb:Nat) (zb:Nat→Int) (W B:Nat→Int) (b:aq) (G:aa)
theorem Ui (j:Nat) (hj:j<m) (hm:m≤99990) (hl:lc≤10) (s:CS):∃ y,exec (ob (n+1)) (kQ [0,1,1,1,0,0] cB) (DL k v m (Int.ofNat j)) (jO x0 v m z::aZ::dF dr lc zc lb zb W B b s::G)=some y ∧
 (y.1=.normal∧tidy 3 y.2.1 y.2.2=(DL k v m (Int.ofNat (j+1)),jO x0 v m z::aZ::dF dr lc zc lb zb W B b (Lm W B k lc (z j) s)::G)):=by
 have ez:aC 0 (Int.ofNat j) 1=j:=by rw[bY];show 0+j*1=j;omega
 have ec:bg .i64 (Int.ofNat j) (Int.ofNat 1)=Int.ofNat (j+1):=by
  have:=A5 j (by omega)
  rw[fI];exact this
 have T:=tO (n+1) (AS W B k (z j) lc s).h (AS W B k (z j) lc s).g (AS W B k (z j) lc s).q k (Int.ofNat j) x0 v m z dr lc zc lb zb W B s.h s.g s.q b G
 rw[ez,ec] at T
 refine Ac (Q:=fun y=>y.1=.normal∧tidy 3 y.2.1 y.2.2=(DL k v m (Int.ofNat (j+1)),jO x0 v m z::aZ::dF dr lc zc lb zb W B b (Lm W B k lc (z j) s)::G)) T (aJ _) (a8 (ak _ _) RB (fun x h=>by rw[← Tr.ae h];simp only[fq.st,aV];exact RK n k x0 v m z dr lc zc lb zb W B b G (Int.ofNat j) (z j) hl s)) (al _ _) ?_
 refine Tr.af (fun h0=>?_) (fun h0=>?_)
 · refine Tr.ab (by simp (disch:=omega) only[nV,nW];try omega) (Tr.ab (by rw[fO];simp) (Tr.ab (by simp (disch:=omega) only[nV,nW];omega) (Tr.aj ⟨rfl,rfl⟩ (Tr.ah ⟨rfl,rfl⟩))))
 · exfalso
   simp (disch:=omega) only[nV,nW] at h0
   omega
theorem Sk (hm:m≤99990) (hl:lc≤10) (s:CS):exec (ob (n+1)) (kQ [0,1,1,1,0,0] cB) (DL k v m (Int.ofNat m)) (jO x0 v m z::aZ::dF dr lc zc lb zb W B b s::G)=some (.exit 4,DL k v m (Int.ofNat m)++[(31,.bool false)],jO x0 v m z::aZ::dF dr lc zc lb zb W B b s::G):=by
 have ez:aC 0 (Int.ofNat m) 1=m:=by rw[bY];show 0+m*1=m;omega
 have T:=tO (n+1) (AS W B k (z m) lc s).h (AS W B k (z m) lc s).g (AS W B k (z m) lc s).q k (Int.ofNat m) x0 v m z dr lc zc lb zb W B s.h s.g s.q b G
 rw[ez] at T
 refine ni T (aJ _) (a8 (ak _ _) RB (fun x h=>by rw[← Tr.ae h];simp only[fq.st,aV];exact RK n k x0 v m z dr lc zc lb zb W B b G (Int.ofNat m) (z m) hl s)) (al _ _) ?_
 refine Tr.af (fun h0=>?_) (fun h0=>Tr.ah rfl)
 exfalso
 simp (disch:=omega) only[nV,nW] at h0
 omega
theorem TX (hm:m≤99990) (hl:lc≤10) (s:CS):exec (ob (n+1)) (.block 4 (.loop (kQ [0,1,1,1,0,0] cB))) (DL k v m (Int.ofNat 0)) (jO x0 v m z::aZ::dF dr lc zc lb zb W B b s::G) =
 some (.normal,DL k v m (Int.ofNat m)++[(31,.bool false)],jO x0 v m z::aZ::dF dr lc zc lb zb W B b (FY W B k lc z m s)::G):=by
 refine IG (n:=n+1) (f:=73) (nt:=83) (d:=2) (i:=4) 4 (fun c=>DL k v m (Int.ofNat c)) (fun c=>jO x0 v m z::aZ::dF dr lc zc lb zb W B b (FY W B k lc z c s)::G) m (_,_) (by omega) (fun c hc=>?_) ?_
 · exact Ui n k x0 v m z dr lc zc lb zb W B b G c hc hm hl (FY W B k lc z c s)
 · exact Sk n k x0 v m z dr lc zc lb zb W B b G hm hl _
theorem Qq (hm:m≤99990) (hl:lc≤10) (s:CS):exec (ob (n+1)) qK (Ot k v m) (jO x0 v m z::aZ::dF dr lc zc lb zb W B b s::G)=some (.normal,DL k v m (Int.ofNat m)++[(31,.bool false)],jO x0 v m z::aZ::dF dr lc zc lb zb W B b (FY W B k lc z m s)::G):=by
 refine ni (t10 (n+1) k x0 v m z (dF dr lc zc lb zb W B b s::G) (dF dr lc zc lb zb W B b (FY W B k lc z m s)::G)) (aJ _) (a8 (ak _ _) RT (fun x h=>by rw[← Tr.ae h];simp only[fq.st,aV];exact TX n k x0 v m z dr lc zc lb zb W B b G hm hl s)) (al _ _) ?_
 exact Tr.aj ⟨rfl,rfl⟩ (Tr.ah rfl)
end
end Go.Eng.Q
end
