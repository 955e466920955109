/- Gall: calls within count: those of the functions that it alone reaches. -/
import Derived.Test.YtgphpjdchnfjlaaDoorV4EngThx10
import Derived.Test.YtgphpjdchnfjlaaDoorV4EngRnFx7
import Derived.Test.YtgphpjdchnfjlaaDoorV4EngTkx3
import Derived.Test.YtgphpjdchnfjlaaDoorProg
import Derived.KernelRfl
import Derived.Test.YtgphpjdchnfjlaaDoorV4Gp2x6
import Derived.IntWalk
set_option linter.unusedVariables false
set_option maxRecDepth 100000
set_option linter.unusedSimpArgs false
section
namespace Go.Eng
open Go.Proofs
def kZ:List Nat→Code→Code
 | [],c=>c
 | x :: p,c=>match c with
   | .seq a b=>match x with
     | 0=>kZ p a
     | _=>kZ p b
   | .cond _ a b=>match x with
     | 0=>kZ p a
     | _=>kZ p b
   | .block _ b=>kZ p b
   | .loop b=>kZ p b
   | .scope b=>kZ p b
   | .rangeFunc _ _ a b=>match x with
     | 0=>kZ p a
     | _=>kZ p b
   | c=>c
noncomputable def part (f:Func) (p:List Nat):Code:=kZ p (aV f)
theorem BG (j:Nat) (h:j<2 ^ 31):IntKind.i64.wrap ((j:Int)+1)=((j+1:Nat):Int):=by
 rw[show ((j:Int)+1)=((j+1:Nat):Int) by omega];exact Go.IntWalk.i64_in _ (by omega)

def dx (p:Nat→Bool) (N:Nat):Bool:=decide (fN p N 0<N)
theorem oQ {p:Nat→Bool} {N:Nat} (h:dx p N=true):fN p N 0<N:=by simpa[dx] using h
theorem u0 {p:Nat→Bool} {N:Nat} (h:dx p N=false):fN p N 0=N:=by
 have h1:=(rn p N 0).2.1;have:¬ fN p N 0<N:=by simpa[dx] using h
 omega
theorem cP (p:Nat→Bool) (N:Nat):dx p N=true↔∃ i,i<N∧p i=true:=by
 obtain ⟨h1,h2,h3,h4⟩:=rn p N 0;constructor
 · intro h;have:=oQ h;exact ⟨_,this,h4 (by omega)⟩
 · rintro ⟨i,hi,hp⟩;unfold dx;rw[decide_eq_true_eq];apply Nat.lt_of_not_le;intro hc;have:=h3 i (by omega) (by omega);rw[this] at hp;cases hp
namespace Q
noncomputable def gO:aI→FuncId→List AV→aa→Option (AV×aa):=tj []
def Hk (f:FuncId):Bool:=Nat.beq f 1000000
noncomputable def cd (n:Nat):aI:=c6 Tryd.prog gO KtG.kt 100000 n
noncomputable def il (tab:ni) (n k:Nat):bp:=AZ Tryd.prog gO KtG.kt 100000 Hk tab n k
theorem wT (g:FuncId) (h:Hk g=false) (c:aI) (args:List AV) (H:aa):gO c g args H=none:=by
 unfold Hk at h;unfold gO tj;rw[h,cond_false];rfl
theorem mT (n:Nat):∃ x,c6 Tryd.prog gO KtG.kt 100000 n .mode [] []=some x:=by
 cases n<;>exact ⟨_,rfl⟩
theorem wX:rQ Tryd.prog gO:=CP [] (fun e he=>by cases he)
theorem kg (tab:ni) (n k:Nat) (ht:∀ k,tab.Ok (cd (n+k))):(il tab n k).Ok (cd (n+k)):=wH _ _ _ _ _ _ _ wT (fun k=>mT _) ht k
theorem fc (n k:Nat):(il aH n k).Ok (cd (n+k)):=kg _ _ _ (fun k=>bj _)
theorem aw (n:Nat):(il aH n 0).Ok (cd n):=fc n 0
end Q
end Go.Eng
end
section
namespace Go.Eng.Q
open Go.Proofs
noncomputable def slA (n len:Nat) (z:Nat→Int):AV:=.slcT none (.M [.arr .i64 z (fF len n)]) n len false
noncomputable def shR (dr:Int) (lc:Nat) (zc:Nat→Int) (lb:Nat) (zb:Nat→Int) (W B:Nat→Int):Row:=.M [.one (.int .i64 dr),.one (slA 4 lc zc),.one (slA 2 lb zb),.arr .i64 W 20,.arr .u64 B 10]
noncomputable def shV (dr:Int) (lc:Nat) (zc:Nat→Int) (lb:Nat) (zb:Nat→Int) (W B:Nat→Int):AV:=.ptrT none (shR dr lc zc lb zb W B) 0
noncomputable def ar:bF:=⟨false,[]⟩
noncomputable def iJ (n f nt d i:Nat):Cx:=⟨Tryd.prog,cd n,100000,f,nt,KtG.kt f,some (d,i)⟩
def wW:Code→Array Oper
 | .region _ ops _=>ops
 | _=>#[]
def Qc (l:List Oper):Oper:=l.headD { dst:=none,op:=.move (.tmp 0),type:=0,pos := "",after:=#[],guard:=none }
noncomputable def cB:Code:=part Tryd.f73 [1,1,1,0,1,0,1]
noncomputable def cS:eB:={ id0:=6,ops0:=wW (kZ [0,1,0,0] cB),pre:=(wW (kZ [0,1,0,0] cB)).toList.take 1,ro:=Qc ((wW (kZ [0,1,0,0] cB)).toList.drop 1),m:=18,ty:=128 }
noncomputable def cL:bQ:={ out:=2,Aj:=7,id2:=8,nxt:=3,ops1:=wW (kZ [0,1,0,1,0,0,0] cB),ops2:=wW (kZ [0,1,0,1,0,0,1,1,0,0] cB),no:=Qc (wW (kZ [0,1,0,1,0,0,0] cB)).toList,eo:=Qc (wW (kZ [0,1,0,1,0,0,1,1,0,0] cB)).toList,t1:=(wW (kZ [0,1,0,1,0,0,0] cB)).toList.tail,t2:=(wW (kZ [0,1,0,1,0,0,1,1,0,0] cB)).toList.tail,it:=19,nx:=20,mo:=21,en:=22,rest:=kZ [0,1,0,1,0,0,1,1,0,1] cB,km:=267386880+128 }
noncomputable def qV:Code:=kZ [0,1,1] cB
noncomputable def cR:pI:={ f:=73,id:=1,body:=cB,pre:=[kZ [0,0] cB],S:=cS,L:=cL,suf:=qV }
noncomputable def iV (k:Int):aD:=[(1,.ptr 2 0 0 0),(3,.ptr 2 2 0 0),(4,.ptr 2 3 0 0),(5,.int .i64 k)]
noncomputable def me (dr:Int) (lc:Nat) (zc:Nat→Int) (lb:Nat) (zb:Nat→Int) (W B:Nat→Int) (h:List Int→Bool) (g:List Int→Int) (c:Nat) (b:an):bF:=⟨false,[(0,.row (.G [shV dr lc zc lb zb W B])),(0,.fmap (.num .u64) h g c),(0,.row (.G [.map 0 1])),(0,.row (.G [.fn (.func 71) [shV dr lc zc lb zb W B] []])),(0,b)]⟩
theorem t5 (n:Nat) (k:Int) (H:aa):aJ (iJ n 73 83 2 4) (il aH n 0) aS aR (kZ [0,0] cB) (hints (iV k)) (ar::H) =
 Tr.ok (Ex.normal,[(1,AV.ptr 2 0 0 0,none),(3,AV.ptr 2 2 0 0,none),(4,AV.ptr 2 3 0 0,none),(5,AV.int .i64 k,none),(6,AV.nils,none)],ar::H):=by kernel_rfl
theorem tS (n:Nat) (k:Int) (dr:Int) (lc:Nat) (zc:Nat→Int) (lb:Nat) (zb:Nat→Int) (W B:Nat→Int) (h:List Int→Bool) (g:List Int→Int) (c:Nat) (b:an) (H:aa):eB.Mm cS (iJ n 73 83 2 4) (il aH n 0) (hints (iV k++[(6,.nils)])) (ar::ar::me dr lc zc lb zb W B h g c b::H) =
 (fun (Z0:List AV)=>Tr.ok ([(1,AV.ptr 2 0 0 0,none),(3,AV.ptr 2 2 0 0,none),(4,AV.ptr 2 3 0 0,none),(5,AV.int .i64 k,none),(6,AV.nils,none),(18,AV.map 2 1,none)],ar::ar::{ lock:=false,bs:=[(0,an.row (Row.G Z0)),(0,an.fmap (KK.num IntKind.u64) h g c),(0,an.row (Row.G [AV.map 0 1])),(0,an.row (Row.G [AV.fn (Fn.func 71) Z0 []])),(0,b)] } :: H)) [AV.ptrT none (Row.M [c8.one (AV.int .i64 dr),c8.one (AV.slcT none (Row.M [c8.arr .i64 zc (bU lc 4)]) 4 lc false),c8.one (AV.slcT none (Row.M [c8.arr .i64 zb (bU lb 2)]) 2 lb false),c8.arr .i64 W 20,c8.arr IntKind.u64 B 10]) 0]:=by kernel_rfl
theorem tB (n:Nat) (k x y x0:Int) (v m:Nat) (z:Nat→Int) (H:aa):bQ.tD cL (iJ n 73 83 2 4) (il aH n 0) aS aR 0 1 (.int .u64 x,.int .i64 y) (hints (iV k++[(6,.slc 0 2 v 0 1 m none),(19,.ptr 0 0 0 0)])) (⟨false,[(0,.dead),(0,.row (.I .u64 [x0])),(v,.row (.M [.arr .u64 z m]))]⟩::H) =
 Tr.req (fU m 1 8) (Tr.req (cj 0 0) (Tr.req (dD 1 1) (Tr.req (cj v v) (Tr.req (cj (aq 0 m) m) (Tr.ok ([(1,AV.ptr 2 0 0 0,none),(3,AV.ptr 2 2 0 0,none),(4,AV.ptr 2 3 0 0,none),(5,AV.int .i64 k,none),(6,AV.slc 0 2 (Nat.succ v) 0 1 (aq m 1) none,none),(19,AV.ptr 0 0 0 0,none)],{ lock:=false,bs:=[(0,an.dead),(0,an.row (Row.I IntKind.u64 [x0])),(Nat.succ v,an.row (Row.M [c8.arr IntKind.u64 (oD (dZ z 0) m (az [x])) (aq m 1)]))] } :: H)))))):=by kernel_rfl
theorem tX (n:Nat) (k x0:Int) (v m:Nat) (z:Nat→Int) (H:aa):bQ.vn cL (iJ n 73 83 2 4) (il aH n 0) (hints (iV k++[(6,.slc 0 2 v 0 1 m none),(19,.ptr 0 0 0 0)])) (⟨false,[(0,.dead),(0,.row (.I .u64 [x0])),(v,.row (.M [.arr .u64 z m]))]⟩::H) =
 Tr.ok ([(1,AV.ptr 2 0 0 0,none),(3,AV.ptr 2 2 0 0,none),(4,AV.ptr 2 3 0 0,none),(5,AV.int .i64 k,none),(6,AV.slc 0 2 v 0 1 m none,none),(19,AV.ptr 0 0 0 0,none),(20,AV.tup [AV.bool false],none),(21,AV.bool false,none)],{ lock:=false,bs:=[(0,an.dead),(0,an.row (Row.I IntKind.u64 [x0])),(v,an.row (Row.M [c8.arr IntKind.u64 z m]))] } :: H):=by kernel_rfl
theorem tN (n:Nat) (k:Int) (H:aa):bQ.vn cL (iJ n 73 83 2 4) (il aH n 0) (hints (iV k++[(6,.nils),(19,.ptr 0 0 0 0)])) (⟨false,[(0,.dead)]⟩::H) =
 Tr.ok ([(1,AV.ptr 2 0 0 0,none),(3,AV.ptr 2 2 0 0,none),(4,AV.ptr 2 3 0 0,none),(5,AV.int .i64 k,none),(6,AV.nils,none),(19,AV.ptr 0 0 0 0,none),(20,AV.tup [AV.bool false],none),(21,AV.bool false,none)],{ lock:=false,bs:=[(0,an.dead)] } :: H):=by kernel_rfl
end Go.Eng.Q
end
section
namespace Go.Eng.Q
open Go.Proofs
noncomputable def fZ (x0:Int) (v m:Nat) (z:Nat→Int):bF:=⟨false,[(0,.dead),(0,.row (.I .u64 [x0])),(v,.row (.M [.arr .u64 z m]))]⟩
noncomputable def Qa (k:Int) (v m:Nat):aD:=iV k++[(6,.slc 0 2 v 0 1 m none),(19,.ptr 0 0 0 0),(20,.tup [.bool false]),(21,.bool false)]
noncomputable def oB (n:Nat):Cx:=iJ n 73 83 2 4
noncomputable def Es (k:Int) (v m:Nat) (j:Int):aD:=iV k++[(28,.slc 0 2 v 0 1 m none),(29,.int .i64 (Int.ofNat m)),(30,.int .i64 j)]
noncomputable def Fz (k:Int) (v m:Nat) (x j:Int) (lc:Nat) (c:Int):aD:=iV k++[(9,.int .u64 x),(28,.slc 0 2 v 0 1 m none),(29,.int .i64 (Int.ofNat m)),(30,.int .i64 j),(39,.int .i64 (Int.ofNat lc)),(40,.int .i64 c)]
theorem t10 (n:Nat) (k x0:Int) (v m:Nat) (z:Nat→Int) (G G':aa):aJ (oB n) (il aH n 0) (cM aS 4 (Es k v m (Int.ofNat 0)) (fZ x0 v m z::ar::G) (.ok (.normal,hints (Es k v m (Int.ofNat m)++[(31,.bool false)]),fZ x0 v m z::ar::G'))) aR qV (hints (Qa k v m)) (fZ x0 v m z::ar::G) =
 (fun (Z0:aD)=>Tr.reqP (Z0=Z0∧fZ x0 v m z::ar::G=fZ x0 v m z::ar::G) (Tr.ok (Ex.normal,[(1,AV.ptr 2 0 0 0,none),(3,AV.ptr 2 2 0 0,none),(4,AV.ptr 2 3 0 0,none),(5,AV.int .i64 k,none),(28,AV.slc 0 2 v 0 1 m none,none),(29,AV.int .i64 (Int.ofNat m),none),(30,AV.int .i64 (Int.ofNat m),none),(31,AV.bool false,none)],fZ x0 v m z::ar::G'))) [(1,AV.ptr 2 0 0 0),(3,AV.ptr 2 2 0 0),(4,AV.ptr 2 3 0 0),(5,AV.int .i64 k),(28,AV.slc 0 2 v 0 1 m none),(29,AV.int .i64 (Int.ofNat m)),(30,AV.int .i64 (Int.ofNat 0))]:=by kernel_rfl
theorem tO (n:Nat) (h':List Int→Bool) (g':List Int→Int) (q':Nat) (k j x0:Int) (v m:Nat) (z:Nat→Int) (dr:Int) (lc:Nat) (zc:Nat→Int) (lb:Nat) (zb:Nat→Int) (W B:Nat→Int) (h:List Int→Bool) (g:List Int→Int) (q:Nat) (b:an) (G:aa):aJ (oB n) (il aH n 0) (cM aS 6 (Fz k v m (z (av 0 j 1)) j lc (Int.ofNat 0)) (fZ x0 v m z::ar::me dr lc zc lb zb W B h g q b::G) (.ok (.normal,hints (Fz k v m (z (av 0 j 1)) j lc (Int.ofNat lc)++[(41,.bool false)]),fZ x0 v m z::ar::me dr lc zc lb zb W B h' g' q' b::G))) aR (kZ [0,1,1,1,0,0] cB) (hints (Es k v m j)) (fZ x0 v m z::ar::me dr lc zc lb zb W B h g q b::G) =
 (fun (Z0:aD)=>Tr.ite (bH j (Int.ofNat m)) (Tr.req (bR j m) (Tr.req (cj v v) (Tr.req (cH (av 0 j 1) m) (Tr.reqP (Z0=Z0∧fZ x0 v m z::ar::me dr lc zc lb zb W B h g q b::G=fZ x0 v m z::ar::me dr lc zc lb zb W B h g q b::G) (Tr.ok (Ex.normal,[(1,AV.ptr 2 0 0 0,none),(3,AV.ptr 2 2 0 0,none),(4,AV.ptr 2 3 0 0,none),(5,AV.int .i64 k,none),(28,AV.slc 0 2 v 0 1 m none,none),(29,AV.int .i64 (Int.ofNat m),none),(30,AV.int .i64 (a6 .i64 j (Int.ofNat 1)),none)],fZ x0 v m z::ar::{ lock:=false,bs:=[(0,an.row (Row.G [shV dr lc zc lb zb W B])),(0,an.fmap (KK.num IntKind.u64) (mB h' [z (av 0 j 1)] false) (mC g' [z (av 0 j 1)] (Int.ofNat 0)) (xH (h' [z (av 0 j 1)]) q')),(0,an.row (Row.G [AV.map 0 1])),(0,an.row (Row.G [AV.fn (Fn.func 71) [shV dr lc zc lb zb W B] []])),(0,b)] } :: G)))))) (Tr.ok (Ex.exit 4,[(1,AV.ptr 2 0 0 0,none),(3,AV.ptr 2 2 0 0,none),(4,AV.ptr 2 3 0 0,none),(5,AV.int .i64 k,none),(28,AV.slc 0 2 v 0 1 m none,none),(29,AV.int .i64 (Int.ofNat m),none),(30,AV.int .i64 j,none),(31,AV.bool false,some 1)],fZ x0 v m z::ar::me dr lc zc lb zb W B h g q b::G))) [(1,AV.ptr 2 0 0 0),(3,AV.ptr 2 2 0 0),(4,AV.ptr 2 3 0 0),(5,AV.int .i64 k),(9,AV.int IntKind.u64 (z (av 0 j 1))),(28,AV.slc 0 2 v 0 1 m none),(29,AV.int .i64 (Int.ofNat m)),(30,AV.int .i64 j),(39,AV.int .i64 (Int.ofNat lc)),(40,AV.int .i64 (Int.ofNat 0))]:=by kernel_rfl
theorem tI (n:Nat) (k j x x0 c:Int) (v m:Nat) (z:Nat→Int) (dr:Int) (lc:Nat) (zc:Nat→Int) (lb:Nat) (zb:Nat→Int) (W B:Nat→Int) (h:List Int→Bool) (g:List Int→Int) (q:Nat) (b:an) (G:aa):aJ (oB (n+1)) (il aH n 1) aS aR (kZ [0,1,1,1,0,0,1,1,0,0,1,0,1,0,0] cB) (hints (Fz k v m x j lc c)) (fZ x0 v m z::ar::me dr lc zc lb zb W B h g q b::G) =
 (fun (Z0:aO)=>Tr.ite (bH c (Int.ofNat lc)) (Tr.req (dJ (Int.ofNat 0) c) (Tr.ite (bw (m5 IntKind.u64 x (ef IntKind.u64 (Int.ofNat 1) c)) (Int.ofNat 0)) (Tr.req (bR c 10) (Tr.req (dT (av 23 c 1) 1 23 10) (Tr.ite (bw (Ah IntKind.u64 (B (cY (av 23 c 1) 23)) x) (Int.ofNat 0)) (Tr.req (bR c 10) (Tr.req (dT (av 3 c 2) 1 3 20) (Tr.req (dT (aq (av 3 c 2) 1) 1 3 20) (Tr.ite (dJ (W (cY (av 3 c 2) 3)) k) (Tr.ite (dJ k (W (cY (aq (av 3 c 2) 1) 3))) (Tr.req (dJ (Int.ofNat 0) c) (Tr.req (bJ (dD 0 0) (dD 0 1)) (Tr.ok (Ex.normal,Z0,fZ x0 v m z::ar::{ lock:=false,bs:=[(0,an.row (Row.G [shV dr lc zc lb zb W B])),(0,an.fmap (KK.num IntKind.u64) (mB h [rH IntKind.u64 x (ef IntKind.u64 (Int.ofNat 1) c)] true) (mC g [rH IntKind.u64 x (ef IntKind.u64 (Int.ofNat 1) c)] (a6 .i64 (g [rH IntKind.u64 x (ef IntKind.u64 (Int.ofNat 1) c)]) (g [x]))) (qv (h [rH IntKind.u64 x (ef IntKind.u64 (Int.ofNat 1) c)]) q)),(0,an.row (Row.G [AV.map 0 1])),(0,an.row (Row.G [AV.fn (Fn.func 71) [shV dr lc zc lb zb W B] []])),(0,b)] } :: G)))) (Tr.ok (Ex.normal,Z0,fZ x0 v m z::ar::me dr lc zc lb zb W B h g q b::G))) (Tr.ok (Ex.normal,Z0,fZ x0 v m z::ar::me dr lc zc lb zb W B h g q b::G)))))) (Tr.ok (Ex.normal,Z0,fZ x0 v m z::ar::me dr lc zc lb zb W B h g q b::G))))) (Tr.ok (Ex.normal,Z0,fZ x0 v m z::ar::me dr lc zc lb zb W B h g q b::G)))) (Tr.ok (Ex.exit 6,[(1,AV.ptr 2 0 0 0,none),(3,AV.ptr 2 2 0 0,none),(4,AV.ptr 2 3 0 0,none),(5,AV.int .i64 k,none),(9,AV.int IntKind.u64 x,none),(28,AV.slc 0 2 v 0 1 m none,none),(29,AV.int .i64 (Int.ofNat m),none),(30,AV.int .i64 j,none),(39,AV.int .i64 (Int.ofNat lc),none),(40,AV.int .i64 c,none),(41,AV.bool false,some 1)],fZ x0 v m z::ar::me dr lc zc lb zb W B h g q b::G))) [(1,AV.ptr 2 0 0 0,none),(3,AV.ptr 2 2 0 0,none),(4,AV.ptr 2 3 0 0,none),(5,AV.int .i64 k,none),(9,AV.int IntKind.u64 x,none),(28,AV.slc 0 2 v 0 1 m none,none),(29,AV.int .i64 (Int.ofNat m),none),(30,AV.int .i64 j,none),(39,AV.int .i64 (Int.ofNat lc),none),(40,AV.int .i64 (a6 .i64 c (Int.ofNat 1)),none)]:=by kernel_rfl
end Go.Eng.Q
end
section
namespace Go.Eng.Q
open Go.Proofs
theorem iS {n f nt d i:Nat} {c:Code} {callR:bp} {bl:eJ} {rg:nA} {fr:aD} {H:aa} {T:Tr eC} (e:aJ (iJ n f nt d i) callR bl rg c (hints fr) H=T) (hC:callR.Ok (cd n)) (hB:bl.Ok (iJ n f nt d i) c) (hR:rg.Ok (iJ n f nt d i) c) {y:Ex×aD×aa} (h:T.all fun x=>x.st=y):exec (iJ n f nt d i) c fr H=some y:=by
 obtain ⟨x,h1,rfl⟩:=h;have:=fK (cx:=iJ n f nt d i) hC c hB hR (hints fr) H x (by rw[e];exact h1);rw[aP] at this;exact this
theorem nE {n f nt d i:Nat} {c:Code} {callR:bp} {bl:eJ} {rg:nA} {fr:aD} {H:aa} {T:Tr eC} {Q:Ex×aD×aa→Prop} (e:aJ (iJ n f nt d i) callR bl rg c (hints fr) H=T) (hC:callR.Ok (cd n)) (hB:bl.Ok (iJ n f nt d i) c) (hR:rg.Ok (iJ n f nt d i) c) (h:T.all fun x=>Q x.st):∃ y,exec (iJ n f nt d i) c fr H=some y∧Q y:=by
 obtain ⟨x,h1,h2⟩:=h;have:=fK (cx:=iJ n f nt d i) hC c hB hR (hints fr) H x (by rw[e];exact h1);rw[aP] at this;exact ⟨_,this,h2⟩
theorem Ly {n f nt d i:Nat} {c:Code} (id:Nat) (F:Nat→aD) (G:Nat→aa) (N:Nat) (p:Nat→Bool) (X:Nat→aD×aa) (Y:aD×aa) (hN:N<99999)
 (hs:∀ j,j<N→∃ x,exec (iJ n f nt d i) c (F j) (G j)=some x∧if p j=true then x=(.ret,X j) else x.1=.normal∧tidy (a7 (G 0)) x.2.1 x.2.2=(F (j+1),G (j+1)))
 (he:exec (iJ n f nt d i) c (F N) (G N)=some (.exit id,Y)):exec (iJ n f nt d i) (.block id (.loop c)) (F 0) (G 0)=some (cond (dx p N) (.ret,X (fN p N 0)) (.normal,Y)):=by
 have key:=iM (body:=exec (iJ n f nt d i) c) (n:=a7 (G 0)) F G N p (fun j=>if j<N then (.ret,X j) else (.exit id,Y))
  (fun j hj hp=>by
    obtain ⟨x,h1,h2⟩:=hs j hj;rw[if_neg (by rw[hp];simp)] at h2;obtain ⟨e,f1,g1⟩:=x;obtain ⟨rfl,h3⟩:=h2;exact ⟨_,_,h1,h3⟩)
  (fun j hj hp=>by
    obtain ⟨x,h1,h2⟩:=hs j hj;rw[if_pos hp] at h2;subst h2;rw[if_pos hj];exact ⟨h1,by simp⟩)
  (by
    rw[if_neg (by omega)];exact ⟨he,by simp⟩) N 0 100000 (by omega) (by omega)
 cases hc:dx p N with
 | true =>
   have:=oQ hc
   rw[if_pos this] at key
   exact dh (fun id' h=>by cases h) key
 | false =>
   have:=u0 hc
   rw[if_neg (by omega)] at key
   exact hJ key

theorem JJ {n f nt d i:Nat} {c:Code} (id:Nat) (F:Nat→aD) (G:Nat→aa) (N:Nat) (Y:aD×aa) (hN:N<99999)
 (hs:∀ j,j<N→∃ x,exec (iJ n f nt d i) c (F j) (G j)=some x∧(x.1=.normal∧tidy (a7 (G 0)) x.2.1 x.2.2=(F (j+1),G (j+1))))
 (he:exec (iJ n f nt d i) c (F N) (G N)=some (.exit id,Y)):exec (iJ n f nt d i) (.block id (.loop c)) (F 0) (G 0)=some (.normal,Y):=by
 have:=Ly id F G N (fun _=>false) (fun _=>Y) Y hN (fun j hj=>by
  obtain ⟨x,h1,h2⟩:=hs j hj;exact ⟨x,h1,by rw[if_neg (by simp)];exact h2⟩) he
 have h0:dx (fun _=>false) N=false:=by
  cases h:dx (fun _=>false) N with
  | false=>rfl
  | true=>obtain ⟨i2,_,h2⟩:=(cP _ _).1 h;cases h2
 rw[h0] at this
 exact this

structure CS where
 h:List Int→Bool
 g:List Int→Int
 q:Nat
noncomputable def Pq (x c:Int) (s:CS):CS:=⟨mB s.h [rH .u64 x (ef .u64 (Int.ofNat 1) c)] true,mC s.g [rH .u64 x (ef .u64 (Int.ofNat 1) c)] (a6 .i64 (s.g [rH .u64 x (ef .u64 (Int.ofNat 1) c)]) (s.g [x])),qv (s.h [rH .u64 x (ef .u64 (Int.ofNat 1) c)]) s.q⟩
noncomputable def Hm (W B:Nat→Int) (k x c:Int):Bool:=cond (bw (m5 .u64 x (ef .u64 (Int.ofNat 1) c)) (Int.ofNat 0)) (cond (bw (Ah .u64 (B (cY (av 23 c 1) 23)) x) (Int.ofNat 0)) (cond (dJ (W (cY (av 3 c 2) 3)) k) (dJ k (W (cY (aq (av 3 c 2) 1) 3))) false) false) false
noncomputable def Jg (W B:Nat→Int) (k x c:Int) (s:CS):CS:=cond (Hm W B k x c) (Pq x c s) s
noncomputable def Bt (W B:Nat→Int) (k x:Int):Nat→CS→CS
 | 0,s=>s
 | j+1,s=>Jg W B k x (Int.ofNat j) (Bt W B k x j s)
noncomputable def Py (x:Int) (s:CS):CS:=⟨mB s.h [x] false,mC s.g [x] (Int.ofNat 0),xH (s.h [x]) s.q⟩
noncomputable def MG (W B:Nat→Int) (k:Int) (n:Nat) (x:Int) (s:CS):CS:=Py x (Bt W B k x n s)
noncomputable def GW (W B:Nat→Int) (k:Int) (n:Nat) (z:Nat→Int):Nat→CS→CS
 | 0,s=>s
 | j+1,s=>MG W B k n (z j) (GW W B k n z j s)
section
variable (n:Nat) (k x0:Int) (v m:Nat) (z:Nat→Int) (dr:Int) (lc:Nat) (zc:Nat→Int) (lb:Nat) (zb:Nat→Int) (W B:Nat→Int) (b:an) (G:aa)
noncomputable def iv (s:CS):bF:=me dr lc zc lb zb W B s.h s.g s.q b
theorem WG (j x:Int) (c:Nat) (hc:c<lc) (hl:lc≤10) (s:CS):∃ y,exec (oB (n+1)) (kZ [0,1,1,1,0,0,1,1,0,0,1,0,1,0,0] cB) (Fz k v m x j lc (Int.ofNat c)) (fZ x0 v m z::ar::iv dr lc zc lb zb W B b s::G)=some y ∧
 (y.1=.normal∧tidy 3 y.2.1 y.2.2=(Fz k v m x j lc (Int.ofNat (c+1)),fZ x0 v m z::ar::iv dr lc zc lb zb W B b (Jg W B k x (Int.ofNat c) s)::G)):=by
 refine nE (Q:=fun y=>y.1=.normal∧tidy 3 y.2.1 y.2.2=(Fz k v m x j lc (Int.ofNat (c+1)),fZ x0 v m z::ar::iv dr lc zc lb zb W B b (Jg W B k x (Int.ofNat c) s)::G)) (tI n k j x x0 (Int.ofNat c) v m z dr lc zc lb zb W B s.h s.g s.q b G) (fc n 1) (ai _ _) (aj _ _) ?_
 have ec:a6 .i64 (Int.ofNat c) (Int.ofNat 1)=Int.ofNat (c+1):=by
  have:=BG c (by omega);rw[fH];exact this
 have no:Hm W B k x (Int.ofNat c)=false→Jg W B k x (Int.ofNat c) s=s:=fun h=>by unfold Jg;rw[h];rfl
 have yes:Hm W B k x (Int.ofNat c)=true→Jg W B k x (Int.ofNat c) s=Pq x (Int.ofNat c) s:=fun h=>by unfold Jg;rw[h];rfl
 refine Tr.af (fun h0=>?_) (fun h0=>?_)
 · refine Tr.ae wG ?_
   refine Tr.af (fun h1=>?_) (fun h1=>?_)
   · refine Tr.ae wG (Tr.ae wG ?_)
     refine Tr.af (fun h2=>?_) (fun h2=>?_)
     · refine Tr.ae wG (Tr.ae wG (Tr.ae wG ?_))
       refine Tr.af (fun h3=>?_) (fun h3=>?_)
       · refine Tr.af (fun h4=>?_) (fun h4=>?_)
         · refine Tr.ae wG (Tr.ae wG ?_)
           rw[yes (by unfold Hm;rw[h1,h2,h3,h4];rfl),ec]
           exact Tr.ah ⟨rfl,rfl⟩
         · rw[no (by unfold Hm;rw[h1,h2,h3,h4];rfl),ec]
           exact Tr.ah ⟨rfl,rfl⟩
       · rw[no (by unfold Hm;rw[h1,h2,h3];rfl),ec]
         exact Tr.ah ⟨rfl,rfl⟩
     · rw[no (by unfold Hm;rw[h1,h2];rfl),ec]
       exact Tr.ah ⟨rfl,rfl⟩
   · rw[no (by unfold Hm;rw[h1];rfl),ec]
     exact Tr.ah ⟨rfl,rfl⟩
 · exfalso
   simp (disch:=omega) only[nV,nW] at h0
   omega
theorem UJ (j x:Int) (hl:lc≤10) (s:CS):exec (oB (n+1)) (kZ [0,1,1,1,0,0,1,1,0,0,1,0,1,0,0] cB) (Fz k v m x j lc (Int.ofNat lc)) (fZ x0 v m z::ar::iv dr lc zc lb zb W B b s::G)=some (.exit 6,Fz k v m x j lc (Int.ofNat lc)++[(41,.bool false)],fZ x0 v m z::ar::iv dr lc zc lb zb W B b s::G):=by
 refine iS (tI n k j x x0 (Int.ofNat lc) v m z dr lc zc lb zb W B s.h s.g s.q b G) (fc n 1) (ai _ _) (aj _ _) ?_;refine Tr.af (fun h0=>?_) (fun h0=>Tr.ah rfl);exfalso;simp (disch:=omega) only[nV,nW] at h0;omega
theorem TQ (j x:Int) (hl:lc≤10) (s:CS):exec (oB (n+1)) (.block 6 (.loop (kZ [0,1,1,1,0,0,1,1,0,0,1,0,1,0,0] cB))) (Fz k v m x j lc (Int.ofNat 0)) (fZ x0 v m z::ar::iv dr lc zc lb zb W B b s::G) =
 some (.normal,Fz k v m x j lc (Int.ofNat lc)++[(41,.bool false)],fZ x0 v m z::ar::iv dr lc zc lb zb W B b (Bt W B k x lc s)::G):=by
 refine JJ (n:=n+1) (f:=73) (nt:=83) (d:=2) (i:=4) 6 (fun c=>Fz k v m x j lc (Int.ofNat c)) (fun c=>fZ x0 v m z::ar::iv dr lc zc lb zb W B b (Bt W B k x c s)::G) lc (_,_) (by omega) (fun c hc=>?_) ?_
 · exact WG n k x0 v m z dr lc zc lb zb W B b G j x c hc hl (Bt W B k x c s)
 · exact UJ n k x0 v m z dr lc zc lb zb W B b G j x hl _
theorem b6:∀ b,(6,b) ∈ aL (part Tryd.f73 [1,1,1,0,1,0,1,0,1,1,1,0,0])→b=.loop (part Tryd.f73 [1,1,1,0,1,0,1,0,1,1,1,0,0,1,1,0,0,1,0,1,0,0]):=ey (by kernel_rfl)
theorem b4:∀ b,(4,b) ∈ aL (part Tryd.f73 [1,1,1,0,1,0,1,0,1,1])→b=.loop (part Tryd.f73 [1,1,1,0,1,0,1,0,1,1,1,0,0]):=ey (by kernel_rfl)
end
end Go.Eng.Q
end
section
namespace Go.Eng.Q
open Go.Proofs Go.Eng.Gall
theorem Lh (x:Nat):BitVec.ofInt 64 (x:Int)=BitVec.ofNat 64 x:=by
 apply BitVec.eq_of_toInt_eq;simp
theorem jG {x:Nat} (h:x<2 ^ 64):IntKind.u64.wrap (x:Int)=x:=Go.IntWalk.u64_in _ (by omega)
theorem PC {x y:Nat} (hx:x<2 ^ 63) (hy:y<2 ^ 63):rH .u64 (x:Int) (y:Int)=((x ||| y:Nat):Int):=by
 rw[th];show IntKind.u64.wrap ((BitVec.ofInt 64 (x:Int) ||| BitVec.ofInt 64 (y:Int)).toNat:Nat)=_;have h1:x ||| y<2 ^ 63:=Nat.or_lt_two_pow hx hy;rw[Lh,Lh,BitVec.toNat_or,BitVec.toNat_ofNat,BitVec.toNat_ofNat,Nat.mod_eq_of_lt (by omega),Nat.mod_eq_of_lt (by omega),jG (by omega)]
theorem K9 {x y:Nat} (hx:x<2 ^ 63) (hy:y<2 ^ 63):m5 .u64 (x:Int) (y:Int)=((x &&& y:Nat):Int):=by
 rw[rb];show IntKind.u64.wrap ((BitVec.ofInt 64 (x:Int) &&& BitVec.ofInt 64 (y:Int)).toNat:Nat)=_;have h1:x &&& y<2 ^ 63:=Nat.and_lt_two_pow x hy;rw[Lh,Lh,BitVec.toNat_and,BitVec.toNat_ofNat,BitVec.toNat_ofNat,Nat.mod_eq_of_lt (by omega),Nat.mod_eq_of_lt (by omega),jG (by omega)]
theorem Br {i:Nat} (hi:i<62):ef .u64 (Int.ofNat 1) (Int.ofNat i)=((2 ^ i:Nat):Int):=by
 rw[xk];show IntKind.u64.wrap (1*2 ^ min i 64)=_;have:(2:Nat) ^ i≤2 ^ 62:=Nat.pow_le_pow_right (by decide) (by omega);rw[Nat.min_eq_left (by omega),Int.one_mul,show (2:Int) ^ i=((2 ^ i:Nat):Int) from by rw[Int.natCast_pow];rfl];generalize (2:Nat) ^ i=P at *;exact jG (by omega)
theorem Aq {X c:Nat} (hX:X<2 ^ 62) (hc:c<62):bw (m5 .u64 (X:Int) (ef .u64 (Int.ofNat 1) (Int.ofNat c))) (Int.ofNat 0)=!X.testBit c:=by
 have:(2:Nat) ^ c≤2 ^ 61:=Nat.pow_le_pow_right (by decide) (by omega);rw[Br hc,K9 (by omega) (by omega),bm];have key:(X &&& 2 ^ c=0)↔X.testBit c=false:=by
  constructor
  · intro h;have:=congrArg (fun y=>y.testBit c) h;simpa[Nat.testBit_and,Nat.testBit_two_pow_self] using this
  · intro h;apply Nat.eq_of_testBit_eq;intro i;rw[Nat.testBit_and,Nat.testBit_two_pow,Nat.zero_testBit];by_cases e:c=i
    · subst e;rw[h];rfl
    · rw[decide_eq_false e,Bool.and_false]
 rw[Bool.eq_iff_iff,beq_iff_eq,Bool.not_eq_true',← key];show ((X &&& 2 ^ c:Nat):Int)=0↔_;omega
theorem Ar {X c:Nat} (hX:X<2 ^ 62) (hc:c<62) (h:X.testBit c=false):rH .u64 (X:Int) (ef .u64 (Int.ofNat 1) (Int.ofNat c))=((X+2 ^ c:Nat):Int):=by
 have:(2:Nat) ^ c≤2 ^ 61:=Nat.pow_le_pow_right (by decide) (by omega);rw[Br hc,PC (by omega) (by omega),Gq h]
noncomputable def okW (W B:Nat→Int) (k X c:Nat):Bool:=bw (Ah .u64 (B c) (X:Int)) (Int.ofNat 0) && (dJ (W (2*c)) (k:Int) && dJ (k:Int) (W (2*c+1)))
theorem Md (W B:Nat→Int) (k:Nat) {X c:Nat} (hX:X<2 ^ 62) (hc:c<62):Hm W B (k:Int) (X:Int) (Int.ofNat c)=(!X.testBit c && okW W B k X c):=by
 unfold Hm okW;rw[Aq hX hc];simp only[bE,aK,cQ];rw[show 23+(Int.ofNat c).toNat*1-23=c by show 23+c*1-23=c;omega,show 3+(Int.ofNat c).toNat*2-3=2*c by show 3+c*2-3=2*c;omega,show 3+(Int.ofNat c).toNat*2+1-3=2*c+1 by show 3+c*2+1-3=2*c+1;omega];cases (!X.testBit c)<;>cases (bw (Ah .u64 (B c) (X:Int)) (Int.ofNat 0))<;>cases (dJ (W (2*c)) (k:Int))<;>cases (dJ (k:Int) (W (2*c+1)))<;>rfl
def mc (h:Nat→Bool) (g:Nat→Nat) (q:Nat):CS:=⟨fun l=>match l with | [y]=>decide (0≤y) && h y.toNat | _=>false,fun l=>match l with | [y]=>if 0≤y then (g y.toNat:Int) else 0 | _=>0,q⟩
theorem sH (h:Nat→Bool) (g:Nat→Nat) (q:Nat) (X:Nat) (b:Bool):fv (mc h g q).h [(X:Int)] b=(mc (fun y=>if y=X then b else h y) g q).h:=by
 funext l;unfold fv;by_cases e:l=[(X:Int)]
 · subst e;rw[if_pos rfl];show b=(decide ((0:Int)≤(X:Int)) && (if (X:Int).toNat=X then b else _));rw[if_pos (Int.toNat_natCast X),decide_eq_true (by omega)];simp
 · rw[if_neg e];match l,e with
   | [],_=>rfl
   | [y],e =>
     show (decide (0≤y) && h y.toNat)=(decide (0≤y) && (if y.toNat=X then b else h y.toNat));by_cases h0:0≤y
     · rw[if_neg (fun hy=>e (by rw[show y=(X:Int) by omega]))]
     · rw[decide_eq_false h0];rfl
   | _::_::_,_=>rfl
theorem sI (h:Nat→Bool) (g:Nat→Nat) (q:Nat) (X:Nat) (z:Nat):iH (mc h g q).g [(X:Int)] (z:Int)=(mc h (fun y=>if y=X then z else g y) q).g:=by
 funext l;unfold iH;by_cases e:l=[(X:Int)]
 · subst e;rw[if_pos rfl];show (z:Int)=(if (0:Int)≤(X:Int) then (((if (X:Int).toNat=X then z else _):Nat):Int) else 0);rw[if_pos (by omega),if_pos (Int.toNat_natCast X)]
 · rw[if_neg e];match l,e with
   | [],_=>rfl
   | [y],e =>
     show (if 0≤y then (g y.toNat:Int) else 0)=(if 0≤y then (((if y.toNat=X then z else g y.toNat):Nat):Int) else 0);by_cases h0:0≤y
     · rw[if_pos h0,if_pos h0,if_neg (fun hy=>e (by rw[show y=(X:Int) by omega]))]
     · rw[if_neg h0,if_neg h0]
   | _::_::_,_=>rfl
theorem FY (h:Nat→Bool) (g:Nat→Nat) (q X:Nat):(mc h g q).g [(X:Int)]=(g X:Int):=by
 show (if (0:Int)≤(X:Int) then (g (X:Int).toNat:Int) else 0)=_;rw[if_pos (by omega),Int.toNat_natCast]
def Gd (s:CS):Prop:=∃ es,ra (.num .u64) es s.h s.g s.q
theorem FH {h:List Int→Bool} {g:List Int→Int} {q:Nat} (hE:∃ es,ra (.num .u64) es h g q) (a y:Int):∃ es,ra (.num .u64) es (fv h [a] true) (iH g [a] y) (ur (h [a]) q):=by
 obtain ⟨es,hE⟩:=hE;cases hh:h [a] with
 | false=>exact ⟨_,hh ▸ hE.SQ (n:=[a]) (y:=y) rfl (r:=none) hh (fun j hj=>by cases hj)⟩
 | true =>
   obtain ⟨_,j,j1,j2⟩:=hE.all _ hh;obtain ⟨n,e1,e2⟩:=hE.ent j j1;have:eA (.num .u64) n=eA (.num .u64) [a]:=by rw[← j2,e1]
   have hn:n=[a]:=jb (hE.fit e2) rfl this;subst hn;exact ⟨_,hh ▸ hE.SQ (n:=[a]) (y:=y) rfl (r:=some j) hh (fun j' hj'=>by cases hj';exact ⟨j1,e1⟩)⟩
theorem LG {h:List Int→Bool} {g:List Int→Int} {q:Nat} (hE:∃ es,ra (.num .u64) es h g q) (a:Int):∃ es,ra (.num .u64) es (fv h [a] false) (iH g [a] 0) (xG (h [a]) q):=by
 obtain ⟨es,hE⟩:=hE;cases hh:h [a] with
 | false=>exact ⟨_,hh ▸ hE.del (n:=[a]) rfl (r:=none) hh (fun j hj=>by cases hj)⟩
 | true =>
   obtain ⟨_,j,j1,j2⟩:=hE.all _ hh;obtain ⟨n,e1,e2⟩:=hE.ent j j1;have:eA (.num .u64) n=eA (.num .u64) [a]:=by rw[← j2,e1]
   have hn:n=[a]:=jb (hE.fit e2) rfl this;subst hn;exact ⟨_,hh ▸ hE.del (n:=[a]) rfl (r:=some j) hh (fun j' hj'=>by cases hj';exact ⟨j1,e1⟩)⟩
theorem GX (W B:Nat→Int) (k X:Nat) (hX:X<2 ^ 10) (h:Nat→Bool) (g:Nat→Nat) (q:Nat) (hG:Gd (mc h g q)):∀ j,j≤10→(∀ i,i≤j→∀ Y,g Y+g X*cT (okW W B) i k X Y<2 ^ 60) →
 ∃ q',Bt W B (k:Int) (X:Int) j (mc h g q)=mc (fun Y=>h Y || decide (0<cT (okW W B) j k X Y)) (fun Y=>g Y+g X*cT (okW W B) j k X Y) q'∧Gd (Bt W B (k:Int) (X:Int) j (mc h g q))
 | 0,_,_=>⟨q,by
    have e:∀ Y,cT (okW W B) 0 k X Y=0:=fun Y=>rfl;simp only[e,Nat.mul_zero,Nat.add_zero];show mc h g q=_;congr 1;funext Y;simp,hG⟩
 | j + 1,hj,hb=>by
   obtain ⟨q',e,hG'⟩:=GX W B k X hX h g q hG j (by omega) (fun i hi=>hb i (by omega));have hX2:X<2 ^ 62:=by omega
   have e2:Bt W B (k:Int) (X:Int) (j+1) (mc h g q)=Jg W B (k:Int) (X:Int) (Int.ofNat j) (Bt W B (k:Int) (X:Int) j (mc h g q)):=rfl;rw[e2];rw[e] at hG' ⊢;unfold Jg;rw[Md W B k hX2 (by omega)];cases ho:(!X.testBit j && okW W B k X j) with
   | false =>
     refine ⟨q',?_,hG'⟩;have:∀ Y,cT (okW W B) (j+1) k X Y=cT (okW W B) j k X Y:=fun Y=>by rw[Ax,ho];simp
     simp only[this];rfl
   | true =>
     have hbit:X.testBit j=false:=by
      cases hx:X.testBit j with
      | false=>rfl
      | true=>rw[hx] at ho;cases ho
     have hc:∀ Y,cT (okW W B) (j+1) k X Y=cT (okW W B) j k X Y+if X+2 ^ j=Y then 1 else 0:=fun Y=>by rw[Ax,ho];simp
     have hself:=BW (ok:=okW W B) j k X;have hp:=Nat.two_pow_pos j;rw[cond_true];have e3:Pq (X:Int) (Int.ofNat j) (mc (fun Y=>h Y || decide (0<cT (okW W B) j k X Y)) (fun Y=>g Y+g X*cT (okW W B) j k X Y) q') =
      mc (fun Y=>h Y || decide (0<cT (okW W B) (j+1) k X Y)) (fun Y=>g Y+g X*cT (okW W B) (j+1) k X Y) (ur ((mc (fun Y=>h Y || decide (0<cT (okW W B) j k X Y)) (fun Y=>g Y+g X*cT (okW W B) j k X Y) q').h [((X+2 ^ j:Nat):Int)]) q'):=by
      unfold Pq
      rw[Ar hX2 (by omega) hbit,gQ,gS,lT,FY,FY,fH,hself]
      have hb2:=hb (j+1) (by omega) (X+2 ^ j)
      rw[hc,if_pos rfl,Nat.mul_add] at hb2
      rw[show (((g (X+2 ^ j)+g X*cT (okW W B) j k X (X+2 ^ j):Nat):Int)+((g X+g X*0:Nat):Int))=((g (X+2 ^ j)+g X*cT (okW W B) j k X (X+2 ^ j)+g X:Nat):Int) by omega,Go.IntWalk.i64_in _ (by omega),sH,sI]
      show CS.mk (mc _ (fun Y=>g Y+g X*cT (okW W B) j k X Y) q').h (mc (fun Y=>h Y || decide (0<cT (okW W B) j k X Y)) _ q').g _=_
      have a1:(fun y=>if y=X+2 ^ j then true else (h y || decide (0<cT (okW W B) j k X y)))=fun Y=>h Y || decide (0<cT (okW W B) (j+1) k X Y):=by
       funext Y;rw[hc];by_cases e:Y=X+2 ^ j
       · subst e;rw[if_pos rfl,if_pos rfl,decide_eq_true (by omega)];simp
       · rw[if_neg e,if_neg (fun h=>e h.symm)];rfl
      have a2:(fun y=>if y=X+2 ^ j then g (X+2 ^ j)+g X*cT (okW W B) j k X (X+2 ^ j)+g X else g y+g X*cT (okW W B) j k X y)=fun Y=>g Y+g X*cT (okW W B) (j+1) k X Y:=by
       funext Y;rw[hc];by_cases e:Y=X+2 ^ j
       · subst e;rw[if_pos rfl,if_pos rfl,Nat.mul_add];omega
       · rw[if_neg e,if_neg (fun h=>e h.symm)];rfl
      rw[a1,a2];rfl
     refine ⟨_,e3,?_⟩;unfold Pq;rw[gQ,gS,lT];exact FH hG' _ _
theorem MH (W B:Nat→Int) (k X n:Nat) (hX:X<2 ^ 10) (h:Nat→Bool) (g:Nat→Nat) (q:Nat) (hG:Gd (mc h g q)) (hn:n≤10) (hb:∀ i,i≤n→∀ Y,g Y+g X*cT (okW W B) i k X Y<2 ^ 60) :
 ∃ q',MG W B (k:Int) n (X:Int) (mc h g q)=mc (fun Y=>!decide (Y=X) && (h Y || decide (0<cT (okW W B) n k X Y))) (fun Y=>if Y=X then 0 else g Y+g X*cT (okW W B) n k X Y) q'∧Gd (MG W B (k:Int) n (X:Int) (mc h g q)):=by
 obtain ⟨q',e,hG'⟩:=GX W B k X hX h g q hG n hn hb
 unfold MG
 rw[e] at hG' ⊢
 have e3:Py (X:Int) (mc (fun Y=>h Y || decide (0<cT (okW W B) n k X Y)) (fun Y=>g Y+g X*cT (okW W B) n k X Y) q')=mc (fun Y=>!decide (Y=X) && (h Y || decide (0<cT (okW W B) n k X Y))) (fun Y=>if Y=X then 0 else g Y+g X*cT (okW W B) n k X Y) (xG ((mc (fun Y=>h Y || decide (0<cT (okW W B) n k X Y)) (fun Y=>g Y+g X*cT (okW W B) n k X Y) q').h [(X:Int)]) q'):=by
  unfold Py;rw[gQ,gS,sb,sH,show (Int.ofNat 0:Int)=((0:Nat):Int) from rfl,sI];have a1:(fun y=>if y=X then false else (h y || decide (0<cT (okW W B) n k X y)))=fun Y=>!decide (Y=X) && (h Y || decide (0<cT (okW W B) n k X Y)):=by
   funext Y;by_cases e:Y=X
   · rw[if_pos e,decide_eq_true e];rfl
   · rw[if_neg e,decide_eq_false e];rfl
  rw[a1];rfl
 refine ⟨_,e3,?_⟩
 unfold Py
 rw[gQ,gS,sb]
 exact LG hG' _
theorem MF (W B:Nat→Int) (k n:Nat) (hn:n≤10) (hk:k≤10) (q:Nat):∀ (L:List Nat) (z:Nat→Int),(∀ j (h:j<L.length),z j=((L[j]:Nat):Int))→L.Nodup→(∀ x ∈ L,0<cF n (okW W B) k x)→Gd (mc (hD n (okW W B) k []) (gD n (okW W B) k []) q)→∀ m,m≤L.length →
 ∃ q',GW W B (k:Int) n z m (mc (hD n (okW W B) k []) (gD n (okW W B) k []) q)=mc (hD n (okW W B) k (L.take m)) (gD n (okW W B) k (L.take m)) q'∧Gd (GW W B (k:Int) n z m (mc (hD n (okW W B) k []) (gD n (okW W B) k []) q)):=by
 intro L z hz hnd hL hG m
 induction m with
 | zero=>intro _;exact ⟨q,rfl,hG⟩
 | succ m ih =>
   intro hm
   obtain ⟨q',e,hG'⟩:=ih (by omega)
   have e2:GW W B (k:Int) n z (m+1) (mc (hD n (okW W B) k []) (gD n (okW W B) k []) q)=MG W B (k:Int) n (z m) (GW W B (k:Int) n z m (mc (hD n (okW W B) k []) (gD n (okW W B) k []) q)):=rfl
   rw[e2]
   rw[e] at hG' ⊢
   rw[hz m (by omega)]
   have hx:=hL _ (List.getElem_mem (show m<L.length by omega))
   have hlt:=ET hx
   have hp:(2:Nat) ^ n≤2 ^ 10:=Nat.pow_le_pow_right (by decide) hn
   have htake:L.take (m+1)=L.take m++[L[m]'(by omega)]:=by rw[List.take_add_one,List.getElem?_eq_getElem (by omega)];rfl
   have hnin:L[m]'(by omega) ∉ L.take m:=fun hc=>by
    have:=hnd.sublist (List.take_sublist (m+1) L);rw[htake,List.nodup_append] at this;exact this.2.2 _ hc _ List.mem_cons_self rfl
   have hLt:∀ x ∈ L.take m,0<cF n (okW W B) k x:=fun x hx=>hL x (List.mem_of_mem_take hx)
   have hb:∀ i,i≤n→∀ Y,gD n (okW W B) k (L.take m) Y+gD n (okW W B) k (L.take m) (L[m]'(by omega))*cT (okW W B) i k (L[m]'(by omega)) Y<2 ^ 60:=fun i hi Y=>by
    have h1:=NU (hnd.sublist (List.take_sublist m L)) hLt hx hnin i Y hi;have h2:=JF (n:=n) (ok:=okW W B) k Y;have h3:=JF (n:=n) (ok:=okW W B) (k+1) Y;have h4:n ^ k≤10 ^ 10:=Nat.le_trans (Nat.pow_le_pow_left hn k) (Nat.pow_le_pow_right (by decide) hk);have h5:n ^ (k+1)≤10 ^ 11:=Nat.le_trans (Nat.pow_le_pow_left hn _) (Nat.pow_le_pow_right (by decide) (by omega));omega
   obtain ⟨q'',e3,hG''⟩:=MH W B k (L[m]'(by omega)) n (by omega) _ _ q' hG' hn hb
   refine ⟨q'',?_,hG''⟩
   rw[e3,htake]
   congr 1
   · funext Y;exact Ib hLt hx Y
   · funext Y;exact Ia hLt hx hnin Y
end Go.Eng.Q
end
section
namespace Go.Eng.Q
open Go.Proofs Go.Eng.Gall
noncomputable def P9 (k:Int):aD:=iV k++[(6,.nils),(18,.map 2 1),(19,.ptr 0 0 0 0),(20,.tup [.bool false]),(21,.bool false)]
noncomputable def TR:bF:=⟨false,[(0,.dead)]⟩
theorem WJ (n:Nat) (k x y:Int) (H:aa):bQ.tD cL (oB n) (il aH n 0) aS aR 0 1 (.int .u64 x,.int .i64 y) (hints (iV k++[(6,.nils),(18,.map 2 1),(19,.ptr 0 0 0 0)])) (⟨false,[(0,.dead)]⟩::H) =
 Tr.req (fU 0 1 8) (Tr.req (cj 0 0) (Tr.req (dD 1 1) (Tr.ok ([(1,AV.ptr 2 0 0 0,none),(3,AV.ptr 2 2 0 0,none),(4,AV.ptr 2 3 0 0,none),(5,AV.int .i64 k,none),(6,AV.slc 0 2 0 0 1 1 none,none),(19,AV.ptr 0 0 0 0,none)],{ lock:=false,bs:=[(0,an.dead),(0,an.row (Row.I IntKind.u64 [x])),(0,an.row (Row.M [c8.arr IntKind.u64 (az [x]) 1]))] } :: H)))):=by kernel_rfl
theorem WK (n:Nat) (k:Int) (H:aa):bQ.vn cL (oB n) (il aH n 0) (hints (iV k++[(6,.nils),(18,.map 2 1),(19,.ptr 0 0 0 0)])) (⟨false,[(0,.dead)]⟩::H) =
 Tr.ok ([(1,AV.ptr 2 0 0 0,none),(3,AV.ptr 2 2 0 0,none),(4,AV.ptr 2 3 0 0,none),(5,AV.int .i64 k,none),(6,AV.nils,none),(18,AV.map 2 1,none),(19,AV.ptr 0 0 0 0,none),(20,AV.tup [AV.bool false],none),(21,AV.bool false,none)],{ lock:=false,bs:=[(0,an.dead)] } :: H):=by kernel_rfl
theorem tZ (n:Nat) (k:Int) (G:aa):aJ (oB n) (il aH n 0) aS aR qV (hints (P9 k)) (⟨false,[(0,.dead)]⟩::ar::G) =
 Tr.ok (Ex.normal,[(1,AV.ptr 2 0 0 0,none),(3,AV.ptr 2 2 0 0,none),(4,AV.ptr 2 3 0 0,none),(5,AV.int .i64 k,none),(28,AV.nils,none),(29,AV.int .i64 (Int.ofNat 0),some 1),(30,AV.int .i64 (Int.ofNat 0),some 1),(31,AV.bool false,some 1)],{ lock:=false,bs:=[(0,an.dead)] } :: ar::G):=by kernel_rfl
theorem nO:kZ [0,1,1,1,0,0] cB=part Tryd.f73 [1,1,1,0,1,0,1,0,1,1,1,0,0]:=by kernel_rfl
theorem nI:kZ [0,1,1,1,0,0,1,1,0,0,1,0,1,0,0] cB=part Tryd.f73 [1,1,1,0,1,0,1,0,1,1,1,0,0,1,1,0,0,1,0,1,0,0]:=by kernel_rfl
theorem Wp:qV=part Tryd.f73 [1,1,1,0,1,0,1,0,1,1]:=by kernel_rfl
theorem TF:∀ b,(6,b) ∈ aL (kZ [0,1,1,1,0,0] cB)→b=.loop (kZ [0,1,1,1,0,0,1,1,0,0,1,0,1,0,0] cB):=by rw[nO,nI];exact b6
theorem T4:∀ b,(4,b) ∈ aL qV→b=.loop (kZ [0,1,1,1,0,0] cB):=by rw[Wp,nO];exact b4
section
variable (n:Nat) (k x0:Int) (v m:Nat) (z:Nat→Int) (dr:Int) (lc:Nat) (zc:Nat→Int) (lb:Nat) (zb:Nat→Int) (W B:Nat→Int) (b:an) (G:aa)
theorem WH (j:Nat) (hj:j<m) (hm:m≤99990) (hl:lc≤10) (s:CS):∃ y,exec (oB (n+1)) (kZ [0,1,1,1,0,0] cB) (Es k v m (Int.ofNat j)) (fZ x0 v m z::ar::iv dr lc zc lb zb W B b s::G)=some y ∧
 (y.1=.normal∧tidy 3 y.2.1 y.2.2=(Es k v m (Int.ofNat (j+1)),fZ x0 v m z::ar::iv dr lc zc lb zb W B b (MG W B k lc (z j) s)::G)):=by
 have ez:av 0 (Int.ofNat j) 1=j:=by rw[bE];show 0+j*1=j;omega
 have ec:a6 .i64 (Int.ofNat j) (Int.ofNat 1)=Int.ofNat (j+1):=by
  have:=BG j (by omega);rw[fH];exact this
 have T:=tO (n+1) (Bt W B k (z j) lc s).h (Bt W B k (z j) lc s).g (Bt W B k (z j) lc s).q k (Int.ofNat j) x0 v m z dr lc zc lb zb W B s.h s.g s.q b G
 rw[ez,ec] at T
 refine nE (Q:=fun y=>y.1=.normal∧tidy 3 y.2.1 y.2.2=(Es k v m (Int.ofNat (j+1)),fZ x0 v m z::ar::iv dr lc zc lb zb W B b (MG W B k lc (z j) s)::G)) T (aw _) (a8 (ai _ _) TF (fun x h=>by rw[← Tr.ab h];simp only[eC.st,aP];exact TQ n k x0 v m z dr lc zc lb zb W B b G (Int.ofNat j) (z j) hl s)) (aj _ _) ?_
 refine Tr.af (fun h0=>?_) (fun h0=>?_)
 · refine Tr.ae wG (Tr.ae (by rw[fJ];simp) (Tr.ae wG (Tr.al ⟨rfl,rfl⟩ (Tr.ah ⟨rfl,rfl⟩))))
 · exfalso
   simp (disch:=omega) only[nV,nW] at h0
   omega
theorem UK (hm:m≤99990) (hl:lc≤10) (s:CS):exec (oB (n+1)) (kZ [0,1,1,1,0,0] cB) (Es k v m (Int.ofNat m)) (fZ x0 v m z::ar::iv dr lc zc lb zb W B b s::G)=some (.exit 4,Es k v m (Int.ofNat m)++[(31,.bool false)],fZ x0 v m z::ar::iv dr lc zc lb zb W B b s::G):=by
 have ez:av 0 (Int.ofNat m) 1=m:=by rw[bE];show 0+m*1=m;omega
 have T:=tO (n+1) (Bt W B k (z m) lc s).h (Bt W B k (z m) lc s).g (Bt W B k (z m) lc s).q k (Int.ofNat m) x0 v m z dr lc zc lb zb W B s.h s.g s.q b G;rw[ez] at T;refine iS T (aw _) (a8 (ai _ _) TF (fun x h=>by rw[← Tr.ab h];simp only[eC.st,aP];exact TQ n k x0 v m z dr lc zc lb zb W B b G (Int.ofNat m) (z m) hl s)) (aj _ _) ?_;refine Tr.af (fun h0=>?_) (fun h0=>Tr.ah rfl);exfalso;simp (disch:=omega) only[nV,nW] at h0;omega
theorem Wk (hm:m≤99990) (hl:lc≤10) (s:CS):exec (oB (n+1)) (.block 4 (.loop (kZ [0,1,1,1,0,0] cB))) (Es k v m (Int.ofNat 0)) (fZ x0 v m z::ar::iv dr lc zc lb zb W B b s::G) =
 some (.normal,Es k v m (Int.ofNat m)++[(31,.bool false)],fZ x0 v m z::ar::iv dr lc zc lb zb W B b (GW W B k lc z m s)::G):=by
 refine JJ (n:=n+1) (f:=73) (nt:=83) (d:=2) (i:=4) 4 (fun c=>Es k v m (Int.ofNat c)) (fun c=>fZ x0 v m z::ar::iv dr lc zc lb zb W B b (GW W B k lc z c s)::G) m (_,_) (by omega) (fun c hc=>?_) ?_
 · exact WH n k x0 v m z dr lc zc lb zb W B b G c hc hm hl (GW W B k lc z c s)
 · exact UK n k x0 v m z dr lc zc lb zb W B b G hm hl _
theorem Sd (hm:m≤99990) (hl:lc≤10) (s:CS):exec (oB (n+1)) qV (Qa k v m) (fZ x0 v m z::ar::iv dr lc zc lb zb W B b s::G)=some (.normal,Es k v m (Int.ofNat m)++[(31,.bool false)],fZ x0 v m z::ar::iv dr lc zc lb zb W B b (GW W B k lc z m s)::G):=by
 refine iS (t10 (n+1) k x0 v m z (iv dr lc zc lb zb W B b s::G) (iv dr lc zc lb zb W B b (GW W B k lc z m s)::G)) (aw _) (a8 (ai _ _) T4 (fun x h=>by rw[← Tr.ab h];simp only[eC.st,aP];exact Wk n k x0 v m z dr lc zc lb zb W B b G hm hl s)) (aj _ _) ?_;exact Tr.al ⟨rfl,rfl⟩ (Tr.ah rfl)
end
end Go.Eng.Q
end
