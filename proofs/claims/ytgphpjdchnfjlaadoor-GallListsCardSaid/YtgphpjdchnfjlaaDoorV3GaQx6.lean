/- Gall: calls within count: those of the functions that it alone reaches. -/
import Derived.Test.YtgphpjdchnfjlaaDoorV3EngThx10
import Derived.Test.YtgphpjdchnfjlaaDoorV3EngRnFx7
import Derived.Test.YtgphpjdchnfjlaaDoorV3EngTkx3
import Derived.Test.YtgphpjdchnfjlaaDoorProg
import Derived.KernelRfl
import Derived.Test.YtgphpjdchnfjlaaDoorV3Gp2x6
import Derived.IntWalk
set_option linter.unusedVariables false
set_option maxRecDepth 100000
set_option linter.unusedSimpArgs false
section
namespace Go.Eng
open Go.Proofs
def ki:List Nat→Code→Code
 | [],c=>c
 | x :: p,c=>match c with
   | .seq a b=>match x with
     | 0=>ki p a
     | _=>ki p b
   | .cond _ a b=>match x with
     | 0=>ki p a
     | _=>ki p b
   | .block _ b=>ki p b
   | .loop b=>ki p b
   | .scope b=>ki p b
   | .rangeFunc _ _ a b=>match x with
     | 0=>ki p a
     | _=>ki p b
   | c=>c
noncomputable def part (f:Func) (p:List Nat):Code:=ki p (bw f)
theorem Aj (j:Nat) (h:j<2 ^ 31):IntKind.i64.wrap ((j:Int)+1)=((j+1:Nat):Int):=by
 rw[show ((j:Int)+1)=((j+1:Nat):Int) by omega]
 exact Go.IntWalk.i64_in _ (by omega)

def eV (p:Nat→Bool) (N:Nat):Bool:=decide (fN p N 0<N)
theorem rk {p:Nat→Bool} {N:Nat} (h:eV p N=true):fN p N 0<N:=by simpa[eV] using h
theorem tR {p:Nat→Bool} {N:Nat} (h:eV p N=false):fN p N 0=N:=by
 have h1:=(u0 p N 0).2.1
 have:¬ fN p N 0<N:=by simpa[eV] using h
 omega
theorem dG (p:Nat→Bool) (N:Nat):eV p N=true↔∃ i,i<N∧p i=true:=by
 obtain ⟨h1,h2,h3,h4⟩:=u0 p N 0
 constructor
 · intro h
   have:=rk h
   exact ⟨_,this,h4 (by omega)⟩
 · rintro ⟨i,hi,hp⟩
   unfold eV
   rw[decide_eq_true_eq]
   apply Nat.lt_of_not_le
   intro hc
   have:=h3 i (by omega) (by omega)
   rw[this] at hp;cases hp
namespace Q
noncomputable def kL:aA→FuncId→List AV→aa→Option (AV×aa):=xz []
def Fc (f:FuncId):Bool:=Nat.beq f 1000000
noncomputable def cd (n:Nat):aA:=cU Tryd.prog kL KtG.kt 100000 n
noncomputable def il (tab:nr) (n k:Nat):bj:=zA Tryd.prog kL KtG.kt 100000 Fc tab n k
theorem vv (g:FuncId) (h:Fc g=false) (c:aA) (args:List AV) (H:aa):kL c g args H=none:=by
 unfold Fc at h
 unfold kL xz
 rw[h,cond_false];rfl
theorem me (n:Nat):∃ x,cU Tryd.prog kL KtG.kt 100000 n .mode [] []=some x:=by
 cases n<;>exact ⟨_,rfl⟩
theorem vB:qG Tryd.prog kL:=Br [] (fun e he=>by cases he)
theorem gJ (tab:nr) (n k:Nat) (ht:∀ k,tab.Ok (cd (n+k))):(il tab n k).Ok (cd (n+k)):=vn _ _ _ _ _ _ _ vv (fun k=>me _) ht k
theorem gI (n k:Nat):(il aX n k).Ok (cd (n+k)):=gJ _ _ _ (fun k=>bG _)
theorem aV (n:Nat):(il aX n 0).Ok (cd n):=gI n 0
end Q
end Go.Eng
end
section
namespace Go.Eng.Q
open Go.Proofs
noncomputable def slA (n len:Nat) (z:Nat→Int):AV:=.slcT none (.M [.arr .i64 z (ff len n)]) n len false
noncomputable def shR (dr:Int) (lc:Nat) (zc:Nat→Int) (lb:Nat) (zb:Nat→Int) (W B:Nat→Int):Row:=.M [.one (.int .i64 dr),.one (slA 4 lc zc),.one (slA 2 lb zb),.arr .i64 W 20,.arr .u64 B 10]
noncomputable def shV (dr:Int) (lc:Nat) (zc:Nat→Int) (lb:Nat) (zb:Nat→Int) (W B:Nat→Int):AV:=.ptrT none (shR dr lc zc lb zb W B) 0
noncomputable def aR:bL:=⟨false,[]⟩
noncomputable def rf (n f nt d i:Nat):Cx:=⟨Tryd.prog,cd n,100000,f,nt,KtG.kt f,some (d,i)⟩
def vA:Code→Array Oper
 | .region _ ops _=>ops
 | _=>#[]
def Ms (l:List Oper):Oper:=l.headD { dst:=none,op:=.move (.tmp 0),type:=0,pos := "",after:=#[],guard:=none }
noncomputable def cB:Code:=part Tryd.f73 [1,1,1,0,1,0,1]
noncomputable def cS:dM:={ id0:=6,ops0:=vA (ki [0,1,0,0] cB),pre:=(vA (ki [0,1,0,0] cB)).toList.take 1,ro:=Ms ((vA (ki [0,1,0,0] cB)).toList.drop 1),m:=18,ty:=128 }
noncomputable def cL:bF:={ out:=2,DX:=7,id2:=8,nxt:=3,ops1:=vA (ki [0,1,0,1,0,0,0] cB),ops2:=vA (ki [0,1,0,1,0,0,1,1,0,0] cB),no:=Ms (vA (ki [0,1,0,1,0,0,0] cB)).toList,eo:=Ms (vA (ki [0,1,0,1,0,0,1,1,0,0] cB)).toList,t1:=(vA (ki [0,1,0,1,0,0,0] cB)).toList.tail,t2:=(vA (ki [0,1,0,1,0,0,1,1,0,0] cB)).toList.tail,it:=19,nx:=20,mo:=21,en:=22,rest:=ki [0,1,0,1,0,0,1,1,0,1] cB,km:=267386880+128 }
noncomputable def qd:Code:=ki [0,1,1] cB
noncomputable def cR:oI:={ f:=73,id:=1,body:=cB,pre:=[ki [0,0] cB],S:=cS,L:=cL,suf:=qd }
noncomputable def iq (k:Int):az:=[(1,.ptr 2 0 0 0),(3,.ptr 2 2 0 0),(4,.ptr 2 3 0 0),(5,.int .i64 k)]
noncomputable def lA (dr:Int) (lc:Nat) (zc:Nat→Int) (lb:Nat) (zb:Nat→Int) (W B:Nat→Int) (h:List Int→Bool) (g:List Int→Int) (c:Nat) (b:av):bL:=⟨false,[(0,.row (.G [shV dr lc zc lb zb W B])),(0,.fmap (.num .u64) h g c),(0,.row (.G [.map 0 1])),(0,.row (.G [.fn (.func 71) [shV dr lc zc lb zb W B] []])),(0,b)]⟩
theorem t5 (n:Nat) (k:Int) (H:aa):aZ (rf n 73 83 2 4) (il aX n 0) bo bp (ki [0,0] cB) (hints (iq k)) (aR::H) =
 Tr.ok (Ex.normal,[(1,AV.ptr 2 0 0 0,none),(3,AV.ptr 2 2 0 0,none),(4,AV.ptr 2 3 0 0,none),(5,AV.int .i64 k,none),(6,AV.nils,none)],aR::H):=by kernel_rfl
theorem tS (n:Nat) (k:Int) (dr:Int) (lc:Nat) (zc:Nat→Int) (lb:Nat) (zb:Nat→Int) (W B:Nat→Int) (h:List Int→Bool) (g:List Int→Int) (c:Nat) (b:av) (H:aa):dM.Jt cS (rf n 73 83 2 4) (il aX n 0) (hints (iq k++[(6,.nils)])) (aR::aR::lA dr lc zc lb zb W B h g c b::H) =
 (fun (Z0:List AV)=>Tr.ok ([(1,AV.ptr 2 0 0 0,none),(3,AV.ptr 2 2 0 0,none),(4,AV.ptr 2 3 0 0,none),(5,AV.int .i64 k,none),(6,AV.nils,none),(18,AV.map 2 1,none)],aR::aR::{ lock:=false,bs:=[(0,av.row (Row.G Z0)),(0,av.fmap (KK.num IntKind.u64) h g c),(0,av.row (Row.G [AV.map 0 1])),(0,av.row (Row.G [AV.fn (Fn.func 71) Z0 []])),(0,b)] } :: H)) [AV.ptrT none (Row.M [aw.one (AV.int .i64 dr),aw.one (AV.slcT none (Row.M [aw.arr .i64 zc (aq lc 4)]) 4 lc false),aw.one (AV.slcT none (Row.M [aw.arr .i64 zb (aq lb 2)]) 2 lb false),aw.arr .i64 W 20,aw.arr IntKind.u64 B 10]) 0]:=by kernel_rfl
theorem tB (n:Nat) (k x y x0:Int) (v m:Nat) (z:Nat→Int) (H:aa):bF.sk cL (rf n 73 83 2 4) (il aX n 0) bo bp 0 1 (.int .u64 x,.int .i64 y) (hints (iq k++[(6,.slc 0 2 v 0 1 m none),(19,.ptr 0 0 0 0)])) (⟨false,[(0,.dead),(0,.row (.I .u64 [x0])),(v,.row (.M [.arr .u64 z m]))]⟩::H) =
 Tr.req (ou m 1 8) (Tr.req (fX 0 0) (Tr.req (jS 1 1) (Tr.req (fX v v) (Tr.req (fX (aG 0 m) m) (Tr.ok ([(1,AV.ptr 2 0 0 0,none),(3,AV.ptr 2 2 0 0,none),(4,AV.ptr 2 3 0 0,none),(5,AV.int .i64 k,none),(6,AV.slc 0 2 (Nat.succ v) 0 1 (aG m 1) none,none),(19,AV.ptr 0 0 0 0,none)],{ lock:=false,bs:=[(0,av.dead),(0,av.row (Row.I IntKind.u64 [x0])),(Nat.succ v,av.row (Row.M [aw.arr IntKind.u64 (sV (yN z 0) m (bC [x])) (aG m 1)]))] } :: H)))))):=by kernel_rfl
theorem tX (n:Nat) (k x0:Int) (v m:Nat) (z:Nat→Int) (H:aa):bF.ug cL (rf n 73 83 2 4) (il aX n 0) (hints (iq k++[(6,.slc 0 2 v 0 1 m none),(19,.ptr 0 0 0 0)])) (⟨false,[(0,.dead),(0,.row (.I .u64 [x0])),(v,.row (.M [.arr .u64 z m]))]⟩::H) =
 Tr.ok ([(1,AV.ptr 2 0 0 0,none),(3,AV.ptr 2 2 0 0,none),(4,AV.ptr 2 3 0 0,none),(5,AV.int .i64 k,none),(6,AV.slc 0 2 v 0 1 m none,none),(19,AV.ptr 0 0 0 0,none),(20,AV.tup [AV.bool false],none),(21,AV.bool false,none)],{ lock:=false,bs:=[(0,av.dead),(0,av.row (Row.I IntKind.u64 [x0])),(v,av.row (Row.M [aw.arr IntKind.u64 z m]))] } :: H):=by kernel_rfl
theorem tN (n:Nat) (k:Int) (H:aa):bF.ug cL (rf n 73 83 2 4) (il aX n 0) (hints (iq k++[(6,.nils),(19,.ptr 0 0 0 0)])) (⟨false,[(0,.dead)]⟩::H) =
 Tr.ok ([(1,AV.ptr 2 0 0 0,none),(3,AV.ptr 2 2 0 0,none),(4,AV.ptr 2 3 0 0,none),(5,AV.int .i64 k,none),(6,AV.nils,none),(19,AV.ptr 0 0 0 0,none),(20,AV.tup [AV.bool false],none),(21,AV.bool false,none)],{ lock:=false,bs:=[(0,av.dead)] } :: H):=by kernel_rfl
end Go.Eng.Q
end
section
namespace Go.Eng.Q
open Go.Proofs
noncomputable def jn (x0:Int) (v m:Nat) (z:Nat→Int):bL:=⟨false,[(0,.dead),(0,.row (.I .u64 [x0])),(v,.row (.M [.arr .u64 z m]))]⟩
noncomputable def Mo (k:Int) (v m:Nat):az:=iq k++[(6,.slc 0 2 v 0 1 m none),(19,.ptr 0 0 0 0),(20,.tup [.bool false]),(21,.bool false)]
noncomputable def nu (n:Nat):Cx:=rf n 73 83 2 4
noncomputable def CU (k:Int) (v m:Nat) (j:Int):az:=iq k++[(28,.slc 0 2 v 0 1 m none),(29,.int .i64 (Int.ofNat m)),(30,.int .i64 j)]
noncomputable def DH (k:Int) (v m:Nat) (x j:Int) (lc:Nat) (c:Int):az:=iq k++[(9,.int .u64 x),(28,.slc 0 2 v 0 1 m none),(29,.int .i64 (Int.ofNat m)),(30,.int .i64 j),(39,.int .i64 (Int.ofNat lc)),(40,.int .i64 c)]
theorem t10 (n:Nat) (k x0:Int) (v m:Nat) (z:Nat→Int) (G G':aa):aZ (nu n) (il aX n 0) (dN bo 4 (CU k v m (Int.ofNat 0)) (jn x0 v m z::aR::G) (.ok (.normal,hints (CU k v m (Int.ofNat m)++[(31,.bool false)]),jn x0 v m z::aR::G'))) bp qd (hints (Mo k v m)) (jn x0 v m z::aR::G) =
 (fun (Z0:az)=>Tr.reqP (Z0=Z0∧jn x0 v m z::aR::G=jn x0 v m z::aR::G) (Tr.ok (Ex.normal,[(1,AV.ptr 2 0 0 0,none),(3,AV.ptr 2 2 0 0,none),(4,AV.ptr 2 3 0 0,none),(5,AV.int .i64 k,none),(28,AV.slc 0 2 v 0 1 m none,none),(29,AV.int .i64 (Int.ofNat m),none),(30,AV.int .i64 (Int.ofNat m),none),(31,AV.bool false,none)],jn x0 v m z::aR::G'))) [(1,AV.ptr 2 0 0 0),(3,AV.ptr 2 2 0 0),(4,AV.ptr 2 3 0 0),(5,AV.int .i64 k),(28,AV.slc 0 2 v 0 1 m none),(29,AV.int .i64 (Int.ofNat m)),(30,AV.int .i64 (Int.ofNat 0))]:=by kernel_rfl
theorem tO (n:Nat) (h':List Int→Bool) (g':List Int→Int) (q':Nat) (k j x0:Int) (v m:Nat) (z:Nat→Int) (dr:Int) (lc:Nat) (zc:Nat→Int) (lb:Nat) (zb:Nat→Int) (W B:Nat→Int) (h:List Int→Bool) (g:List Int→Int) (q:Nat) (b:av) (G:aa):aZ (nu n) (il aX n 0) (dN bo 6 (DH k v m (z (aE 0 j 1)) j lc (Int.ofNat 0)) (jn x0 v m z::aR::lA dr lc zc lb zb W B h g q b::G) (.ok (.normal,hints (DH k v m (z (aE 0 j 1)) j lc (Int.ofNat lc)++[(41,.bool false)]),jn x0 v m z::aR::lA dr lc zc lb zb W B h' g' q' b::G))) bp (ki [0,1,1,1,0,0] cB) (hints (CU k v m j)) (jn x0 v m z::aR::lA dr lc zc lb zb W B h g q b::G) =
 (fun (Z0:az)=>Tr.ite (da j (Int.ofNat m)) (Tr.req (dk j m) (Tr.req (fX v v) (Tr.req (cW (aE 0 j 1) m) (Tr.reqP (Z0=Z0∧jn x0 v m z::aR::lA dr lc zc lb zb W B h g q b::G=jn x0 v m z::aR::lA dr lc zc lb zb W B h g q b::G) (Tr.ok (Ex.normal,[(1,AV.ptr 2 0 0 0,none),(3,AV.ptr 2 2 0 0,none),(4,AV.ptr 2 3 0 0,none),(5,AV.int .i64 k,none),(28,AV.slc 0 2 v 0 1 m none,none),(29,AV.int .i64 (Int.ofNat m),none),(30,AV.int .i64 (bz .i64 j (Int.ofNat 1)),none)],jn x0 v m z::aR::{ lock:=false,bs:=[(0,av.row (Row.G [shV dr lc zc lb zb W B])),(0,av.fmap (KK.num IntKind.u64) (lP h' [z (aE 0 j 1)] false) (lQ g' [z (aE 0 j 1)] (Int.ofNat 0)) (wm (h' [z (aE 0 j 1)]) q')),(0,av.row (Row.G [AV.map 0 1])),(0,av.row (Row.G [AV.fn (Fn.func 71) [shV dr lc zc lb zb W B] []])),(0,b)] } :: G)))))) (Tr.ok (Ex.exit 4,[(1,AV.ptr 2 0 0 0,none),(3,AV.ptr 2 2 0 0,none),(4,AV.ptr 2 3 0 0,none),(5,AV.int .i64 k,none),(28,AV.slc 0 2 v 0 1 m none,none),(29,AV.int .i64 (Int.ofNat m),none),(30,AV.int .i64 j,none),(31,AV.bool false,some 1)],jn x0 v m z::aR::lA dr lc zc lb zb W B h g q b::G))) [(1,AV.ptr 2 0 0 0),(3,AV.ptr 2 2 0 0),(4,AV.ptr 2 3 0 0),(5,AV.int .i64 k),(9,AV.int IntKind.u64 (z (aE 0 j 1))),(28,AV.slc 0 2 v 0 1 m none),(29,AV.int .i64 (Int.ofNat m)),(30,AV.int .i64 j),(39,AV.int .i64 (Int.ofNat lc)),(40,AV.int .i64 (Int.ofNat 0))]:=by kernel_rfl
theorem tI (n:Nat) (k j x x0 c:Int) (v m:Nat) (z:Nat→Int) (dr:Int) (lc:Nat) (zc:Nat→Int) (lb:Nat) (zb:Nat→Int) (W B:Nat→Int) (h:List Int→Bool) (g:List Int→Int) (q:Nat) (b:av) (G:aa):aZ (nu (n+1)) (il aX n 1) bo bp (ki [0,1,1,1,0,0,1,1,0,0,1,0,1,0,0] cB) (hints (DH k v m x j lc c)) (jn x0 v m z::aR::lA dr lc zc lb zb W B h g q b::G) =
 (fun (Z0:aK)=>Tr.ite (da c (Int.ofNat lc)) (Tr.req (er (Int.ofNat 0) c) (Tr.ite (dC (oL IntKind.u64 x (fF IntKind.u64 (Int.ofNat 1) c)) (Int.ofNat 0)) (Tr.req (dk c 10) (Tr.req (nv (aE 23 c 1) 1 23 10) (Tr.ite (dC (Fm IntKind.u64 (B (fG (aE 23 c 1) 23)) x) (Int.ofNat 0)) (Tr.req (dk c 10) (Tr.req (nv (aE 3 c 2) 1 3 20) (Tr.req (nv (aG (aE 3 c 2) 1) 1 3 20) (Tr.ite (er (W (fG (aE 3 c 2) 3)) k) (Tr.ite (er k (W (fG (aG (aE 3 c 2) 1) 3))) (Tr.req (er (Int.ofNat 0) c) (Tr.req (bY (jS 0 0) (jS 0 1)) (Tr.ok (Ex.normal,Z0,jn x0 v m z::aR::{ lock:=false,bs:=[(0,av.row (Row.G [shV dr lc zc lb zb W B])),(0,av.fmap (KK.num IntKind.u64) (lP h [wb IntKind.u64 x (fF IntKind.u64 (Int.ofNat 1) c)] true) (lQ g [wb IntKind.u64 x (fF IntKind.u64 (Int.ofNat 1) c)] (bz .i64 (g [wb IntKind.u64 x (fF IntKind.u64 (Int.ofNat 1) c)]) (g [x]))) (pD (h [wb IntKind.u64 x (fF IntKind.u64 (Int.ofNat 1) c)]) q)),(0,av.row (Row.G [AV.map 0 1])),(0,av.row (Row.G [AV.fn (Fn.func 71) [shV dr lc zc lb zb W B] []])),(0,b)] } :: G)))) (Tr.ok (Ex.normal,Z0,jn x0 v m z::aR::lA dr lc zc lb zb W B h g q b::G))) (Tr.ok (Ex.normal,Z0,jn x0 v m z::aR::lA dr lc zc lb zb W B h g q b::G)))))) (Tr.ok (Ex.normal,Z0,jn x0 v m z::aR::lA dr lc zc lb zb W B h g q b::G))))) (Tr.ok (Ex.normal,Z0,jn x0 v m z::aR::lA dr lc zc lb zb W B h g q b::G)))) (Tr.ok (Ex.exit 6,[(1,AV.ptr 2 0 0 0,none),(3,AV.ptr 2 2 0 0,none),(4,AV.ptr 2 3 0 0,none),(5,AV.int .i64 k,none),(9,AV.int IntKind.u64 x,none),(28,AV.slc 0 2 v 0 1 m none,none),(29,AV.int .i64 (Int.ofNat m),none),(30,AV.int .i64 j,none),(39,AV.int .i64 (Int.ofNat lc),none),(40,AV.int .i64 c,none),(41,AV.bool false,some 1)],jn x0 v m z::aR::lA dr lc zc lb zb W B h g q b::G))) [(1,AV.ptr 2 0 0 0,none),(3,AV.ptr 2 2 0 0,none),(4,AV.ptr 2 3 0 0,none),(5,AV.int .i64 k,none),(9,AV.int IntKind.u64 x,none),(28,AV.slc 0 2 v 0 1 m none,none),(29,AV.int .i64 (Int.ofNat m),none),(30,AV.int .i64 j,none),(39,AV.int .i64 (Int.ofNat lc),none),(40,AV.int .i64 (bz .i64 c (Int.ofNat 1)),none)]:=by kernel_rfl
end Go.Eng.Q
end
section
namespace Go.Eng.Q
open Go.Proofs
theorem oR {n f nt d i:Nat} {c:Code} {callR:bj} {bl:fc} {rg:oJ} {fr:az} {H:aa} {T:Tr gZ} (e:aZ (rf n f nt d i) callR bl rg c (hints fr) H=T) (hC:callR.Ok (cd n)) (hB:bl.Ok (rf n f nt d i) c) (hR:rg.Ok (rf n f nt d i) c) {y:Ex×az×aa} (h:T.all fun x=>x.st=y):exec (rf n f nt d i) c fr H=some y:=by
 obtain ⟨x,h1,rfl⟩:=h
 have:=im (cx:=rf n f nt d i) hC c hB hR (hints fr) H x (by rw[e];exact h1)
 rw[bn] at this;exact this
theorem DD {n f nt d i:Nat} {c:Code} {callR:bj} {bl:fc} {rg:oJ} {fr:az} {H:aa} {T:Tr gZ} {Q:Ex×az×aa→Prop} (e:aZ (rf n f nt d i) callR bl rg c (hints fr) H=T) (hC:callR.Ok (cd n)) (hB:bl.Ok (rf n f nt d i) c) (hR:rg.Ok (rf n f nt d i) c) (h:T.all fun x=>Q x.st):∃ y,exec (rf n f nt d i) c fr H=some y∧Q y:=by
 obtain ⟨x,h1,h2⟩:=h
 have:=im (cx:=rf n f nt d i) hC c hB hR (hints fr) H x (by rw[e];exact h1)
 rw[bn] at this;exact ⟨_,this,h2⟩
theorem IJ {n f nt d i:Nat} {c:Code} (id:Nat) (F:Nat→az) (G:Nat→aa) (N:Nat) (p:Nat→Bool) (X:Nat→az×aa) (Y:az×aa) (hN:N<99999)
 (hs:∀ j,j<N→∃ x,exec (rf n f nt d i) c (F j) (G j)=some x∧if p j=true then x=(.ret,X j) else x.1=.normal∧tidy (aN (G 0)) x.2.1 x.2.2=(F (j+1),G (j+1)))
 (he:exec (rf n f nt d i) c (F N) (G N)=some (.exit id,Y)):exec (rf n f nt d i) (.block id (.loop c)) (F 0) (G 0)=some (cond (eV p N) (.ret,X (fN p N 0)) (.normal,Y)):=by
 have key:=jF (body:=exec (rf n f nt d i) c) (n:=aN (G 0)) F G N p (fun j=>if j<N then (.ret,X j) else (.exit id,Y))
  (fun j hj hp=>by
    obtain ⟨x,h1,h2⟩:=hs j hj
    rw[if_neg (by rw[hp];simp)] at h2
    obtain ⟨e,f1,g1⟩:=x
    obtain ⟨rfl,h3⟩:=h2
    exact ⟨_,_,h1,h3⟩)
  (fun j hj hp=>by
    obtain ⟨x,h1,h2⟩:=hs j hj
    rw[if_pos hp] at h2
    subst h2
    rw[if_pos hj]
    exact ⟨h1,by simp⟩)
  (by
    rw[if_neg (by omega)]
    exact ⟨he,by simp⟩) N 0 100000 (by omega) (by omega)
 cases hc:eV p N with
 | true =>
   have:=rk hc
   rw[if_pos this] at key
   exact dD (fun id' h=>by cases h) key
 | false =>
   have:=tR hc
   rw[if_neg (by omega)] at key
   exact gx key

theorem G7 {n f nt d i:Nat} {c:Code} (id:Nat) (F:Nat→az) (G:Nat→aa) (N:Nat) (Y:az×aa) (hN:N<99999)
 (hs:∀ j,j<N→∃ x,exec (rf n f nt d i) c (F j) (G j)=some x∧(x.1=.normal∧tidy (aN (G 0)) x.2.1 x.2.2=(F (j+1),G (j+1))))
 (he:exec (rf n f nt d i) c (F N) (G N)=some (.exit id,Y)):exec (rf n f nt d i) (.block id (.loop c)) (F 0) (G 0)=some (.normal,Y):=by
 have:=IJ id F G N (fun _=>false) (fun _=>Y) Y hN (fun j hj=>by
  obtain ⟨x,h1,h2⟩:=hs j hj
  exact ⟨x,h1,by rw[if_neg (by simp)];exact h2⟩) he
 have h0:eV (fun _=>false) N=false:=by
  cases h:eV (fun _=>false) N with
  | false=>rfl
  | true=>obtain ⟨i2,_,h2⟩:=(dG _ _).1 h;cases h2
 rw[h0] at this
 exact this

structure CS where
 h:List Int→Bool
 g:List Int→Int
 q:Nat
noncomputable def LX (x c:Int) (s:CS):CS:=⟨lP s.h [wb .u64 x (fF .u64 (Int.ofNat 1) c)] true,lQ s.g [wb .u64 x (fF .u64 (Int.ofNat 1) c)] (bz .i64 (s.g [wb .u64 x (fF .u64 (Int.ofNat 1) c)]) (s.g [x])),pD (s.h [wb .u64 x (fF .u64 (Int.ofNat 1) c)]) s.q⟩
noncomputable def Ff (W B:Nat→Int) (k x c:Int):Bool:=cond (dC (oL .u64 x (fF .u64 (Int.ofNat 1) c)) (Int.ofNat 0)) (cond (dC (Fm .u64 (B (fG (aE 23 c 1) 23)) x) (Int.ofNat 0)) (cond (er (W (fG (aE 3 c 2) 3)) k) (er k (W (fG (aG (aE 3 c 2) 1) 3))) false) false) false
noncomputable def GI (W B:Nat→Int) (k x c:Int) (s:CS):CS:=cond (Ff W B k x c) (LX x c s) s
noncomputable def z7 (W B:Nat→Int) (k x:Int):Nat→CS→CS
 | 0,s=>s
 | j+1,s=>GI W B k x (Int.ofNat j) (z7 W B k x j s)
noncomputable def L2 (x:Int) (s:CS):CS:=⟨lP s.h [x] false,lQ s.g [x] (Int.ofNat 0),wm (s.h [x]) s.q⟩
noncomputable def JL (W B:Nat→Int) (k:Int) (n:Nat) (x:Int) (s:CS):CS:=L2 x (z7 W B k x n s)
noncomputable def EL (W B:Nat→Int) (k:Int) (n:Nat) (z:Nat→Int):Nat→CS→CS
 | 0,s=>s
 | j+1,s=>JL W B k n (z j) (EL W B k n z j s)
section
variable (n:Nat) (k x0:Int) (v m:Nat) (z:Nat→Int) (dr:Int) (lc:Nat) (zc:Nat→Int) (lb:Nat) (zb:Nat→Int) (W B:Nat→Int) (b:av) (G:aa)
noncomputable def gS (s:CS):bL:=lA dr lc zc lb zb W B s.h s.g s.q b
theorem Sn (j x:Int) (c:Nat) (hc:c<lc) (hl:lc≤10) (s:CS):∃ y,exec (nu (n+1)) (ki [0,1,1,1,0,0,1,1,0,0,1,0,1,0,0] cB) (DH k v m x j lc (Int.ofNat c)) (jn x0 v m z::aR::gS dr lc zc lb zb W B b s::G)=some y ∧
 (y.1=.normal∧tidy 3 y.2.1 y.2.2=(DH k v m x j lc (Int.ofNat (c+1)),jn x0 v m z::aR::gS dr lc zc lb zb W B b (GI W B k x (Int.ofNat c) s)::G)):=by
 refine DD (Q:=fun y=>y.1=.normal∧tidy 3 y.2.1 y.2.2=(DH k v m x j lc (Int.ofNat (c+1)),jn x0 v m z::aR::gS dr lc zc lb zb W B b (GI W B k x (Int.ofNat c) s)::G)) (tI n k j x x0 (Int.ofNat c) v m z dr lc zc lb zb W B s.h s.g s.q b G) (gI n 1) (ak _ _) (al _ _) ?_
 have ec:bz .i64 (Int.ofNat c) (Int.ofNat 1)=Int.ofNat (c+1):=by
  have:=Aj c (by omega)
  rw[fj];exact this
 have no:Ff W B k x (Int.ofNat c)=false→GI W B k x (Int.ofNat c) s=s:=fun h=>by unfold GI;rw[h];rfl
 have yes:Ff W B k x (Int.ofNat c)=true→GI W B k x (Int.ofNat c) s=LX x (Int.ofNat c) s:=fun h=>by unfold GI;rw[h];rfl
 refine Tr.ag (fun h0=>?_) (fun h0=>?_)
 · refine Tr.af (by simp (disch:=omega) only[nV,nW];try omega) ?_
   refine Tr.ag (fun h1=>?_) (fun h1=>?_)
   · refine Tr.af (by simp (disch:=omega) only[nV,nW];omega) (Tr.af (by simp (disch:=omega) only[nV,nW];omega) ?_)
     refine Tr.ag (fun h2=>?_) (fun h2=>?_)
     · refine Tr.af (by simp (disch:=omega) only[nV,nW];omega) (Tr.af (by simp (disch:=omega) only[nV,nW];omega) (Tr.af (by simp (disch:=omega) only[nV,nW];omega) ?_))
       refine Tr.ag (fun h3=>?_) (fun h3=>?_)
       · refine Tr.ag (fun h4=>?_) (fun h4=>?_)
         · refine Tr.af (by simp (disch:=omega) only[nV,nW];try omega) (Tr.af (by simp (disch:=omega) only[nV,nW];try omega) ?_)
           rw[yes (by unfold Ff;rw[h1,h2,h3,h4];rfl),ec]
           exact Tr.ah ⟨rfl,rfl⟩
         · rw[no (by unfold Ff;rw[h1,h2,h3,h4];rfl),ec]
           exact Tr.ah ⟨rfl,rfl⟩
       · rw[no (by unfold Ff;rw[h1,h2,h3];rfl),ec]
         exact Tr.ah ⟨rfl,rfl⟩
     · rw[no (by unfold Ff;rw[h1,h2];rfl),ec]
       exact Tr.ah ⟨rfl,rfl⟩
   · rw[no (by unfold Ff;rw[h1];rfl),ec]
     exact Tr.ah ⟨rfl,rfl⟩
 · exfalso
   simp (disch:=omega) only[nV,nW] at h0
   omega
theorem Qs (j x:Int) (hl:lc≤10) (s:CS):exec (nu (n+1)) (ki [0,1,1,1,0,0,1,1,0,0,1,0,1,0,0] cB) (DH k v m x j lc (Int.ofNat lc)) (jn x0 v m z::aR::gS dr lc zc lb zb W B b s::G)=some (.exit 6,DH k v m x j lc (Int.ofNat lc)++[(41,.bool false)],jn x0 v m z::aR::gS dr lc zc lb zb W B b s::G):=by
 refine oR (tI n k j x x0 (Int.ofNat lc) v m z dr lc zc lb zb W B s.h s.g s.q b G) (gI n 1) (ak _ _) (al _ _) ?_
 refine Tr.ag (fun h0=>?_) (fun h0=>Tr.ah rfl)
 exfalso
 simp (disch:=omega) only[nV,nW] at h0
 omega
theorem PN (j x:Int) (hl:lc≤10) (s:CS):exec (nu (n+1)) (.block 6 (.loop (ki [0,1,1,1,0,0,1,1,0,0,1,0,1,0,0] cB))) (DH k v m x j lc (Int.ofNat 0)) (jn x0 v m z::aR::gS dr lc zc lb zb W B b s::G) =
 some (.normal,DH k v m x j lc (Int.ofNat lc)++[(41,.bool false)],jn x0 v m z::aR::gS dr lc zc lb zb W B b (z7 W B k x lc s)::G):=by
 refine G7 (n:=n+1) (f:=73) (nt:=83) (d:=2) (i:=4) 6 (fun c=>DH k v m x j lc (Int.ofNat c)) (fun c=>jn x0 v m z::aR::gS dr lc zc lb zb W B b (z7 W B k x c s)::G) lc (_,_) (by omega) (fun c hc=>?_) ?_
 · exact Sn n k x0 v m z dr lc zc lb zb W B b G j x c hc hl (z7 W B k x c s)
 · exact Qs n k x0 v m z dr lc zc lb zb W B b G j x hl _
theorem b6:∀ b,(6,b) ∈ aP (part Tryd.f73 [1,1,1,0,1,0,1,0,1,1,1,0,0])→b=.loop (part Tryd.f73 [1,1,1,0,1,0,1,0,1,1,1,0,0,1,1,0,0,1,0,1,0,0]):=fJ (by kernel_rfl)
theorem b4:∀ b,(4,b) ∈ aP (part Tryd.f73 [1,1,1,0,1,0,1,0,1,1])→b=.loop (part Tryd.f73 [1,1,1,0,1,0,1,0,1,1,1,0,0]):=fJ (by kernel_rfl)
end
end Go.Eng.Q
end
section
namespace Go.Eng.Q
open Go.Proofs Go.Eng.Gall
theorem Iv (x:Nat):BitVec.ofInt 64 (x:Int)=BitVec.ofNat 64 x:=by
 apply BitVec.eq_of_toInt_eq;simp
theorem jf {x:Nat} (h:x<2 ^ 64):IntKind.u64.wrap (x:Int)=x:=Go.IntWalk.u64_in _ (by omega)
theorem Ol {x y:Nat} (hx:x<2 ^ 63) (hy:y<2 ^ 63):wb .u64 (x:Int) (y:Int)=((x ||| y:Nat):Int):=by
 rw[sc]
 show IntKind.u64.wrap ((BitVec.ofInt 64 (x:Int) ||| BitVec.ofInt 64 (y:Int)).toNat:Nat)=_
 have h1:x ||| y<2 ^ 63:=Nat.or_lt_two_pow hx hy
 rw[Iv,Iv,BitVec.toNat_or,BitVec.toNat_ofNat,BitVec.toNat_ofNat,Nat.mod_eq_of_lt (by omega),Nat.mod_eq_of_lt (by omega),jf (by omega)]
theorem Ip {x y:Nat} (hx:x<2 ^ 63) (hy:y<2 ^ 63):oL .u64 (x:Int) (y:Int)=((x &&& y:Nat):Int):=by
 rw[qm]
 show IntKind.u64.wrap ((BitVec.ofInt 64 (x:Int) &&& BitVec.ofInt 64 (y:Int)).toNat:Nat)=_
 have h1:x &&& y<2 ^ 63:=Nat.and_lt_two_pow x hy
 rw[Iv,Iv,BitVec.toNat_and,BitVec.toNat_ofNat,BitVec.toNat_ofNat,Nat.mod_eq_of_lt (by omega),Nat.mod_eq_of_lt (by omega),jf (by omega)]
theorem CH {i:Nat} (hi:i<62):fF .u64 (Int.ofNat 1) (Int.ofNat i)=((2 ^ i:Nat):Int):=by
 rw[vT]
 show IntKind.u64.wrap (1*2 ^ min i 64)=_
 have:(2:Nat) ^ i≤2 ^ 62:=Nat.pow_le_pow_right (by decide) (by omega)
 rw[Nat.min_eq_left (by omega),Int.one_mul,show (2:Int) ^ i=((2 ^ i:Nat):Int) from by rw[Int.natCast_pow];rfl]
 generalize (2:Nat) ^ i=P at *
 exact jf (by omega)
theorem Df {X c:Nat} (hX:X<2 ^ 62) (hc:c<62):dC (oL .u64 (X:Int) (fF .u64 (Int.ofNat 1) (Int.ofNat c))) (Int.ofNat 0)=!X.testBit c:=by
 have:(2:Nat) ^ c≤2 ^ 61:=Nat.pow_le_pow_right (by decide) (by omega)
 rw[CH hc,Ip (by omega) (by omega),bh]
 have key:(X &&& 2 ^ c=0)↔X.testBit c=false:=by
  constructor
  · intro h
    have:=congrArg (fun y=>y.testBit c) h
    simpa[Nat.testBit_and,Nat.testBit_two_pow_self] using this
  · intro h
    apply Nat.eq_of_testBit_eq
    intro i
    rw[Nat.testBit_and,Nat.testBit_two_pow,Nat.zero_testBit]
    by_cases e:c=i
    · subst e;rw[h];rfl
    · rw[decide_eq_false e,Bool.and_false]
 rw[Bool.eq_iff_iff,beq_iff_eq,Bool.not_eq_true',← key]
 show ((X &&& 2 ^ c:Nat):Int)=0↔_
 omega
theorem Dg {X c:Nat} (hX:X<2 ^ 62) (hc:c<62) (h:X.testBit c=false):wb .u64 (X:Int) (fF .u64 (Int.ofNat 1) (Int.ofNat c))=((X+2 ^ c:Nat):Int):=by
 have:(2:Nat) ^ c≤2 ^ 61:=Nat.pow_le_pow_right (by decide) (by omega)
 rw[CH hc,Ol (by omega) (by omega),Jo h]
noncomputable def okW (W B:Nat→Int) (k X c:Nat):Bool:=dC (Fm .u64 (B c) (X:Int)) (Int.ofNat 0) && (er (W (2*c)) (k:Int) && er (k:Int) (W (2*c+1)))
theorem Jm (W B:Nat→Int) (k:Nat) {X c:Nat} (hX:X<2 ^ 62) (hc:c<62):Ff W B (k:Int) (X:Int) (Int.ofNat c)=(!X.testBit c && okW W B k X c):=by
 unfold Ff okW
 rw[Df hX hc]
 simp only[bO,aJ,eI]
 rw[show 23+(Int.ofNat c).toNat*1-23=c by show 23+c*1-23=c;omega,show 3+(Int.ofNat c).toNat*2-3=2*c by show 3+c*2-3=2*c;omega,show 3+(Int.ofNat c).toNat*2+1-3=2*c+1 by show 3+c*2+1-3=2*c+1;omega]
 cases (!X.testBit c)<;>cases (dC (Fm .u64 (B c) (X:Int)) (Int.ofNat 0))<;>cases (er (W (2*c)) (k:Int))<;>cases (er (k:Int) (W (2*c+1)))<;>rfl
def ly (h:Nat→Bool) (g:Nat→Nat) (q:Nat):CS:=⟨fun l=>match l with | [y]=>decide (0≤y) && h y.toNat | _=>false,fun l=>match l with | [y]=>if 0≤y then (g y.toNat:Int) else 0 | _=>0,q⟩
theorem rJ (h:Nat→Bool) (g:Nat→Nat) (q:Nat) (X:Nat) (b:Bool):eS (ly h g q).h [(X:Int)] b=(ly (fun y=>if y=X then b else h y) g q).h:=by
 funext l
 unfold eS
 by_cases e:l=[(X:Int)]
 · subst e
   rw[if_pos rfl]
   show b=(decide ((0:Int)≤(X:Int)) && (if (X:Int).toNat=X then b else _))
   rw[if_pos (Int.toNat_natCast X),decide_eq_true (by omega)];simp
 · rw[if_neg e]
   match l,e with
   | [],_=>rfl
   | [y],e =>
     show (decide (0≤y) && h y.toNat)=(decide (0≤y) && (if y.toNat=X then b else h y.toNat))
     by_cases h0:0≤y
     · rw[if_neg (fun hy=>e (by rw[show y=(X:Int) by omega]))]
     · rw[decide_eq_false h0];rfl
   | _::_::_,_=>rfl
theorem rK (h:Nat→Bool) (g:Nat→Nat) (q:Nat) (X:Nat) (z:Nat):gY (ly h g q).g [(X:Int)] (z:Int)=(ly h (fun y=>if y=X then z else g y) q).g:=by
 funext l
 unfold gY
 by_cases e:l=[(X:Int)]
 · subst e
   rw[if_pos rfl]
   show (z:Int)=(if (0:Int)≤(X:Int) then (((if (X:Int).toNat=X then z else _):Nat):Int) else 0)
   rw[if_pos (by omega),if_pos (Int.toNat_natCast X)]
 · rw[if_neg e]
   match l,e with
   | [],_=>rfl
   | [y],e =>
     show (if 0≤y then (g y.toNat:Int) else 0)=(if 0≤y then (((if y.toNat=X then z else g y.toNat):Nat):Int) else 0)
     by_cases h0:0≤y
     · rw[if_pos h0,if_pos h0,if_neg (fun hy=>e (by rw[show y=(X:Int) by omega]))]
     · rw[if_neg h0,if_neg h0]
   | _::_::_,_=>rfl
theorem D4 (h:Nat→Bool) (g:Nat→Nat) (q X:Nat):(ly h g q).g [(X:Int)]=(g X:Int):=by
 show (if (0:Int)≤(X:Int) then (g (X:Int).toNat:Int) else 0)=_
 rw[if_pos (by omega),Int.toNat_natCast]
def Gd (s:CS):Prop:=∃ es,ql (.num .u64) es s.h s.g s.q
theorem DO {h:List Int→Bool} {g:List Int→Int} {q:Nat} (hE:∃ es,ql (.num .u64) es h g q) (a y:Int):∃ es,ql (.num .u64) es (eS h [a] true) (gY g [a] y) (sW (h [a]) q):=by
 obtain ⟨es,hE⟩:=hE
 cases hh:h [a] with
 | false=>exact ⟨_,hh ▸ hE.OL (n:=[a]) (y:=y) rfl (r:=none) hh (fun j hj=>by cases hj)⟩
 | true =>
   obtain ⟨_,j,j1,j2⟩:=hE.all _ hh
   obtain ⟨n,e1,e2⟩:=hE.ent j j1
   have:dL (.num .u64) n=dL (.num .u64) [a]:=by rw[← j2,e1]
   have hn:n=[a]:=iC (hE.fit e2) rfl this
   subst hn
   exact ⟨_,hh ▸ hE.OL (n:=[a]) (y:=y) rfl (r:=some j) hh (fun j' hj'=>by cases hj';exact ⟨j1,e1⟩)⟩
theorem IV {h:List Int→Bool} {g:List Int→Int} {q:Nat} (hE:∃ es,ql (.num .u64) es h g q) (a:Int):∃ es,ql (.num .u64) es (eS h [a] false) (gY g [a] 0) (wk (h [a]) q):=by
 obtain ⟨es,hE⟩:=hE
 cases hh:h [a] with
 | false=>exact ⟨_,hh ▸ hE.del (n:=[a]) rfl (r:=none) hh (fun j hj=>by cases hj)⟩
 | true =>
   obtain ⟨_,j,j1,j2⟩:=hE.all _ hh
   obtain ⟨n,e1,e2⟩:=hE.ent j j1
   have:dL (.num .u64) n=dL (.num .u64) [a]:=by rw[← j2,e1]
   have hn:n=[a]:=iC (hE.fit e2) rfl this
   subst hn
   exact ⟨_,hh ▸ hE.del (n:=[a]) rfl (r:=some j) hh (fun j' hj'=>by cases hj';exact ⟨j1,e1⟩)⟩
theorem EM (W B:Nat→Int) (k X:Nat) (hX:X<2 ^ 10) (h:Nat→Bool) (g:Nat→Nat) (q:Nat) (hG:Gd (ly h g q)):∀ j,j≤10→(∀ i,i≤j→∀ Y,g Y+g X*cT (okW W B) i k X Y<2 ^ 60) →
 ∃ q',z7 W B (k:Int) (X:Int) j (ly h g q)=ly (fun Y=>h Y || decide (0<cT (okW W B) j k X Y)) (fun Y=>g Y+g X*cT (okW W B) j k X Y) q'∧Gd (z7 W B (k:Int) (X:Int) j (ly h g q))
 | 0,_,_=>⟨q,by
    have e:∀ Y,cT (okW W B) 0 k X Y=0:=fun Y=>rfl
    simp only[e,Nat.mul_zero,Nat.add_zero]
    show ly h g q=_
    congr 1
    funext Y;simp,hG⟩
 | j + 1,hj,hb=>by
   obtain ⟨q',e,hG'⟩:=EM W B k X hX h g q hG j (by omega) (fun i hi=>hb i (by omega))
   have hX2:X<2 ^ 62:=by omega
   have e2:z7 W B (k:Int) (X:Int) (j+1) (ly h g q)=GI W B (k:Int) (X:Int) (Int.ofNat j) (z7 W B (k:Int) (X:Int) j (ly h g q)):=rfl
   rw[e2]
   rw[e] at hG' ⊢
   unfold GI
   rw[Jm W B k hX2 (by omega)]
   cases ho:(!X.testBit j && okW W B k X j) with
   | false =>
     refine ⟨q',?_,hG'⟩
     have:∀ Y,cT (okW W B) (j+1) k X Y=cT (okW W B) j k X Y:=fun Y=>by rw[yY,ho];simp
     simp only[this];rfl
   | true =>
     have hbit:X.testBit j=false:=by
      cases hx:X.testBit j with
      | false=>rfl
      | true=>rw[hx] at ho;cases ho
     have hc:∀ Y,cT (okW W B) (j+1) k X Y=cT (okW W B) j k X Y+if X+2 ^ j=Y then 1 else 0:=fun Y=>by rw[yY,ho];simp
     have hself:=Az (ok:=okW W B) j k X
     have hp:=Nat.two_pow_pos j
     rw[cond_true]
     have e3:LX (X:Int) (Int.ofNat j) (ly (fun Y=>h Y || decide (0<cT (okW W B) j k X Y)) (fun Y=>g Y+g X*cT (okW W B) j k X Y) q') =
      ly (fun Y=>h Y || decide (0<cT (okW W B) (j+1) k X Y)) (fun Y=>g Y+g X*cT (okW W B) (j+1) k X Y) (sW ((ly (fun Y=>h Y || decide (0<cT (okW W B) j k X Y)) (fun Y=>g Y+g X*cT (okW W B) j k X Y) q').h [((X+2 ^ j:Nat):Int)]) q'):=by
      unfold LX
      rw[Dg hX2 (by omega) hbit,gu,gv,kV,D4,D4,fj,hself]
      have hb2:=hb (j+1) (by omega) (X+2 ^ j)
      rw[hc,if_pos rfl,Nat.mul_add] at hb2
      rw[show (((g (X+2 ^ j)+g X*cT (okW W B) j k X (X+2 ^ j):Nat):Int)+((g X+g X*0:Nat):Int))=((g (X+2 ^ j)+g X*cT (okW W B) j k X (X+2 ^ j)+g X:Nat):Int) by omega,Go.IntWalk.i64_in _ (by omega),rJ,rK]
      show CS.mk (ly _ (fun Y=>g Y+g X*cT (okW W B) j k X Y) q').h (ly (fun Y=>h Y || decide (0<cT (okW W B) j k X Y)) _ q').g _=_
      have a1:(fun y=>if y=X+2 ^ j then true else (h y || decide (0<cT (okW W B) j k X y)))=fun Y=>h Y || decide (0<cT (okW W B) (j+1) k X Y):=by
       funext Y
       rw[hc]
       by_cases e:Y=X+2 ^ j
       · subst e;rw[if_pos rfl,if_pos rfl,decide_eq_true (by omega)];simp
       · rw[if_neg e,if_neg (fun h=>e h.symm)];rfl
      have a2:(fun y=>if y=X+2 ^ j then g (X+2 ^ j)+g X*cT (okW W B) j k X (X+2 ^ j)+g X else g y+g X*cT (okW W B) j k X y)=fun Y=>g Y+g X*cT (okW W B) (j+1) k X Y:=by
       funext Y
       rw[hc]
       by_cases e:Y=X+2 ^ j
       · subst e;rw[if_pos rfl,if_pos rfl,Nat.mul_add];omega
       · rw[if_neg e,if_neg (fun h=>e h.symm)];rfl
      rw[a1,a2];rfl
     refine ⟨_,e3,?_⟩
     unfold LX
     rw[gu,gv,kV]
     exact DO hG' _ _
theorem JM (W B:Nat→Int) (k X n:Nat) (hX:X<2 ^ 10) (h:Nat→Bool) (g:Nat→Nat) (q:Nat) (hG:Gd (ly h g q)) (hn:n≤10) (hb:∀ i,i≤n→∀ Y,g Y+g X*cT (okW W B) i k X Y<2 ^ 60) :
 ∃ q',JL W B (k:Int) n (X:Int) (ly h g q)=ly (fun Y=>!decide (Y=X) && (h Y || decide (0<cT (okW W B) n k X Y))) (fun Y=>if Y=X then 0 else g Y+g X*cT (okW W B) n k X Y) q'∧Gd (JL W B (k:Int) n (X:Int) (ly h g q)):=by
 obtain ⟨q',e,hG'⟩:=EM W B k X hX h g q hG n hn hb
 unfold JL
 rw[e] at hG' ⊢
 have e3:L2 (X:Int) (ly (fun Y=>h Y || decide (0<cT (okW W B) n k X Y)) (fun Y=>g Y+g X*cT (okW W B) n k X Y) q')=ly (fun Y=>!decide (Y=X) && (h Y || decide (0<cT (okW W B) n k X Y))) (fun Y=>if Y=X then 0 else g Y+g X*cT (okW W B) n k X Y) (wk ((ly (fun Y=>h Y || decide (0<cT (okW W B) n k X Y)) (fun Y=>g Y+g X*cT (okW W B) n k X Y) q').h [(X:Int)]) q'):=by
  unfold L2
  rw[gu,gv,ra,rJ,show (Int.ofNat 0:Int)=((0:Nat):Int) from rfl,rK]
  have a1:(fun y=>if y=X then false else (h y || decide (0<cT (okW W B) n k X y)))=fun Y=>!decide (Y=X) && (h Y || decide (0<cT (okW W B) n k X Y)):=by
   funext Y
   by_cases e:Y=X
   · rw[if_pos e,decide_eq_true e];rfl
   · rw[if_neg e,decide_eq_false e];rfl
  rw[a1];rfl
 refine ⟨_,e3,?_⟩
 unfold L2
 rw[gu,gv,ra]
 exact IV hG' _
theorem JK (W B:Nat→Int) (k n:Nat) (hn:n≤10) (hk:k≤10) (q:Nat):∀ (L:List Nat) (z:Nat→Int),(∀ j (h:j<L.length),z j=((L[j]:Nat):Int))→L.Nodup→(∀ x ∈ L,0<cF n (okW W B) k x)→Gd (ly (hD n (okW W B) k []) (gD n (okW W B) k []) q)→∀ m,m≤L.length →
 ∃ q',EL W B (k:Int) n z m (ly (hD n (okW W B) k []) (gD n (okW W B) k []) q)=ly (hD n (okW W B) k (L.take m)) (gD n (okW W B) k (L.take m)) q'∧Gd (EL W B (k:Int) n z m (ly (hD n (okW W B) k []) (gD n (okW W B) k []) q)):=by
 intro L z hz hnd hL hG m
 induction m with
 | zero=>intro _;exact ⟨q,rfl,hG⟩
 | succ m ih =>
   intro hm
   obtain ⟨q',e,hG'⟩:=ih (by omega)
   have e2:EL W B (k:Int) n z (m+1) (ly (hD n (okW W B) k []) (gD n (okW W B) k []) q)=JL W B (k:Int) n (z m) (EL W B (k:Int) n z m (ly (hD n (okW W B) k []) (gD n (okW W B) k []) q)):=rfl
   rw[e2]
   rw[e] at hG' ⊢
   rw[hz m (by omega)]
   have hx:=hL _ (List.getElem_mem (show m<L.length by omega))
   have hlt:=Di hx
   have hp:(2:Nat) ^ n≤2 ^ 10:=Nat.pow_le_pow_right (by decide) hn
   have htake:L.take (m+1)=L.take m++[L[m]'(by omega)]:=by rw[List.take_add_one,List.getElem?_eq_getElem (by omega)];rfl
   have hnin:L[m]'(by omega) ∉ L.take m:=fun hc=>by
    have:=hnd.sublist (List.take_sublist (m+1) L)
    rw[htake,List.nodup_append] at this
    exact this.2.2 _ hc _ List.mem_cons_self rfl
   have hLt:∀ x ∈ L.take m,0<cF n (okW W B) k x:=fun x hx=>hL x (List.mem_of_mem_take hx)
   have hb:∀ i,i≤n→∀ Y,gD n (okW W B) k (L.take m) Y+gD n (okW W B) k (L.take m) (L[m]'(by omega))*cT (okW W B) i k (L[m]'(by omega)) Y<2 ^ 60:=fun i hi Y=>by
    have h1:=KQ (hnd.sublist (List.take_sublist m L)) hLt hx hnin i Y hi
    have h2:=G4 (n:=n) (ok:=okW W B) k Y
    have h3:=G4 (n:=n) (ok:=okW W B) (k+1) Y
    have h4:n ^ k≤10 ^ 10:=Nat.le_trans (Nat.pow_le_pow_left hn k) (Nat.pow_le_pow_right (by decide) hk)
    have h5:n ^ (k+1)≤10 ^ 11:=Nat.le_trans (Nat.pow_le_pow_left hn _) (Nat.pow_le_pow_right (by decide) (by omega))
    omega
   obtain ⟨q'',e3,hG''⟩:=JM W B k (L[m]'(by omega)) n (by omega) _ _ q' hG' hn hb
   refine ⟨q'',?_,hG''⟩
   rw[e3,htake]
   congr 1
   · funext Y;exact FQ hLt hx Y
   · funext Y;exact FP hLt hx hnin Y
end Go.Eng.Q
end
section
namespace Go.Eng.Q
open Go.Proofs Go.Eng.Gall
noncomputable def Mn (k:Int):az:=iq k++[(6,.nils),(18,.map 2 1),(19,.ptr 0 0 0 0),(20,.tup [.bool false]),(21,.bool false)]
noncomputable def PO:bL:=⟨false,[(0,.dead)]⟩
theorem Sr (n:Nat) (k x y:Int) (H:aa):bF.sk cL (nu n) (il aX n 0) bo bp 0 1 (.int .u64 x,.int .i64 y) (hints (iq k++[(6,.nils),(18,.map 2 1),(19,.ptr 0 0 0 0)])) (⟨false,[(0,.dead)]⟩::H) =
 Tr.req (ou 0 1 8) (Tr.req (fX 0 0) (Tr.req (jS 1 1) (Tr.ok ([(1,AV.ptr 2 0 0 0,none),(3,AV.ptr 2 2 0 0,none),(4,AV.ptr 2 3 0 0,none),(5,AV.int .i64 k,none),(6,AV.slc 0 2 0 0 1 1 none,none),(19,AV.ptr 0 0 0 0,none)],{ lock:=false,bs:=[(0,av.dead),(0,av.row (Row.I IntKind.u64 [x])),(0,av.row (Row.M [aw.arr IntKind.u64 (bC [x]) 1]))] } :: H)))):=by kernel_rfl
theorem Ss (n:Nat) (k:Int) (H:aa):bF.ug cL (nu n) (il aX n 0) (hints (iq k++[(6,.nils),(18,.map 2 1),(19,.ptr 0 0 0 0)])) (⟨false,[(0,.dead)]⟩::H) =
 Tr.ok ([(1,AV.ptr 2 0 0 0,none),(3,AV.ptr 2 2 0 0,none),(4,AV.ptr 2 3 0 0,none),(5,AV.int .i64 k,none),(6,AV.nils,none),(18,AV.map 2 1,none),(19,AV.ptr 0 0 0 0,none),(20,AV.tup [AV.bool false],none),(21,AV.bool false,none)],{ lock:=false,bs:=[(0,av.dead)] } :: H):=by kernel_rfl
theorem tZ (n:Nat) (k:Int) (G:aa):aZ (nu n) (il aX n 0) bo bp qd (hints (Mn k)) (⟨false,[(0,.dead)]⟩::aR::G) =
 Tr.ok (Ex.normal,[(1,AV.ptr 2 0 0 0,none),(3,AV.ptr 2 2 0 0,none),(4,AV.ptr 2 3 0 0,none),(5,AV.int .i64 k,none),(28,AV.nils,none),(29,AV.int .i64 (Int.ofNat 0),some 1),(30,AV.int .i64 (Int.ofNat 0),some 1),(31,AV.bool false,some 1)],{ lock:=false,bs:=[(0,av.dead)] } :: aR::G):=by kernel_rfl
theorem nO:ki [0,1,1,1,0,0] cB=part Tryd.f73 [1,1,1,0,1,0,1,0,1,1,1,0,0]:=by kernel_rfl
theorem nI:ki [0,1,1,1,0,0,1,1,0,0,1,0,1,0,0] cB=part Tryd.f73 [1,1,1,0,1,0,1,0,1,1,1,0,0,1,1,0,0,1,0,1,0,0]:=by kernel_rfl
theorem R9:qd=part Tryd.f73 [1,1,1,0,1,0,1,0,1,1]:=by kernel_rfl
theorem Py:∀ b,(6,b) ∈ aP (ki [0,1,1,1,0,0] cB)→b=.loop (ki [0,1,1,1,0,0,1,1,0,0,1,0,1,0,0] cB):=by rw[nO,nI];exact b6
theorem PW:∀ b,(4,b) ∈ aP qd→b=.loop (ki [0,1,1,1,0,0] cB):=by rw[R9,nO];exact b4
section
variable (n:Nat) (k x0:Int) (v m:Nat) (z:Nat→Int) (dr:Int) (lc:Nat) (zc:Nat→Int) (lb:Nat) (zb:Nat→Int) (W B:Nat→Int) (b:av) (G:aa)
theorem Sp (j:Nat) (hj:j<m) (hm:m≤99990) (hl:lc≤10) (s:CS):∃ y,exec (nu (n+1)) (ki [0,1,1,1,0,0] cB) (CU k v m (Int.ofNat j)) (jn x0 v m z::aR::gS dr lc zc lb zb W B b s::G)=some y ∧
 (y.1=.normal∧tidy 3 y.2.1 y.2.2=(CU k v m (Int.ofNat (j+1)),jn x0 v m z::aR::gS dr lc zc lb zb W B b (JL W B k lc (z j) s)::G)):=by
 have ez:aE 0 (Int.ofNat j) 1=j:=by rw[bO];show 0+j*1=j;omega
 have ec:bz .i64 (Int.ofNat j) (Int.ofNat 1)=Int.ofNat (j+1):=by
  have:=Aj j (by omega)
  rw[fj];exact this
 have T:=tO (n+1) (z7 W B k (z j) lc s).h (z7 W B k (z j) lc s).g (z7 W B k (z j) lc s).q k (Int.ofNat j) x0 v m z dr lc zc lb zb W B s.h s.g s.q b G
 rw[ez,ec] at T
 refine DD (Q:=fun y=>y.1=.normal∧tidy 3 y.2.1 y.2.2=(CU k v m (Int.ofNat (j+1)),jn x0 v m z::aR::gS dr lc zc lb zb W B b (JL W B k lc (z j) s)::G)) T (aV _) (bu (ak _ _) Py (fun x h=>by rw[← Tr.ab h];simp only[gZ.st,bn];exact PN n k x0 v m z dr lc zc lb zb W B b G (Int.ofNat j) (z j) hl s)) (al _ _) ?_
 refine Tr.ag (fun h0=>?_) (fun h0=>?_)
 · refine Tr.af (by simp (disch:=omega) only[nV,nW];try omega) (Tr.af (by rw[eK];simp) (Tr.af (by simp (disch:=omega) only[nV,nW];omega) (Tr.an ⟨rfl,rfl⟩ (Tr.ah ⟨rfl,rfl⟩))))
 · exfalso
   simp (disch:=omega) only[nV,nW] at h0
   omega
theorem Qt (hm:m≤99990) (hl:lc≤10) (s:CS):exec (nu (n+1)) (ki [0,1,1,1,0,0] cB) (CU k v m (Int.ofNat m)) (jn x0 v m z::aR::gS dr lc zc lb zb W B b s::G)=some (.exit 4,CU k v m (Int.ofNat m)++[(31,.bool false)],jn x0 v m z::aR::gS dr lc zc lb zb W B b s::G):=by
 have ez:aE 0 (Int.ofNat m) 1=m:=by rw[bO];show 0+m*1=m;omega
 have T:=tO (n+1) (z7 W B k (z m) lc s).h (z7 W B k (z m) lc s).g (z7 W B k (z m) lc s).q k (Int.ofNat m) x0 v m z dr lc zc lb zb W B s.h s.g s.q b G
 rw[ez] at T
 refine oR T (aV _) (bu (ak _ _) Py (fun x h=>by rw[← Tr.ab h];simp only[gZ.st,bn];exact PN n k x0 v m z dr lc zc lb zb W B b G (Int.ofNat m) (z m) hl s)) (al _ _) ?_
 refine Tr.ag (fun h0=>?_) (fun h0=>Tr.ah rfl)
 exfalso
 simp (disch:=omega) only[nV,nW] at h0
 omega
theorem R5 (hm:m≤99990) (hl:lc≤10) (s:CS):exec (nu (n+1)) (.block 4 (.loop (ki [0,1,1,1,0,0] cB))) (CU k v m (Int.ofNat 0)) (jn x0 v m z::aR::gS dr lc zc lb zb W B b s::G) =
 some (.normal,CU k v m (Int.ofNat m)++[(31,.bool false)],jn x0 v m z::aR::gS dr lc zc lb zb W B b (EL W B k lc z m s)::G):=by
 refine G7 (n:=n+1) (f:=73) (nt:=83) (d:=2) (i:=4) 4 (fun c=>CU k v m (Int.ofNat c)) (fun c=>jn x0 v m z::aR::gS dr lc zc lb zb W B b (EL W B k lc z c s)::G) m (_,_) (by omega) (fun c hc=>?_) ?_
 · exact Sp n k x0 v m z dr lc zc lb zb W B b G c hc hm hl (EL W B k lc z c s)
 · exact Qt n k x0 v m z dr lc zc lb zb W B b G hm hl _
theorem Ou (hm:m≤99990) (hl:lc≤10) (s:CS):exec (nu (n+1)) qd (Mo k v m) (jn x0 v m z::aR::gS dr lc zc lb zb W B b s::G)=some (.normal,CU k v m (Int.ofNat m)++[(31,.bool false)],jn x0 v m z::aR::gS dr lc zc lb zb W B b (EL W B k lc z m s)::G):=by
 refine oR (t10 (n+1) k x0 v m z (gS dr lc zc lb zb W B b s::G) (gS dr lc zc lb zb W B b (EL W B k lc z m s)::G)) (aV _) (bu (ak _ _) PW (fun x h=>by rw[← Tr.ab h];simp only[gZ.st,bn];exact R5 n k x0 v m z dr lc zc lb zb W B b G hm hl s)) (al _ _) ?_
 exact Tr.an ⟨rfl,rfl⟩ (Tr.ah rfl)
end
end Go.Eng.Q
end
