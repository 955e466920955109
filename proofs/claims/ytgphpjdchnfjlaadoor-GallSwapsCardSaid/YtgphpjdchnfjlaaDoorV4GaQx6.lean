/- Gall: calls within count: those of the functions that it alone reaches. -/
import Derived.Test.YtgphpjdchnfjlaaDoorV4EngThx10
import Derived.Test.YtgphpjdchnfjlaaDoorV4EngRnFx7
import Derived.Test.YtgphpjdchnfjlaaDoorV4EngTkx3
import Derived.Test.YtgphpjdchnfjlaaDoorProg
import Derived.KernelRfl
import Derived.Test.YtgphpjdchnfjlaaDoorV4Gp2x6
import Derived.IntWalk
set_option linter.unusedVariables false
set_option maxRecDepth 100000
set_option linter.unusedSimpArgs false
section
namespace Go.Eng
open Go.Proofs
def kz:List Nat→Code→Code
 | [],c=>c
 | x :: p,c=>match c with
   | .seq a b=>match x with
     | 0=>kz p a
     | _=>kz p b
   | .cond _ a b=>match x with
     | 0=>kz p a
     | _=>kz p b
   | .block _ b=>kz p b
   | .loop b=>kz p b
   | .scope b=>kz p b
   | .rangeFunc _ _ a b=>match x with
     | 0=>kz p a
     | _=>kz p b
   | c=>c
noncomputable def part (f:Func) (p:List Nat):Code:=kz p (aY f)
theorem Aa (j:Nat) (h:j<2 ^ 31):IntKind.i64.wrap ((j:Int)+1)=((j+1:Nat):Int):=by
 rw[show ((j:Int)+1)=((j+1:Nat):Int) by omega]
 exact Go.IntWalk.i64_in _ (by omega)

def c5 (p:Nat→Bool) (N:Nat):Bool:=decide (fN p N 0<N)
theorem rl {p:Nat→Bool} {N:Nat} (h:c5 p N=true):fN p N 0<N:=by simpa[c5] using h
theorem tK {p:Nat→Bool} {N:Nat} (h:c5 p N=false):fN p N 0=N:=by
 have h1:=(uU p N 0).2.1
 have:¬ fN p N 0<N:=by simpa[c5] using h
 omega
theorem cH (p:Nat→Bool) (N:Nat):c5 p N=true↔∃ i,i<N∧p i=true:=by
 obtain ⟨h1,h2,h3,h4⟩:=uU p N 0
 constructor
 · intro h
   have:=rl h
   exact ⟨_,this,h4 (by omega)⟩
 · rintro ⟨i,hi,hp⟩
   unfold c5
   rw[decide_eq_true_eq]
   apply Nat.lt_of_not_le
   intro hc
   have:=h3 i (by omega) (by omega)
   rw[this] at hp;cases hp
namespace Q
noncomputable def iX:aA→FuncId→List AV→aa→Option (AV×aa):=tk []
def Fg (f:FuncId):Bool:=Nat.beq f 1000000
noncomputable def cd (n:Nat):aA:=cD Tryd.prog iX KtG.kt 100000 n
noncomputable def il (tab:ml) (n k:Nat):bj:=zp Tryd.prog iX KtG.kt 100000 Fg tab n k
theorem vu (g:FuncId) (h:Fg g=false) (c:aA) (args:List AV) (H:aa):iX c g args H=none:=by
 unfold Fg at h
 unfold iX tk
 rw[h,cond_false];rfl
theorem mc (n:Nat):∃ x,cD Tryd.prog iX KtG.kt 100000 n .mode [] []=some x:=by
 cases n<;>exact ⟨_,rfl⟩
theorem vA:qM Tryd.prog iX:=Bb [] (fun e he=>by cases he)
theorem lA (tab:ml) (n k:Nat) (ht:∀ k,tab.Ok (cd (n+k))):(il tab n k).Ok (cd (n+k)):=vk _ _ _ _ _ _ _ vu (fun k=>mc _) ht k
theorem fi (n k:Nat):(il aV n k).Ok (cd (n+k)):=lA _ _ _ (fun k=>bx _)
theorem aJ (n:Nat):(il aV n 0).Ok (cd n):=fi n 0
end Q
end Go.Eng
end
section
namespace Go.Eng.Q
open Go.Proofs
noncomputable def slA (n len:Nat) (z:Nat→Int):AV:=.slcT none (.M [.arr .i64 z (fw len n)]) n len false
noncomputable def shR (dr:Int) (lc:Nat) (zc:Nat→Int) (lb:Nat) (zb:Nat→Int) (W B:Nat→Int):Row:=.M [.one (.int .i64 dr),.one (slA 4 lc zc),.one (slA 2 lb zb),.arr .i64 W 20,.arr .u64 B 10]
noncomputable def shV (dr:Int) (lc:Nat) (zc:Nat→Int) (lb:Nat) (zb:Nat→Int) (W B:Nat→Int):AV:=.ptrT none (shR dr lc zc lb zb W B) 0
noncomputable def aC:bH:=⟨false,[]⟩
noncomputable def jG (n f nt d i:Nat):Cx:=⟨Tryd.prog,cd n,100000,f,nt,KtG.kt f,some (d,i)⟩
def vz:Code→Array Oper
 | .region _ ops _=>ops
 | _=>#[]
def M8 (l:List Oper):Oper:=l.headD { dst:=none,op:=.move (.tmp 0),type:=0,pos := "",after:=#[],guard:=none }
noncomputable def cB:Code:=part Tryd.f73 [1,1,1,0,1,0,1]
noncomputable def cS:dV:={ id0:=6,ops0:=vz (kz [0,1,0,0] cB),pre:=(vz (kz [0,1,0,0] cB)).toList.take 1,ro:=M8 ((vz (kz [0,1,0,0] cB)).toList.drop 1),m:=18,ty:=128 }
noncomputable def cL:bE:={ out:=2,pb:=7,id2:=8,nxt:=3,ops1:=vz (kz [0,1,0,1,0,0,0] cB),ops2:=vz (kz [0,1,0,1,0,0,1,1,0,0] cB),no:=M8 (vz (kz [0,1,0,1,0,0,0] cB)).toList,eo:=M8 (vz (kz [0,1,0,1,0,0,1,1,0,0] cB)).toList,t1:=(vz (kz [0,1,0,1,0,0,0] cB)).toList.tail,t2:=(vz (kz [0,1,0,1,0,0,1,1,0,0] cB)).toList.tail,it:=19,nx:=20,mo:=21,en:=22,rest:=kz [0,1,0,1,0,0,1,1,0,1] cB,km:=267386880+128 }
noncomputable def qf:Code:=kz [0,1,1] cB
noncomputable def cR:oO:={ f:=73,id:=1,body:=cB,pre:=[kz [0,0] cB],S:=cS,L:=cL,suf:=qf }
noncomputable def iz (k:Int):au:=[(1,.ptr 2 0 0 0),(3,.ptr 2 2 0 0),(4,.ptr 2 3 0 0),(5,.int .i64 k)]
noncomputable def lG (dr:Int) (lc:Nat) (zc:Nat→Int) (lb:Nat) (zb:Nat→Int) (W B:Nat→Int) (h:List Int→Bool) (g:List Int→Int) (c:Nat) (b:az):bH:=⟨false,[(0,.row (.G [shV dr lc zc lb zb W B])),(0,.fmap (.num .u64) h g c),(0,.row (.G [.map 0 1])),(0,.row (.G [.fn (.func 71) [shV dr lc zc lb zb W B] []])),(0,b)]⟩
theorem t5 (n:Nat) (k:Int) (H:aa):aT (jG n 73 83 2 4) (il aV n 0) bc ba (kz [0,0] cB) (hints (iz k)) (aC::H) =
 Tr.ok (Ex.normal,[(1,AV.ptr 2 0 0 0,none),(3,AV.ptr 2 2 0 0,none),(4,AV.ptr 2 3 0 0,none),(5,AV.int .i64 k,none),(6,AV.nils,none)],aC::H):=by kernel_rfl
theorem tS (n:Nat) (k:Int) (dr:Int) (lc:Nat) (zc:Nat→Int) (lb:Nat) (zb:Nat→Int) (W B:Nat→Int) (h:List Int→Bool) (g:List Int→Int) (c:Nat) (b:az) (H:aa):dV.JH cS (jG n 73 83 2 4) (il aV n 0) (hints (iz k++[(6,.nils)])) (aC::aC::lG dr lc zc lb zb W B h g c b::H) =
 (fun (Z0:List AV)=>Tr.ok ([(1,AV.ptr 2 0 0 0,none),(3,AV.ptr 2 2 0 0,none),(4,AV.ptr 2 3 0 0,none),(5,AV.int .i64 k,none),(6,AV.nils,none),(18,AV.map 2 1,none)],aC::aC::{ lock:=false,bs:=[(0,az.row (Row.G Z0)),(0,az.fmap (KK.num IntKind.u64) h g c),(0,az.row (Row.G [AV.map 0 1])),(0,az.row (Row.G [AV.fn (Fn.func 71) Z0 []])),(0,b)] } :: H)) [AV.ptrT none (Row.M [aq.one (AV.int .i64 dr),aq.one (AV.slcT none (Row.M [aq.arr .i64 zc (aw lc 4)]) 4 lc false),aq.one (AV.slcT none (Row.M [aq.arr .i64 zb (aw lb 2)]) 2 lb false),aq.arr .i64 W 20,aq.arr IntKind.u64 B 10]) 0]:=by kernel_rfl
theorem tB (n:Nat) (k x y x0:Int) (v m:Nat) (z:Nat→Int) (H:aa):bE.si cL (jG n 73 83 2 4) (il aV n 0) bc ba 0 1 (.int .u64 x,.int .i64 y) (hints (iz k++[(6,.slc 0 2 v 0 1 m none),(19,.ptr 0 0 0 0)])) (⟨false,[(0,.dead),(0,.row (.I .u64 [x0])),(v,.row (.M [.arr .u64 z m]))]⟩::H) =
 Tr.req (jW m 1 8) (Tr.req (eO 0 0) (Tr.req (iV 1 1) (Tr.req (eO v v) (Tr.req (eO (aF 0 m) m) (Tr.ok ([(1,AV.ptr 2 0 0 0,none),(3,AV.ptr 2 2 0 0,none),(4,AV.ptr 2 3 0 0,none),(5,AV.int .i64 k,none),(6,AV.slc 0 2 (Nat.succ v) 0 1 (aF m 1) none,none),(19,AV.ptr 0 0 0 0,none)],{ lock:=false,bs:=[(0,az.dead),(0,az.row (Row.I IntKind.u64 [x0])),(Nat.succ v,az.row (Row.M [aq.arr IntKind.u64 (qe (xU z 0) m (aX [x])) (aF m 1)]))] } :: H)))))):=by kernel_rfl
theorem tX (n:Nat) (k x0:Int) (v m:Nat) (z:Nat→Int) (H:aa):bE.uc cL (jG n 73 83 2 4) (il aV n 0) (hints (iz k++[(6,.slc 0 2 v 0 1 m none),(19,.ptr 0 0 0 0)])) (⟨false,[(0,.dead),(0,.row (.I .u64 [x0])),(v,.row (.M [.arr .u64 z m]))]⟩::H) =
 Tr.ok ([(1,AV.ptr 2 0 0 0,none),(3,AV.ptr 2 2 0 0,none),(4,AV.ptr 2 3 0 0,none),(5,AV.int .i64 k,none),(6,AV.slc 0 2 v 0 1 m none,none),(19,AV.ptr 0 0 0 0,none),(20,AV.tup [AV.bool false],none),(21,AV.bool false,none)],{ lock:=false,bs:=[(0,az.dead),(0,az.row (Row.I IntKind.u64 [x0])),(v,az.row (Row.M [aq.arr IntKind.u64 z m]))] } :: H):=by kernel_rfl
theorem tN (n:Nat) (k:Int) (H:aa):bE.uc cL (jG n 73 83 2 4) (il aV n 0) (hints (iz k++[(6,.nils),(19,.ptr 0 0 0 0)])) (⟨false,[(0,.dead)]⟩::H) =
 Tr.ok ([(1,AV.ptr 2 0 0 0,none),(3,AV.ptr 2 2 0 0,none),(4,AV.ptr 2 3 0 0,none),(5,AV.int .i64 k,none),(6,AV.nils,none),(19,AV.ptr 0 0 0 0,none),(20,AV.tup [AV.bool false],none),(21,AV.bool false,none)],{ lock:=false,bs:=[(0,az.dead)] } :: H):=by kernel_rfl
end Go.Eng.Q
end
section
namespace Go.Eng.Q
open Go.Proofs
noncomputable def fU (x0:Int) (v m:Nat) (z:Nat→Int):bH:=⟨false,[(0,.dead),(0,.row (.I .u64 [x0])),(v,.row (.M [.arr .u64 z m]))]⟩
noncomputable def M7 (k:Int) (v m:Nat):au:=iz k++[(6,.slc 0 2 v 0 1 m none),(19,.ptr 0 0 0 0),(20,.tup [.bool false]),(21,.bool false)]
noncomputable def nv (n:Nat):Cx:=jG n 73 83 2 4
noncomputable def CL (k:Int) (v m:Nat) (j:Int):au:=iz k++[(28,.slc 0 2 v 0 1 m none),(29,.int .i64 (Int.ofNat m)),(30,.int .i64 j)]
noncomputable def DB (k:Int) (v m:Nat) (x j:Int) (lc:Nat) (c:Int):au:=iz k++[(9,.int .u64 x),(28,.slc 0 2 v 0 1 m none),(29,.int .i64 (Int.ofNat m)),(30,.int .i64 j),(39,.int .i64 (Int.ofNat lc)),(40,.int .i64 c)]
theorem t10 (n:Nat) (k x0:Int) (v m:Nat) (z:Nat→Int) (G G':aa):aT (nv n) (il aV n 0) (dy bc 4 (CL k v m (Int.ofNat 0)) (fU x0 v m z::aC::G) (.ok (.normal,hints (CL k v m (Int.ofNat m)++[(31,.bool false)]),fU x0 v m z::aC::G'))) ba qf (hints (M7 k v m)) (fU x0 v m z::aC::G) =
 (fun (Z0:au)=>Tr.reqP (Z0=Z0∧fU x0 v m z::aC::G=fU x0 v m z::aC::G) (Tr.ok (Ex.normal,[(1,AV.ptr 2 0 0 0,none),(3,AV.ptr 2 2 0 0,none),(4,AV.ptr 2 3 0 0,none),(5,AV.int .i64 k,none),(28,AV.slc 0 2 v 0 1 m none,none),(29,AV.int .i64 (Int.ofNat m),none),(30,AV.int .i64 (Int.ofNat m),none),(31,AV.bool false,none)],fU x0 v m z::aC::G'))) [(1,AV.ptr 2 0 0 0),(3,AV.ptr 2 2 0 0),(4,AV.ptr 2 3 0 0),(5,AV.int .i64 k),(28,AV.slc 0 2 v 0 1 m none),(29,AV.int .i64 (Int.ofNat m)),(30,AV.int .i64 (Int.ofNat 0))]:=by kernel_rfl
theorem tO (n:Nat) (h':List Int→Bool) (g':List Int→Int) (q':Nat) (k j x0:Int) (v m:Nat) (z:Nat→Int) (dr:Int) (lc:Nat) (zc:Nat→Int) (lb:Nat) (zb:Nat→Int) (W B:Nat→Int) (h:List Int→Bool) (g:List Int→Int) (q:Nat) (b:az) (G:aa):aT (nv n) (il aV n 0) (dy bc 6 (DB k v m (z (aM 0 j 1)) j lc (Int.ofNat 0)) (fU x0 v m z::aC::lG dr lc zc lb zb W B h g q b::G) (.ok (.normal,hints (DB k v m (z (aM 0 j 1)) j lc (Int.ofNat lc)++[(41,.bool false)]),fU x0 v m z::aC::lG dr lc zc lb zb W B h' g' q' b::G))) ba (kz [0,1,1,1,0,0] cB) (hints (CL k v m j)) (fU x0 v m z::aC::lG dr lc zc lb zb W B h g q b::G) =
 (fun (Z0:au)=>Tr.ite (cY j (Int.ofNat m)) (Tr.req (c7 j m) (Tr.req (eO v v) (Tr.req (cI (aM 0 j 1) m) (Tr.reqP (Z0=Z0∧fU x0 v m z::aC::lG dr lc zc lb zb W B h g q b::G=fU x0 v m z::aC::lG dr lc zc lb zb W B h g q b::G) (Tr.ok (Ex.normal,[(1,AV.ptr 2 0 0 0,none),(3,AV.ptr 2 2 0 0,none),(4,AV.ptr 2 3 0 0,none),(5,AV.int .i64 k,none),(28,AV.slc 0 2 v 0 1 m none,none),(29,AV.int .i64 (Int.ofNat m),none),(30,AV.int .i64 (bf .i64 j (Int.ofNat 1)),none)],fU x0 v m z::aC::{ lock:=false,bs:=[(0,az.row (Row.G [shV dr lc zc lb zb W B])),(0,az.fmap (KK.num IntKind.u64) (lS h' [z (aM 0 j 1)] false) (lT g' [z (aM 0 j 1)] (Int.ofNat 0)) (wh (h' [z (aM 0 j 1)]) q')),(0,az.row (Row.G [AV.map 0 1])),(0,az.row (Row.G [AV.fn (Fn.func 71) [shV dr lc zc lb zb W B] []])),(0,b)] } :: G)))))) (Tr.ok (Ex.exit 4,[(1,AV.ptr 2 0 0 0,none),(3,AV.ptr 2 2 0 0,none),(4,AV.ptr 2 3 0 0,none),(5,AV.int .i64 k,none),(28,AV.slc 0 2 v 0 1 m none,none),(29,AV.int .i64 (Int.ofNat m),none),(30,AV.int .i64 j,none),(31,AV.bool false,some 1)],fU x0 v m z::aC::lG dr lc zc lb zb W B h g q b::G))) [(1,AV.ptr 2 0 0 0),(3,AV.ptr 2 2 0 0),(4,AV.ptr 2 3 0 0),(5,AV.int .i64 k),(9,AV.int IntKind.u64 (z (aM 0 j 1))),(28,AV.slc 0 2 v 0 1 m none),(29,AV.int .i64 (Int.ofNat m)),(30,AV.int .i64 j),(39,AV.int .i64 (Int.ofNat lc)),(40,AV.int .i64 (Int.ofNat 0))]:=by kernel_rfl
theorem tI (n:Nat) (k j x x0 c:Int) (v m:Nat) (z:Nat→Int) (dr:Int) (lc:Nat) (zc:Nat→Int) (lb:Nat) (zb:Nat→Int) (W B:Nat→Int) (h:List Int→Bool) (g:List Int→Int) (q:Nat) (b:az) (G:aa):aT (nv (n+1)) (il aV n 1) bc ba (kz [0,1,1,1,0,0,1,1,0,0,1,0,1,0,0] cB) (hints (DB k v m x j lc c)) (fU x0 v m z::aC::lG dr lc zc lb zb W B h g q b::G) =
 (fun (Z0:aN)=>Tr.ite (cY c (Int.ofNat lc)) (Tr.req (eh (Int.ofNat 0) c) (Tr.ite (cK (ny IntKind.u64 x (eG IntKind.u64 (Int.ofNat 1) c)) (Int.ofNat 0)) (Tr.req (c7 c 10) (Tr.req (mS (aM 23 c 1) 1 23 10) (Tr.ite (cK (CR IntKind.u64 (B (ff (aM 23 c 1) 23)) x) (Int.ofNat 0)) (Tr.req (c7 c 10) (Tr.req (mS (aM 3 c 2) 1 3 20) (Tr.req (mS (aF (aM 3 c 2) 1) 1 3 20) (Tr.ite (eh (W (ff (aM 3 c 2) 3)) k) (Tr.ite (eh k (W (ff (aF (aM 3 c 2) 1) 3))) (Tr.req (eh (Int.ofNat 0) c) (Tr.req (cr (iV 0 0) (iV 0 1)) (Tr.ok (Ex.normal,Z0,fU x0 v m z::aC::{ lock:=false,bs:=[(0,az.row (Row.G [shV dr lc zc lb zb W B])),(0,az.fmap (KK.num IntKind.u64) (lS h [uq IntKind.u64 x (eG IntKind.u64 (Int.ofNat 1) c)] true) (lT g [uq IntKind.u64 x (eG IntKind.u64 (Int.ofNat 1) c)] (bf .i64 (g [uq IntKind.u64 x (eG IntKind.u64 (Int.ofNat 1) c)]) (g [x]))) (pI (h [uq IntKind.u64 x (eG IntKind.u64 (Int.ofNat 1) c)]) q)),(0,az.row (Row.G [AV.map 0 1])),(0,az.row (Row.G [AV.fn (Fn.func 71) [shV dr lc zc lb zb W B] []])),(0,b)] } :: G)))) (Tr.ok (Ex.normal,Z0,fU x0 v m z::aC::lG dr lc zc lb zb W B h g q b::G))) (Tr.ok (Ex.normal,Z0,fU x0 v m z::aC::lG dr lc zc lb zb W B h g q b::G)))))) (Tr.ok (Ex.normal,Z0,fU x0 v m z::aC::lG dr lc zc lb zb W B h g q b::G))))) (Tr.ok (Ex.normal,Z0,fU x0 v m z::aC::lG dr lc zc lb zb W B h g q b::G)))) (Tr.ok (Ex.exit 6,[(1,AV.ptr 2 0 0 0,none),(3,AV.ptr 2 2 0 0,none),(4,AV.ptr 2 3 0 0,none),(5,AV.int .i64 k,none),(9,AV.int IntKind.u64 x,none),(28,AV.slc 0 2 v 0 1 m none,none),(29,AV.int .i64 (Int.ofNat m),none),(30,AV.int .i64 j,none),(39,AV.int .i64 (Int.ofNat lc),none),(40,AV.int .i64 c,none),(41,AV.bool false,some 1)],fU x0 v m z::aC::lG dr lc zc lb zb W B h g q b::G))) [(1,AV.ptr 2 0 0 0,none),(3,AV.ptr 2 2 0 0,none),(4,AV.ptr 2 3 0 0,none),(5,AV.int .i64 k,none),(9,AV.int IntKind.u64 x,none),(28,AV.slc 0 2 v 0 1 m none,none),(29,AV.int .i64 (Int.ofNat m),none),(30,AV.int .i64 j,none),(39,AV.int .i64 (Int.ofNat lc),none),(40,AV.int .i64 (bf .i64 c (Int.ofNat 1)),none)]:=by kernel_rfl
end Go.Eng.Q
end
section
namespace Go.Eng.Q
open Go.Proofs
theorem kf {n f nt d i:Nat} {c:Code} {callR:bj} {bl:eI} {rg:nu} {fr:au} {H:aa} {T:Tr gK} (e:aT (jG n f nt d i) callR bl rg c (hints fr) H=T) (hC:callR.Ok (cd n)) (hB:bl.Ok (jG n f nt d i) c) (hR:rg.Ok (jG n f nt d i) c) {y:Ex×au×aa} (h:T.all fun x=>x.st=y):exec (jG n f nt d i) c fr H=some y:=by
 obtain ⟨x,h1,rfl⟩:=h
 have:=fD (cx:=jG n f nt d i) hC c hB hR (hints fr) H x (by rw[e];exact h1)
 rw[bp] at this;exact this
theorem rm {n f nt d i:Nat} {c:Code} {callR:bj} {bl:eI} {rg:nu} {fr:au} {H:aa} {T:Tr gK} {Q:Ex×au×aa→Prop} (e:aT (jG n f nt d i) callR bl rg c (hints fr) H=T) (hC:callR.Ok (cd n)) (hB:bl.Ok (jG n f nt d i) c) (hR:rg.Ok (jG n f nt d i) c) (h:T.all fun x=>Q x.st):∃ y,exec (jG n f nt d i) c fr H=some y∧Q y:=by
 obtain ⟨x,h1,h2⟩:=h
 have:=fD (cx:=jG n f nt d i) hC c hB hR (hints fr) H x (by rw[e];exact h1)
 rw[bp] at this;exact ⟨_,this,h2⟩
theorem I0 {n f nt d i:Nat} {c:Code} (id:Nat) (F:Nat→au) (G:Nat→aa) (N:Nat) (p:Nat→Bool) (X:Nat→au×aa) (Y:au×aa) (hN:N<99999)
 (hs:∀ j,j<N→∃ x,exec (jG n f nt d i) c (F j) (G j)=some x∧if p j=true then x=(.ret,X j) else x.1=.normal∧tidy (aQ (G 0)) x.2.1 x.2.2=(F (j+1),G (j+1)))
 (he:exec (jG n f nt d i) c (F N) (G N)=some (.exit id,Y)):exec (jG n f nt d i) (.block id (.loop c)) (F 0) (G 0)=some (cond (c5 p N) (.ret,X (fN p N 0)) (.normal,Y)):=by
 have key:=jN (body:=exec (jG n f nt d i) c) (n:=aQ (G 0)) F G N p (fun j=>if j<N then (.ret,X j) else (.exit id,Y))
  (fun j hj hp=>by
    obtain ⟨x,h1,h2⟩:=hs j hj
    rw[if_neg (by rw[hp];simp)] at h2
    obtain ⟨e,f1,g1⟩:=x
    obtain ⟨rfl,h3⟩:=h2
    exact ⟨_,_,h1,h3⟩)
  (fun j hj hp=>by
    obtain ⟨x,h1,h2⟩:=hs j hj
    rw[if_pos hp] at h2
    subst h2
    rw[if_pos hj]
    exact ⟨h1,by simp⟩)
  (by
    rw[if_neg (by omega)]
    exact ⟨he,by simp⟩) N 0 100000 (by omega) (by omega)
 cases hc:c5 p N with
 | true =>
   have:=rl hc
   rw[if_pos this] at key
   exact dP (fun id' h=>by cases h) key
 | false =>
   have:=tK hc
   rw[if_neg (by omega)] at key
   exact gM key

theorem Hl {n f nt d i:Nat} {c:Code} (id:Nat) (F:Nat→au) (G:Nat→aa) (N:Nat) (Y:au×aa) (hN:N<99999)
 (hs:∀ j,j<N→∃ x,exec (jG n f nt d i) c (F j) (G j)=some x∧(x.1=.normal∧tidy (aQ (G 0)) x.2.1 x.2.2=(F (j+1),G (j+1))))
 (he:exec (jG n f nt d i) c (F N) (G N)=some (.exit id,Y)):exec (jG n f nt d i) (.block id (.loop c)) (F 0) (G 0)=some (.normal,Y):=by
 have:=I0 id F G N (fun _=>false) (fun _=>Y) Y hN (fun j hj=>by
  obtain ⟨x,h1,h2⟩:=hs j hj
  exact ⟨x,h1,by rw[if_neg (by simp)];exact h2⟩) he
 have h0:c5 (fun _=>false) N=false:=by
  cases h:c5 (fun _=>false) N with
  | false=>rfl
  | true=>obtain ⟨i2,_,h2⟩:=(cH _ _).1 h;cases h2
 rw[h0] at this
 exact this

structure CS where
 h:List Int→Bool
 g:List Int→Int
 q:Nat
noncomputable def Mj (x c:Int) (s:CS):CS:=⟨lS s.h [uq .u64 x (eG .u64 (Int.ofNat 1) c)] true,lT s.g [uq .u64 x (eG .u64 (Int.ofNat 1) c)] (bf .i64 (s.g [uq .u64 x (eG .u64 (Int.ofNat 1) c)]) (s.g [x])),pI (s.h [uq .u64 x (eG .u64 (Int.ofNat 1) c)]) s.q⟩
noncomputable def Fj (W B:Nat→Int) (k x c:Int):Bool:=cond (cK (ny .u64 x (eG .u64 (Int.ofNat 1) c)) (Int.ofNat 0)) (cond (cK (CR .u64 (B (ff (aM 23 c 1) 23)) x) (Int.ofNat 0)) (cond (eh (W (ff (aM 3 c 2) 3)) k) (eh k (W (ff (aF (aM 3 c 2) 1) 3))) false) false) false
noncomputable def GS (W B:Nat→Int) (k x c:Int) (s:CS):CS:=cond (Fj W B k x c) (Mj x c s) s
noncomputable def zU (W B:Nat→Int) (k x:Int):Nat→CS→CS
 | 0,s=>s
 | j+1,s=>GS W B k x (Int.ofNat j) (zU W B k x j s)
noncomputable def Mt (x:Int) (s:CS):CS:=⟨lS s.h [x] false,lT s.g [x] (Int.ofNat 0),wh (s.h [x]) s.q⟩
noncomputable def JZ (W B:Nat→Int) (k:Int) (n:Nat) (x:Int) (s:CS):CS:=Mt x (zU W B k x n s)
noncomputable def EO (W B:Nat→Int) (k:Int) (n:Nat) (z:Nat→Int):Nat→CS→CS
 | 0,s=>s
 | j+1,s=>JZ W B k n (z j) (EO W B k n z j s)
section
variable (n:Nat) (k x0:Int) (v m:Nat) (z:Nat→Int) (dr:Int) (lc:Nat) (zc:Nat→Int) (lb:Nat) (zb:Nat→Int) (W B:Nat→Int) (b:az) (G:aa)
noncomputable def ie (s:CS):bH:=lG dr lc zc lb zb W B s.h s.g s.q b
theorem Th (j x:Int) (c:Nat) (hc:c<lc) (hl:lc≤10) (s:CS):∃ y,exec (nv (n+1)) (kz [0,1,1,1,0,0,1,1,0,0,1,0,1,0,0] cB) (DB k v m x j lc (Int.ofNat c)) (fU x0 v m z::aC::ie dr lc zc lb zb W B b s::G)=some y ∧
 (y.1=.normal∧tidy 3 y.2.1 y.2.2=(DB k v m x j lc (Int.ofNat (c+1)),fU x0 v m z::aC::ie dr lc zc lb zb W B b (GS W B k x (Int.ofNat c) s)::G)):=by
 refine rm (Q:=fun y=>y.1=.normal∧tidy 3 y.2.1 y.2.2=(DB k v m x j lc (Int.ofNat (c+1)),fU x0 v m z::aC::ie dr lc zc lb zb W B b (GS W B k x (Int.ofNat c) s)::G)) (tI n k j x x0 (Int.ofNat c) v m z dr lc zc lb zb W B s.h s.g s.q b G) (fi n 1) (ak _ _) (al _ _) ?_
 have ec:bf .i64 (Int.ofNat c) (Int.ofNat 1)=Int.ofNat (c+1):=by
  have:=Aa c (by omega)
  rw[gl];exact this
 have no:Fj W B k x (Int.ofNat c)=false→GS W B k x (Int.ofNat c) s=s:=fun h=>by unfold GS;rw[h];rfl
 have yes:Fj W B k x (Int.ofNat c)=true→GS W B k x (Int.ofNat c) s=Mj x (Int.ofNat c) s:=fun h=>by unfold GS;rw[h];rfl
 refine Tr.ae (fun h0=>?_) (fun h0=>?_)
 · refine Tr.ag (by simp (disch:=omega) only[nV,nW];try omega) ?_
   refine Tr.ae (fun h1=>?_) (fun h1=>?_)
   · refine Tr.ag (by simp (disch:=omega) only[nV,nW];omega) (Tr.ag (by simp (disch:=omega) only[nV,nW];omega) ?_)
     refine Tr.ae (fun h2=>?_) (fun h2=>?_)
     · refine Tr.ag (by simp (disch:=omega) only[nV,nW];omega) (Tr.ag (by simp (disch:=omega) only[nV,nW];omega) (Tr.ag (by simp (disch:=omega) only[nV,nW];omega) ?_))
       refine Tr.ae (fun h3=>?_) (fun h3=>?_)
       · refine Tr.ae (fun h4=>?_) (fun h4=>?_)
         · refine Tr.ag (by simp (disch:=omega) only[nV,nW];try omega) (Tr.ag (by simp (disch:=omega) only[nV,nW];try omega) ?_)
           rw[yes (by unfold Fj;rw[h1,h2,h3,h4];rfl),ec]
           exact Tr.ah ⟨rfl,rfl⟩
         · rw[no (by unfold Fj;rw[h1,h2,h3,h4];rfl),ec]
           exact Tr.ah ⟨rfl,rfl⟩
       · rw[no (by unfold Fj;rw[h1,h2,h3];rfl),ec]
         exact Tr.ah ⟨rfl,rfl⟩
     · rw[no (by unfold Fj;rw[h1,h2];rfl),ec]
       exact Tr.ah ⟨rfl,rfl⟩
   · rw[no (by unfold Fj;rw[h1];rfl),ec]
     exact Tr.ah ⟨rfl,rfl⟩
 · exfalso
   simp (disch:=omega) only[nV,nW] at h0
   omega
theorem Rj (j x:Int) (hl:lc≤10) (s:CS):exec (nv (n+1)) (kz [0,1,1,1,0,0,1,1,0,0,1,0,1,0,0] cB) (DB k v m x j lc (Int.ofNat lc)) (fU x0 v m z::aC::ie dr lc zc lb zb W B b s::G)=some (.exit 6,DB k v m x j lc (Int.ofNat lc)++[(41,.bool false)],fU x0 v m z::aC::ie dr lc zc lb zb W B b s::G):=by
 refine kf (tI n k j x x0 (Int.ofNat lc) v m z dr lc zc lb zb W B s.h s.g s.q b G) (fi n 1) (ak _ _) (al _ _) ?_
 refine Tr.ae (fun h0=>?_) (fun h0=>Tr.ah rfl)
 exfalso
 simp (disch:=omega) only[nV,nW] at h0
 omega
theorem QA (j x:Int) (hl:lc≤10) (s:CS):exec (nv (n+1)) (.block 6 (.loop (kz [0,1,1,1,0,0,1,1,0,0,1,0,1,0,0] cB))) (DB k v m x j lc (Int.ofNat 0)) (fU x0 v m z::aC::ie dr lc zc lb zb W B b s::G) =
 some (.normal,DB k v m x j lc (Int.ofNat lc)++[(41,.bool false)],fU x0 v m z::aC::ie dr lc zc lb zb W B b (zU W B k x lc s)::G):=by
 refine Hl (n:=n+1) (f:=73) (nt:=83) (d:=2) (i:=4) 6 (fun c=>DB k v m x j lc (Int.ofNat c)) (fun c=>fU x0 v m z::aC::ie dr lc zc lb zb W B b (zU W B k x c s)::G) lc (_,_) (by omega) (fun c hc=>?_) ?_
 · exact Th n k x0 v m z dr lc zc lb zb W B b G j x c hc hl (zU W B k x c s)
 · exact Rj n k x0 v m z dr lc zc lb zb W B b G j x hl _
theorem b6:∀ b,(6,b) ∈ aI (part Tryd.f73 [1,1,1,0,1,0,1,0,1,1,1,0,0])→b=.loop (part Tryd.f73 [1,1,1,0,1,0,1,0,1,1,1,0,0,1,1,0,0,1,0,1,0,0]):=eX (by kernel_rfl)
theorem b4:∀ b,(4,b) ∈ aI (part Tryd.f73 [1,1,1,0,1,0,1,0,1,1])→b=.loop (part Tryd.f73 [1,1,1,0,1,0,1,0,1,1,1,0,0]):=eX (by kernel_rfl)
end
end Go.Eng.Q
end
section
namespace Go.Eng.Q
open Go.Proofs Go.Eng.Gall
theorem IK (x:Nat):BitVec.ofInt 64 (x:Int)=BitVec.ofNat 64 x:=by
 apply BitVec.eq_of_toInt_eq;simp
theorem kN {x:Nat} (h:x<2 ^ 64):IntKind.u64.wrap (x:Int)=x:=Go.IntWalk.u64_in _ (by omega)
theorem MB {x y:Nat} (hx:x<2 ^ 63) (hy:y<2 ^ 63):uq .u64 (x:Int) (y:Int)=((x ||| y:Nat):Int):=by
 rw[sa]
 show IntKind.u64.wrap ((BitVec.ofInt 64 (x:Int) ||| BitVec.ofInt 64 (y:Int)).toNat:Nat)=_
 have h1:x ||| y<2 ^ 63:=Nat.or_lt_two_pow hx hy
 rw[IK,IK,BitVec.toNat_or,BitVec.toNat_ofNat,BitVec.toNat_ofNat,Nat.mod_eq_of_lt (by omega),Nat.mod_eq_of_lt (by omega),kN (by omega)]
theorem Ko {x y:Nat} (hx:x<2 ^ 63) (hy:y<2 ^ 63):ny .u64 (x:Int) (y:Int)=((x &&& y:Nat):Int):=by
 rw[qn]
 show IntKind.u64.wrap ((BitVec.ofInt 64 (x:Int) &&& BitVec.ofInt 64 (y:Int)).toNat:Nat)=_
 have h1:x &&& y<2 ^ 63:=Nat.and_lt_two_pow x hy
 rw[IK,IK,BitVec.toNat_and,BitVec.toNat_ofNat,BitVec.toNat_ofNat,Nat.mod_eq_of_lt (by omega),Nat.mod_eq_of_lt (by omega),kN (by omega)]
theorem zS {i:Nat} (hi:i<62):eG .u64 (Int.ofNat 1) (Int.ofNat i)=((2 ^ i:Nat):Int):=by
 rw[vQ]
 show IntKind.u64.wrap (1*2 ^ min i 64)=_
 have:(2:Nat) ^ i≤2 ^ 62:=Nat.pow_le_pow_right (by decide) (by omega)
 rw[Nat.min_eq_left (by omega),Int.one_mul,show (2:Int) ^ i=((2 ^ i:Nat):Int) from by rw[Int.natCast_pow];rfl]
 generalize (2:Nat) ^ i=P at *
 exact kN (by omega)
theorem yS {X c:Nat} (hX:X<2 ^ 62) (hc:c<62):cK (ny .u64 (X:Int) (eG .u64 (Int.ofNat 1) (Int.ofNat c))) (Int.ofNat 0)=!X.testBit c:=by
 have:(2:Nat) ^ c≤2 ^ 61:=Nat.pow_le_pow_right (by decide) (by omega)
 rw[zS hc,Ko (by omega) (by omega),aZ]
 have key:(X &&& 2 ^ c=0)↔X.testBit c=false:=by
  constructor
  · intro h
    have:=congrArg (fun y=>y.testBit c) h
    simpa[Nat.testBit_and,Nat.testBit_two_pow_self] using this
  · intro h
    apply Nat.eq_of_testBit_eq
    intro i
    rw[Nat.testBit_and,Nat.testBit_two_pow,Nat.zero_testBit]
    by_cases e:c=i
    · subst e;rw[h];rfl
    · rw[decide_eq_false e,Bool.and_false]
 rw[Bool.eq_iff_iff,beq_iff_eq,Bool.not_eq_true',← key]
 show ((X &&& 2 ^ c:Nat):Int)=0↔_
 omega
theorem C5 {X c:Nat} (hX:X<2 ^ 62) (hc:c<62) (h:X.testBit c=false):uq .u64 (X:Int) (eG .u64 (Int.ofNat 1) (Int.ofNat c))=((X+2 ^ c:Nat):Int):=by
 have:(2:Nat) ^ c≤2 ^ 61:=Nat.pow_le_pow_right (by decide) (by omega)
 rw[zS hc,MB (by omega) (by omega),En h]
noncomputable def okW (W B:Nat→Int) (k X c:Nat):Bool:=cK (CR .u64 (B c) (X:Int)) (Int.ofNat 0) && (eh (W (2*c)) (k:Int) && eh (k:Int) (W (2*c+1)))
theorem Jz (W B:Nat→Int) (k:Nat) {X c:Nat} (hX:X<2 ^ 62) (hc:c<62):Fj W B (k:Int) (X:Int) (Int.ofNat c)=(!X.testBit c && okW W B k X c):=by
 unfold Fj okW
 rw[yS hX hc]
 simp only[cG,a6,dT]
 rw[show 23+(Int.ofNat c).toNat*1-23=c by show 23+c*1-23=c;omega,show 3+(Int.ofNat c).toNat*2-3=2*c by show 3+c*2-3=2*c;omega,show 3+(Int.ofNat c).toNat*2+1-3=2*c+1 by show 3+c*2+1-3=2*c+1;omega]
 cases (!X.testBit c)<;>cases (cK (CR .u64 (B c) (X:Int)) (Int.ofNat 0))<;>cases (eh (W (2*c)) (k:Int))<;>cases (eh (k:Int) (W (2*c+1)))<;>rfl
def lD (h:Nat→Bool) (g:Nat→Nat) (q:Nat):CS:=⟨fun l=>match l with | [y]=>decide (0≤y) && h y.toNat | _=>false,fun l=>match l with | [y]=>if 0≤y then (g y.toNat:Int) else 0 | _=>0,q⟩
theorem rL (h:Nat→Bool) (g:Nat→Nat) (q:Nat) (X:Nat) (b:Bool):fc (lD h g q).h [(X:Int)] b=(lD (fun y=>if y=X then b else h y) g q).h:=by
 funext l
 unfold fc
 by_cases e:l=[(X:Int)]
 · subst e
   rw[if_pos rfl]
   show b=(decide ((0:Int)≤(X:Int)) && (if (X:Int).toNat=X then b else _))
   rw[if_pos (Int.toNat_natCast X),decide_eq_true (by omega)];simp
 · rw[if_neg e]
   match l,e with
   | [],_=>rfl
   | [y],e =>
     show (decide (0≤y) && h y.toNat)=(decide (0≤y) && (if y.toNat=X then b else h y.toNat))
     by_cases h0:0≤y
     · rw[if_neg (fun hy=>e (by rw[show y=(X:Int) by omega]))]
     · rw[decide_eq_false h0];rfl
   | _::_::_,_=>rfl
theorem rM (h:Nat→Bool) (g:Nat→Nat) (q:Nat) (X:Nat) (z:Nat):im (lD h g q).g [(X:Int)] (z:Int)=(lD h (fun y=>if y=X then z else g y) q).g:=by
 funext l
 unfold im
 by_cases e:l=[(X:Int)]
 · subst e
   rw[if_pos rfl]
   show (z:Int)=(if (0:Int)≤(X:Int) then (((if (X:Int).toNat=X then z else _):Nat):Int) else 0)
   rw[if_pos (by omega),if_pos (Int.toNat_natCast X)]
 · rw[if_neg e]
   match l,e with
   | [],_=>rfl
   | [y],e =>
     show (if 0≤y then (g y.toNat:Int) else 0)=(if 0≤y then (((if y.toNat=X then z else g y.toNat):Nat):Int) else 0)
     by_cases h0:0≤y
     · rw[if_pos h0,if_pos h0,if_neg (fun hy=>e (by rw[show y=(X:Int) by omega]))]
     · rw[if_neg h0,if_neg h0]
   | _::_::_,_=>rfl
theorem DX (h:Nat→Bool) (g:Nat→Nat) (q X:Nat):(lD h g q).g [(X:Int)]=(g X:Int):=by
 show (if (0:Int)≤(X:Int) then (g (X:Int).toNat:Int) else 0)=_
 rw[if_pos (by omega),Int.toNat_natCast]
def Gd (s:CS):Prop:=∃ es,qm (.num .u64) es s.h s.g s.q
theorem DI {h:List Int→Bool} {g:List Int→Int} {q:Nat} (hE:∃ es,qm (.num .u64) es h g q) (a y:Int):∃ es,qm (.num .u64) es (fc h [a] true) (im g [a] y) (sV (h [a]) q):=by
 obtain ⟨es,hE⟩:=hE
 cases hh:h [a] with
 | false=>exact ⟨_,hh ▸ hE.Py (n:=[a]) (y:=y) rfl (r:=none) hh (fun j hj=>by cases hj)⟩
 | true =>
   obtain ⟨_,j,j1,j2⟩:=hE.all _ hh
   obtain ⟨n,e1,e2⟩:=hE.ent j j1
   have:dU (.num .u64) n=dU (.num .u64) [a]:=by rw[← j2,e1]
   have hn:n=[a]:=iH (hE.fit e2) rfl this
   subst hn
   exact ⟨_,hh ▸ hE.Py (n:=[a]) (y:=y) rfl (r:=some j) hh (fun j' hj'=>by cases hj';exact ⟨j1,e1⟩)⟩
theorem I8 {h:List Int→Bool} {g:List Int→Int} {q:Nat} (hE:∃ es,qm (.num .u64) es h g q) (a:Int):∃ es,qm (.num .u64) es (fc h [a] false) (im g [a] 0) (wg (h [a]) q):=by
 obtain ⟨es,hE⟩:=hE
 cases hh:h [a] with
 | false=>exact ⟨_,hh ▸ hE.del (n:=[a]) rfl (r:=none) hh (fun j hj=>by cases hj)⟩
 | true =>
   obtain ⟨_,j,j1,j2⟩:=hE.all _ hh
   obtain ⟨n,e1,e2⟩:=hE.ent j j1
   have:dU (.num .u64) n=dU (.num .u64) [a]:=by rw[← j2,e1]
   have hn:n=[a]:=iH (hE.fit e2) rfl this
   subst hn
   exact ⟨_,hh ▸ hE.del (n:=[a]) rfl (r:=some j) hh (fun j' hj'=>by cases hj';exact ⟨j1,e1⟩)⟩
theorem EP (W B:Nat→Int) (k X:Nat) (hX:X<2 ^ 10) (h:Nat→Bool) (g:Nat→Nat) (q:Nat) (hG:Gd (lD h g q)):∀ j,j≤10→(∀ i,i≤j→∀ Y,g Y+g X*cT (okW W B) i k X Y<2 ^ 60) →
 ∃ q',zU W B (k:Int) (X:Int) j (lD h g q)=lD (fun Y=>h Y || decide (0<cT (okW W B) j k X Y)) (fun Y=>g Y+g X*cT (okW W B) j k X Y) q'∧Gd (zU W B (k:Int) (X:Int) j (lD h g q))
 | 0,_,_=>⟨q,by
    have e:∀ Y,cT (okW W B) 0 k X Y=0:=fun Y=>rfl
    simp only[e,Nat.mul_zero,Nat.add_zero]
    show lD h g q=_
    congr 1
    funext Y;simp,hG⟩
 | j + 1,hj,hb=>by
   obtain ⟨q',e,hG'⟩:=EP W B k X hX h g q hG j (by omega) (fun i hi=>hb i (by omega))
   have hX2:X<2 ^ 62:=by omega
   have e2:zU W B (k:Int) (X:Int) (j+1) (lD h g q)=GS W B (k:Int) (X:Int) (Int.ofNat j) (zU W B (k:Int) (X:Int) j (lD h g q)):=rfl
   rw[e2]
   rw[e] at hG' ⊢
   unfold GS
   rw[Jz W B k hX2 (by omega)]
   cases ho:(!X.testBit j && okW W B k X j) with
   | false =>
     refine ⟨q',?_,hG'⟩
     have:∀ Y,cT (okW W B) (j+1) k X Y=cT (okW W B) j k X Y:=fun Y=>by rw[yV,ho];simp
     simp only[this];rfl
   | true =>
     have hbit:X.testBit j=false:=by
      cases hx:X.testBit j with
      | false=>rfl
      | true=>rw[hx] at ho;cases ho
     have hc:∀ Y,cT (okW W B) (j+1) k X Y=cT (okW W B) j k X Y+if X+2 ^ j=Y then 1 else 0:=fun Y=>by rw[yV,ho];simp
     have hself:=Ap (ok:=okW W B) j k X
     have hp:=Nat.two_pow_pos j
     rw[cond_true]
     have e3:Mj (X:Int) (Int.ofNat j) (lD (fun Y=>h Y || decide (0<cT (okW W B) j k X Y)) (fun Y=>g Y+g X*cT (okW W B) j k X Y) q') =
      lD (fun Y=>h Y || decide (0<cT (okW W B) (j+1) k X Y)) (fun Y=>g Y+g X*cT (okW W B) (j+1) k X Y) (sV ((lD (fun Y=>h Y || decide (0<cT (okW W B) j k X Y)) (fun Y=>g Y+g X*cT (okW W B) j k X Y) q').h [((X+2 ^ j:Nat):Int)]) q'):=by
      unfold Mj
      rw[C5 hX2 (by omega) hbit,gF,gG,ld,DX,DX,gl,hself]
      have hb2:=hb (j+1) (by omega) (X+2 ^ j)
      rw[hc,if_pos rfl,Nat.mul_add] at hb2
      rw[show (((g (X+2 ^ j)+g X*cT (okW W B) j k X (X+2 ^ j):Nat):Int)+((g X+g X*0:Nat):Int))=((g (X+2 ^ j)+g X*cT (okW W B) j k X (X+2 ^ j)+g X:Nat):Int) by omega,Go.IntWalk.i64_in _ (by omega),rL,rM]
      show CS.mk (lD _ (fun Y=>g Y+g X*cT (okW W B) j k X Y) q').h (lD (fun Y=>h Y || decide (0<cT (okW W B) j k X Y)) _ q').g _=_
      have a1:(fun y=>if y=X+2 ^ j then true else (h y || decide (0<cT (okW W B) j k X y)))=fun Y=>h Y || decide (0<cT (okW W B) (j+1) k X Y):=by
       funext Y
       rw[hc]
       by_cases e:Y=X+2 ^ j
       · subst e;rw[if_pos rfl,if_pos rfl,decide_eq_true (by omega)];simp
       · rw[if_neg e,if_neg (fun h=>e h.symm)];rfl
      have a2:(fun y=>if y=X+2 ^ j then g (X+2 ^ j)+g X*cT (okW W B) j k X (X+2 ^ j)+g X else g y+g X*cT (okW W B) j k X y)=fun Y=>g Y+g X*cT (okW W B) (j+1) k X Y:=by
       funext Y
       rw[hc]
       by_cases e:Y=X+2 ^ j
       · subst e;rw[if_pos rfl,if_pos rfl,Nat.mul_add];omega
       · rw[if_neg e,if_neg (fun h=>e h.symm)];rfl
      rw[a1,a2];rfl
     refine ⟨_,e3,?_⟩
     unfold Mj
     rw[gF,gG,ld]
     exact DI hG' _ _
theorem J0 (W B:Nat→Int) (k X n:Nat) (hX:X<2 ^ 10) (h:Nat→Bool) (g:Nat→Nat) (q:Nat) (hG:Gd (lD h g q)) (hn:n≤10) (hb:∀ i,i≤n→∀ Y,g Y+g X*cT (okW W B) i k X Y<2 ^ 60) :
 ∃ q',JZ W B (k:Int) n (X:Int) (lD h g q)=lD (fun Y=>!decide (Y=X) && (h Y || decide (0<cT (okW W B) n k X Y))) (fun Y=>if Y=X then 0 else g Y+g X*cT (okW W B) n k X Y) q'∧Gd (JZ W B (k:Int) n (X:Int) (lD h g q)):=by
 obtain ⟨q',e,hG'⟩:=EP W B k X hX h g q hG n hn hb
 unfold JZ
 rw[e] at hG' ⊢
 have e3:Mt (X:Int) (lD (fun Y=>h Y || decide (0<cT (okW W B) n k X Y)) (fun Y=>g Y+g X*cT (okW W B) n k X Y) q')=lD (fun Y=>!decide (Y=X) && (h Y || decide (0<cT (okW W B) n k X Y))) (fun Y=>if Y=X then 0 else g Y+g X*cT (okW W B) n k X Y) (wg ((lD (fun Y=>h Y || decide (0<cT (okW W B) n k X Y)) (fun Y=>g Y+g X*cT (okW W B) n k X Y) q').h [(X:Int)]) q'):=by
  unfold Mt
  rw[gF,gG,rf,rL,show (Int.ofNat 0:Int)=((0:Nat):Int) from rfl,rM]
  have a1:(fun y=>if y=X then false else (h y || decide (0<cT (okW W B) n k X y)))=fun Y=>!decide (Y=X) && (h Y || decide (0<cT (okW W B) n k X Y)):=by
   funext Y
   by_cases e:Y=X
   · rw[if_pos e,decide_eq_true e];rfl
   · rw[if_neg e,decide_eq_false e];rfl
  rw[a1];rfl
 refine ⟨_,e3,?_⟩
 unfold Mt
 rw[gF,gG,rf]
 exact I8 hG' _
theorem JY (W B:Nat→Int) (k n:Nat) (hn:n≤10) (hk:k≤10) (q:Nat):∀ (L:List Nat) (z:Nat→Int),(∀ j (h:j<L.length),z j=((L[j]:Nat):Int))→L.Nodup→(∀ x ∈ L,0<cF n (okW W B) k x)→Gd (lD (hD n (okW W B) k []) (gD n (okW W B) k []) q)→∀ m,m≤L.length →
 ∃ q',EO W B (k:Int) n z m (lD (hD n (okW W B) k []) (gD n (okW W B) k []) q)=lD (hD n (okW W B) k (L.take m)) (gD n (okW W B) k (L.take m)) q'∧Gd (EO W B (k:Int) n z m (lD (hD n (okW W B) k []) (gD n (okW W B) k []) q)):=by
 intro L z hz hnd hL hG m
 induction m with
 | zero=>intro _;exact ⟨q,rfl,hG⟩
 | succ m ih =>
   intro hm
   obtain ⟨q',e,hG'⟩:=ih (by omega)
   have e2:EO W B (k:Int) n z (m+1) (lD (hD n (okW W B) k []) (gD n (okW W B) k []) q)=JZ W B (k:Int) n (z m) (EO W B (k:Int) n z m (lD (hD n (okW W B) k []) (gD n (okW W B) k []) q)):=rfl
   rw[e2]
   rw[e] at hG' ⊢
   rw[hz m (by omega)]
   have hx:=hL _ (List.getElem_mem (show m<L.length by omega))
   have hlt:=C8 hx
   have hp:(2:Nat) ^ n≤2 ^ 10:=Nat.pow_le_pow_right (by decide) hn
   have htake:L.take (m+1)=L.take m++[L[m]'(by omega)]:=by rw[List.take_add_one,List.getElem?_eq_getElem (by omega)];rfl
   have hnin:L[m]'(by omega) ∉ L.take m:=fun hc=>by
    have:=hnd.sublist (List.take_sublist (m+1) L)
    rw[htake,List.nodup_append] at this
    exact this.2.2 _ hc _ List.mem_cons_self rfl
   have hLt:∀ x ∈ L.take m,0<cF n (okW W B) k x:=fun x hx=>hL x (List.mem_of_mem_take hx)
   have hb:∀ i,i≤n→∀ Y,gD n (okW W B) k (L.take m) Y+gD n (okW W B) k (L.take m) (L[m]'(by omega))*cT (okW W B) i k (L[m]'(by omega)) Y<2 ^ 60:=fun i hi Y=>by
    have h1:=K6 (hnd.sublist (List.take_sublist m L)) hLt hx hnin i Y hi
    have h2:=Hh (n:=n) (ok:=okW W B) k Y
    have h3:=Hh (n:=n) (ok:=okW W B) (k+1) Y
    have h4:n ^ k≤10 ^ 10:=Nat.le_trans (Nat.pow_le_pow_left hn k) (Nat.pow_le_pow_right (by decide) hk)
    have h5:n ^ (k+1)≤10 ^ 11:=Nat.le_trans (Nat.pow_le_pow_left hn _) (Nat.pow_le_pow_right (by decide) (by omega))
    omega
   obtain ⟨q'',e3,hG''⟩:=J0 W B k (L[m]'(by omega)) n (by omega) _ _ q' hG' hn hb
   refine ⟨q'',?_,hG''⟩
   rw[e3,htake]
   congr 1
   · funext Y;exact FX hLt hx Y
   · funext Y;exact FW hLt hx hnin Y
end Go.Eng.Q
end
section
namespace Go.Eng.Q
open Go.Proofs Go.Eng.Gall
noncomputable def MZ (k:Int):au:=iz k++[(6,.nils),(18,.map 2 1),(19,.ptr 0 0 0 0),(20,.tup [.bool false]),(21,.bool false)]
noncomputable def QB:bH:=⟨false,[(0,.dead)]⟩
theorem Tk (n:Nat) (k x y:Int) (H:aa):bE.si cL (nv n) (il aV n 0) bc ba 0 1 (.int .u64 x,.int .i64 y) (hints (iz k++[(6,.nils),(18,.map 2 1),(19,.ptr 0 0 0 0)])) (⟨false,[(0,.dead)]⟩::H) =
 Tr.req (jW 0 1 8) (Tr.req (eO 0 0) (Tr.req (iV 1 1) (Tr.ok ([(1,AV.ptr 2 0 0 0,none),(3,AV.ptr 2 2 0 0,none),(4,AV.ptr 2 3 0 0,none),(5,AV.int .i64 k,none),(6,AV.slc 0 2 0 0 1 1 none,none),(19,AV.ptr 0 0 0 0,none)],{ lock:=false,bs:=[(0,az.dead),(0,az.row (Row.I IntKind.u64 [x])),(0,az.row (Row.M [aq.arr IntKind.u64 (aX [x]) 1]))] } :: H)))):=by kernel_rfl
theorem Tl (n:Nat) (k:Int) (H:aa):bE.uc cL (nv n) (il aV n 0) (hints (iz k++[(6,.nils),(18,.map 2 1),(19,.ptr 0 0 0 0)])) (⟨false,[(0,.dead)]⟩::H) =
 Tr.ok ([(1,AV.ptr 2 0 0 0,none),(3,AV.ptr 2 2 0 0,none),(4,AV.ptr 2 3 0 0,none),(5,AV.int .i64 k,none),(6,AV.nils,none),(18,AV.map 2 1,none),(19,AV.ptr 0 0 0 0,none),(20,AV.tup [AV.bool false],none),(21,AV.bool false,none)],{ lock:=false,bs:=[(0,az.dead)] } :: H):=by kernel_rfl
theorem tZ (n:Nat) (k:Int) (G:aa):aT (nv n) (il aV n 0) bc ba qf (hints (MZ k)) (⟨false,[(0,.dead)]⟩::aC::G) =
 Tr.ok (Ex.normal,[(1,AV.ptr 2 0 0 0,none),(3,AV.ptr 2 2 0 0,none),(4,AV.ptr 2 3 0 0,none),(5,AV.int .i64 k,none),(28,AV.nils,none),(29,AV.int .i64 (Int.ofNat 0),some 1),(30,AV.int .i64 (Int.ofNat 0),some 1),(31,AV.bool false,some 1)],{ lock:=false,bs:=[(0,az.dead)] } :: aC::G):=by kernel_rfl
theorem nO:kz [0,1,1,1,0,0] cB=part Tryd.f73 [1,1,1,0,1,0,1,0,1,1,1,0,0]:=by kernel_rfl
theorem nI:kz [0,1,1,1,0,0,1,1,0,0,1,0,1,0,0] cB=part Tryd.f73 [1,1,1,0,1,0,1,0,1,1,1,0,0,1,1,0,0,1,0,1,0,0]:=by kernel_rfl
theorem S3:qf=part Tryd.f73 [1,1,1,0,1,0,1,0,1,1]:=by kernel_rfl
theorem Qp:∀ b,(6,b) ∈ aI (kz [0,1,1,1,0,0] cB)→b=.loop (kz [0,1,1,1,0,0,1,1,0,0,1,0,1,0,0] cB):=by rw[nO,nI];exact b6
theorem QI:∀ b,(4,b) ∈ aI qf→b=.loop (kz [0,1,1,1,0,0] cB):=by rw[S3,nO];exact b4
section
variable (n:Nat) (k x0:Int) (v m:Nat) (z:Nat→Int) (dr:Int) (lc:Nat) (zc:Nat→Int) (lb:Nat) (zb:Nat→Int) (W B:Nat→Int) (b:az) (G:aa)
theorem Ti (j:Nat) (hj:j<m) (hm:m≤99990) (hl:lc≤10) (s:CS):∃ y,exec (nv (n+1)) (kz [0,1,1,1,0,0] cB) (CL k v m (Int.ofNat j)) (fU x0 v m z::aC::ie dr lc zc lb zb W B b s::G)=some y ∧
 (y.1=.normal∧tidy 3 y.2.1 y.2.2=(CL k v m (Int.ofNat (j+1)),fU x0 v m z::aC::ie dr lc zc lb zb W B b (JZ W B k lc (z j) s)::G)):=by
 have ez:aM 0 (Int.ofNat j) 1=j:=by rw[cG];show 0+j*1=j;omega
 have ec:bf .i64 (Int.ofNat j) (Int.ofNat 1)=Int.ofNat (j+1):=by
  have:=Aa j (by omega)
  rw[gl];exact this
 have T:=tO (n+1) (zU W B k (z j) lc s).h (zU W B k (z j) lc s).g (zU W B k (z j) lc s).q k (Int.ofNat j) x0 v m z dr lc zc lb zb W B s.h s.g s.q b G
 rw[ez,ec] at T
 refine rm (Q:=fun y=>y.1=.normal∧tidy 3 y.2.1 y.2.2=(CL k v m (Int.ofNat (j+1)),fU x0 v m z::aC::ie dr lc zc lb zb W B b (JZ W B k lc (z j) s)::G)) T (aJ _) (br (ak _ _) Qp (fun x h=>by rw[← Tr.ab h];simp only[gK.st,bp];exact QA n k x0 v m z dr lc zc lb zb W B b G (Int.ofNat j) (z j) hl s)) (al _ _) ?_
 refine Tr.ae (fun h0=>?_) (fun h0=>?_)
 · refine Tr.ag (by simp (disch:=omega) only[nV,nW];try omega) (Tr.ag (by rw[fC];simp) (Tr.ag (by simp (disch:=omega) only[nV,nW];omega) (Tr.aj ⟨rfl,rfl⟩ (Tr.ah ⟨rfl,rfl⟩))))
 · exfalso
   simp (disch:=omega) only[nV,nW] at h0
   omega
theorem Rk (hm:m≤99990) (hl:lc≤10) (s:CS):exec (nv (n+1)) (kz [0,1,1,1,0,0] cB) (CL k v m (Int.ofNat m)) (fU x0 v m z::aC::ie dr lc zc lb zb W B b s::G)=some (.exit 4,CL k v m (Int.ofNat m)++[(31,.bool false)],fU x0 v m z::aC::ie dr lc zc lb zb W B b s::G):=by
 have ez:aM 0 (Int.ofNat m) 1=m:=by rw[cG];show 0+m*1=m;omega
 have T:=tO (n+1) (zU W B k (z m) lc s).h (zU W B k (z m) lc s).g (zU W B k (z m) lc s).q k (Int.ofNat m) x0 v m z dr lc zc lb zb W B s.h s.g s.q b G
 rw[ez] at T
 refine kf T (aJ _) (br (ak _ _) Qp (fun x h=>by rw[← Tr.ab h];simp only[gK.st,bp];exact QA n k x0 v m z dr lc zc lb zb W B b G (Int.ofNat m) (z m) hl s)) (al _ _) ?_
 refine Tr.ae (fun h0=>?_) (fun h0=>Tr.ah rfl)
 exfalso
 simp (disch:=omega) only[nV,nW] at h0
 omega
theorem SZ (hm:m≤99990) (hl:lc≤10) (s:CS):exec (nv (n+1)) (.block 4 (.loop (kz [0,1,1,1,0,0] cB))) (CL k v m (Int.ofNat 0)) (fU x0 v m z::aC::ie dr lc zc lb zb W B b s::G) =
 some (.normal,CL k v m (Int.ofNat m)++[(31,.bool false)],fU x0 v m z::aC::ie dr lc zc lb zb W B b (EO W B k lc z m s)::G):=by
 refine Hl (n:=n+1) (f:=73) (nt:=83) (d:=2) (i:=4) 4 (fun c=>CL k v m (Int.ofNat c)) (fun c=>fU x0 v m z::aC::ie dr lc zc lb zb W B b (EO W B k lc z c s)::G) m (_,_) (by omega) (fun c hc=>?_) ?_
 · exact Ti n k x0 v m z dr lc zc lb zb W B b G c hc hm hl (EO W B k lc z c s)
 · exact Rk n k x0 v m z dr lc zc lb zb W B b G hm hl _
theorem O5 (hm:m≤99990) (hl:lc≤10) (s:CS):exec (nv (n+1)) qf (M7 k v m) (fU x0 v m z::aC::ie dr lc zc lb zb W B b s::G)=some (.normal,CL k v m (Int.ofNat m)++[(31,.bool false)],fU x0 v m z::aC::ie dr lc zc lb zb W B b (EO W B k lc z m s)::G):=by
 refine kf (t10 (n+1) k x0 v m z (ie dr lc zc lb zb W B b s::G) (ie dr lc zc lb zb W B b (EO W B k lc z m s)::G)) (aJ _) (br (ak _ _) QI (fun x h=>by rw[← Tr.ab h];simp only[gK.st,bp];exact SZ n k x0 v m z dr lc zc lb zb W B b G hm hl s)) (al _ _) ?_
 exact Tr.aj ⟨rfl,rfl⟩ (Tr.ah rfl)
end
end Go.Eng.Q
end
