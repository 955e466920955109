/- Gall: calls within count: those of the functions that it alone reaches. -/
import Derived.Test.YtgphpjdchnfjlaaDoorV6EngThx10
import Derived.Test.YtgphpjdchnfjlaaDoorV6EngRnFx8
import Derived.Test.YtgphpjdchnfjlaaDoorV6EngKtGx2
import Derived.Test.YtgphpjdchnfjlaaDoorProg
import Derived.KernelRfl
import Derived.Test.YtgphpjdchnfjlaaDoorV6Gp2x6
import Derived.IntWalk
set_option linter.unusedVariables false
set_option maxRecDepth 100000
set_option linter.unusedSimpArgs false
section
namespace Go.Eng
open Go.Proofs
def kJ:List Nat→Code→Code
 | [],c=>c
 | x :: p,c=>match c with
   | .seq a b=>match x with
     | 0=>kJ p a
     | _=>kJ p b
   | .cond _ a b=>match x with
     | 0=>kJ p a
     | _=>kJ p b
   | .block _ b=>kJ p b
   | .loop b=>kJ p b
   | .scope b=>kJ p b
   | .rangeFunc _ _ a b=>match x with
     | 0=>kJ p a
     | _=>kJ p b
   | c=>c
noncomputable def part (f:Func) (p:List Nat):Code:=kJ p (bx f)
theorem BS (j:Nat) (h:j<2 ^ 31):IntKind.i64.wrap ((j:Int)+1)=((j+1:Nat):Int):=by
 rw[show ((j:Int)+1)=((j+1:Nat):Int) by omega];exact Go.IntWalk.i64_in _ wO

def dz (p:Nat→Bool) (N:Nat):Bool:=decide (fN p N 0<N)
theorem sg {p:Nat→Bool} {N:Nat} (h:dz p N=true):fN p N 0<N:=by simpa[dz] using h
theorem vk {p:Nat→Bool} {N:Nat} (h:dz p N=false):fN p N 0=N:=by
 have h1:=(wi p N 0).2.1;have:¬ fN p N 0<N:=by simpa[dz] using h
 omega
theorem dI (p:Nat→Bool) (N:Nat):dz p N=true↔∃ i,i<N∧p i=true:=by
 obtain ⟨h1,h2,h3,h4⟩:=wi p N 0;constructor
 · intro h;have:=sg h;exact ⟨_,this,h4 wO⟩
 · rintro ⟨i,hi,hp⟩;unfold dz;rw[decide_eq_true_eq];apply Nat.lt_of_not_le;intro hc;have:=h3 i wO wO;rw[this] at hp;cases hp
namespace Q
noncomputable def ln:aK→FuncId→List AV→ab→Option (AV×ab):=yT []
def Hm (f:FuncId):Bool:=Nat.beq f 1000000
noncomputable def cd (n:Nat):aK:=dH Tryd.prog ln KtG.kt 100000 n
noncomputable def il (tab:nv) (n k:Nat):bt:=Bc Tryd.prog ln KtG.kt 100000 Hm tab n k
theorem wS (g:FuncId) (h:Hm g=false) (c:aK) (args:List AV) (H:ab):ln c g args H=none:=by
 unfold Hm at h;unfold ln yT;rw[h,cond_false];rfl
theorem mP (n:Nat):∃ x,dH Tryd.prog ln KtG.kt 100000 n .mode [] []=some x:=by
 cases n<;>exact ⟨_,rfl⟩
theorem wY:rP Tryd.prog ln:=C5 [] (fun e he=>by cases he)
theorem lU (tab:nv) (n k:Nat) (ht:∀ k,tab.Ok (cd (n+k))):(il tab n k).Ok (cd (n+k)):=wD _ _ _ _ _ _ _ wS (fun k=>mP _) ht k
theorem gI (n k:Nat):(il aJ n k).Ok (cd (n+k)):=lU _ _ _ (fun k=>bh _)
theorem aw (n:Nat):(il aJ n 0).Ok (cd n):=gI n 0
end Q
end Go.Eng
end
section
namespace Go.Eng.Q
open Go.Proofs
noncomputable def slA (n len:Nat) (z:Nat→Int):AV:=.slcT none (.M [.arr .i64 z (fD len n)]) n len false
noncomputable def shR (O:Int) (U:Nat) (Z:Nat→Int) (V:Nat) (J:Nat→Int) (W B:Nat→Int):Row:=.M [.one (.int .i64 O),.one (slA 4 U Z),.one (slA 2 V J),.arr .i64 W 20,.arr .u64 B 10]
noncomputable def shV (O:Int) (U:Nat) (Z:Nat→Int) (V:Nat) (J:Nat→Int) (W B:Nat→Int):AV:=.ptrT none (shR O U Z V J W B) 0
noncomputable def aV:bJ:=⟨false,[]⟩
noncomputable def mB (n f nt d i:Nat):Cx:=⟨Tryd.prog,cd n,100000,f,nt,KtG.kt f,some (d,i)⟩
def wX:Code→Array Oper
 | .region _ ops _=>ops
 | _=>#[]
def Qv (l:List Oper):Oper:=l.headD { dst:=none,op:=.move (.tmp 0),type:=0,pos := "",after:=#[],guard:=none }
noncomputable def cB:Code:=part Tryd.f73 [1,1,1,0,1,0,1]
noncomputable def cS:eC:={ id0:=6,ops0:=wX (kJ [0,1,0,0] cB),pre:=(wX (kJ [0,1,0,0] cB)).toList.take 1,ro:=Qv ((wX (kJ [0,1,0,0] cB)).toList.drop 1),m:=18,ty:=128 }
noncomputable def cL:bV:={ out:=2,vu:=7,id2:=8,nxt:=3,ops1:=wX (kJ [0,1,0,1,0,0,0] cB),ops2:=wX (kJ [0,1,0,1,0,0,1,1,0,0] cB),no:=Qv (wX (kJ [0,1,0,1,0,0,0] cB)).toList,eo:=Qv (wX (kJ [0,1,0,1,0,0,1,1,0,0] cB)).toList,t1:=(wX (kJ [0,1,0,1,0,0,0] cB)).toList.tail,t2:=(wX (kJ [0,1,0,1,0,0,1,1,0,0] cB)).toList.tail,it:=19,nx:=20,mo:=21,en:=22,rest:=kJ [0,1,0,1,0,0,1,1,0,1] cB,km:=267386880+128 }
noncomputable def qT:Code:=kJ [0,1,1] cB
noncomputable def cR:pD:={ f:=73,id:=1,body:=cB,pre:=[kJ [0,0] cB],S:=cS,L:=cL,suf:=qT }
noncomputable def iJ (k:Int):aA:=[(1,.ptr 2 0 0 0),(3,.ptr 2 2 0 0),(4,.ptr 2 3 0 0),(5,.int .i64 k)]
noncomputable def lX (O:Int) (U:Nat) (Z:Nat→Int) (V:Nat) (J:Nat→Int) (W B:Nat→Int) (h:List Int→Bool) (g:List Int→Int) (c:Nat) (b:an):bJ:=⟨false,[(0,.row (.G [shV O U Z V J W B])),(0,.fmap (.num .u64) h g c),(0,.row (.G [.map 0 1])),(0,.row (.G [.fn (.func 71) [shV O U Z V J W B] []])),(0,b)]⟩
theorem t5 (n:Nat) (k:Int) (H:ab):aH (mB n 73 83 2 4) (il aJ n 0) aS aR (kJ [0,0] cB) (hints (iJ k)) (aV::H) =
 Tr.ok (Ex.normal,[(1,AV.ptr 2 0 0 0,none),(3,AV.ptr 2 2 0 0,none),(4,AV.ptr 2 3 0 0,none),(5,AV.int .i64 k,none),(6,AV.nils,none)],aV::H):=by kernel_rfl
theorem tS (n:Nat) (k:Int) (O:Int) (U:Nat) (Z:Nat→Int) (V:Nat) (J:Nat→Int) (W B:Nat→Int) (h:List Int→Bool) (g:List Int→Int) (c:Nat) (b:an) (H:ab):eC.Mm cS (mB n 73 83 2 4) (il aJ n 0) (hints (iJ k++[(6,.nils)])) (aV::aV::lX O U Z V J W B h g c b::H) =
 (fun (Z0:List AV)=>Tr.ok ([(1,AV.ptr 2 0 0 0,none),(3,AV.ptr 2 2 0 0,none),(4,AV.ptr 2 3 0 0,none),(5,AV.int .i64 k,none),(6,AV.nils,none),(18,AV.map 2 1,none)],aV::aV::{ lock:=false,bs:=[(0,an.row (Row.G Z0)),(0,an.fmap (KK.num IntKind.u64) h g c),(0,an.row (Row.G [AV.map 0 1])),(0,an.row (Row.G [AV.fn (Fn.func 71) Z0 []])),(0,b)] } :: H)) [AV.ptrT none (Row.M [db.one (AV.int .i64 O),db.one (AV.slcT none (Row.M [db.arr .i64 Z (bD U 4)]) 4 U false),db.one (AV.slcT none (Row.M [db.arr .i64 J (bD V 2)]) 2 V false),db.arr .i64 W 20,db.arr IntKind.u64 B 10]) 0]:=by kernel_rfl
theorem tB (n:Nat) (k x y x0:Int) (v m:Nat) (z:Nat→Int) (H:ab):bV.tD cL (mB n 73 83 2 4) (il aJ n 0) aS aR 0 1 (.int .u64 x,.int .i64 y) (hints (iJ k++[(6,.slc 0 2 v 0 1 m none),(19,.ptr 0 0 0 0)])) (⟨false,[(0,.dead),(0,.row (.I .u64 [x0])),(v,.row (.M [.arr .u64 z m]))]⟩::H) =
 Tr.req (ig m 1 8) (Tr.req (cu 0 0) (Tr.req (dO 1 1) (Tr.req (cu v v) (Tr.req (cu (ar 0 m) m) (Tr.ok ([(1,AV.ptr 2 0 0 0,none),(3,AV.ptr 2 2 0 0,none),(4,AV.ptr 2 3 0 0,none),(5,AV.int .i64 k,none),(6,AV.slc 0 2 (Nat.succ v) 0 1 (ar m 1) none,none),(19,AV.ptr 0 0 0 0,none)],{ lock:=false,bs:=[(0,an.dead),(0,an.row (Row.I IntKind.u64 [x0])),(Nat.succ v,an.row (Row.M [db.arr IntKind.u64 (oz (qj z 0) m (aI [x])) (ar m 1)]))] } :: H)))))):=by kernel_rfl
theorem tX (n:Nat) (k x0:Int) (v m:Nat) (z:Nat→Int) (H:ab):bV.vz cL (mB n 73 83 2 4) (il aJ n 0) (hints (iJ k++[(6,.slc 0 2 v 0 1 m none),(19,.ptr 0 0 0 0)])) (⟨false,[(0,.dead),(0,.row (.I .u64 [x0])),(v,.row (.M [.arr .u64 z m]))]⟩::H) =
 Tr.ok ([(1,AV.ptr 2 0 0 0,none),(3,AV.ptr 2 2 0 0,none),(4,AV.ptr 2 3 0 0,none),(5,AV.int .i64 k,none),(6,AV.slc 0 2 v 0 1 m none,none),(19,AV.ptr 0 0 0 0,none),(20,AV.tup [AV.bool false],none),(21,AV.bool false,none)],{ lock:=false,bs:=[(0,an.dead),(0,an.row (Row.I IntKind.u64 [x0])),(v,an.row (Row.M [db.arr IntKind.u64 z m]))] } :: H):=by kernel_rfl
theorem tN (n:Nat) (k:Int) (H:ab):bV.vz cL (mB n 73 83 2 4) (il aJ n 0) (hints (iJ k++[(6,.nils),(19,.ptr 0 0 0 0)])) (⟨false,[(0,.dead)]⟩::H) =
 Tr.ok ([(1,AV.ptr 2 0 0 0,none),(3,AV.ptr 2 2 0 0,none),(4,AV.ptr 2 3 0 0,none),(5,AV.int .i64 k,none),(6,AV.nils,none),(19,AV.ptr 0 0 0 0,none),(20,AV.tup [AV.bool false],none),(21,AV.bool false,none)],{ lock:=false,bs:=[(0,an.dead)] } :: H):=by kernel_rfl
end Go.Eng.Q
end
section
namespace Go.Eng.Q
open Go.Proofs
noncomputable def jL (x0:Int) (v m:Nat) (z:Nat→Int):bJ:=⟨false,[(0,.dead),(0,.row (.I .u64 [x0])),(v,.row (.M [.arr .u64 z m]))]⟩
noncomputable def Qs (k:Int) (v m:Nat):aA:=iJ k++[(6,.slc 0 2 v 0 1 m none),(19,.ptr 0 0 0 0),(20,.tup [.bool false]),(21,.bool false)]
noncomputable def oo (n:Nat):Cx:=mB n 73 83 2 4
noncomputable def EJ (k:Int) (v m:Nat) (j:Int):aA:=iJ k++[(28,.slc 0 2 v 0 1 m none),(29,.int .i64 (Int.ofNat m)),(30,.int .i64 j)]
noncomputable def FM (k:Int) (v m:Nat) (x j:Int) (U:Nat) (c:Int):aA:=iJ k++[(9,.int .u64 x),(28,.slc 0 2 v 0 1 m none),(29,.int .i64 (Int.ofNat m)),(30,.int .i64 j),(39,.int .i64 (Int.ofNat U)),(40,.int .i64 c)]
theorem t10 (n:Nat) (k x0:Int) (v m:Nat) (z:Nat→Int) (G G':ab):aH (oo n) (il aJ n 0) (cw aS 4 (EJ k v m (Int.ofNat 0)) (jL x0 v m z::aV::G) (.ok (.normal,hints (EJ k v m (Int.ofNat m)++[(31,.bool false)]),jL x0 v m z::aV::G'))) aR qT (hints (Qs k v m)) (jL x0 v m z::aV::G) =
 (fun (Z0:aA)=>Tr.reqP (Z0=Z0∧jL x0 v m z::aV::G=jL x0 v m z::aV::G) (Tr.ok (Ex.normal,[(1,AV.ptr 2 0 0 0,none),(3,AV.ptr 2 2 0 0,none),(4,AV.ptr 2 3 0 0,none),(5,AV.int .i64 k,none),(28,AV.slc 0 2 v 0 1 m none,none),(29,AV.int .i64 (Int.ofNat m),none),(30,AV.int .i64 (Int.ofNat m),none),(31,AV.bool false,none)],jL x0 v m z::aV::G'))) [(1,AV.ptr 2 0 0 0),(3,AV.ptr 2 2 0 0),(4,AV.ptr 2 3 0 0),(5,AV.int .i64 k),(28,AV.slc 0 2 v 0 1 m none),(29,AV.int .i64 (Int.ofNat m)),(30,AV.int .i64 (Int.ofNat 0))]:=by kernel_rfl
theorem tO (n:Nat) (h':List Int→Bool) (g':List Int→Int) (q':Nat) (k j x0:Int) (v m:Nat) (z:Nat→Int) (O:Int) (U:Nat) (Z:Nat→Int) (V:Nat) (J:Nat→Int) (W B:Nat→Int) (h:List Int→Bool) (g:List Int→Int) (q:Nat) (b:an) (G:ab):aH (oo n) (il aJ n 0) (cw aS 6 (FM k v m (z (aq 0 j 1)) j U (Int.ofNat 0)) (jL x0 v m z::aV::lX O U Z V J W B h g q b::G) (.ok (.normal,hints (FM k v m (z (aq 0 j 1)) j U (Int.ofNat U)++[(41,.bool false)]),jL x0 v m z::aV::lX O U Z V J W B h' g' q' b::G))) aR (kJ [0,1,1,1,0,0] cB) (hints (EJ k v m j)) (jL x0 v m z::aV::lX O U Z V J W B h g q b::G) =
 (fun (Z0:aA)=>Tr.ite (bw j (Int.ofNat m)) (Tr.req (b8 j m) (Tr.req (cu v v) (Tr.req (bR (aq 0 j 1) m) (Tr.reqP (Z0=Z0∧jL x0 v m z::aV::lX O U Z V J W B h g q b::G=jL x0 v m z::aV::lX O U Z V J W B h g q b::G) (Tr.ok (Ex.normal,[(1,AV.ptr 2 0 0 0,none),(3,AV.ptr 2 2 0 0,none),(4,AV.ptr 2 3 0 0,none),(5,AV.int .i64 k,none),(28,AV.slc 0 2 v 0 1 m none,none),(29,AV.int .i64 (Int.ofNat m),none),(30,AV.int .i64 (aQ .i64 j (Int.ofNat 1)),none)],jL x0 v m z::aV::{ lock:=false,bs:=[(0,an.row (Row.G [shV O U Z V J W B])),(0,an.fmap (KK.num IntKind.u64) (mj h' [z (aq 0 j 1)] false) (ml g' [z (aq 0 j 1)] (Int.ofNat 0)) (xN (h' [z (aq 0 j 1)]) q')),(0,an.row (Row.G [AV.map 0 1])),(0,an.row (Row.G [AV.fn (Fn.func 71) [shV O U Z V J W B] []])),(0,b)] } :: G)))))) (Tr.ok (Ex.exit 4,[(1,AV.ptr 2 0 0 0,none),(3,AV.ptr 2 2 0 0,none),(4,AV.ptr 2 3 0 0,none),(5,AV.int .i64 k,none),(28,AV.slc 0 2 v 0 1 m none,none),(29,AV.int .i64 (Int.ofNat m),none),(30,AV.int .i64 j,none),(31,AV.bool false,some 1)],jL x0 v m z::aV::lX O U Z V J W B h g q b::G))) [(1,AV.ptr 2 0 0 0),(3,AV.ptr 2 2 0 0),(4,AV.ptr 2 3 0 0),(5,AV.int .i64 k),(9,AV.int IntKind.u64 (z (aq 0 j 1))),(28,AV.slc 0 2 v 0 1 m none),(29,AV.int .i64 (Int.ofNat m)),(30,AV.int .i64 j),(39,AV.int .i64 (Int.ofNat U)),(40,AV.int .i64 (Int.ofNat 0))]:=by kernel_rfl
theorem tI (n:Nat) (k j x x0 c:Int) (v m:Nat) (z:Nat→Int) (O:Int) (U:Nat) (Z:Nat→Int) (V:Nat) (J:Nat→Int) (W B:Nat→Int) (h:List Int→Bool) (g:List Int→Int) (q:Nat) (b:an) (G:ab):aH (oo (n+1)) (il aJ n 1) aS aR (kJ [0,1,1,1,0,0,1,1,0,0,1,0,1,0,0] cB) (hints (FM k v m x j U c)) (jL x0 v m z::aV::lX O U Z V J W B h g q b::G) =
 (fun (Z0:aD)=>Tr.ite (bw c (Int.ofNat U)) (Tr.req (cU (Int.ofNat 0) c) (Tr.ite (cK (lB IntKind.u64 x (dc IntKind.u64 (Int.ofNat 1) c)) (Int.ofNat 0)) (Tr.req (b8 c 10) (Tr.req (fF (aq 23 c 1) 1 23 10) (Tr.ite (cK (Hw IntKind.u64 (B (jh (aq 23 c 1) 23)) x) (Int.ofNat 0)) (Tr.req (b8 c 10) (Tr.req (fF (aq 3 c 2) 1 3 20) (Tr.req (fF (ar (aq 3 c 2) 1) 1 3 20) (Tr.ite (cU (W (jh (aq 3 c 2) 3)) k) (Tr.ite (cU k (W (jh (ar (aq 3 c 2) 1) 3))) (Tr.req (cU (Int.ofNat 0) c) (Tr.req (bL (dO 0 0) (dO 0 1)) (Tr.ok (Ex.normal,Z0,jL x0 v m z::aV::{ lock:=false,bs:=[(0,an.row (Row.G [shV O U Z V J W B])),(0,an.fmap (KK.num IntKind.u64) (mj h [xD IntKind.u64 x (dc IntKind.u64 (Int.ofNat 1) c)] true) (ml g [xD IntKind.u64 x (dc IntKind.u64 (Int.ofNat 1) c)] (aQ .i64 (g [xD IntKind.u64 x (dc IntKind.u64 (Int.ofNat 1) c)]) (g [x]))) (qp (h [xD IntKind.u64 x (dc IntKind.u64 (Int.ofNat 1) c)]) q)),(0,an.row (Row.G [AV.map 0 1])),(0,an.row (Row.G [AV.fn (Fn.func 71) [shV O U Z V J W B] []])),(0,b)] } :: G)))) (Tr.ok (Ex.normal,Z0,jL x0 v m z::aV::lX O U Z V J W B h g q b::G))) (Tr.ok (Ex.normal,Z0,jL x0 v m z::aV::lX O U Z V J W B h g q b::G)))))) (Tr.ok (Ex.normal,Z0,jL x0 v m z::aV::lX O U Z V J W B h g q b::G))))) (Tr.ok (Ex.normal,Z0,jL x0 v m z::aV::lX O U Z V J W B h g q b::G)))) (Tr.ok (Ex.exit 6,[(1,AV.ptr 2 0 0 0,none),(3,AV.ptr 2 2 0 0,none),(4,AV.ptr 2 3 0 0,none),(5,AV.int .i64 k,none),(9,AV.int IntKind.u64 x,none),(28,AV.slc 0 2 v 0 1 m none,none),(29,AV.int .i64 (Int.ofNat m),none),(30,AV.int .i64 j,none),(39,AV.int .i64 (Int.ofNat U),none),(40,AV.int .i64 c,none),(41,AV.bool false,some 1)],jL x0 v m z::aV::lX O U Z V J W B h g q b::G))) [(1,AV.ptr 2 0 0 0,none),(3,AV.ptr 2 2 0 0,none),(4,AV.ptr 2 3 0 0,none),(5,AV.int .i64 k,none),(9,AV.int IntKind.u64 x,none),(28,AV.slc 0 2 v 0 1 m none,none),(29,AV.int .i64 (Int.ofNat m),none),(30,AV.int .i64 j,none),(39,AV.int .i64 (Int.ofNat U),none),(40,AV.int .i64 (aQ .i64 c (Int.ofNat 1)),none)]:=by kernel_rfl
end Go.Eng.Q
end
section
namespace Go.Eng.Q
open Go.Proofs
theorem nB {n f nt d i:Nat} {c:Code} {callR:bt} {bl:eW} {rg:ou} {fr:aA} {H:ab} {T:Tr dY} (e:aH (mB n f nt d i) callR bl rg c (hints fr) H=T) (hC:callR.Ok (cd n)) (hB:bl.Ok (mB n f nt d i) c) (hR:rg.Ok (mB n f nt d i) c) {y:Ex×aA×ab} (h:T.all fun x=>x.st=y):exec (mB n f nt d i) c fr H=some y:=by
 obtain ⟨x,h1,rfl⟩:=h;have:=fJ (cx:=mB n f nt d i) hC c hB hR (hints fr) H x (by rw[e];exact h1);rw[aG] at this;exact this
theorem AU {n f nt d i:Nat} {c:Code} {callR:bt} {bl:eW} {rg:ou} {fr:aA} {H:ab} {T:Tr dY} {Q:Ex×aA×ab→Prop} (e:aH (mB n f nt d i) callR bl rg c (hints fr) H=T) (hC:callR.Ok (cd n)) (hB:bl.Ok (mB n f nt d i) c) (hR:rg.Ok (mB n f nt d i) c) (h:T.all fun x=>Q x.st):∃ y,exec (mB n f nt d i) c fr H=some y∧Q y:=by
 obtain ⟨x,h1,h2⟩:=h;have:=fJ (cx:=mB n f nt d i) hC c hB hR (hints fr) H x (by rw[e];exact h1);rw[aG] at this;exact ⟨_,this,h2⟩
theorem Ly {n f nt d i:Nat} {c:Code} (id:Nat) (F:Nat→aA) (G:Nat→ab) (N:Nat) (p:Nat→Bool) (X:Nat→aA×ab) (Y:aA×ab) (hN:N<99999)
 (hs:∀ j,j<N→∃ x,exec (mB n f nt d i) c (F j) (G j)=some x∧if p j=true then x=(.ret,X j) else x.1=.normal∧tidy (aZ (G 0)) x.2.1 x.2.2=(F (j+1),G (j+1)))
 (he:exec (mB n f nt d i) c (F N) (G N)=some (.exit id,Y)):exec (mB n f nt d i) (.block id (.loop c)) (F 0) (G 0)=some (cond (dz p N) (.ret,X (fN p N 0)) (.normal,Y)):=by
 have key:=iB (body:=exec (mB n f nt d i) c) (n:=aZ (G 0)) F G N p (fun j=>if j<N then (.ret,X j) else (.exit id,Y))
  (fun j hj hp=>by
    obtain ⟨x,h1,h2⟩:=hs j hj;rw[if_neg (by rw[hp];simp)] at h2;obtain ⟨e,f1,g1⟩:=x;obtain ⟨rfl,h3⟩:=h2;exact ⟨_,_,h1,h3⟩)
  (fun j hj hp=>by
    obtain ⟨x,h1,h2⟩:=hs j hj;rw[if_pos hp] at h2;subst h2;rw[if_pos hj];exact ⟨h1,by simp⟩)
  (by
    rw[if_neg (by omega)];exact ⟨he,by simp⟩) N 0 100000 (by omega) (by omega)
 cases hc:dz p N with
 | true =>
   have:=sg hc
   rw[if_pos this] at key
   exact dm (fun id' h=>by cases h) key
 | false =>
   have:=vk hc
   rw[if_neg (by omega)] at key
   exact gS key

theorem JM {n f nt d i:Nat} {c:Code} (id:Nat) (F:Nat→aA) (G:Nat→ab) (N:Nat) (Y:aA×ab) (hN:N<99999)
 (hs:∀ j,j<N→∃ x,exec (mB n f nt d i) c (F j) (G j)=some x∧(x.1=.normal∧tidy (aZ (G 0)) x.2.1 x.2.2=(F (j+1),G (j+1))))
 (he:exec (mB n f nt d i) c (F N) (G N)=some (.exit id,Y)):exec (mB n f nt d i) (.block id (.loop c)) (F 0) (G 0)=some (.normal,Y):=by
 have:=Ly id F G N (fun _=>false) (fun _=>Y) Y hN (fun j hj=>by
  obtain ⟨x,h1,h2⟩:=hs j hj;exact ⟨x,h1,by rw[if_neg (by simp)];exact h2⟩) he
 have h0:dz (fun _=>false) N=false:=by
  cases h:dz (fun _=>false) N with
  | false=>rfl
  | true=>obtain ⟨i2,_,h2⟩:=(dI _ _).1 h;cases h2
 rw[h0] at this
 exact this

structure CS where
 h:List Int→Bool
 g:List Int→Int
 q:Nat
noncomputable def PG (x c:Int) (s:CS):CS:=⟨mj s.h [xD .u64 x (dc .u64 (Int.ofNat 1) c)] true,ml s.g [xD .u64 x (dc .u64 (Int.ofNat 1) c)] (aQ .i64 (s.g [xD .u64 x (dc .u64 (Int.ofNat 1) c)]) (s.g [x])),qp (s.h [xD .u64 x (dc .u64 (Int.ofNat 1) c)]) s.q⟩
noncomputable def Hp (W B:Nat→Int) (k x c:Int):Bool:=cond (cK (lB .u64 x (dc .u64 (Int.ofNat 1) c)) (Int.ofNat 0)) (cond (cK (Hw .u64 (B (jh (aq 23 c 1) 23)) x) (Int.ofNat 0)) (cond (cU (W (jh (aq 3 c 2) 3)) k) (cU k (W (jh (ar (aq 3 c 2) 1) 3))) false) false) false
noncomputable def Jh (W B:Nat→Int) (k x c:Int) (s:CS):CS:=cond (Hp W B k x c) (PG x c s) s
noncomputable def BH (W B:Nat→Int) (k x:Int):Nat→CS→CS
 | 0,s=>s
 | j+1,s=>Jh W B k x (Int.ofNat j) (BH W B k x j s)
noncomputable def PR (x:Int) (s:CS):CS:=⟨mj s.h [x] false,ml s.g [x] (Int.ofNat 0),xN (s.h [x]) s.q⟩
noncomputable def MF (W B:Nat→Int) (k:Int) (n:Nat) (x:Int) (s:CS):CS:=PR x (BH W B k x n s)
noncomputable def G1 (W B:Nat→Int) (k:Int) (n:Nat) (z:Nat→Int):Nat→CS→CS
 | 0,s=>s
 | j+1,s=>MF W B k n (z j) (G1 W B k n z j s)
section
variable (n:Nat) (k x0:Int) (v m:Nat) (z:Nat→Int) (O:Int) (U:Nat) (Z:Nat→Int) (V:Nat) (J:Nat→Int) (W B:Nat→Int) (b:an) (G:ab)
noncomputable def ib (s:CS):bJ:=lX O U Z V J W B s.h s.g s.q b
theorem W1 (j x:Int) (c:Nat) (hc:c<U) (hl:U≤10) (s:CS):∃ y,exec (oo (n+1)) (kJ [0,1,1,1,0,0,1,1,0,0,1,0,1,0,0] cB) (FM k v m x j U (Int.ofNat c)) (jL x0 v m z::aV::ib O U Z V J W B b s::G)=some y ∧
 (y.1=.normal∧tidy 3 y.2.1 y.2.2=(FM k v m x j U (Int.ofNat (c+1)),jL x0 v m z::aV::ib O U Z V J W B b (Jh W B k x (Int.ofNat c) s)::G)):=by
 refine AU (Q:=fun y=>y.1=.normal∧tidy 3 y.2.1 y.2.2=(FM k v m x j U (Int.ofNat (c+1)),jL x0 v m z::aV::ib O U Z V J W B b (Jh W B k x (Int.ofNat c) s)::G)) (tI n k j x x0 (Int.ofNat c) v m z O U Z V J W B s.h s.g s.q b G) (gI n 1) (aj _ _) (ai _ _) ?_
 have ec:aQ .i64 (Int.ofNat c) (Int.ofNat 1)=Int.ofNat (c+1):=by
  have:=BS c (by omega);rw[fG];exact this
 have no:Hp W B k x (Int.ofNat c)=false→Jh W B k x (Int.ofNat c) s=s:=fun h=>by unfold Jh;rw[h];rfl
 have yes:Hp W B k x (Int.ofNat c)=true→Jh W B k x (Int.ofNat c) s=PG x (Int.ofNat c) s:=fun h=>by unfold Jh;rw[h];rfl
 refine Tr.ae (fun h0=>?_) (fun h0=>?_)
 · refine Tr.aa wG ?_
   refine Tr.ae (fun h1=>?_) (fun h1=>?_)
   · refine Tr.aa wG (Tr.aa wG ?_)
     refine Tr.ae (fun h2=>?_) (fun h2=>?_)
     · refine Tr.aa wG (Tr.aa wG (Tr.aa wG ?_))
       refine Tr.ae (fun h3=>?_) (fun h3=>?_)
       · refine Tr.ae (fun h4=>?_) (fun h4=>?_)
         · refine Tr.aa wG (Tr.aa wG ?_)
           rw[yes (by unfold Hp;rw[h1,h2,h3,h4];rfl),ec]
           exact Tr.ag ⟨rfl,rfl⟩
         · rw[no (by unfold Hp;rw[h1,h2,h3,h4];rfl),ec]
           exact Tr.ag ⟨rfl,rfl⟩
       · rw[no (by unfold Hp;rw[h1,h2,h3];rfl),ec]
         exact Tr.ag ⟨rfl,rfl⟩
     · rw[no (by unfold Hp;rw[h1,h2];rfl),ec]
       exact Tr.ag ⟨rfl,rfl⟩
   · rw[no (by unfold Hp;rw[h1];rfl),ec]
     exact Tr.ag ⟨rfl,rfl⟩
 · exfalso
   simp (disch:=omega) only[nV,nW] at h0
   omega
theorem U2 (j x:Int) (hl:U≤10) (s:CS):exec (oo (n+1)) (kJ [0,1,1,1,0,0,1,1,0,0,1,0,1,0,0] cB) (FM k v m x j U (Int.ofNat U)) (jL x0 v m z::aV::ib O U Z V J W B b s::G)=some (.exit 6,FM k v m x j U (Int.ofNat U)++[(41,.bool false)],jL x0 v m z::aV::ib O U Z V J W B b s::G):=by
 refine nB (tI n k j x x0 (Int.ofNat U) v m z O U Z V J W B s.h s.g s.q b G) (gI n 1) (aj _ _) (ai _ _) ?_;refine Tr.ae (fun h0=>?_) (fun h0=>Tr.ag rfl);exfalso;simp (disch:=omega) only[nV,nW] at h0;omega
theorem Uh (j x:Int) (hl:U≤10) (s:CS):exec (oo (n+1)) (.block 6 (.loop (kJ [0,1,1,1,0,0,1,1,0,0,1,0,1,0,0] cB))) (FM k v m x j U (Int.ofNat 0)) (jL x0 v m z::aV::ib O U Z V J W B b s::G) =
 some (.normal,FM k v m x j U (Int.ofNat U)++[(41,.bool false)],jL x0 v m z::aV::ib O U Z V J W B b (BH W B k x U s)::G):=by
 refine JM (n:=n+1) (f:=73) (nt:=83) (d:=2) (i:=4) 6 (fun c=>FM k v m x j U (Int.ofNat c)) (fun c=>jL x0 v m z::aV::ib O U Z V J W B b (BH W B k x c s)::G) U (_,_) (by omega) (fun c hc=>?_) ?_
 · exact W1 n k x0 v m z O U Z V J W B b G j x c hc hl (BH W B k x c s)
 · exact U2 n k x0 v m z O U Z V J W B b G j x hl _
theorem b6:∀ b,(6,b) ∈ aE (part Tryd.f73 [1,1,1,0,1,0,1,0,1,1,1,0,0])→b=.loop (part Tryd.f73 [1,1,1,0,1,0,1,0,1,1,1,0,0,1,1,0,0,1,0,1,0,0]):=dK (by kernel_rfl)
theorem b4:∀ b,(4,b) ∈ aE (part Tryd.f73 [1,1,1,0,1,0,1,0,1,1])→b=.loop (part Tryd.f73 [1,1,1,0,1,0,1,0,1,1,1,0,0]):=dK (by kernel_rfl)
end
end Go.Eng.Q
end
section
namespace Go.Eng.Q
open Go.Proofs Go.Eng.Gall
theorem HN (x:Nat):BitVec.ofInt 64 (x:Int)=BitVec.ofNat 64 x:=by
 apply BitVec.eq_of_toInt_eq;simp
theorem jA {x:Nat} (h:x<2 ^ 64):IntKind.u64.wrap (x:Int)=x:=Go.IntWalk.u64_in _ (by omega)
theorem Sr {x y:Nat} (hx:x<2 ^ 63) (hy:y<2 ^ 63):xD .u64 (x:Int) (y:Int)=((x ||| y:Nat):Int):=by
 rw[tm];show IntKind.u64.wrap ((BitVec.ofInt 64 (x:Int) ||| BitVec.ofInt 64 (y:Int)).toNat:Nat)=_;have h1:x ||| y<2 ^ 63:=Nat.or_lt_two_pow hx hy;rw[HN,HN,BitVec.toNat_or,BitVec.toNat_ofNat,BitVec.toNat_ofNat,Nat.mod_eq_of_lt (by omega),Nat.mod_eq_of_lt (by omega),jA (by omega)]
theorem K7 {x y:Nat} (hx:x<2 ^ 63) (hy:y<2 ^ 63):lB .u64 (x:Int) (y:Int)=((x &&& y:Nat):Int):=by
 rw[ov];show IntKind.u64.wrap ((BitVec.ofInt 64 (x:Int) &&& BitVec.ofInt 64 (y:Int)).toNat:Nat)=_;have h1:x &&& y<2 ^ 63:=Nat.and_lt_two_pow x hy;rw[HN,HN,BitVec.toNat_and,BitVec.toNat_ofNat,BitVec.toNat_ofNat,Nat.mod_eq_of_lt (by omega),Nat.mod_eq_of_lt (by omega),jA (by omega)]
theorem Ev {i:Nat} (hi:i<62):dc .u64 (Int.ofNat 1) (Int.ofNat i)=((2 ^ i:Nat):Int):=by
 rw[rJ];show IntKind.u64.wrap (1*2 ^ min i 64)=_;have:(2:Nat) ^ i≤2 ^ 62:=Nat.pow_le_pow_right (by decide) (by omega);rw[Nat.min_eq_left (by omega),Int.one_mul,show (2:Int) ^ i=((2 ^ i:Nat):Int) from by rw[Int.natCast_pow];rfl];generalize (2:Nat) ^ i=P at *;exact jA (by omega)
theorem Ff {X c:Nat} (hX:X<2 ^ 62) (hc:c<62):cK (lB .u64 (X:Int) (dc .u64 (Int.ofNat 1) (Int.ofNat c))) (Int.ofNat 0)=!X.testBit c:=by
 have:(2:Nat) ^ c≤2 ^ 61:=Nat.pow_le_pow_right (by decide) (by omega);rw[Ev hc,K7 (by omega) (by omega),bf];have key:(X &&& 2 ^ c=0)↔X.testBit c=false:=by
  constructor
  · intro h;have:=congrArg (fun y=>y.testBit c) h;simpa[Nat.testBit_and,Nat.testBit_two_pow_self] using this
  · intro h;apply Nat.eq_of_testBit_eq;intro i;rw[Nat.testBit_and,Nat.testBit_two_pow,Nat.zero_testBit];by_cases e:c=i
    · subst e;rw[h];rfl
    · rw[decide_eq_false e,Bool.and_false]
 rw[Bool.eq_iff_iff,beq_iff_eq,Bool.not_eq_true',← key];show ((X &&& 2 ^ c:Nat):Int)=0↔_;omega
theorem Fg {X c:Nat} (hX:X<2 ^ 62) (hc:c<62) (h:X.testBit c=false):xD .u64 (X:Int) (dc .u64 (Int.ofNat 1) (Int.ofNat c))=((X+2 ^ c:Nat):Int):=by
 have:(2:Nat) ^ c≤2 ^ 61:=Nat.pow_le_pow_right (by decide) (by omega);rw[Ev hc,Sr (by omega) (by omega),Gw h]
noncomputable def okW (W B:Nat→Int) (k X c:Nat):Bool:=cK (Hw .u64 (B c) (X:Int)) (Int.ofNat 0) && (cU (W (2*c)) (k:Int) && cU (k:Int) (W (2*c+1)))
theorem Mf (W B:Nat→Int) (k:Nat) {X c:Nat} (hX:X<2 ^ 62) (hc:c<62):Hp W B (k:Int) (X:Int) (Int.ofNat c)=(!X.testBit c && okW W B k X c):=by
 unfold Hp okW;rw[Ff hX hc];simp only[bP,aC,gx];rw[show 23+(Int.ofNat c).toNat*1-23=c by show 23+c*1-23=c;omega,show 3+(Int.ofNat c).toNat*2-3=2*c by show 3+c*2-3=2*c;omega,show 3+(Int.ofNat c).toNat*2+1-3=2*c+1 by show 3+c*2+1-3=2*c+1;omega];cases (!X.testBit c)<;>cases (cK (Hw .u64 (B c) (X:Int)) (Int.ofNat 0))<;>cases (cU (W (2*c)) (k:Int))<;>cases (cU (k:Int) (W (2*c+1)))<;>rfl
def lW (h:Nat→Bool) (g:Nat→Nat) (q:Nat):CS:=⟨fun l=>match l with | [y]=>decide (0≤y) && h y.toNat | _=>false,fun l=>match l with | [y]=>if 0≤y then (g y.toNat:Int) else 0 | _=>0,q⟩
theorem sM (h:Nat→Bool) (g:Nat→Nat) (q:Nat) (X:Nat) (b:Bool):fp (lW h g q).h [(X:Int)] b=(lW (fun y=>if y=X then b else h y) g q).h:=by
 funext l;unfold fp;by_cases e:l=[(X:Int)]
 · subst e;rw[if_pos rfl];show b=(decide ((0:Int)≤(X:Int)) && (if (X:Int).toNat=X then b else _));rw[if_pos (Int.toNat_natCast X),decide_eq_true (by omega)];simp
 · rw[if_neg e];match l,e with
   | [],_=>rfl
   | [y],e =>
     show (decide (0≤y) && h y.toNat)=(decide (0≤y) && (if y.toNat=X then b else h y.toNat));by_cases h0:0≤y
     · rw[if_neg (fun hy=>e (by rw[show y=(X:Int) by omega]))]
     · rw[decide_eq_false h0];rfl
   | _::_::_,_=>rfl
theorem sN (h:Nat→Bool) (g:Nat→Nat) (q:Nat) (X:Nat) (z:Nat):iy (lW h g q).g [(X:Int)] (z:Int)=(lW h (fun y=>if y=X then z else g y) q).g:=by
 funext l;unfold iy;by_cases e:l=[(X:Int)]
 · subst e;rw[if_pos rfl];show (z:Int)=(if (0:Int)≤(X:Int) then (((if (X:Int).toNat=X then z else _):Nat):Int) else 0);rw[if_pos (by omega),if_pos (Int.toNat_natCast X)]
 · rw[if_neg e];match l,e with
   | [],_=>rfl
   | [y],e =>
     show (if 0≤y then (g y.toNat:Int) else 0)=(if 0≤y then (((if y.toNat=X then z else g y.toNat):Nat):Int) else 0);by_cases h0:0≤y
     · rw[if_pos h0,if_pos h0,if_neg (fun hy=>e (by rw[show y=(X:Int) by omega]))]
     · rw[if_neg h0,if_neg h0]
   | _::_::_,_=>rfl
theorem F7 (h:Nat→Bool) (g:Nat→Nat) (q X:Nat):(lW h g q).g [(X:Int)]=(g X:Int):=by
 show (if (0:Int)≤(X:Int) then (g (X:Int).toNat:Int) else 0)=_;rw[if_pos (by omega),Int.toNat_natCast]
def Gd (s:CS):Prop:=∃ es,re (.num .u64) es s.h s.g s.q
theorem FU {h:List Int→Bool} {g:List Int→Int} {q:Nat} (hE:∃ es,re (.num .u64) es h g q) (a y:Int):∃ es,re (.num .u64) es (fp h [a] true) (iy g [a] y) (uu (h [a]) q):=by
 obtain ⟨es,hE⟩:=hE;cases hh:h [a] with
 | false=>exact ⟨_,hh ▸ hE.Ta (n:=[a]) (y:=y) rfl (r:=none) hh (fun j hj=>by cases hj)⟩
 | true =>
   obtain ⟨_,j,j1,j2⟩:=hE.all _ hh;obtain ⟨n,e1,e2⟩:=hE.ent j j1;have:eB (.num .u64) n=eB (.num .u64) [a]:=by rw[← j2,e1]
   have hn:n=[a]:=iR (hE.fit e2) rfl this;subst hn;exact ⟨_,hh ▸ hE.Ta (n:=[a]) (y:=y) rfl (r:=some j) hh (fun j' hj'=>by cases hj';exact ⟨j1,e1⟩)⟩
theorem LI {h:List Int→Bool} {g:List Int→Int} {q:Nat} (hE:∃ es,re (.num .u64) es h g q) (a:Int):∃ es,re (.num .u64) es (fp h [a] false) (iy g [a] 0) (xM (h [a]) q):=by
 obtain ⟨es,hE⟩:=hE;cases hh:h [a] with
 | false=>exact ⟨_,hh ▸ hE.del (n:=[a]) rfl (r:=none) hh (fun j hj=>by cases hj)⟩
 | true =>
   obtain ⟨_,j,j1,j2⟩:=hE.all _ hh;obtain ⟨n,e1,e2⟩:=hE.ent j j1;have:eB (.num .u64) n=eB (.num .u64) [a]:=by rw[← j2,e1]
   have hn:n=[a]:=iR (hE.fit e2) rfl this;subst hn;exact ⟨_,hh ▸ hE.del (n:=[a]) rfl (r:=some j) hh (fun j' hj'=>by cases hj';exact ⟨j1,e1⟩)⟩
theorem G2 (W B:Nat→Int) (k X:Nat) (hX:X<2 ^ 10) (h:Nat→Bool) (g:Nat→Nat) (q:Nat) (hG:Gd (lW h g q)):∀ j,j≤10→(∀ i,i≤j→∀ Y,g Y+g X*cT (okW W B) i k X Y<2 ^ 60) →
 ∃ q',BH W B (k:Int) (X:Int) j (lW h g q)=lW (fun Y=>h Y || decide (0<cT (okW W B) j k X Y)) (fun Y=>g Y+g X*cT (okW W B) j k X Y) q'∧Gd (BH W B (k:Int) (X:Int) j (lW h g q))
 | 0,_,_=>⟨q,by
    have e:∀ Y,cT (okW W B) 0 k X Y=0:=fun Y=>rfl;simp only[e,Nat.mul_zero,Nat.add_zero];show lW h g q=_;congr 1;funext Y;simp,hG⟩
 | j + 1,hj,hb=>by
   obtain ⟨q',e,hG'⟩:=G2 W B k X hX h g q hG j (by omega) (fun i hi=>hb i (by omega));have hX2:X<2 ^ 62:=by omega
   have e2:BH W B (k:Int) (X:Int) (j+1) (lW h g q)=Jh W B (k:Int) (X:Int) (Int.ofNat j) (BH W B (k:Int) (X:Int) j (lW h g q)):=rfl;rw[e2];rw[e] at hG' ⊢;unfold Jh;rw[Mf W B k hX2 (by omega)];cases ho:(!X.testBit j && okW W B k X j) with
   | false =>
     refine ⟨q',?_,hG'⟩;have:∀ Y,cT (okW W B) (j+1) k X Y=cT (okW W B) j k X Y:=fun Y=>by rw[AL,ho];simp
     simp only[this];rfl
   | true =>
     have hbit:X.testBit j=false:=by
      cases hx:X.testBit j with
      | false=>rfl
      | true=>rw[hx] at ho;cases ho
     have hc:∀ Y,cT (okW W B) (j+1) k X Y=cT (okW W B) j k X Y+if X+2 ^ j=Y then 1 else 0:=fun Y=>by rw[AL,ho];simp
     have hself:=Cc (ok:=okW W B) j k X;have hp:=Nat.two_pow_pos j;rw[cond_true];have e3:PG (X:Int) (Int.ofNat j) (lW (fun Y=>h Y || decide (0<cT (okW W B) j k X Y)) (fun Y=>g Y+g X*cT (okW W B) j k X Y) q') =
      lW (fun Y=>h Y || decide (0<cT (okW W B) (j+1) k X Y)) (fun Y=>g Y+g X*cT (okW W B) (j+1) k X Y) (uu ((lW (fun Y=>h Y || decide (0<cT (okW W B) j k X Y)) (fun Y=>g Y+g X*cT (okW W B) j k X Y) q').h [((X+2 ^ j:Nat):Int)]) q'):=by
      unfold PG
      rw[Fg hX2 (by omega) hbit,gO,gP,lG,F7,F7,fG,hself]
      have hb2:=hb (j+1) (by omega) (X+2 ^ j)
      rw[hc,if_pos rfl,Nat.mul_add] at hb2
      rw[show (((g (X+2 ^ j)+g X*cT (okW W B) j k X (X+2 ^ j):Nat):Int)+((g X+g X*0:Nat):Int))=((g (X+2 ^ j)+g X*cT (okW W B) j k X (X+2 ^ j)+g X:Nat):Int) by omega,Go.IntWalk.i64_in _ (by omega),sM,sN]
      show CS.mk (lW _ (fun Y=>g Y+g X*cT (okW W B) j k X Y) q').h (lW (fun Y=>h Y || decide (0<cT (okW W B) j k X Y)) _ q').g _=_
      have a1:(fun y=>if y=X+2 ^ j then true else (h y || decide (0<cT (okW W B) j k X y)))=fun Y=>h Y || decide (0<cT (okW W B) (j+1) k X Y):=by
       funext Y;rw[hc];by_cases e:Y=X+2 ^ j
       · subst e;rw[if_pos rfl,if_pos rfl,decide_eq_true (by omega)];simp
       · rw[if_neg e,if_neg (fun h=>e h.symm)];rfl
      have a2:(fun y=>if y=X+2 ^ j then g (X+2 ^ j)+g X*cT (okW W B) j k X (X+2 ^ j)+g X else g y+g X*cT (okW W B) j k X y)=fun Y=>g Y+g X*cT (okW W B) (j+1) k X Y:=by
       funext Y;rw[hc];by_cases e:Y=X+2 ^ j
       · subst e;rw[if_pos rfl,if_pos rfl,Nat.mul_add];omega
       · rw[if_neg e,if_neg (fun h=>e h.symm)];rfl
      rw[a1,a2];rfl
     refine ⟨_,e3,?_⟩;unfold PG;rw[gO,gP,lG];exact FU hG' _ _
theorem MG (W B:Nat→Int) (k X n:Nat) (hX:X<2 ^ 10) (h:Nat→Bool) (g:Nat→Nat) (q:Nat) (hG:Gd (lW h g q)) (hn:n≤10) (hb:∀ i,i≤n→∀ Y,g Y+g X*cT (okW W B) i k X Y<2 ^ 60) :
 ∃ q',MF W B (k:Int) n (X:Int) (lW h g q)=lW (fun Y=>!decide (Y=X) && (h Y || decide (0<cT (okW W B) n k X Y))) (fun Y=>if Y=X then 0 else g Y+g X*cT (okW W B) n k X Y) q'∧Gd (MF W B (k:Int) n (X:Int) (lW h g q)):=by
 obtain ⟨q',e,hG'⟩:=G2 W B k X hX h g q hG n hn hb
 unfold MF
 rw[e] at hG' ⊢
 have e3:PR (X:Int) (lW (fun Y=>h Y || decide (0<cT (okW W B) n k X Y)) (fun Y=>g Y+g X*cT (okW W B) n k X Y) q')=lW (fun Y=>!decide (Y=X) && (h Y || decide (0<cT (okW W B) n k X Y))) (fun Y=>if Y=X then 0 else g Y+g X*cT (okW W B) n k X Y) (xM ((lW (fun Y=>h Y || decide (0<cT (okW W B) n k X Y)) (fun Y=>g Y+g X*cT (okW W B) n k X Y) q').h [(X:Int)]) q'):=by
  unfold PR;rw[gO,gP,sa,sM,show (Int.ofNat 0:Int)=((0:Nat):Int) from rfl,sN];have a1:(fun y=>if y=X then false else (h y || decide (0<cT (okW W B) n k X y)))=fun Y=>!decide (Y=X) && (h Y || decide (0<cT (okW W B) n k X Y)):=by
   funext Y;by_cases e:Y=X
   · rw[if_pos e,decide_eq_true e];rfl
   · rw[if_neg e,decide_eq_false e];rfl
  rw[a1];rfl
 refine ⟨_,e3,?_⟩
 unfold PR
 rw[gO,gP,sa]
 exact LI hG' _
theorem ME (W B:Nat→Int) (k n:Nat) (hn:n≤10) (hk:k≤10) (q:Nat):∀ (L:List Nat) (z:Nat→Int),(∀ j (h:j<L.length),z j=((L[j]:Nat):Int))→L.Nodup→(∀ x ∈ L,0<cF n (okW W B) k x)→Gd (lW (hD n (okW W B) k []) (gD n (okW W B) k []) q)→∀ m,m≤L.length →
 ∃ q',G1 W B (k:Int) n z m (lW (hD n (okW W B) k []) (gD n (okW W B) k []) q)=lW (hD n (okW W B) k (L.take m)) (gD n (okW W B) k (L.take m)) q'∧Gd (G1 W B (k:Int) n z m (lW (hD n (okW W B) k []) (gD n (okW W B) k []) q)):=by
 intro L z hz hnd hL hG m
 induction m with
 | zero=>intro _;exact ⟨q,rfl,hG⟩
 | succ m ih =>
   intro hm
   obtain ⟨q',e,hG'⟩:=ih (by omega)
   have e2:G1 W B (k:Int) n z (m+1) (lW (hD n (okW W B) k []) (gD n (okW W B) k []) q)=MF W B (k:Int) n (z m) (G1 W B (k:Int) n z m (lW (hD n (okW W B) k []) (gD n (okW W B) k []) q)):=rfl
   rw[e2]
   rw[e] at hG' ⊢
   rw[hz m (by omega)]
   have hx:=hL _ (List.getElem_mem (show m<L.length by omega))
   have hlt:=Fj hx
   have hp:(2:Nat) ^ n≤2 ^ 10:=Nat.pow_le_pow_right (by decide) hn
   have htake:L.take (m+1)=L.take m++[L[m]'(by omega)]:=by rw[List.take_add_one,List.getElem?_eq_getElem (by omega)];rfl
   have hnin:L[m]'(by omega) ∉ L.take m:=fun hc=>by
    have:=hnd.sublist (List.take_sublist (m+1) L);rw[htake,List.nodup_append] at this;exact this.2.2 _ hc _ List.mem_cons_self rfl
   have hLt:∀ x ∈ L.take m,0<cF n (okW W B) k x:=fun x hx=>hL x (List.mem_of_mem_take hx)
   have hb:∀ i,i≤n→∀ Y,gD n (okW W B) k (L.take m) Y+gD n (okW W B) k (L.take m) (L[m]'(by omega))*cT (okW W B) i k (L[m]'(by omega)) Y<2 ^ 60:=fun i hi Y=>by
    have h1:=N6 (hnd.sublist (List.take_sublist m L)) hLt hx hnin i Y hi;have h2:=JI (n:=n) (ok:=okW W B) k Y;have h3:=JI (n:=n) (ok:=okW W B) (k+1) Y;have h4:n ^ k≤10 ^ 10:=Nat.le_trans (Nat.pow_le_pow_left hn k) (Nat.pow_le_pow_right (by decide) hk);have h5:n ^ (k+1)≤10 ^ 11:=Nat.le_trans (Nat.pow_le_pow_left hn _) (Nat.pow_le_pow_right (by decide) (by omega));omega
   obtain ⟨q'',e3,hG''⟩:=MG W B k (L[m]'(by omega)) n (by omega) _ _ q' hG' hn hb
   refine ⟨q'',?_,hG''⟩
   rw[e3,htake]
   congr 1
   · funext Y;exact Ie hLt hx Y
   · funext Y;exact Ic hLt hx hnin Y
end Go.Eng.Q
end
section
namespace Go.Eng.Q
open Go.Proofs Go.Eng.Gall
noncomputable def Qr (k:Int):aA:=iJ k++[(6,.nils),(18,.map 2 1),(19,.ptr 0 0 0 0),(20,.tup [.bool false]),(21,.bool false)]
noncomputable def Ui:bJ:=⟨false,[(0,.dead)]⟩
theorem W4 (n:Nat) (k x y:Int) (H:ab):bV.tD cL (oo n) (il aJ n 0) aS aR 0 1 (.int .u64 x,.int .i64 y) (hints (iJ k++[(6,.nils),(18,.map 2 1),(19,.ptr 0 0 0 0)])) (⟨false,[(0,.dead)]⟩::H) =
 Tr.req (ig 0 1 8) (Tr.req (cu 0 0) (Tr.req (dO 1 1) (Tr.ok ([(1,AV.ptr 2 0 0 0,none),(3,AV.ptr 2 2 0 0,none),(4,AV.ptr 2 3 0 0,none),(5,AV.int .i64 k,none),(6,AV.slc 0 2 0 0 1 1 none,none),(19,AV.ptr 0 0 0 0,none)],{ lock:=false,bs:=[(0,an.dead),(0,an.row (Row.I IntKind.u64 [x])),(0,an.row (Row.M [db.arr IntKind.u64 (aI [x]) 1]))] } :: H)))):=by kernel_rfl
theorem W5 (n:Nat) (k:Int) (H:ab):bV.vz cL (oo n) (il aJ n 0) (hints (iJ k++[(6,.nils),(18,.map 2 1),(19,.ptr 0 0 0 0)])) (⟨false,[(0,.dead)]⟩::H) =
 Tr.ok ([(1,AV.ptr 2 0 0 0,none),(3,AV.ptr 2 2 0 0,none),(4,AV.ptr 2 3 0 0,none),(5,AV.int .i64 k,none),(6,AV.nils,none),(18,AV.map 2 1,none),(19,AV.ptr 0 0 0 0,none),(20,AV.tup [AV.bool false],none),(21,AV.bool false,none)],{ lock:=false,bs:=[(0,an.dead)] } :: H):=by kernel_rfl
theorem tZ (n:Nat) (k:Int) (G:ab):aH (oo n) (il aJ n 0) aS aR qT (hints (Qr k)) (⟨false,[(0,.dead)]⟩::aV::G) =
 Tr.ok (Ex.normal,[(1,AV.ptr 2 0 0 0,none),(3,AV.ptr 2 2 0 0,none),(4,AV.ptr 2 3 0 0,none),(5,AV.int .i64 k,none),(28,AV.nils,none),(29,AV.int .i64 (Int.ofNat 0),some 1),(30,AV.int .i64 (Int.ofNat 0),some 1),(31,AV.bool false,some 1)],{ lock:=false,bs:=[(0,an.dead)] } :: aV::G):=by kernel_rfl
theorem nO:kJ [0,1,1,1,0,0] cB=part Tryd.f73 [1,1,1,0,1,0,1,0,1,1,1,0,0]:=by kernel_rfl
theorem nI:kJ [0,1,1,1,0,0,1,1,0,0,1,0,1,0,0] cB=part Tryd.f73 [1,1,1,0,1,0,1,0,1,1,1,0,0,1,1,0,0,1,0,1,0,0]:=by kernel_rfl
theorem WK:qT=part Tryd.f73 [1,1,1,0,1,0,1,0,1,1]:=by kernel_rfl
theorem T2:∀ b,(6,b) ∈ aE (kJ [0,1,1,1,0,0] cB)→b=.loop (kJ [0,1,1,1,0,0,1,1,0,0,1,0,1,0,0] cB):=by rw[nO,nI];exact b6
theorem Ur:∀ b,(4,b) ∈ aE qT→b=.loop (kJ [0,1,1,1,0,0] cB):=by rw[WK,nO];exact b4
section
variable (n:Nat) (k x0:Int) (v m:Nat) (z:Nat→Int) (O:Int) (U:Nat) (Z:Nat→Int) (V:Nat) (J:Nat→Int) (W B:Nat→Int) (b:an) (G:ab)
theorem W2 (j:Nat) (hj:j<m) (hm:m≤99990) (hl:U≤10) (s:CS):∃ y,exec (oo (n+1)) (kJ [0,1,1,1,0,0] cB) (EJ k v m (Int.ofNat j)) (jL x0 v m z::aV::ib O U Z V J W B b s::G)=some y ∧
 (y.1=.normal∧tidy 3 y.2.1 y.2.2=(EJ k v m (Int.ofNat (j+1)),jL x0 v m z::aV::ib O U Z V J W B b (MF W B k U (z j) s)::G)):=by
 have ez:aq 0 (Int.ofNat j) 1=j:=by rw[bP];show 0+j*1=j;omega
 have ec:aQ .i64 (Int.ofNat j) (Int.ofNat 1)=Int.ofNat (j+1):=by
  have:=BS j (by omega);rw[fG];exact this
 have T:=tO (n+1) (BH W B k (z j) U s).h (BH W B k (z j) U s).g (BH W B k (z j) U s).q k (Int.ofNat j) x0 v m z O U Z V J W B s.h s.g s.q b G
 rw[ez,ec] at T
 refine AU (Q:=fun y=>y.1=.normal∧tidy 3 y.2.1 y.2.2=(EJ k v m (Int.ofNat (j+1)),jL x0 v m z::aV::ib O U Z V J W B b (MF W B k U (z j) s)::G)) T (aw _) (aM (aj _ _) T2 (fun x h=>by rw[← Tr.af h];simp only[dY.st,aG];exact Uh n k x0 v m z O U Z V J W B b G (Int.ofNat j) (z j) hl s)) (ai _ _) ?_
 refine Tr.ae (fun h0=>?_) (fun h0=>?_)
 · refine Tr.aa wG (Tr.aa (by rw[eQ];simp) (Tr.aa wG (Tr.ak ⟨rfl,rfl⟩ (Tr.ag ⟨rfl,rfl⟩))))
 · exfalso
   simp (disch:=omega) only[nV,nW] at h0
   omega
theorem U3 (hm:m≤99990) (hl:U≤10) (s:CS):exec (oo (n+1)) (kJ [0,1,1,1,0,0] cB) (EJ k v m (Int.ofNat m)) (jL x0 v m z::aV::ib O U Z V J W B b s::G)=some (.exit 4,EJ k v m (Int.ofNat m)++[(31,.bool false)],jL x0 v m z::aV::ib O U Z V J W B b s::G):=by
 have ez:aq 0 (Int.ofNat m) 1=m:=by rw[bP];show 0+m*1=m;omega
 have T:=tO (n+1) (BH W B k (z m) U s).h (BH W B k (z m) U s).g (BH W B k (z m) U s).q k (Int.ofNat m) x0 v m z O U Z V J W B s.h s.g s.q b G;rw[ez] at T;refine nB T (aw _) (aM (aj _ _) T2 (fun x h=>by rw[← Tr.af h];simp only[dY.st,aG];exact Uh n k x0 v m z O U Z V J W B b G (Int.ofNat m) (z m) hl s)) (ai _ _) ?_;refine Tr.ae (fun h0=>?_) (fun h0=>Tr.ag rfl);exfalso;simp (disch:=omega) only[nV,nW] at h0;omega
theorem WG (hm:m≤99990) (hl:U≤10) (s:CS):exec (oo (n+1)) (.block 4 (.loop (kJ [0,1,1,1,0,0] cB))) (EJ k v m (Int.ofNat 0)) (jL x0 v m z::aV::ib O U Z V J W B b s::G) =
 some (.normal,EJ k v m (Int.ofNat m)++[(31,.bool false)],jL x0 v m z::aV::ib O U Z V J W B b (G1 W B k U z m s)::G):=by
 refine JM (n:=n+1) (f:=73) (nt:=83) (d:=2) (i:=4) 4 (fun c=>EJ k v m (Int.ofNat c)) (fun c=>jL x0 v m z::aV::ib O U Z V J W B b (G1 W B k U z c s)::G) m (_,_) (by omega) (fun c hc=>?_) ?_
 · exact W2 n k x0 v m z O U Z V J W B b G c hc hm hl (G1 W B k U z c s)
 · exact U3 n k x0 v m z O U Z V J W B b G hm hl _
theorem SC (hm:m≤99990) (hl:U≤10) (s:CS):exec (oo (n+1)) qT (Qs k v m) (jL x0 v m z::aV::ib O U Z V J W B b s::G)=some (.normal,EJ k v m (Int.ofNat m)++[(31,.bool false)],jL x0 v m z::aV::ib O U Z V J W B b (G1 W B k U z m s)::G):=by
 refine nB (t10 (n+1) k x0 v m z (ib O U Z V J W B b s::G) (ib O U Z V J W B b (G1 W B k U z m s)::G)) (aw _) (aM (aj _ _) Ur (fun x h=>by rw[← Tr.af h];simp only[dY.st,aG];exact WG n k x0 v m z O U Z V J W B b G hm hl s)) (ai _ _) ?_;exact Tr.ak ⟨rfl,rfl⟩ (Tr.ag rfl)
end
end Go.Eng.Q
end
