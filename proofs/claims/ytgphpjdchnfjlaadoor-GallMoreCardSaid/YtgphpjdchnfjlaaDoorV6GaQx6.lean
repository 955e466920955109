/- Gall: calls within count: those of the functions that it alone reaches. -/
import Derived.Test.YtgphpjdchnfjlaaDoorV6EngThx10
import Derived.Test.YtgphpjdchnfjlaaDoorV6EngRnFx7
import Derived.Test.YtgphpjdchnfjlaaDoorV6EngTkx3
import Derived.Test.YtgphpjdchnfjlaaDoorProg
import Derived.KernelRfl
import Derived.Test.YtgphpjdchnfjlaaDoorV6Gp2x6
import Derived.IntWalk
set_option linter.unusedVariables false
set_option maxRecDepth 100000
set_option linter.unusedSimpArgs false
section
namespace Go.Eng
open Go.Proofs
def lz:List Nat→Code→Code
 | [],c=>c
 | x :: p,c=>match c with
   | .seq a b=>match x with
     | 0=>lz p a
     | _=>lz p b
   | .cond _ a b=>match x with
     | 0=>lz p a
     | _=>lz p b
   | .block _ b=>lz p b
   | .loop b=>lz p b
   | .scope b=>lz p b
   | .rangeFunc _ _ a b=>match x with
     | 0=>lz p a
     | _=>lz p b
   | c=>c
noncomputable def part (f:Func) (p:List Nat):Code:=lz p (a7 f)
theorem BY (j:Nat) (h:j<2 ^ 31):IntKind.i64.wrap ((j:Int)+1)=((j+1:Nat):Int):=by
 rw[show ((j:Int)+1)=((j+1:Nat):Int) by omega];exact Go.IntWalk.i64_in _ wO

def dH (p:Nat→Bool) (N:Nat):Bool:=decide (fN p N 0<N)
theorem pd {p:Nat→Bool} {N:Nat} (h:dH p N=true):fN p N 0<N:=by simpa[dH] using h
theorem vB {p:Nat→Bool} {N:Nat} (h:dH p N=false):fN p N 0=N:=by
 have h1:=(rL p N 0).2.1;have:¬ fN p N 0<N:=by simpa[dH] using h
 omega
theorem cP (p:Nat→Bool) (N:Nat):dH p N=true↔∃ i,i<N∧p i=true:=by
 obtain ⟨h1,h2,h3,h4⟩:=rL p N 0;constructor
 · intro h;have:=pd h;exact ⟨_,this,h4 wO⟩
 · rintro ⟨i,hi,hp⟩;unfold dH;rw[decide_eq_true_eq];apply Nat.lt_of_not_le;intro hc;have:=h3 i wO wO;rw[this] at hp;cases hp
namespace Q
noncomputable def ia:aL→FuncId→List AV→aa→Option (AV×aa):=tP []
def HK (f:FuncId):Bool:=Nat.beq f 1000000
noncomputable def cd (n:Nat):aL:=df Tryd.prog ia KtG.kt 100000 n
noncomputable def il (tab:nH) (n k:Nat):bp:=Bg Tryd.prog ia KtG.kt 100000 HK tab n k
theorem xc (g:FuncId) (h:HK g=false) (c:aL) (args:List AV) (H:aa):ia c g args H=none:=by
 unfold HK at h;unfold ia tP;rw[h,cond_false];rfl
theorem nj (n:Nat):∃ x,df Tryd.prog ia KtG.kt 100000 n .mode [] []=some x:=by
 cases n<;>exact ⟨_,rfl⟩
theorem xh:sg Tryd.prog ia:=Dd [] (fun e he=>by cases he)
theorem gU (tab:nH) (n k:Nat) (ht:∀ k,tab.Ok (cd (n+k))):(il tab n k).Ok (cd (n+k)):=wW _ _ _ _ _ _ _ xc (fun k=>nj _) ht k
theorem iA (n k:Nat):(il aM n k).Ok (cd (n+k)):=gU _ _ _ (fun k=>bo _)
theorem aA (n:Nat):(il aM n 0).Ok (cd n):=iA n 0
end Q
end Go.Eng
end
section
namespace Go.Eng.Q
open Go.Proofs
noncomputable def slA (n len:Nat) (z:Nat→Int):AV:=.slcT none (.M [.arr .i64 z (fK len n)]) n len false
noncomputable def shR (O:Int) (U:Nat) (Z:Nat→Int) (V:Nat) (J:Nat→Int) (W B:Nat→Int):Row:=.M [.one (.int .i64 O),.one (slA 4 U Z),.one (slA 2 V J),.arr .i64 W 20,.arr .u64 B 10]
noncomputable def shV (O:Int) (U:Nat) (Z:Nat→Int) (V:Nat) (J:Nat→Int) (W B:Nat→Int):AV:=.ptrT none (shR O U Z V J W B) 0
noncomputable def aw:bK:=⟨false,[]⟩
noncomputable def iQ (n f nt d i:Nat):Cx:=⟨Tryd.prog,cd n,100000,f,nt,KtG.kt f,some (d,i)⟩
def xg:Code→Array Oper
 | .region _ ops _=>ops
 | _=>#[]
def Qv (l:List Oper):Oper:=l.headD { dst:=none,op:=.move (.tmp 0),type:=0,pos := "",after:=#[],guard:=none }
noncomputable def cB:Code:=part Tryd.f73 [1,1,1,0,1,0,1]
noncomputable def cS:eF:={ id0:=6,ops0:=xg (lz [0,1,0,0] cB),pre:=(xg (lz [0,1,0,0] cB)).toList.take 1,ro:=Qv ((xg (lz [0,1,0,0] cB)).toList.drop 1),m:=18,ty:=128 }
noncomputable def cL:bW:={ out:=2,Be:=7,id2:=8,nxt:=3,ops1:=xg (lz [0,1,0,1,0,0,0] cB),ops2:=xg (lz [0,1,0,1,0,0,1,1,0,0] cB),no:=Qv (xg (lz [0,1,0,1,0,0,0] cB)).toList,eo:=Qv (xg (lz [0,1,0,1,0,0,1,1,0,0] cB)).toList,t1:=(xg (lz [0,1,0,1,0,0,0] cB)).toList.tail,t2:=(xg (lz [0,1,0,1,0,0,1,1,0,0] cB)).toList.tail,it:=19,nx:=20,mo:=21,en:=22,rest:=lz [0,1,0,1,0,0,1,1,0,1] cB,km:=267386880+128 }
noncomputable def rq:Code:=lz [0,1,1] cB
noncomputable def cR:p6:={ f:=73,id:=1,body:=cB,pre:=[lz [0,0] cB],S:=cS,L:=cL,suf:=rq }
noncomputable def jc (k:Int):aE:=[(1,.ptr 2 0 0 0),(3,.ptr 2 2 0 0),(4,.ptr 2 3 0 0),(5,.int .i64 k)]
noncomputable def mF (O:Int) (U:Nat) (Z:Nat→Int) (V:Nat) (J:Nat→Int) (W B:Nat→Int) (h:List Int→Bool) (g:List Int→Int) (c:Nat) (b:ao):bK:=⟨false,[(0,.row (.G [shV O U Z V J W B])),(0,.fmap (.num .u64) h g c),(0,.row (.G [.map 0 1])),(0,.row (.G [.fn (.func 71) [shV O U Z V J W B] []])),(0,b)]⟩
theorem t5 (n:Nat) (k:Int) (H:aa):aJ (iQ n 73 83 2 4) (il aM n 0) aV aR (lz [0,0] cB) (hints (jc k)) (aw::H) =
 Tr.ok (Ex.normal,[(1,AV.ptr 2 0 0 0,none),(3,AV.ptr 2 2 0 0,none),(4,AV.ptr 2 3 0 0,none),(5,AV.int .i64 k,none),(6,AV.nils,none)],aw::H):=by kernel_rfl
theorem tS (n:Nat) (k:Int) (O:Int) (U:Nat) (Z:Nat→Int) (V:Nat) (J:Nat→Int) (W B:Nat→Int) (h:List Int→Bool) (g:List Int→Int) (c:Nat) (b:ao) (H:aa):eF.MF cS (iQ n 73 83 2 4) (il aM n 0) (hints (jc k++[(6,.nils)])) (aw::aw::mF O U Z V J W B h g c b::H) =
 (fun (Z0:List AV)=>Tr.ok ([(1,AV.ptr 2 0 0 0,none),(3,AV.ptr 2 2 0 0,none),(4,AV.ptr 2 3 0 0,none),(5,AV.int .i64 k,none),(6,AV.nils,none),(18,AV.map 2 1,none)],aw::aw::{ lock:=false,bs:=[(0,ao.row (Row.G Z0)),(0,ao.fmap (KK.num IntKind.u64) h g c),(0,ao.row (Row.G [AV.map 0 1])),(0,ao.row (Row.G [AV.fn (Fn.func 71) Z0 []])),(0,b)] } :: H)) [AV.ptrT none (Row.M [dh.one (AV.int .i64 O),dh.one (AV.slcT none (Row.M [dh.arr .i64 Z (aC U 4)]) 4 U false),dh.one (AV.slcT none (Row.M [dh.arr .i64 J (aC V 2)]) 2 V false),dh.arr .i64 W 20,dh.arr IntKind.u64 B 10]) 0]:=by kernel_rfl
theorem tB (n:Nat) (k x y x0:Int) (v m:Nat) (z:Nat→Int) (H:aa):bW.ug cL (iQ n 73 83 2 4) (il aM n 0) aV aR 0 1 (.int .u64 x,.int .i64 y) (hints (jc k++[(6,.slc 0 2 v 0 1 m none),(19,.ptr 0 0 0 0)])) (⟨false,[(0,.dead),(0,.row (.I .u64 [x0])),(v,.row (.M [.arr .u64 z m]))]⟩::H) =
 Tr.req (da m 1 8) (Tr.req (aU 0 0) (Tr.req (bH 1 1) (Tr.req (aU v v) (Tr.req (aU (ah 0 m) m) (Tr.ok ([(1,AV.ptr 2 0 0 0,none),(3,AV.ptr 2 2 0 0,none),(4,AV.ptr 2 3 0 0,none),(5,AV.int .i64 k,none),(6,AV.slc 0 2 (Nat.succ v) 0 1 (ah m 1) none,none),(19,AV.ptr 0 0 0 0,none)],{ lock:=false,bs:=[(0,ao.dead),(0,ao.row (Row.I IntKind.u64 [x0])),(Nat.succ v,ao.row (Row.M [dh.arr IntKind.u64 (bJ (iO z 0) m (ar [x])) (ah m 1)]))] } :: H)))))):=by kernel_rfl
theorem tX (n:Nat) (k x0:Int) (v m:Nat) (z:Nat→Int) (H:aa):bW.vN cL (iQ n 73 83 2 4) (il aM n 0) (hints (jc k++[(6,.slc 0 2 v 0 1 m none),(19,.ptr 0 0 0 0)])) (⟨false,[(0,.dead),(0,.row (.I .u64 [x0])),(v,.row (.M [.arr .u64 z m]))]⟩::H) =
 Tr.ok ([(1,AV.ptr 2 0 0 0,none),(3,AV.ptr 2 2 0 0,none),(4,AV.ptr 2 3 0 0,none),(5,AV.int .i64 k,none),(6,AV.slc 0 2 v 0 1 m none,none),(19,AV.ptr 0 0 0 0,none),(20,AV.tup [AV.bool false],none),(21,AV.bool false,none)],{ lock:=false,bs:=[(0,ao.dead),(0,ao.row (Row.I IntKind.u64 [x0])),(v,ao.row (Row.M [dh.arr IntKind.u64 z m]))] } :: H):=by kernel_rfl
theorem tN (n:Nat) (k:Int) (H:aa):bW.vN cL (iQ n 73 83 2 4) (il aM n 0) (hints (jc k++[(6,.nils),(19,.ptr 0 0 0 0)])) (⟨false,[(0,.dead)]⟩::H) =
 Tr.ok ([(1,AV.ptr 2 0 0 0,none),(3,AV.ptr 2 2 0 0,none),(4,AV.ptr 2 3 0 0,none),(5,AV.int .i64 k,none),(6,AV.nils,none),(19,AV.ptr 0 0 0 0,none),(20,AV.tup [AV.bool false],none),(21,AV.bool false,none)],{ lock:=false,bs:=[(0,ao.dead)] } :: H):=by kernel_rfl
end Go.Eng.Q
end
section
namespace Go.Eng.Q
open Go.Proofs
noncomputable def gi (x0:Int) (v m:Nat) (z:Nat→Int):bK:=⟨false,[(0,.dead),(0,.row (.I .u64 [x0])),(v,.row (.M [.arr .u64 z m]))]⟩
noncomputable def Qt (k:Int) (v m:Nat):aE:=jc k++[(6,.slc 0 2 v 0 1 m none),(19,.ptr 0 0 0 0),(20,.tup [.bool false]),(21,.bool false)]
noncomputable def oS (n:Nat):Cx:=iQ n 73 83 2 4
noncomputable def ER (k:Int) (v m:Nat) (j:Int):aE:=jc k++[(28,.slc 0 2 v 0 1 m none),(29,.int .i64 (Int.ofNat m)),(30,.int .i64 j)]
noncomputable def FW (k:Int) (v m:Nat) (x j:Int) (U:Nat) (c:Int):aE:=jc k++[(9,.int .u64 x),(28,.slc 0 2 v 0 1 m none),(29,.int .i64 (Int.ofNat m)),(30,.int .i64 j),(39,.int .i64 (Int.ofNat U)),(40,.int .i64 c)]
theorem t10 (n:Nat) (k x0:Int) (v m:Nat) (z:Nat→Int) (G G':aa):aJ (oS n) (il aM n 0) (c9 aV 4 (ER k v m (Int.ofNat 0)) (gi x0 v m z::aw::G) (.ok (.normal,hints (ER k v m (Int.ofNat m)++[(31,.bool false)]),gi x0 v m z::aw::G'))) aR rq (hints (Qt k v m)) (gi x0 v m z::aw::G) =
 (fun (Z0:aE)=>Tr.reqP (Z0=Z0∧gi x0 v m z::aw::G=gi x0 v m z::aw::G) (Tr.ok (Ex.normal,[(1,AV.ptr 2 0 0 0,none),(3,AV.ptr 2 2 0 0,none),(4,AV.ptr 2 3 0 0,none),(5,AV.int .i64 k,none),(28,AV.slc 0 2 v 0 1 m none,none),(29,AV.int .i64 (Int.ofNat m),none),(30,AV.int .i64 (Int.ofNat m),none),(31,AV.bool false,none)],gi x0 v m z::aw::G'))) [(1,AV.ptr 2 0 0 0),(3,AV.ptr 2 2 0 0),(4,AV.ptr 2 3 0 0),(5,AV.int .i64 k),(28,AV.slc 0 2 v 0 1 m none),(29,AV.int .i64 (Int.ofNat m)),(30,AV.int .i64 (Int.ofNat 0))]:=by kernel_rfl
theorem tO (n:Nat) (h':List Int→Bool) (g':List Int→Int) (q':Nat) (k j x0:Int) (v m:Nat) (z:Nat→Int) (O:Int) (U:Nat) (Z:Nat→Int) (V:Nat) (J:Nat→Int) (W B:Nat→Int) (h:List Int→Bool) (g:List Int→Int) (q:Nat) (b:ao) (G:aa):aJ (oS n) (il aM n 0) (c9 aV 6 (FW k v m (z (au 0 j 1)) j U (Int.ofNat 0)) (gi x0 v m z::aw::mF O U Z V J W B h g q b::G) (.ok (.normal,hints (FW k v m (z (au 0 j 1)) j U (Int.ofNat U)++[(41,.bool false)]),gi x0 v m z::aw::mF O U Z V J W B h' g' q' b::G))) aR (lz [0,1,1,1,0,0] cB) (hints (ER k v m j)) (gi x0 v m z::aw::mF O U Z V J W B h g q b::G) =
 (fun (Z0:aE)=>Tr.ite (bQ j (Int.ofNat m)) (Tr.req (bL j m) (Tr.req (aU v v) (Tr.req (bt (au 0 j 1) m) (Tr.reqP (Z0=Z0∧gi x0 v m z::aw::mF O U Z V J W B h g q b::G=gi x0 v m z::aw::mF O U Z V J W B h g q b::G) (Tr.ok (Ex.normal,[(1,AV.ptr 2 0 0 0,none),(3,AV.ptr 2 2 0 0,none),(4,AV.ptr 2 3 0 0,none),(5,AV.int .i64 k,none),(28,AV.slc 0 2 v 0 1 m none,none),(29,AV.int .i64 (Int.ofNat m),none),(30,AV.int .i64 (bh .i64 j (Int.ofNat 1)),none)],gi x0 v m z::aw::{ lock:=false,bs:=[(0,ao.row (Row.G [shV O U Z V J W B])),(0,ao.fmap (KK.num IntKind.u64) (mU h' [z (au 0 j 1)] false) (mV g' [z (au 0 j 1)] (Int.ofNat 0)) (xW (h' [z (au 0 j 1)]) q')),(0,ao.row (Row.G [AV.map 0 1])),(0,ao.row (Row.G [AV.fn (Fn.func 71) [shV O U Z V J W B] []])),(0,b)] } :: G)))))) (Tr.ok (Ex.exit 4,[(1,AV.ptr 2 0 0 0,none),(3,AV.ptr 2 2 0 0,none),(4,AV.ptr 2 3 0 0,none),(5,AV.int .i64 k,none),(28,AV.slc 0 2 v 0 1 m none,none),(29,AV.int .i64 (Int.ofNat m),none),(30,AV.int .i64 j,none),(31,AV.bool false,some 1)],gi x0 v m z::aw::mF O U Z V J W B h g q b::G))) [(1,AV.ptr 2 0 0 0),(3,AV.ptr 2 2 0 0),(4,AV.ptr 2 3 0 0),(5,AV.int .i64 k),(9,AV.int IntKind.u64 (z (au 0 j 1))),(28,AV.slc 0 2 v 0 1 m none),(29,AV.int .i64 (Int.ofNat m)),(30,AV.int .i64 j),(39,AV.int .i64 (Int.ofNat U)),(40,AV.int .i64 (Int.ofNat 0))]:=by kernel_rfl
theorem tI (n:Nat) (k j x x0 c:Int) (v m:Nat) (z:Nat→Int) (O:Int) (U:Nat) (Z:Nat→Int) (V:Nat) (J:Nat→Int) (W B:Nat→Int) (h:List Int→Bool) (g:List Int→Int) (q:Nat) (b:ao) (G:aa):aJ (oS (n+1)) (il aM n 1) aV aR (lz [0,1,1,1,0,0,1,1,0,0,1,0,1,0,0] cB) (hints (FW k v m x j U c)) (gi x0 v m z::aw::mF O U Z V J W B h g q b::G) =
 (fun (Z0:aG)=>Tr.ite (bQ c (Int.ofNat U)) (Tr.req (dS (Int.ofNat 0) c) (Tr.ite (c7 (ny IntKind.u64 x (ep IntKind.u64 (Int.ofNat 1) c)) (Int.ofNat 0)) (Tr.req (bL c 10) (Tr.req (dX (au 23 c 1) 1 23 10) (Tr.ite (c7 (AB IntKind.u64 (B (dx (au 23 c 1) 23)) x) (Int.ofNat 0)) (Tr.req (bL c 10) (Tr.req (dX (au 3 c 2) 1 3 20) (Tr.req (dX (ah (au 3 c 2) 1) 1 3 20) (Tr.ite (dS (W (dx (au 3 c 2) 3)) k) (Tr.ite (dS k (W (dx (ah (au 3 c 2) 1) 3))) (Tr.req (dS (Int.ofNat 0) c) (Tr.req (bC (bH 0 0) (bH 0 1)) (Tr.ok (Ex.normal,Z0,gi x0 v m z::aw::{ lock:=false,bs:=[(0,ao.row (Row.G [shV O U Z V J W B])),(0,ao.fmap (KK.num IntKind.u64) (mU h [r8 IntKind.u64 x (ep IntKind.u64 (Int.ofNat 1) c)] true) (mV g [r8 IntKind.u64 x (ep IntKind.u64 (Int.ofNat 1) c)] (bh .i64 (g [r8 IntKind.u64 x (ep IntKind.u64 (Int.ofNat 1) c)]) (g [x]))) (qN (h [r8 IntKind.u64 x (ep IntKind.u64 (Int.ofNat 1) c)]) q)),(0,ao.row (Row.G [AV.map 0 1])),(0,ao.row (Row.G [AV.fn (Fn.func 71) [shV O U Z V J W B] []])),(0,b)] } :: G)))) (Tr.ok (Ex.normal,Z0,gi x0 v m z::aw::mF O U Z V J W B h g q b::G))) (Tr.ok (Ex.normal,Z0,gi x0 v m z::aw::mF O U Z V J W B h g q b::G)))))) (Tr.ok (Ex.normal,Z0,gi x0 v m z::aw::mF O U Z V J W B h g q b::G))))) (Tr.ok (Ex.normal,Z0,gi x0 v m z::aw::mF O U Z V J W B h g q b::G)))) (Tr.ok (Ex.exit 6,[(1,AV.ptr 2 0 0 0,none),(3,AV.ptr 2 2 0 0,none),(4,AV.ptr 2 3 0 0,none),(5,AV.int .i64 k,none),(9,AV.int IntKind.u64 x,none),(28,AV.slc 0 2 v 0 1 m none,none),(29,AV.int .i64 (Int.ofNat m),none),(30,AV.int .i64 j,none),(39,AV.int .i64 (Int.ofNat U),none),(40,AV.int .i64 c,none),(41,AV.bool false,some 1)],gi x0 v m z::aw::mF O U Z V J W B h g q b::G))) [(1,AV.ptr 2 0 0 0,none),(3,AV.ptr 2 2 0 0,none),(4,AV.ptr 2 3 0 0,none),(5,AV.int .i64 k,none),(9,AV.int IntKind.u64 x,none),(28,AV.slc 0 2 v 0 1 m none,none),(29,AV.int .i64 (Int.ofNat m),none),(30,AV.int .i64 j,none),(39,AV.int .i64 (Int.ofNat U),none),(40,AV.int .i64 (bh .i64 c (Int.ofNat 1)),none)]:=by kernel_rfl
end Go.Eng.Q
end
section
namespace Go.Eng.Q
open Go.Proofs
theorem ja {n f nt d i:Nat} {c:Code} {callR:bp} {bl:eE} {rg:nJ} {fr:aE} {H:aa} {T:Tr eD} (e:aJ (iQ n f nt d i) callR bl rg c (hints fr) H=T) (hC:callR.Ok (cd n)) (hB:bl.Ok (iQ n f nt d i) c) (hR:rg.Ok (iQ n f nt d i) c) {y:Ex×aE×aa} (h:T.all fun x=>x.st=y):exec (iQ n f nt d i) c fr H=some y:=by
 obtain ⟨x,h1,rfl⟩:=h;have:=fe (cx:=iQ n f nt d i) hC c hB hR (hints fr) H x (by rw[e];exact h1);rw[aP] at this;exact this
theorem oc {n f nt d i:Nat} {c:Code} {callR:bp} {bl:eE} {rg:nJ} {fr:aE} {H:aa} {T:Tr eD} {Q:Ex×aE×aa→Prop} (e:aJ (iQ n f nt d i) callR bl rg c (hints fr) H=T) (hC:callR.Ok (cd n)) (hB:bl.Ok (iQ n f nt d i) c) (hR:rg.Ok (iQ n f nt d i) c) (h:T.all fun x=>Q x.st):∃ y,exec (iQ n f nt d i) c fr H=some y∧Q y:=by
 obtain ⟨x,h1,h2⟩:=h;have:=fe (cx:=iQ n f nt d i) hC c hB hR (hints fr) H x (by rw[e];exact h1);rw[aP] at this;exact ⟨_,this,h2⟩
theorem LU {n f nt d i:Nat} {c:Code} (id:Nat) (F:Nat→aE) (G:Nat→aa) (N:Nat) (p:Nat→Bool) (X:Nat→aE×aa) (Y:aE×aa) (hN:N<99999)
 (hs:∀ j,j<N→∃ x,exec (iQ n f nt d i) c (F j) (G j)=some x∧if p j=true then x=(.ret,X j) else x.1=.normal∧tidy (aX (G 0)) x.2.1 x.2.2=(F (j+1),G (j+1)))
 (he:exec (iQ n f nt d i) c (F N) (G N)=some (.exit id,Y)):exec (iQ n f nt d i) (.block id (.loop c)) (F 0) (G 0)=some (cond (dH p N) (.ret,X (fN p N 0)) (.normal,Y)):=by
 have key:=iU (body:=exec (iQ n f nt d i) c) (n:=aX (G 0)) F G N p (fun j=>if j<N then (.ret,X j) else (.exit id,Y))
  (fun j hj hp=>by
    obtain ⟨x,h1,h2⟩:=hs j hj;rw[if_neg (by rw[hp];simp)] at h2;obtain ⟨e,f1,g1⟩:=x;obtain ⟨rfl,h3⟩:=h2;exact ⟨_,_,h1,h3⟩)
  (fun j hj hp=>by
    obtain ⟨x,h1,h2⟩:=hs j hj;rw[if_pos hp] at h2;subst h2;rw[if_pos hj];exact ⟨h1,by simp⟩)
  (by
    rw[if_neg (by omega)];exact ⟨he,by simp⟩) N 0 100000 (by omega) (by omega)
 cases hc:dH p N with
 | true =>
   have:=pd hc
   rw[if_pos this] at key
   exact dp (fun id' h=>by cases h) key
 | false =>
   have:=vB hc
   rw[if_neg (by omega)] at key
   exact ik key

theorem J7 {n f nt d i:Nat} {c:Code} (id:Nat) (F:Nat→aE) (G:Nat→aa) (N:Nat) (Y:aE×aa) (hN:N<99999)
 (hs:∀ j,j<N→∃ x,exec (iQ n f nt d i) c (F j) (G j)=some x∧(x.1=.normal∧tidy (aX (G 0)) x.2.1 x.2.2=(F (j+1),G (j+1))))
 (he:exec (iQ n f nt d i) c (F N) (G N)=some (.exit id,Y)):exec (iQ n f nt d i) (.block id (.loop c)) (F 0) (G 0)=some (.normal,Y):=by
 have:=LU id F G N (fun _=>false) (fun _=>Y) Y hN (fun j hj=>by
  obtain ⟨x,h1,h2⟩:=hs j hj;exact ⟨x,h1,by rw[if_neg (by simp)];exact h2⟩) he
 have h0:dH (fun _=>false) N=false:=by
  cases h:dH (fun _=>false) N with
  | false=>rfl
  | true=>obtain ⟨i2,_,h2⟩:=(cP _ _).1 h;cases h2
 rw[h0] at this
 exact this

structure CS where
 h:List Int→Bool
 g:List Int→Int
 q:Nat
noncomputable def PM (x c:Int) (s:CS):CS:=⟨mU s.h [r8 .u64 x (ep .u64 (Int.ofNat 1) c)] true,mV s.g [r8 .u64 x (ep .u64 (Int.ofNat 1) c)] (bh .i64 (s.g [r8 .u64 x (ep .u64 (Int.ofNat 1) c)]) (s.g [x])),qN (s.h [r8 .u64 x (ep .u64 (Int.ofNat 1) c)]) s.q⟩
noncomputable def HM (W B:Nat→Int) (k x c:Int):Bool:=cond (c7 (ny .u64 x (ep .u64 (Int.ofNat 1) c)) (Int.ofNat 0)) (cond (c7 (AB .u64 (B (dx (au 23 c 1) 23)) x) (Int.ofNat 0)) (cond (dS (W (dx (au 3 c 2) 3)) k) (dS k (W (dx (ah (au 3 c 2) 1) 3))) false) false) false
noncomputable def JD (W B:Nat→Int) (k x c:Int) (s:CS):CS:=cond (HM W B k x c) (PM x c s) s
noncomputable def BL (W B:Nat→Int) (k x:Int):Nat→CS→CS
 | 0,s=>s
 | j+1,s=>JD W B k x (Int.ofNat j) (BL W B k x j s)
noncomputable def PX (x:Int) (s:CS):CS:=⟨mU s.h [x] false,mV s.g [x] (Int.ofNat 0),xW (s.h [x]) s.q⟩
noncomputable def MZ (W B:Nat→Int) (k:Int) (n:Nat) (x:Int) (s:CS):CS:=PX x (BL W B k x n s)
noncomputable def Hh (W B:Nat→Int) (k:Int) (n:Nat) (z:Nat→Int):Nat→CS→CS
 | 0,s=>s
 | j+1,s=>MZ W B k n (z j) (Hh W B k n z j s)
section
variable (n:Nat) (k x0:Int) (v m:Nat) (z:Nat→Int) (O:Int) (U:Nat) (Z:Nat→Int) (V:Nat) (J:Nat→Int) (W B:Nat→Int) (b:ao) (G:aa)
noncomputable def iB (s:CS):bK:=mF O U Z V J W B s.h s.g s.q b
theorem WR (j x:Int) (c:Nat) (hc:c<U) (hl:U≤10) (s:CS):∃ y,exec (oS (n+1)) (lz [0,1,1,1,0,0,1,1,0,0,1,0,1,0,0] cB) (FW k v m x j U (Int.ofNat c)) (gi x0 v m z::aw::iB O U Z V J W B b s::G)=some y ∧
 (y.1=.normal∧tidy 3 y.2.1 y.2.2=(FW k v m x j U (Int.ofNat (c+1)),gi x0 v m z::aw::iB O U Z V J W B b (JD W B k x (Int.ofNat c) s)::G)):=by
 refine oc (Q:=fun y=>y.1=.normal∧tidy 3 y.2.1 y.2.2=(FW k v m x j U (Int.ofNat (c+1)),gi x0 v m z::aw::iB O U Z V J W B b (JD W B k x (Int.ofNat c) s)::G)) (tI n k j x x0 (Int.ofNat c) v m z O U Z V J W B s.h s.g s.q b G) (iA n 1) (aj _ _) (ak _ _) ?_
 have ec:bh .i64 (Int.ofNat c) (Int.ofNat 1)=Int.ofNat (c+1):=by
  have:=BY c (by omega);rw[fM];exact this
 have no:HM W B k x (Int.ofNat c)=false→JD W B k x (Int.ofNat c) s=s:=fun h=>by unfold JD;rw[h];rfl
 have yes:HM W B k x (Int.ofNat c)=true→JD W B k x (Int.ofNat c) s=PM x (Int.ofNat c) s:=fun h=>by unfold JD;rw[h];rfl
 refine Tr.af (fun h0=>?_) (fun h0=>?_)
 · refine Tr.ae wG ?_
   refine Tr.af (fun h1=>?_) (fun h1=>?_)
   · refine Tr.ae wG (Tr.ae wG ?_)
     refine Tr.af (fun h2=>?_) (fun h2=>?_)
     · refine Tr.ae wG (Tr.ae wG (Tr.ae wG ?_))
       refine Tr.af (fun h3=>?_) (fun h3=>?_)
       · refine Tr.af (fun h4=>?_) (fun h4=>?_)
         · refine Tr.ae wG (Tr.ae wG ?_)
           rw[yes (by unfold HM;rw[h1,h2,h3,h4];rfl),ec]
           exact Tr.ai ⟨rfl,rfl⟩
         · rw[no (by unfold HM;rw[h1,h2,h3,h4];rfl),ec]
           exact Tr.ai ⟨rfl,rfl⟩
       · rw[no (by unfold HM;rw[h1,h2,h3];rfl),ec]
         exact Tr.ai ⟨rfl,rfl⟩
     · rw[no (by unfold HM;rw[h1,h2];rfl),ec]
       exact Tr.ai ⟨rfl,rfl⟩
   · rw[no (by unfold HM;rw[h1];rfl),ec]
     exact Tr.ai ⟨rfl,rfl⟩
 · exfalso
   simp (disch:=omega) only[nV,nW] at h0
   omega
theorem UQ (j x:Int) (hl:U≤10) (s:CS):exec (oS (n+1)) (lz [0,1,1,1,0,0,1,1,0,0,1,0,1,0,0] cB) (FW k v m x j U (Int.ofNat U)) (gi x0 v m z::aw::iB O U Z V J W B b s::G)=some (.exit 6,FW k v m x j U (Int.ofNat U)++[(41,.bool false)],gi x0 v m z::aw::iB O U Z V J W B b s::G):=by
 refine ja (tI n k j x x0 (Int.ofNat U) v m z O U Z V J W B s.h s.g s.q b G) (iA n 1) (aj _ _) (ak _ _) ?_;refine Tr.af (fun h0=>?_) (fun h0=>Tr.ai rfl);exfalso;simp (disch:=omega) only[nV,nW] at h0;omega
theorem T6 (j x:Int) (hl:U≤10) (s:CS):exec (oS (n+1)) (.block 6 (.loop (lz [0,1,1,1,0,0,1,1,0,0,1,0,1,0,0] cB))) (FW k v m x j U (Int.ofNat 0)) (gi x0 v m z::aw::iB O U Z V J W B b s::G) =
 some (.normal,FW k v m x j U (Int.ofNat U)++[(41,.bool false)],gi x0 v m z::aw::iB O U Z V J W B b (BL W B k x U s)::G):=by
 refine J7 (n:=n+1) (f:=73) (nt:=83) (d:=2) (i:=4) 6 (fun c=>FW k v m x j U (Int.ofNat c)) (fun c=>gi x0 v m z::aw::iB O U Z V J W B b (BL W B k x c s)::G) U (_,_) (by omega) (fun c hc=>?_) ?_
 · exact WR n k x0 v m z O U Z V J W B b G j x c hc hl (BL W B k x c s)
 · exact UQ n k x0 v m z O U Z V J W B b G j x hl _
theorem b6:∀ b,(6,b) ∈ aO (part Tryd.f73 [1,1,1,0,1,0,1,0,1,1,1,0,0])→b=.loop (part Tryd.f73 [1,1,1,0,1,0,1,0,1,1,1,0,0,1,1,0,0,1,0,1,0,0]):=eP (by kernel_rfl)
theorem b4:∀ b,(4,b) ∈ aO (part Tryd.f73 [1,1,1,0,1,0,1,0,1,1])→b=.loop (part Tryd.f73 [1,1,1,0,1,0,1,0,1,1,1,0,0]):=eP (by kernel_rfl)
end
end Go.Eng.Q
end
section
namespace Go.Eng.Q
open Go.Proofs Go.Eng.Gall
theorem LA (x:Nat):BitVec.ofInt 64 (x:Int)=BitVec.ofNat 64 x:=by
 apply BitVec.eq_of_toInt_eq;simp
theorem jR {x:Nat} (h:x<2 ^ 64):IntKind.u64.wrap (x:Int)=x:=Go.IntWalk.u64_in _ (by omega)
theorem P1 {x y:Nat} (hx:x<2 ^ 63) (hy:y<2 ^ 63):r8 .u64 (x:Int) (y:Int)=((x ||| y:Nat):Int):=by
 rw[tM];show IntKind.u64.wrap ((BitVec.ofInt 64 (x:Int) ||| BitVec.ofInt 64 (y:Int)).toNat:Nat)=_;have h1:x ||| y<2 ^ 63:=Nat.or_lt_two_pow hx hy;rw[LA,LA,BitVec.toNat_or,BitVec.toNat_ofNat,BitVec.toNat_ofNat,Nat.mod_eq_of_lt (by omega),Nat.mod_eq_of_lt (by omega),jR (by omega)]
theorem Ls {x y:Nat} (hx:x<2 ^ 63) (hy:y<2 ^ 63):ny .u64 (x:Int) (y:Int)=((x &&& y:Nat):Int):=by
 rw[rC];show IntKind.u64.wrap ((BitVec.ofInt 64 (x:Int) &&& BitVec.ofInt 64 (y:Int)).toNat:Nat)=_;have h1:x &&& y<2 ^ 63:=Nat.and_lt_two_pow x hy;rw[LA,LA,BitVec.toNat_and,BitVec.toNat_ofNat,BitVec.toNat_ofNat,Nat.mod_eq_of_lt (by omega),Nat.mod_eq_of_lt (by omega),jR (by omega)]
theorem BH {i:Nat} (hi:i<62):ep .u64 (Int.ofNat 1) (Int.ofNat i)=((2 ^ i:Nat):Int):=by
 rw[xz];show IntKind.u64.wrap (1*2 ^ min i 64)=_;have:(2:Nat) ^ i≤2 ^ 62:=Nat.pow_le_pow_right (by decide) (by omega);rw[Nat.min_eq_left (by omega),Int.one_mul,show (2:Int) ^ i=((2 ^ i:Nat):Int) from by rw[Int.natCast_pow];rfl];generalize (2:Nat) ^ i=P at *;exact jR (by omega)
theorem AK {X c:Nat} (hX:X<2 ^ 62) (hc:c<62):c7 (ny .u64 (X:Int) (ep .u64 (Int.ofNat 1) (Int.ofNat c))) (Int.ofNat 0)=!X.testBit c:=by
 have:(2:Nat) ^ c≤2 ^ 61:=Nat.pow_le_pow_right (by decide) (by omega);rw[BH hc,Ls (by omega) (by omega),bA];have key:(X &&& 2 ^ c=0)↔X.testBit c=false:=by
  constructor
  · intro h;have:=congrArg (fun y=>y.testBit c) h;simpa[Nat.testBit_and,Nat.testBit_two_pow_self] using this
  · intro h;apply Nat.eq_of_testBit_eq;intro i;rw[Nat.testBit_and,Nat.testBit_two_pow,Nat.zero_testBit];by_cases e:c=i
    · subst e;rw[h];rfl
    · rw[decide_eq_false e,Bool.and_false]
 rw[Bool.eq_iff_iff,beq_iff_eq,Bool.not_eq_true',← key];show ((X &&& 2 ^ c:Nat):Int)=0↔_;omega
theorem AL {X c:Nat} (hX:X<2 ^ 62) (hc:c<62) (h:X.testBit c=false):r8 .u64 (X:Int) (ep .u64 (Int.ofNat 1) (Int.ofNat c))=((X+2 ^ c:Nat):Int):=by
 have:(2:Nat) ^ c≤2 ^ 61:=Nat.pow_le_pow_right (by decide) (by omega);rw[BH hc,P1 (by omega) (by omega),GL h]
noncomputable def okW (W B:Nat→Int) (k X c:Nat):Bool:=c7 (AB .u64 (B c) (X:Int)) (Int.ofNat 0) && (dS (W (2*c)) (k:Int) && dS (k:Int) (W (2*c+1)))
theorem Mx (W B:Nat→Int) (k:Nat) {X c:Nat} (hX:X<2 ^ 62) (hc:c<62):HM W B (k:Int) (X:Int) (Int.ofNat c)=(!X.testBit c && okW W B k X c):=by
 unfold HM okW;rw[AK hX hc];simp only[bN,aF,dq];rw[show 23+(Int.ofNat c).toNat*1-23=c by show 23+c*1-23=c;omega,show 3+(Int.ofNat c).toNat*2-3=2*c by show 3+c*2-3=2*c;omega,show 3+(Int.ofNat c).toNat*2+1-3=2*c+1 by show 3+c*2+1-3=2*c+1;omega];cases (!X.testBit c)<;>cases (c7 (AB .u64 (B c) (X:Int)) (Int.ofNat 0))<;>cases (dS (W (2*c)) (k:Int))<;>cases (dS (k:Int) (W (2*c+1)))<;>rfl
def mE (h:Nat→Bool) (g:Nat→Nat) (q:Nat):CS:=⟨fun l=>match l with | [y]=>decide (0≤y) && h y.toNat | _=>false,fun l=>match l with | [y]=>if 0≤y then (g y.toNat:Int) else 0 | _=>0,q⟩
theorem ta (h:Nat→Bool) (g:Nat→Nat) (q:Nat) (X:Nat) (b:Bool):fz (mE h g q).h [(X:Int)] b=(mE (fun y=>if y=X then b else h y) g q).h:=by
 funext l;unfold fz;by_cases e:l=[(X:Int)]
 · subst e;rw[if_pos rfl];show b=(decide ((0:Int)≤(X:Int)) && (if (X:Int).toNat=X then b else _));rw[if_pos (Int.toNat_natCast X),decide_eq_true (by omega)];simp
 · rw[if_neg e];match l,e with
   | [],_=>rfl
   | [y],e =>
     show (decide (0≤y) && h y.toNat)=(decide (0≤y) && (if y.toNat=X then b else h y.toNat));by_cases h0:0≤y
     · rw[if_neg (fun hy=>e (by rw[show y=(X:Int) by omega]))]
     · rw[decide_eq_false h0];rfl
   | _::_::_,_=>rfl
theorem tc (h:Nat→Bool) (g:Nat→Nat) (q:Nat) (X:Nat) (z:Nat):iN (mE h g q).g [(X:Int)] (z:Int)=(mE h (fun y=>if y=X then z else g y) q).g:=by
 funext l;unfold iN;by_cases e:l=[(X:Int)]
 · subst e;rw[if_pos rfl];show (z:Int)=(if (0:Int)≤(X:Int) then (((if (X:Int).toNat=X then z else _):Nat):Int) else 0);rw[if_pos (by omega),if_pos (Int.toNat_natCast X)]
 · rw[if_neg e];match l,e with
   | [],_=>rfl
   | [y],e =>
     show (if 0≤y then (g y.toNat:Int) else 0)=(if 0≤y then (((if y.toNat=X then z else g y.toNat):Nat):Int) else 0);by_cases h0:0≤y
     · rw[if_pos h0,if_pos h0,if_neg (fun hy=>e (by rw[show y=(X:Int) by omega]))]
     · rw[if_neg h0,if_neg h0]
   | _::_::_,_=>rfl
theorem Gm (h:Nat→Bool) (g:Nat→Nat) (q X:Nat):(mE h g q).g [(X:Int)]=(g X:Int):=by
 show (if (0:Int)≤(X:Int) then (g (X:Int).toNat:Int) else 0)=_;rw[if_pos (by omega),Int.toNat_natCast]
def Gd (s:CS):Prop:=∃ es,rB (.num .u64) es s.h s.g s.q
theorem F5 {h:List Int→Bool} {g:List Int→Int} {q:Nat} (hE:∃ es,rB (.num .u64) es h g q) (a y:Int):∃ es,rB (.num .u64) es (fz h [a] true) (iN g [a] y) (uP (h [a]) q):=by
 obtain ⟨es,hE⟩:=hE;cases hh:h [a] with
 | false=>exact ⟨_,hh ▸ hE.S7 (n:=[a]) (y:=y) rfl (r:=none) hh (fun j hj=>by cases hj)⟩
 | true =>
   obtain ⟨_,j,j1,j2⟩:=hE.all _ hh;obtain ⟨n,e1,e2⟩:=hE.ent j j1;have:eC (.num .u64) n=eC (.num .u64) [a]:=by rw[← j2,e1]
   have hn:n=[a]:=jj (hE.fit e2) rfl this;subst hn;exact ⟨_,hh ▸ hE.S7 (n:=[a]) (y:=y) rfl (r:=some j) hh (fun j' hj'=>by cases hj';exact ⟨j1,e1⟩)⟩
theorem L1 {h:List Int→Bool} {g:List Int→Int} {q:Nat} (hE:∃ es,rB (.num .u64) es h g q) (a:Int):∃ es,rB (.num .u64) es (fz h [a] false) (iN g [a] 0) (xV (h [a]) q):=by
 obtain ⟨es,hE⟩:=hE;cases hh:h [a] with
 | false=>exact ⟨_,hh ▸ hE.del (n:=[a]) rfl (r:=none) hh (fun j hj=>by cases hj)⟩
 | true =>
   obtain ⟨_,j,j1,j2⟩:=hE.all _ hh;obtain ⟨n,e1,e2⟩:=hE.ent j j1;have:eC (.num .u64) n=eC (.num .u64) [a]:=by rw[← j2,e1]
   have hn:n=[a]:=jj (hE.fit e2) rfl this;subst hn;exact ⟨_,hh ▸ hE.del (n:=[a]) rfl (r:=some j) hh (fun j' hj'=>by cases hj';exact ⟨j1,e1⟩)⟩
theorem Hi (W B:Nat→Int) (k X:Nat) (hX:X<2 ^ 10) (h:Nat→Bool) (g:Nat→Nat) (q:Nat) (hG:Gd (mE h g q)):∀ j,j≤10→(∀ i,i≤j→∀ Y,g Y+g X*cT (okW W B) i k X Y<2 ^ 60) →
 ∃ q',BL W B (k:Int) (X:Int) j (mE h g q)=mE (fun Y=>h Y || decide (0<cT (okW W B) j k X Y)) (fun Y=>g Y+g X*cT (okW W B) j k X Y) q'∧Gd (BL W B (k:Int) (X:Int) j (mE h g q))
 | 0,_,_=>⟨q,by
    have e:∀ Y,cT (okW W B) 0 k X Y=0:=fun Y=>rfl;simp only[e,Nat.mul_zero,Nat.add_zero];show mE h g q=_;congr 1;funext Y;simp,hG⟩
 | j + 1,hj,hb=>by
   obtain ⟨q',e,hG'⟩:=Hi W B k X hX h g q hG j (by omega) (fun i hi=>hb i (by omega));have hX2:X<2 ^ 62:=by omega
   have e2:BL W B (k:Int) (X:Int) (j+1) (mE h g q)=JD W B (k:Int) (X:Int) (Int.ofNat j) (BL W B (k:Int) (X:Int) j (mE h g q)):=rfl;rw[e2];rw[e] at hG' ⊢;unfold JD;rw[Mx W B k hX2 (by omega)];cases ho:(!X.testBit j && okW W B k X j) with
   | false =>
     refine ⟨q',?_,hG'⟩;have:∀ Y,cT (okW W B) (j+1) k X Y=cT (okW W B) j k X Y:=fun Y=>by rw[AO,ho];simp
     simp only[this];rfl
   | true =>
     have hbit:X.testBit j=false:=by
      cases hx:X.testBit j with
      | false=>rfl
      | true=>rw[hx] at ho;cases ho
     have hc:∀ Y,cT (okW W B) (j+1) k X Y=cT (okW W B) j k X Y+if X+2 ^ j=Y then 1 else 0:=fun Y=>by rw[AO,ho];simp
     have hself:=Ch (ok:=okW W B) j k X;have hp:=Nat.two_pow_pos j;rw[cond_true];have e3:PM (X:Int) (Int.ofNat j) (mE (fun Y=>h Y || decide (0<cT (okW W B) j k X Y)) (fun Y=>g Y+g X*cT (okW W B) j k X Y) q') =
      mE (fun Y=>h Y || decide (0<cT (okW W B) (j+1) k X Y)) (fun Y=>g Y+g X*cT (okW W B) (j+1) k X Y) (uP ((mE (fun Y=>h Y || decide (0<cT (okW W B) j k X Y)) (fun Y=>g Y+g X*cT (okW W B) j k X Y) q').h [((X+2 ^ j:Nat):Int)]) q'):=by
      unfold PM
      rw[AL hX2 (by omega) hbit,ie,ig,mi,Gm,Gm,fM,hself]
      have hb2:=hb (j+1) (by omega) (X+2 ^ j)
      rw[hc,if_pos rfl,Nat.mul_add] at hb2
      rw[show (((g (X+2 ^ j)+g X*cT (okW W B) j k X (X+2 ^ j):Nat):Int)+((g X+g X*0:Nat):Int))=((g (X+2 ^ j)+g X*cT (okW W B) j k X (X+2 ^ j)+g X:Nat):Int) by omega,Go.IntWalk.i64_in _ (by omega),ta,tc]
      show CS.mk (mE _ (fun Y=>g Y+g X*cT (okW W B) j k X Y) q').h (mE (fun Y=>h Y || decide (0<cT (okW W B) j k X Y)) _ q').g _=_
      have a1:(fun y=>if y=X+2 ^ j then true else (h y || decide (0<cT (okW W B) j k X y)))=fun Y=>h Y || decide (0<cT (okW W B) (j+1) k X Y):=by
       funext Y;rw[hc];by_cases e:Y=X+2 ^ j
       · subst e;rw[if_pos rfl,if_pos rfl,decide_eq_true (by omega)];simp
       · rw[if_neg e,if_neg (fun h=>e h.symm)];rfl
      have a2:(fun y=>if y=X+2 ^ j then g (X+2 ^ j)+g X*cT (okW W B) j k X (X+2 ^ j)+g X else g y+g X*cT (okW W B) j k X y)=fun Y=>g Y+g X*cT (okW W B) (j+1) k X Y:=by
       funext Y;rw[hc];by_cases e:Y=X+2 ^ j
       · subst e;rw[if_pos rfl,if_pos rfl,Nat.mul_add];omega
       · rw[if_neg e,if_neg (fun h=>e h.symm)];rfl
      rw[a1,a2];rfl
     refine ⟨_,e3,?_⟩;unfold PM;rw[ie,ig,mi];exact F5 hG' _ _
theorem M7 (W B:Nat→Int) (k X n:Nat) (hX:X<2 ^ 10) (h:Nat→Bool) (g:Nat→Nat) (q:Nat) (hG:Gd (mE h g q)) (hn:n≤10) (hb:∀ i,i≤n→∀ Y,g Y+g X*cT (okW W B) i k X Y<2 ^ 60) :
 ∃ q',MZ W B (k:Int) n (X:Int) (mE h g q)=mE (fun Y=>!decide (Y=X) && (h Y || decide (0<cT (okW W B) n k X Y))) (fun Y=>if Y=X then 0 else g Y+g X*cT (okW W B) n k X Y) q'∧Gd (MZ W B (k:Int) n (X:Int) (mE h g q)):=by
 obtain ⟨q',e,hG'⟩:=Hi W B k X hX h g q hG n hn hb
 unfold MZ
 rw[e] at hG' ⊢
 have e3:PX (X:Int) (mE (fun Y=>h Y || decide (0<cT (okW W B) n k X Y)) (fun Y=>g Y+g X*cT (okW W B) n k X Y) q')=mE (fun Y=>!decide (Y=X) && (h Y || decide (0<cT (okW W B) n k X Y))) (fun Y=>if Y=X then 0 else g Y+g X*cT (okW W B) n k X Y) (xV ((mE (fun Y=>h Y || decide (0<cT (okW W B) n k X Y)) (fun Y=>g Y+g X*cT (okW W B) n k X Y) q').h [(X:Int)]) q'):=by
  unfold PX;rw[ie,ig,sA,ta,show (Int.ofNat 0:Int)=((0:Nat):Int) from rfl,tc];have a1:(fun y=>if y=X then false else (h y || decide (0<cT (okW W B) n k X y)))=fun Y=>!decide (Y=X) && (h Y || decide (0<cT (okW W B) n k X Y)):=by
   funext Y;by_cases e:Y=X
   · rw[if_pos e,decide_eq_true e];rfl
   · rw[if_neg e,decide_eq_false e];rfl
  rw[a1];rfl
 refine ⟨_,e3,?_⟩
 unfold PX
 rw[ie,ig,sA]
 exact L1 hG' _
theorem MY (W B:Nat→Int) (k n:Nat) (hn:n≤10) (hk:k≤10) (q:Nat):∀ (L:List Nat) (z:Nat→Int),(∀ j (h:j<L.length),z j=((L[j]:Nat):Int))→L.Nodup→(∀ x ∈ L,0<cF n (okW W B) k x)→Gd (mE (hD n (okW W B) k []) (gD n (okW W B) k []) q)→∀ m,m≤L.length →
 ∃ q',Hh W B (k:Int) n z m (mE (hD n (okW W B) k []) (gD n (okW W B) k []) q)=mE (hD n (okW W B) k (L.take m)) (gD n (okW W B) k (L.take m)) q'∧Gd (Hh W B (k:Int) n z m (mE (hD n (okW W B) k []) (gD n (okW W B) k []) q)):=by
 intro L z hz hnd hL hG m
 induction m with
 | zero=>intro _;exact ⟨q,rfl,hG⟩
 | succ m ih =>
   intro hm
   obtain ⟨q',e,hG'⟩:=ih (by omega)
   have e2:Hh W B (k:Int) n z (m+1) (mE (hD n (okW W B) k []) (gD n (okW W B) k []) q)=MZ W B (k:Int) n (z m) (Hh W B (k:Int) n z m (mE (hD n (okW W B) k []) (gD n (okW W B) k []) q)):=rfl
   rw[e2]
   rw[e] at hG' ⊢
   rw[hz m (by omega)]
   have hx:=hL _ (List.getElem_mem (show m<L.length by omega))
   have hlt:=Fp hx
   have hp:(2:Nat) ^ n≤2 ^ 10:=Nat.pow_le_pow_right (by decide) hn
   have htake:L.take (m+1)=L.take m++[L[m]'(by omega)]:=by rw[List.take_add_one,List.getElem?_eq_getElem (by omega)];rfl
   have hnin:L[m]'(by omega) ∉ L.take m:=fun hc=>by
    have:=hnd.sublist (List.take_sublist (m+1) L);rw[htake,List.nodup_append] at this;exact this.2.2 _ hc _ List.mem_cons_self rfl
   have hLt:∀ x ∈ L.take m,0<cF n (okW W B) k x:=fun x hx=>hL x (List.mem_of_mem_take hx)
   have hb:∀ i,i≤n→∀ Y,gD n (okW W B) k (L.take m) Y+gD n (okW W B) k (L.take m) (L[m]'(by omega))*cT (okW W B) i k (L[m]'(by omega)) Y<2 ^ 60:=fun i hi Y=>by
    have h1:=Oh (hnd.sublist (List.take_sublist m L)) hLt hx hnin i Y hi;have h2:=J3 (n:=n) (ok:=okW W B) k Y;have h3:=J3 (n:=n) (ok:=okW W B) (k+1) Y;have h4:n ^ k≤10 ^ 10:=Nat.le_trans (Nat.pow_le_pow_left hn k) (Nat.pow_le_pow_right (by decide) hk);have h5:n ^ (k+1)≤10 ^ 11:=Nat.le_trans (Nat.pow_le_pow_left hn _) (Nat.pow_le_pow_right (by decide) (by omega));omega
   obtain ⟨q'',e3,hG''⟩:=M7 W B k (L[m]'(by omega)) n (by omega) _ _ q' hG' hn hb
   refine ⟨q'',?_,hG''⟩
   rw[e3,htake]
   congr 1
   · funext Y;exact Iy hLt hx Y
   · funext Y;exact Ix hLt hx hnin Y
end Go.Eng.Q
end
section
namespace Go.Eng.Q
open Go.Proofs Go.Eng.Gall
noncomputable def Qs (k:Int):aE:=jc k++[(6,.nils),(18,.map 2 1),(19,.ptr 0 0 0 0),(20,.tup [.bool false]),(21,.bool false)]
noncomputable def T7:bK:=⟨false,[(0,.dead)]⟩
theorem WU (n:Nat) (k x y:Int) (H:aa):bW.ug cL (oS n) (il aM n 0) aV aR 0 1 (.int .u64 x,.int .i64 y) (hints (jc k++[(6,.nils),(18,.map 2 1),(19,.ptr 0 0 0 0)])) (⟨false,[(0,.dead)]⟩::H) =
 Tr.req (da 0 1 8) (Tr.req (aU 0 0) (Tr.req (bH 1 1) (Tr.ok ([(1,AV.ptr 2 0 0 0,none),(3,AV.ptr 2 2 0 0,none),(4,AV.ptr 2 3 0 0,none),(5,AV.int .i64 k,none),(6,AV.slc 0 2 0 0 1 1 none,none),(19,AV.ptr 0 0 0 0,none)],{ lock:=false,bs:=[(0,ao.dead),(0,ao.row (Row.I IntKind.u64 [x])),(0,ao.row (Row.M [dh.arr IntKind.u64 (ar [x]) 1]))] } :: H)))):=by kernel_rfl
theorem WV (n:Nat) (k:Int) (H:aa):bW.vN cL (oS n) (il aM n 0) (hints (jc k++[(6,.nils),(18,.map 2 1),(19,.ptr 0 0 0 0)])) (⟨false,[(0,.dead)]⟩::H) =
 Tr.ok ([(1,AV.ptr 2 0 0 0,none),(3,AV.ptr 2 2 0 0,none),(4,AV.ptr 2 3 0 0,none),(5,AV.int .i64 k,none),(6,AV.nils,none),(18,AV.map 2 1,none),(19,AV.ptr 0 0 0 0,none),(20,AV.tup [AV.bool false],none),(21,AV.bool false,none)],{ lock:=false,bs:=[(0,ao.dead)] } :: H):=by kernel_rfl
theorem tZ (n:Nat) (k:Int) (G:aa):aJ (oS n) (il aM n 0) aV aR rq (hints (Qs k)) (⟨false,[(0,.dead)]⟩::aw::G) =
 Tr.ok (Ex.normal,[(1,AV.ptr 2 0 0 0,none),(3,AV.ptr 2 2 0 0,none),(4,AV.ptr 2 3 0 0,none),(5,AV.int .i64 k,none),(28,AV.nils,none),(29,AV.int .i64 (Int.ofNat 0),some 1),(30,AV.int .i64 (Int.ofNat 0),some 1),(31,AV.bool false,some 1)],{ lock:=false,bs:=[(0,ao.dead)] } :: aw::G):=by kernel_rfl
theorem nO:lz [0,1,1,1,0,0] cB=part Tryd.f73 [1,1,1,0,1,0,1,0,1,1,1,0,0]:=by kernel_rfl
theorem nI:lz [0,1,1,1,0,0,1,1,0,0,1,0,1,0,0] cB=part Tryd.f73 [1,1,1,0,1,0,1,0,1,1,1,0,0,1,1,0,0,1,0,1,0,0]:=by kernel_rfl
theorem Ww:rq=part Tryd.f73 [1,1,1,0,1,0,1,0,1,1]:=by kernel_rfl
theorem TU:∀ b,(6,b) ∈ aO (lz [0,1,1,1,0,0] cB)→b=.loop (lz [0,1,1,1,0,0,1,1,0,0,1,0,1,0,0] cB):=by rw[nO,nI];exact b6
theorem Ug:∀ b,(4,b) ∈ aO rq→b=.loop (lz [0,1,1,1,0,0] cB):=by rw[Ww,nO];exact b4
section
variable (n:Nat) (k x0:Int) (v m:Nat) (z:Nat→Int) (O:Int) (U:Nat) (Z:Nat→Int) (V:Nat) (J:Nat→Int) (W B:Nat→Int) (b:ao) (G:aa)
theorem WS (j:Nat) (hj:j<m) (hm:m≤99990) (hl:U≤10) (s:CS):∃ y,exec (oS (n+1)) (lz [0,1,1,1,0,0] cB) (ER k v m (Int.ofNat j)) (gi x0 v m z::aw::iB O U Z V J W B b s::G)=some y ∧
 (y.1=.normal∧tidy 3 y.2.1 y.2.2=(ER k v m (Int.ofNat (j+1)),gi x0 v m z::aw::iB O U Z V J W B b (MZ W B k U (z j) s)::G)):=by
 have ez:au 0 (Int.ofNat j) 1=j:=by rw[bN];show 0+j*1=j;omega
 have ec:bh .i64 (Int.ofNat j) (Int.ofNat 1)=Int.ofNat (j+1):=by
  have:=BY j (by omega);rw[fM];exact this
 have T:=tO (n+1) (BL W B k (z j) U s).h (BL W B k (z j) U s).g (BL W B k (z j) U s).q k (Int.ofNat j) x0 v m z O U Z V J W B s.h s.g s.q b G
 rw[ez,ec] at T
 refine oc (Q:=fun y=>y.1=.normal∧tidy 3 y.2.1 y.2.2=(ER k v m (Int.ofNat (j+1)),gi x0 v m z::aw::iB O U Z V J W B b (MZ W B k U (z j) s)::G)) T (aA _) (bf (aj _ _) TU (fun x h=>by rw[← Tr.ab h];simp only[eD.st,aP];exact T6 n k x0 v m z O U Z V J W B b G (Int.ofNat j) (z j) hl s)) (ak _ _) ?_
 refine Tr.af (fun h0=>?_) (fun h0=>?_)
 · refine Tr.ae wG (Tr.ae (by rw[fP];simp) (Tr.ae wG (Tr.an ⟨rfl,rfl⟩ (Tr.ai ⟨rfl,rfl⟩))))
 · exfalso
   simp (disch:=omega) only[nV,nW] at h0
   omega
theorem UR (hm:m≤99990) (hl:U≤10) (s:CS):exec (oS (n+1)) (lz [0,1,1,1,0,0] cB) (ER k v m (Int.ofNat m)) (gi x0 v m z::aw::iB O U Z V J W B b s::G)=some (.exit 4,ER k v m (Int.ofNat m)++[(31,.bool false)],gi x0 v m z::aw::iB O U Z V J W B b s::G):=by
 have ez:au 0 (Int.ofNat m) 1=m:=by rw[bN];show 0+m*1=m;omega
 have T:=tO (n+1) (BL W B k (z m) U s).h (BL W B k (z m) U s).g (BL W B k (z m) U s).q k (Int.ofNat m) x0 v m z O U Z V J W B s.h s.g s.q b G;rw[ez] at T;refine ja T (aA _) (bf (aj _ _) TU (fun x h=>by rw[← Tr.ab h];simp only[eD.st,aP];exact T6 n k x0 v m z O U Z V J W B b G (Int.ofNat m) (z m) hl s)) (ak _ _) ?_;refine Tr.af (fun h0=>?_) (fun h0=>Tr.ai rfl);exfalso;simp (disch:=omega) only[nV,nW] at h0;omega
theorem Ws (hm:m≤99990) (hl:U≤10) (s:CS):exec (oS (n+1)) (.block 4 (.loop (lz [0,1,1,1,0,0] cB))) (ER k v m (Int.ofNat 0)) (gi x0 v m z::aw::iB O U Z V J W B b s::G) =
 some (.normal,ER k v m (Int.ofNat m)++[(31,.bool false)],gi x0 v m z::aw::iB O U Z V J W B b (Hh W B k U z m s)::G):=by
 refine J7 (n:=n+1) (f:=73) (nt:=83) (d:=2) (i:=4) 4 (fun c=>ER k v m (Int.ofNat c)) (fun c=>gi x0 v m z::aw::iB O U Z V J W B b (Hh W B k U z c s)::G) m (_,_) (by omega) (fun c hc=>?_) ?_
 · exact WS n k x0 v m z O U Z V J W B b G c hc hm hl (Hh W B k U z c s)
 · exact UR n k x0 v m z O U Z V J W B b G hm hl _
theorem Sw (hm:m≤99990) (hl:U≤10) (s:CS):exec (oS (n+1)) rq (Qt k v m) (gi x0 v m z::aw::iB O U Z V J W B b s::G)=some (.normal,ER k v m (Int.ofNat m)++[(31,.bool false)],gi x0 v m z::aw::iB O U Z V J W B b (Hh W B k U z m s)::G):=by
 refine ja (t10 (n+1) k x0 v m z (iB O U Z V J W B b s::G) (iB O U Z V J W B b (Hh W B k U z m s)::G)) (aA _) (bf (aj _ _) Ug (fun x h=>by rw[← Tr.ab h];simp only[eD.st,aP];exact Ws n k x0 v m z O U Z V J W B b G hm hl s)) (ak _ _) ?_;exact Tr.an ⟨rfl,rfl⟩ (Tr.ai rfl)
end
end Go.Eng.Q
end
