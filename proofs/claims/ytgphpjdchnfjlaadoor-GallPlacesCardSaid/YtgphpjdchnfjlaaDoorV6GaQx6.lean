/- Gall: calls within count: those of the functions that it alone reaches. -/
import Derived.Test.YtgphpjdchnfjlaaDoorV6EngTgx11
import Derived.Test.YtgphpjdchnfjlaaDoorV6EngRnFx7
import Derived.Test.YtgphpjdchnfjlaaDoorV6EngTkx3
import Derived.Test.YtgphpjdchnfjlaaDoorProg
import Derived.KernelRfl
import Derived.Test.YtgphpjdchnfjlaaDoorV6Gp2x6
import Derived.IntWalk
set_option linter.unusedVariables false
set_option maxRecDepth 100000
set_option linter.unusedSimpArgs false
section
namespace Go.Eng
open Go.Proofs
def ld:List Nat→Code→Code
 | [],c=>c
 | x :: p,c=>match c with
   | .seq a b=>match x with
     | 0=>ld p a
     | _=>ld p b
   | .cond _ a b=>match x with
     | 0=>ld p a
     | _=>ld p b
   | .block _ b=>ld p b
   | .loop b=>ld p b
   | .scope b=>ld p b
   | .rangeFunc _ _ a b=>match x with
     | 0=>ld p a
     | _=>ld p b
   | c=>c
noncomputable def part (f:Func) (p:List Nat):Code:=ld p (bA f)
theorem BV (j:Nat) (h:j<2 ^ 31):IntKind.i64.wrap ((j:Int)+1)=((j+1:Nat):Int):=by
 rw[show ((j:Int)+1)=((j+1:Nat):Int) by omega];exact Go.IntWalk.i64_in _ wO

def eH (p:Nat→Bool) (N:Nat):Bool:=decide (fN p N 0<N)
theorem sj {p:Nat→Bool} {N:Nat} (h:eH p N=true):fN p N 0<N:=by simpa[eH] using h
theorem vj {p:Nat→Bool} {N:Nat} (h:eH p N=false):fN p N 0=N:=by
 have h1:=(we p N 0).2.1;have:¬ fN p N 0<N:=by simpa[eH] using h
 omega
theorem dJ (p:Nat→Bool) (N:Nat):eH p N=true↔∃ i,i<N∧p i=true:=by
 obtain ⟨h1,h2,h3,h4⟩:=we p N 0;constructor
 · intro h;have:=sj h;exact ⟨_,this,h4 wO⟩
 · rintro ⟨i,hi,hp⟩;unfold eH;rw[decide_eq_true_eq];apply Nat.lt_of_not_le;intro hc;have:=h3 i wO wO;rw[this] at hp;cases hp
namespace Q
noncomputable def jf:aJ→FuncId→List AV→ab→Option (AV×ab):=wV []
def Hx (f:FuncId):Bool:=Nat.beq f 1000000
noncomputable def cd (n:Nat):aJ:=dh Tryd.prog jf KtG.kt 100000 n
noncomputable def il (tab:ou) (n k:Nat):bt:=A8 Tryd.prog jf KtG.kt 100000 Hx tab n k
theorem wM (g:FuncId) (h:Hx g=false) (c:aJ) (args:List AV) (H:ab):jf c g args H=none:=by
 unfold Hx at h;unfold jf wV;rw[h,cond_false];rfl
theorem mU (n:Nat):∃ x,dh Tryd.prog jf KtG.kt 100000 n .mode [] []=some x:=by
 cases n<;>exact ⟨_,rfl⟩
theorem wU:rQ Tryd.prog jf:=C6 [] (fun e he=>by cases he)
theorem lF (tab:ou) (n k:Nat) (ht:∀ k,tab.Ok (cd (n+k))):(il tab n k).Ok (cd (n+k)):=wB _ _ _ _ _ _ _ wM (fun k=>mU _) ht k
theorem ff (n k:Nat):(il aF n k).Ok (cd (n+k)):=lF _ _ _ (fun k=>aN _)
theorem ay (n:Nat):(il aF n 0).Ok (cd n):=ff n 0
end Q
end Go.Eng
end
section
namespace Go.Eng.Q
open Go.Proofs
noncomputable def slA (n len:Nat) (z:Nat→Int):AV:=.slcT none (.M [.arr .i64 z (fK len n)]) n len false
noncomputable def shR (O:Int) (U:Nat) (Z:Nat→Int) (V:Nat) (J:Nat→Int) (W B:Nat→Int):Row:=.M [.one (.int .i64 O),.one (slA 4 U Z),.one (slA 2 V J),.arr .i64 W 20,.arr .u64 B 10]
noncomputable def shV (O:Int) (U:Nat) (Z:Nat→Int) (V:Nat) (J:Nat→Int) (W B:Nat→Int):AV:=.ptrT none (shR O U Z V J W B) 0
noncomputable def av:bG:=⟨false,[]⟩
noncomputable def jx (n f nt d i:Nat):Cx:=⟨Tryd.prog,cd n,100000,f,nt,KtG.kt f,some (d,i)⟩
def wT:Code→Array Oper
 | .region _ ops _=>ops
 | _=>#[]
def QD (l:List Oper):Oper:=l.headD { dst:=none,op:=.move (.tmp 0),type:=0,pos := "",after:=#[],guard:=none }
noncomputable def cB:Code:=part Tryd.f73 [1,1,1,0,1,0,1]
noncomputable def cS:eE:={ id0:=6,ops0:=wT (ld [0,1,0,0] cB),pre:=(wT (ld [0,1,0,0] cB)).toList.take 1,ro:=QD ((wT (ld [0,1,0,0] cB)).toList.drop 1),m:=18,ty:=128 }
noncomputable def cL:bP:={ out:=2,yf:=7,id2:=8,nxt:=3,ops1:=wT (ld [0,1,0,1,0,0,0] cB),ops2:=wT (ld [0,1,0,1,0,0,1,1,0,0] cB),no:=QD (wT (ld [0,1,0,1,0,0,0] cB)).toList,eo:=QD (wT (ld [0,1,0,1,0,0,1,1,0,0] cB)).toList,t1:=(wT (ld [0,1,0,1,0,0,0] cB)).toList.tail,t2:=(wT (ld [0,1,0,1,0,0,1,1,0,0] cB)).toList.tail,it:=19,nx:=20,mo:=21,en:=22,rest:=ld [0,1,0,1,0,0,1,1,0,1] cB,km:=267386880+128 }
noncomputable def qS:Code:=ld [0,1,1] cB
noncomputable def cR:pD:={ f:=73,id:=1,body:=cB,pre:=[ld [0,0] cB],S:=cS,L:=cL,suf:=qS }
noncomputable def iT (k:Int):aC:=[(1,.ptr 2 0 0 0),(3,.ptr 2 2 0 0),(4,.ptr 2 3 0 0),(5,.int .i64 k)]
noncomputable def mf (O:Int) (U:Nat) (Z:Nat→Int) (V:Nat) (J:Nat→Int) (W B:Nat→Int) (h:List Int→Bool) (g:List Int→Int) (c:Nat) (b:an):bG:=⟨false,[(0,.row (.G [shV O U Z V J W B])),(0,.fmap (.num .u64) h g c),(0,.row (.G [.map 0 1])),(0,.row (.G [.fn (.func 71) [shV O U Z V J W B] []])),(0,b)]⟩
theorem t5 (n:Nat) (k:Int) (H:ab):aS (jx n 73 83 2 4) (il aF n 0) aR aQ (ld [0,0] cB) (hints (iT k)) (av::H) =
 Tr.ok (Ex.normal,[(1,AV.ptr 2 0 0 0,none),(3,AV.ptr 2 2 0 0,none),(4,AV.ptr 2 3 0 0,none),(5,AV.int .i64 k,none),(6,AV.nils,none)],av::H):=by kernel_rfl
theorem tS (n:Nat) (k:Int) (O:Int) (U:Nat) (Z:Nat→Int) (V:Nat) (J:Nat→Int) (W B:Nat→Int) (h:List Int→Bool) (g:List Int→Int) (c:Nat) (b:an) (H:ab):eE.MA cS (jx n 73 83 2 4) (il aF n 0) (hints (iT k++[(6,.nils)])) (av::av::mf O U Z V J W B h g c b::H) =
 (fun (Z0:List AV)=>Tr.ok ([(1,AV.ptr 2 0 0 0,none),(3,AV.ptr 2 2 0 0,none),(4,AV.ptr 2 3 0 0,none),(5,AV.int .i64 k,none),(6,AV.nils,none),(18,AV.map 2 1,none)],av::av::{ lock:=false,bs:=[(0,an.row (Row.G Z0)),(0,an.fmap (KK.num IntKind.u64) h g c),(0,an.row (Row.G [AV.map 0 1])),(0,an.row (Row.G [AV.fn (Fn.func 71) Z0 []])),(0,b)] } :: H)) [AV.ptrT none (Row.M [dj.one (AV.int .i64 O),dj.one (AV.slcT none (Row.M [dj.arr .i64 Z (cG U 4)]) 4 U false),dj.one (AV.slcT none (Row.M [dj.arr .i64 J (cG V 2)]) 2 V false),dj.arr .i64 W 20,dj.arr IntKind.u64 B 10]) 0]:=by kernel_rfl
theorem tB (n:Nat) (k x y x0:Int) (v m:Nat) (z:Nat→Int) (H:ab):bP.tJ cL (jx n 73 83 2 4) (il aF n 0) aR aQ 0 1 (.int .u64 x,.int .i64 y) (hints (iT k++[(6,.slc 0 2 v 0 1 m none),(19,.ptr 0 0 0 0)])) (⟨false,[(0,.dead),(0,.row (.I .u64 [x0])),(v,.row (.M [.arr .u64 z m]))]⟩::H) =
 Tr.req (ji m 1 8) (Tr.req (cg 0 0) (Tr.req (fp 1 1) (Tr.req (cg v v) (Tr.req (cg (au 0 m) m) (Tr.ok ([(1,AV.ptr 2 0 0 0,none),(3,AV.ptr 2 2 0 0,none),(4,AV.ptr 2 3 0 0,none),(5,AV.int .i64 k,none),(6,AV.slc 0 2 (Nat.succ v) 0 1 (au m 1) none,none),(19,AV.ptr 0 0 0 0,none)],{ lock:=false,bs:=[(0,an.dead),(0,an.row (Row.I IntKind.u64 [x0])),(Nat.succ v,an.row (Row.M [dj.arr IntKind.u64 (rV (rJ z 0) m (aI [x])) (au m 1)]))] } :: H)))))):=by kernel_rfl
theorem tX (n:Nat) (k x0:Int) (v m:Nat) (z:Nat→Int) (H:ab):bP.vv cL (jx n 73 83 2 4) (il aF n 0) (hints (iT k++[(6,.slc 0 2 v 0 1 m none),(19,.ptr 0 0 0 0)])) (⟨false,[(0,.dead),(0,.row (.I .u64 [x0])),(v,.row (.M [.arr .u64 z m]))]⟩::H) =
 Tr.ok ([(1,AV.ptr 2 0 0 0,none),(3,AV.ptr 2 2 0 0,none),(4,AV.ptr 2 3 0 0,none),(5,AV.int .i64 k,none),(6,AV.slc 0 2 v 0 1 m none,none),(19,AV.ptr 0 0 0 0,none),(20,AV.tup [AV.bool false],none),(21,AV.bool false,none)],{ lock:=false,bs:=[(0,an.dead),(0,an.row (Row.I IntKind.u64 [x0])),(v,an.row (Row.M [dj.arr IntKind.u64 z m]))] } :: H):=by kernel_rfl
theorem tN (n:Nat) (k:Int) (H:ab):bP.vv cL (jx n 73 83 2 4) (il aF n 0) (hints (iT k++[(6,.nils),(19,.ptr 0 0 0 0)])) (⟨false,[(0,.dead)]⟩::H) =
 Tr.ok ([(1,AV.ptr 2 0 0 0,none),(3,AV.ptr 2 2 0 0,none),(4,AV.ptr 2 3 0 0,none),(5,AV.int .i64 k,none),(6,AV.nils,none),(19,AV.ptr 0 0 0 0,none),(20,AV.tup [AV.bool false],none),(21,AV.bool false,none)],{ lock:=false,bs:=[(0,an.dead)] } :: H):=by kernel_rfl
end Go.Eng.Q
end
section
namespace Go.Eng.Q
open Go.Proofs
noncomputable def jW (x0:Int) (v m:Nat) (z:Nat→Int):bG:=⟨false,[(0,.dead),(0,.row (.I .u64 [x0])),(v,.row (.M [.arr .u64 z m]))]⟩
noncomputable def QB (k:Int) (v m:Nat):aC:=iT k++[(6,.slc 0 2 v 0 1 m none),(19,.ptr 0 0 0 0),(20,.tup [.bool false]),(21,.bool false)]
noncomputable def ot (n:Nat):Cx:=jx n 73 83 2 4
noncomputable def EI (k:Int) (v m:Nat) (j:Int):aC:=iT k++[(28,.slc 0 2 v 0 1 m none),(29,.int .i64 (Int.ofNat m)),(30,.int .i64 j)]
noncomputable def FU (k:Int) (v m:Nat) (x j:Int) (U:Nat) (c:Int):aC:=iT k++[(9,.int .u64 x),(28,.slc 0 2 v 0 1 m none),(29,.int .i64 (Int.ofNat m)),(30,.int .i64 j),(39,.int .i64 (Int.ofNat U)),(40,.int .i64 c)]
theorem t10 (n:Nat) (k x0:Int) (v m:Nat) (z:Nat→Int) (G G':ab):aS (ot n) (il aF n 0) (cV aR 4 (EI k v m (Int.ofNat 0)) (jW x0 v m z::av::G) (.ok (.normal,hints (EI k v m (Int.ofNat m)++[(31,.bool false)]),jW x0 v m z::av::G'))) aQ qS (hints (QB k v m)) (jW x0 v m z::av::G) =
 (fun (Z0:aC)=>Tr.reqP (Z0=Z0∧jW x0 v m z::av::G=jW x0 v m z::av::G) (Tr.ok (Ex.normal,[(1,AV.ptr 2 0 0 0,none),(3,AV.ptr 2 2 0 0,none),(4,AV.ptr 2 3 0 0,none),(5,AV.int .i64 k,none),(28,AV.slc 0 2 v 0 1 m none,none),(29,AV.int .i64 (Int.ofNat m),none),(30,AV.int .i64 (Int.ofNat m),none),(31,AV.bool false,none)],jW x0 v m z::av::G'))) [(1,AV.ptr 2 0 0 0),(3,AV.ptr 2 2 0 0),(4,AV.ptr 2 3 0 0),(5,AV.int .i64 k),(28,AV.slc 0 2 v 0 1 m none),(29,AV.int .i64 (Int.ofNat m)),(30,AV.int .i64 (Int.ofNat 0))]:=by kernel_rfl
theorem tO (n:Nat) (h':List Int→Bool) (g':List Int→Int) (q':Nat) (k j x0:Int) (v m:Nat) (z:Nat→Int) (O:Int) (U:Nat) (Z:Nat→Int) (V:Nat) (J:Nat→Int) (W B:Nat→Int) (h:List Int→Bool) (g:List Int→Int) (q:Nat) (b:an) (G:ab):aS (ot n) (il aF n 0) (cV aR 6 (FU k v m (z (aw 0 j 1)) j U (Int.ofNat 0)) (jW x0 v m z::av::mf O U Z V J W B h g q b::G) (.ok (.normal,hints (FU k v m (z (aw 0 j 1)) j U (Int.ofNat U)++[(41,.bool false)]),jW x0 v m z::av::mf O U Z V J W B h' g' q' b::G))) aQ (ld [0,1,1,1,0,0] cB) (hints (EI k v m j)) (jW x0 v m z::av::mf O U Z V J W B h g q b::G) =
 (fun (Z0:aC)=>Tr.ite (bM j (Int.ofNat m)) (Tr.req (c6 j m) (Tr.req (cg v v) (Tr.req (cK (aw 0 j 1) m) (Tr.reqP (Z0=Z0∧jW x0 v m z::av::mf O U Z V J W B h g q b::G=jW x0 v m z::av::mf O U Z V J W B h g q b::G) (Tr.ok (Ex.normal,[(1,AV.ptr 2 0 0 0,none),(3,AV.ptr 2 2 0 0,none),(4,AV.ptr 2 3 0 0,none),(5,AV.int .i64 k,none),(28,AV.slc 0 2 v 0 1 m none,none),(29,AV.int .i64 (Int.ofNat m),none),(30,AV.int .i64 (bm .i64 j (Int.ofNat 1)),none)],jW x0 v m z::av::{ lock:=false,bs:=[(0,an.row (Row.G [shV O U Z V J W B])),(0,an.fmap (KK.num IntKind.u64) (mE h' [z (aw 0 j 1)] false) (mF g' [z (aw 0 j 1)] (Int.ofNat 0)) (xJ (h' [z (aw 0 j 1)]) q')),(0,an.row (Row.G [AV.map 0 1])),(0,an.row (Row.G [AV.fn (Fn.func 71) [shV O U Z V J W B] []])),(0,b)] } :: G)))))) (Tr.ok (Ex.exit 4,[(1,AV.ptr 2 0 0 0,none),(3,AV.ptr 2 2 0 0,none),(4,AV.ptr 2 3 0 0,none),(5,AV.int .i64 k,none),(28,AV.slc 0 2 v 0 1 m none,none),(29,AV.int .i64 (Int.ofNat m),none),(30,AV.int .i64 j,none),(31,AV.bool false,some 1)],jW x0 v m z::av::mf O U Z V J W B h g q b::G))) [(1,AV.ptr 2 0 0 0),(3,AV.ptr 2 2 0 0),(4,AV.ptr 2 3 0 0),(5,AV.int .i64 k),(9,AV.int IntKind.u64 (z (aw 0 j 1))),(28,AV.slc 0 2 v 0 1 m none),(29,AV.int .i64 (Int.ofNat m)),(30,AV.int .i64 j),(39,AV.int .i64 (Int.ofNat U)),(40,AV.int .i64 (Int.ofNat 0))]:=by kernel_rfl
theorem tI (n:Nat) (k j x x0 c:Int) (v m:Nat) (z:Nat→Int) (O:Int) (U:Nat) (Z:Nat→Int) (V:Nat) (J:Nat→Int) (W B:Nat→Int) (h:List Int→Bool) (g:List Int→Int) (q:Nat) (b:an) (G:ab):aS (ot (n+1)) (il aF n 1) aR aQ (ld [0,1,1,1,0,0,1,1,0,0,1,0,1,0,0] cB) (hints (FU k v m x j U c)) (jW x0 v m z::av::mf O U Z V J W B h g q b::G) =
 (fun (Z0:aH)=>Tr.ite (bM c (Int.ofNat U)) (Tr.req (dp (Int.ofNat 0) c) (Tr.ite (b9 (lQ IntKind.u64 x (cI IntKind.u64 (Int.ofNat 1) c)) (Int.ofNat 0)) (Tr.req (c6 c 10) (Tr.req (eD (aw 23 c 1) 1 23 10) (Tr.ite (b9 (HM IntKind.u64 (B (cq (aw 23 c 1) 23)) x) (Int.ofNat 0)) (Tr.req (c6 c 10) (Tr.req (eD (aw 3 c 2) 1 3 20) (Tr.req (eD (au (aw 3 c 2) 1) 1 3 20) (Tr.ite (dp (W (cq (aw 3 c 2) 3)) k) (Tr.ite (dp k (W (cq (au (aw 3 c 2) 1) 3))) (Tr.req (dp (Int.ofNat 0) c) (Tr.req (bV (fp 0 0) (fp 0 1)) (Tr.ok (Ex.normal,Z0,jW x0 v m z::av::{ lock:=false,bs:=[(0,an.row (Row.G [shV O U Z V J W B])),(0,an.fmap (KK.num IntKind.u64) (mE h [qd IntKind.u64 x (cI IntKind.u64 (Int.ofNat 1) c)] true) (mF g [qd IntKind.u64 x (cI IntKind.u64 (Int.ofNat 1) c)] (bm .i64 (g [qd IntKind.u64 x (cI IntKind.u64 (Int.ofNat 1) c)]) (g [x]))) (qn (h [qd IntKind.u64 x (cI IntKind.u64 (Int.ofNat 1) c)]) q)),(0,an.row (Row.G [AV.map 0 1])),(0,an.row (Row.G [AV.fn (Fn.func 71) [shV O U Z V J W B] []])),(0,b)] } :: G)))) (Tr.ok (Ex.normal,Z0,jW x0 v m z::av::mf O U Z V J W B h g q b::G))) (Tr.ok (Ex.normal,Z0,jW x0 v m z::av::mf O U Z V J W B h g q b::G)))))) (Tr.ok (Ex.normal,Z0,jW x0 v m z::av::mf O U Z V J W B h g q b::G))))) (Tr.ok (Ex.normal,Z0,jW x0 v m z::av::mf O U Z V J W B h g q b::G)))) (Tr.ok (Ex.exit 6,[(1,AV.ptr 2 0 0 0,none),(3,AV.ptr 2 2 0 0,none),(4,AV.ptr 2 3 0 0,none),(5,AV.int .i64 k,none),(9,AV.int IntKind.u64 x,none),(28,AV.slc 0 2 v 0 1 m none,none),(29,AV.int .i64 (Int.ofNat m),none),(30,AV.int .i64 j,none),(39,AV.int .i64 (Int.ofNat U),none),(40,AV.int .i64 c,none),(41,AV.bool false,some 1)],jW x0 v m z::av::mf O U Z V J W B h g q b::G))) [(1,AV.ptr 2 0 0 0,none),(3,AV.ptr 2 2 0 0,none),(4,AV.ptr 2 3 0 0,none),(5,AV.int .i64 k,none),(9,AV.int IntKind.u64 x,none),(28,AV.slc 0 2 v 0 1 m none,none),(29,AV.int .i64 (Int.ofNat m),none),(30,AV.int .i64 j,none),(39,AV.int .i64 (Int.ofNat U),none),(40,AV.int .i64 (bm .i64 c (Int.ofNat 1)),none)]:=by kernel_rfl
end Go.Eng.Q
end
section
namespace Go.Eng.Q
open Go.Proofs
theorem jN {n f nt d i:Nat} {c:Code} {callR:bt} {bl:eV} {rg:om} {fr:aC} {H:ab} {T:Tr eB} (e:aS (jx n f nt d i) callR bl rg c (hints fr) H=T) (hC:callR.Ok (cd n)) (hB:bl.Ok (jx n f nt d i) c) (hR:rg.Ok (jx n f nt d i) c) {y:Ex×aC×ab} (h:T.all fun x=>x.st=y):exec (jx n f nt d i) c fr H=some y:=by
 obtain ⟨x,h1,rfl⟩:=h;have:=fQ (cx:=jx n f nt d i) hC c hB hR (hints fr) H x (by rw[e];exact h1);rw[aL] at this;exact this
theorem pK {n f nt d i:Nat} {c:Code} {callR:bt} {bl:eV} {rg:om} {fr:aC} {H:ab} {T:Tr eB} {Q:Ex×aC×ab→Prop} (e:aS (jx n f nt d i) callR bl rg c (hints fr) H=T) (hC:callR.Ok (cd n)) (hB:bl.Ok (jx n f nt d i) c) (hR:rg.Ok (jx n f nt d i) c) (h:T.all fun x=>Q x.st):∃ y,exec (jx n f nt d i) c fr H=some y∧Q y:=by
 obtain ⟨x,h1,h2⟩:=h;have:=fQ (cx:=jx n f nt d i) hC c hB hR (hints fr) H x (by rw[e];exact h1);rw[aL] at this;exact ⟨_,this,h2⟩
theorem LO {n f nt d i:Nat} {c:Code} (id:Nat) (F:Nat→aC) (G:Nat→ab) (N:Nat) (p:Nat→Bool) (X:Nat→aC×ab) (Y:aC×ab) (hN:N<99999)
 (hs:∀ j,j<N→∃ x,exec (jx n f nt d i) c (F j) (G j)=some x∧if p j=true then x=(.ret,X j) else x.1=.normal∧tidy (aW (G 0)) x.2.1 x.2.2=(F (j+1),G (j+1)))
 (he:exec (jx n f nt d i) c (F N) (G N)=some (.exit id,Y)):exec (jx n f nt d i) (.block id (.loop c)) (F 0) (G 0)=some (cond (eH p N) (.ret,X (fN p N 0)) (.normal,Y)):=by
 have key:=iN (body:=exec (jx n f nt d i) c) (n:=aW (G 0)) F G N p (fun j=>if j<N then (.ret,X j) else (.exit id,Y))
  (fun j hj hp=>by
    obtain ⟨x,h1,h2⟩:=hs j hj;rw[if_neg (by rw[hp];simp)] at h2;obtain ⟨e,f1,g1⟩:=x;obtain ⟨rfl,h3⟩:=h2;exact ⟨_,_,h1,h3⟩)
  (fun j hj hp=>by
    obtain ⟨x,h1,h2⟩:=hs j hj;rw[if_pos hp] at h2;subst h2;rw[if_pos hj];exact ⟨h1,by simp⟩)
  (by
    rw[if_neg (by omega)];exact ⟨he,by simp⟩) N 0 100000 (by omega) (by omega)
 cases hc:eH p N with
 | true =>
   have:=sj hc
   rw[if_pos this] at key
   exact cJ (fun id' h=>by cases h) key
 | false =>
   have:=vj hc
   rw[if_neg (by omega)] at key
   exact ib key

theorem J5 {n f nt d i:Nat} {c:Code} (id:Nat) (F:Nat→aC) (G:Nat→ab) (N:Nat) (Y:aC×ab) (hN:N<99999)
 (hs:∀ j,j<N→∃ x,exec (jx n f nt d i) c (F j) (G j)=some x∧(x.1=.normal∧tidy (aW (G 0)) x.2.1 x.2.2=(F (j+1),G (j+1))))
 (he:exec (jx n f nt d i) c (F N) (G N)=some (.exit id,Y)):exec (jx n f nt d i) (.block id (.loop c)) (F 0) (G 0)=some (.normal,Y):=by
 have:=LO id F G N (fun _=>false) (fun _=>Y) Y hN (fun j hj=>by
  obtain ⟨x,h1,h2⟩:=hs j hj;exact ⟨x,h1,by rw[if_neg (by simp)];exact h2⟩) he
 have h0:eH (fun _=>false) N=false:=by
  cases h:eH (fun _=>false) N with
  | false=>rfl
  | true=>obtain ⟨i2,_,h2⟩:=(dJ _ _).1 h;cases h2
 rw[h0] at this
 exact this

structure CS where
 h:List Int→Bool
 g:List Int→Int
 q:Nat
noncomputable def PJ (x c:Int) (s:CS):CS:=⟨mE s.h [qd .u64 x (cI .u64 (Int.ofNat 1) c)] true,mF s.g [qd .u64 x (cI .u64 (Int.ofNat 1) c)] (bm .i64 (s.g [qd .u64 x (cI .u64 (Int.ofNat 1) c)]) (s.g [x])),qn (s.h [qd .u64 x (cI .u64 (Int.ofNat 1) c)]) s.q⟩
noncomputable def Hz (W B:Nat→Int) (k x c:Int):Bool:=cond (b9 (lQ .u64 x (cI .u64 (Int.ofNat 1) c)) (Int.ofNat 0)) (cond (b9 (HM .u64 (B (cq (aw 23 c 1) 23)) x) (Int.ofNat 0)) (cond (dp (W (cq (aw 3 c 2) 3)) k) (dp k (W (cq (au (aw 3 c 2) 1) 3))) false) false) false
noncomputable def Jy (W B:Nat→Int) (k x c:Int) (s:CS):CS:=cond (Hz W B k x c) (PJ x c s) s
noncomputable def BJ (W B:Nat→Int) (k x:Int):Nat→CS→CS
 | 0,s=>s
 | j+1,s=>Jy W B k x (Int.ofNat j) (BJ W B k x j s)
noncomputable def PU (x:Int) (s:CS):CS:=⟨mE s.h [x] false,mF s.g [x] (Int.ofNat 0),xJ (s.h [x]) s.q⟩
noncomputable def MR (W B:Nat→Int) (k:Int) (n:Nat) (x:Int) (s:CS):CS:=PU x (BJ W B k x n s)
noncomputable def Hh (W B:Nat→Int) (k:Int) (n:Nat) (z:Nat→Int):Nat→CS→CS
 | 0,s=>s
 | j+1,s=>MR W B k n (z j) (Hh W B k n z j s)
section
variable (n:Nat) (k x0:Int) (v m:Nat) (z:Nat→Int) (O:Int) (U:Nat) (Z:Nat→Int) (V:Nat) (J:Nat→Int) (W B:Nat→Int) (b:an) (G:ab)
noncomputable def df (s:CS):bG:=mf O U Z V J W B s.h s.g s.q b
theorem Xb (j x:Int) (c:Nat) (hc:c<U) (hl:U≤10) (s:CS):∃ y,exec (ot (n+1)) (ld [0,1,1,1,0,0,1,1,0,0,1,0,1,0,0] cB) (FU k v m x j U (Int.ofNat c)) (jW x0 v m z::av::df O U Z V J W B b s::G)=some y ∧
 (y.1=.normal∧tidy 3 y.2.1 y.2.2=(FU k v m x j U (Int.ofNat (c+1)),jW x0 v m z::av::df O U Z V J W B b (Jy W B k x (Int.ofNat c) s)::G)):=by
 refine pK (Q:=fun y=>y.1=.normal∧tidy 3 y.2.1 y.2.2=(FU k v m x j U (Int.ofNat (c+1)),jW x0 v m z::av::df O U Z V J W B b (Jy W B k x (Int.ofNat c) s)::G)) (tI n k j x x0 (Int.ofNat c) v m z O U Z V J W B s.h s.g s.q b G) (ff n 1) (aj _ _) (ak _ _) ?_
 have ec:bm .i64 (Int.ofNat c) (Int.ofNat 1)=Int.ofNat (c+1):=by
  have:=BV c (by omega);rw[fM];exact this
 have no:Hz W B k x (Int.ofNat c)=false→Jy W B k x (Int.ofNat c) s=s:=fun h=>by unfold Jy;rw[h];rfl
 have yes:Hz W B k x (Int.ofNat c)=true→Jy W B k x (Int.ofNat c) s=PJ x (Int.ofNat c) s:=fun h=>by unfold Jy;rw[h];rfl
 refine Tr.af (fun h0=>?_) (fun h0=>?_)
 · refine Tr.aa wG ?_
   refine Tr.af (fun h1=>?_) (fun h1=>?_)
   · refine Tr.aa wG (Tr.aa wG ?_)
     refine Tr.af (fun h2=>?_) (fun h2=>?_)
     · refine Tr.aa wG (Tr.aa wG (Tr.aa wG ?_))
       refine Tr.af (fun h3=>?_) (fun h3=>?_)
       · refine Tr.af (fun h4=>?_) (fun h4=>?_)
         · refine Tr.aa wG (Tr.aa wG ?_)
           rw[yes (by unfold Hz;rw[h1,h2,h3,h4];rfl),ec]
           exact Tr.ag ⟨rfl,rfl⟩
         · rw[no (by unfold Hz;rw[h1,h2,h3,h4];rfl),ec]
           exact Tr.ag ⟨rfl,rfl⟩
       · rw[no (by unfold Hz;rw[h1,h2,h3];rfl),ec]
         exact Tr.ag ⟨rfl,rfl⟩
     · rw[no (by unfold Hz;rw[h1,h2];rfl),ec]
       exact Tr.ag ⟨rfl,rfl⟩
   · rw[no (by unfold Hz;rw[h1];rfl),ec]
     exact Tr.ag ⟨rfl,rfl⟩
 · exfalso
   simp (disch:=omega) only[nV,nW] at h0
   omega
theorem Vb (j x:Int) (hl:U≤10) (s:CS):exec (ot (n+1)) (ld [0,1,1,1,0,0,1,1,0,0,1,0,1,0,0] cB) (FU k v m x j U (Int.ofNat U)) (jW x0 v m z::av::df O U Z V J W B b s::G)=some (.exit 6,FU k v m x j U (Int.ofNat U)++[(41,.bool false)],jW x0 v m z::av::df O U Z V J W B b s::G):=by
 refine jN (tI n k j x x0 (Int.ofNat U) v m z O U Z V J W B s.h s.g s.q b G) (ff n 1) (aj _ _) (ak _ _) ?_;refine Tr.af (fun h0=>?_) (fun h0=>Tr.ag rfl);exfalso;simp (disch:=omega) only[nV,nW] at h0;omega
theorem Us (j x:Int) (hl:U≤10) (s:CS):exec (ot (n+1)) (.block 6 (.loop (ld [0,1,1,1,0,0,1,1,0,0,1,0,1,0,0] cB))) (FU k v m x j U (Int.ofNat 0)) (jW x0 v m z::av::df O U Z V J W B b s::G) =
 some (.normal,FU k v m x j U (Int.ofNat U)++[(41,.bool false)],jW x0 v m z::av::df O U Z V J W B b (BJ W B k x U s)::G):=by
 refine J5 (n:=n+1) (f:=73) (nt:=83) (d:=2) (i:=4) 6 (fun c=>FU k v m x j U (Int.ofNat c)) (fun c=>jW x0 v m z::av::df O U Z V J W B b (BJ W B k x c s)::G) U (_,_) (by omega) (fun c hc=>?_) ?_
 · exact Xb n k x0 v m z O U Z V J W B b G j x c hc hl (BJ W B k x c s)
 · exact Vb n k x0 v m z O U Z V J W B b G j x hl _
theorem b6:∀ b,(6,b) ∈ aP (part Tryd.f73 [1,1,1,0,1,0,1,0,1,1,1,0,0])→b=.loop (part Tryd.f73 [1,1,1,0,1,0,1,0,1,1,1,0,0,1,1,0,0,1,0,1,0,0]):=eN (by kernel_rfl)
theorem b4:∀ b,(4,b) ∈ aP (part Tryd.f73 [1,1,1,0,1,0,1,0,1,1])→b=.loop (part Tryd.f73 [1,1,1,0,1,0,1,0,1,1,1,0,0]):=eN (by kernel_rfl)
end
end Go.Eng.Q
end
section
namespace Go.Eng.Q
open Go.Proofs Go.Eng.Gall
theorem H6 (x:Nat):BitVec.ofInt 64 (x:Int)=BitVec.ofNat 64 x:=by
 apply BitVec.eq_of_toInt_eq;simp
theorem jI {x:Nat} (h:x<2 ^ 64):IntKind.u64.wrap (x:Int)=x:=Go.IntWalk.u64_in _ (by omega)
theorem PX {x y:Nat} (hx:x<2 ^ 63) (hy:y<2 ^ 63):qd .u64 (x:Int) (y:Int)=((x ||| y:Nat):Int):=by
 rw[tu];show IntKind.u64.wrap ((BitVec.ofInt 64 (x:Int) ||| BitVec.ofInt 64 (y:Int)).toNat:Nat)=_;have h1:x ||| y<2 ^ 63:=Nat.or_lt_two_pow hx hy;rw[H6,H6,BitVec.toNat_or,BitVec.toNat_ofNat,BitVec.toNat_ofNat,Nat.mod_eq_of_lt (by omega),Nat.mod_eq_of_lt (by omega),jI (by omega)]
theorem Lq {x y:Nat} (hx:x<2 ^ 63) (hy:y<2 ^ 63):lQ .u64 (x:Int) (y:Int)=((x &&& y:Nat):Int):=by
 rw[ov];show IntKind.u64.wrap ((BitVec.ofInt 64 (x:Int) &&& BitVec.ofInt 64 (y:Int)).toNat:Nat)=_;have h1:x &&& y<2 ^ 63:=Nat.and_lt_two_pow x hy;rw[H6,H6,BitVec.toNat_and,BitVec.toNat_ofNat,BitVec.toNat_ofNat,Nat.mod_eq_of_lt (by omega),Nat.mod_eq_of_lt (by omega),jI (by omega)]
theorem BF {i:Nat} (hi:i<62):cI .u64 (Int.ofNat 1) (Int.ofNat i)=((2 ^ i:Nat):Int):=by
 rw[rK];show IntKind.u64.wrap (1*2 ^ min i 64)=_;have:(2:Nat) ^ i≤2 ^ 62:=Nat.pow_le_pow_right (by decide) (by omega);rw[Nat.min_eq_left (by omega),Int.one_mul,show (2:Int) ^ i=((2 ^ i:Nat):Int) from by rw[Int.natCast_pow];rfl];generalize (2:Nat) ^ i=P at *;exact jI (by omega)
theorem Fm {X c:Nat} (hX:X<2 ^ 62) (hc:c<62):b9 (lQ .u64 (X:Int) (cI .u64 (Int.ofNat 1) (Int.ofNat c))) (Int.ofNat 0)=!X.testBit c:=by
 have:(2:Nat) ^ c≤2 ^ 61:=Nat.pow_le_pow_right (by decide) (by omega);rw[BF hc,Lq (by omega) (by omega),aE];have key:(X &&& 2 ^ c=0)↔X.testBit c=false:=by
  constructor
  · intro h;have:=congrArg (fun y=>y.testBit c) h;simpa[Nat.testBit_and,Nat.testBit_two_pow_self] using this
  · intro h;apply Nat.eq_of_testBit_eq;intro i;rw[Nat.testBit_and,Nat.testBit_two_pow,Nat.zero_testBit];by_cases e:c=i
    · subst e;rw[h];rfl
    · rw[decide_eq_false e,Bool.and_false]
 rw[Bool.eq_iff_iff,beq_iff_eq,Bool.not_eq_true',← key];show ((X &&& 2 ^ c:Nat):Int)=0↔_;omega
theorem Fo {X c:Nat} (hX:X<2 ^ 62) (hc:c<62) (h:X.testBit c=false):qd .u64 (X:Int) (cI .u64 (Int.ofNat 1) (Int.ofNat c))=((X+2 ^ c:Nat):Int):=by
 have:(2:Nat) ^ c≤2 ^ 61:=Nat.pow_le_pow_right (by decide) (by omega);rw[BF hc,PX (by omega) (by omega),GI h]
noncomputable def okW (W B:Nat→Int) (k X c:Nat):Bool:=b9 (HM .u64 (B c) (X:Int)) (Int.ofNat 0) && (dp (W (2*c)) (k:Int) && dp (k:Int) (W (2*c+1)))
theorem Mq (W B:Nat→Int) (k:Nat) {X c:Nat} (hX:X<2 ^ 62) (hc:c<62):Hz W B (k:Int) (X:Int) (Int.ofNat c)=(!X.testBit c && okW W B k X c):=by
 unfold Hz okW;rw[Fm hX hc];simp only[bJ,aM,dD];rw[show 23+(Int.ofNat c).toNat*1-23=c by show 23+c*1-23=c;omega,show 3+(Int.ofNat c).toNat*2-3=2*c by show 3+c*2-3=2*c;omega,show 3+(Int.ofNat c).toNat*2+1-3=2*c+1 by show 3+c*2+1-3=2*c+1;omega];cases (!X.testBit c)<;>cases (b9 (HM .u64 (B c) (X:Int)) (Int.ofNat 0))<;>cases (dp (W (2*c)) (k:Int))<;>cases (dp (k:Int) (W (2*c+1)))<;>rfl
def me (h:Nat→Bool) (g:Nat→Nat) (q:Nat):CS:=⟨fun l=>match l with | [y]=>decide (0≤y) && h y.toNat | _=>false,fun l=>match l with | [y]=>if 0≤y then (g y.toNat:Int) else 0 | _=>0,q⟩
theorem sN (h:Nat→Bool) (g:Nat→Nat) (q:Nat) (X:Nat) (b:Bool):fB (me h g q).h [(X:Int)] b=(me (fun y=>if y=X then b else h y) g q).h:=by
 funext l;unfold fB;by_cases e:l=[(X:Int)]
 · subst e;rw[if_pos rfl];show b=(decide ((0:Int)≤(X:Int)) && (if (X:Int).toNat=X then b else _));rw[if_pos (Int.toNat_natCast X),decide_eq_true (by omega)];simp
 · rw[if_neg e];match l,e with
   | [],_=>rfl
   | [y],e =>
     show (decide (0≤y) && h y.toNat)=(decide (0≤y) && (if y.toNat=X then b else h y.toNat));by_cases h0:0≤y
     · rw[if_neg (fun hy=>e (by rw[show y=(X:Int) by omega]))]
     · rw[decide_eq_false h0];rfl
   | _::_::_,_=>rfl
theorem sO (h:Nat→Bool) (g:Nat→Nat) (q:Nat) (X:Nat) (z:Nat):iJ (me h g q).g [(X:Int)] (z:Int)=(me h (fun y=>if y=X then z else g y) q).g:=by
 funext l;unfold iJ;by_cases e:l=[(X:Int)]
 · subst e;rw[if_pos rfl];show (z:Int)=(if (0:Int)≤(X:Int) then (((if (X:Int).toNat=X then z else _):Nat):Int) else 0);rw[if_pos (by omega),if_pos (Int.toNat_natCast X)]
 · rw[if_neg e];match l,e with
   | [],_=>rfl
   | [y],e =>
     show (if 0≤y then (g y.toNat:Int) else 0)=(if 0≤y then (((if y.toNat=X then z else g y.toNat):Nat):Int) else 0);by_cases h0:0≤y
     · rw[if_pos h0,if_pos h0,if_neg (fun hy=>e (by rw[show y=(X:Int) by omega]))]
     · rw[if_neg h0,if_neg h0]
   | _::_::_,_=>rfl
theorem Gj (h:Nat→Bool) (g:Nat→Nat) (q X:Nat):(me h g q).g [(X:Int)]=(g X:Int):=by
 show (if (0:Int)≤(X:Int) then (g (X:Int).toNat:Int) else 0)=_;rw[if_pos (by omega),Int.toNat_natCast]
def Gd (s:CS):Prop:=∃ es,qZ (.num .u64) es s.h s.g s.q
theorem F1 {h:List Int→Bool} {g:List Int→Int} {q:Nat} (hE:∃ es,qZ (.num .u64) es h g q) (a y:Int):∃ es,qZ (.num .u64) es (fB h [a] true) (iJ g [a] y) (ux (h [a]) q):=by
 obtain ⟨es,hE⟩:=hE;cases hh:h [a] with
 | false=>exact ⟨_,hh ▸ hE.Tu (n:=[a]) (y:=y) rfl (r:=none) hh (fun j hj=>by cases hj)⟩
 | true =>
   obtain ⟨_,j,j1,j2⟩:=hE.all _ hh;obtain ⟨n,e1,e2⟩:=hE.ent j j1;have:eC (.num .u64) n=eC (.num .u64) [a]:=by rw[← j2,e1]
   have hn:n=[a]:=ja (hE.fit e2) rfl this;subst hn;exact ⟨_,hh ▸ hE.Tu (n:=[a]) (y:=y) rfl (r:=some j) hh (fun j' hj'=>by cases hj';exact ⟨j1,e1⟩)⟩
theorem LW {h:List Int→Bool} {g:List Int→Int} {q:Nat} (hE:∃ es,qZ (.num .u64) es h g q) (a:Int):∃ es,qZ (.num .u64) es (fB h [a] false) (iJ g [a] 0) (xI (h [a]) q):=by
 obtain ⟨es,hE⟩:=hE;cases hh:h [a] with
 | false=>exact ⟨_,hh ▸ hE.del (n:=[a]) rfl (r:=none) hh (fun j hj=>by cases hj)⟩
 | true =>
   obtain ⟨_,j,j1,j2⟩:=hE.all _ hh;obtain ⟨n,e1,e2⟩:=hE.ent j j1;have:eC (.num .u64) n=eC (.num .u64) [a]:=by rw[← j2,e1]
   have hn:n=[a]:=ja (hE.fit e2) rfl this;subst hn;exact ⟨_,hh ▸ hE.del (n:=[a]) rfl (r:=some j) hh (fun j' hj'=>by cases hj';exact ⟨j1,e1⟩)⟩
theorem Hi (W B:Nat→Int) (k X:Nat) (hX:X<2 ^ 10) (h:Nat→Bool) (g:Nat→Nat) (q:Nat) (hG:Gd (me h g q)):∀ j,j≤10→(∀ i,i≤j→∀ Y,g Y+g X*cT (okW W B) i k X Y<2 ^ 60) →
 ∃ q',BJ W B (k:Int) (X:Int) j (me h g q)=me (fun Y=>h Y || decide (0<cT (okW W B) j k X Y)) (fun Y=>g Y+g X*cT (okW W B) j k X Y) q'∧Gd (BJ W B (k:Int) (X:Int) j (me h g q))
 | 0,_,_=>⟨q,by
    have e:∀ Y,cT (okW W B) 0 k X Y=0:=fun Y=>rfl;simp only[e,Nat.mul_zero,Nat.add_zero];show me h g q=_;congr 1;funext Y;simp,hG⟩
 | j + 1,hj,hb=>by
   obtain ⟨q',e,hG'⟩:=Hi W B k X hX h g q hG j (by omega) (fun i hi=>hb i (by omega));have hX2:X<2 ^ 62:=by omega
   have e2:BJ W B (k:Int) (X:Int) (j+1) (me h g q)=Jy W B (k:Int) (X:Int) (Int.ofNat j) (BJ W B (k:Int) (X:Int) j (me h g q)):=rfl;rw[e2];rw[e] at hG' ⊢;unfold Jy;rw[Mq W B k hX2 (by omega)];cases ho:(!X.testBit j && okW W B k X j) with
   | false =>
     refine ⟨q',?_,hG'⟩;have:∀ Y,cT (okW W B) (j+1) k X Y=cT (okW W B) j k X Y:=fun Y=>by rw[AH,ho];simp
     simp only[this];rfl
   | true =>
     have hbit:X.testBit j=false:=by
      cases hx:X.testBit j with
      | false=>rfl
      | true=>rw[hx] at ho;cases ho
     have hc:∀ Y,cT (okW W B) (j+1) k X Y=cT (okW W B) j k X Y+if X+2 ^ j=Y then 1 else 0:=fun Y=>by rw[AH,ho];simp
     have hself:=Cf (ok:=okW W B) j k X;have hp:=Nat.two_pow_pos j;rw[cond_true];have e3:PJ (X:Int) (Int.ofNat j) (me (fun Y=>h Y || decide (0<cT (okW W B) j k X Y)) (fun Y=>g Y+g X*cT (okW W B) j k X Y) q') =
      me (fun Y=>h Y || decide (0<cT (okW W B) (j+1) k X Y)) (fun Y=>g Y+g X*cT (okW W B) (j+1) k X Y) (ux ((me (fun Y=>h Y || decide (0<cT (okW W B) j k X Y)) (fun Y=>g Y+g X*cT (okW W B) j k X Y) q').h [((X+2 ^ j:Nat):Int)]) q'):=by
      unfold PJ
      rw[Fo hX2 (by omega) hbit,gY,gZ,lU,Gj,Gj,fM,hself]
      have hb2:=hb (j+1) (by omega) (X+2 ^ j)
      rw[hc,if_pos rfl,Nat.mul_add] at hb2
      rw[show (((g (X+2 ^ j)+g X*cT (okW W B) j k X (X+2 ^ j):Nat):Int)+((g X+g X*0:Nat):Int))=((g (X+2 ^ j)+g X*cT (okW W B) j k X (X+2 ^ j)+g X:Nat):Int) by omega,Go.IntWalk.i64_in _ (by omega),sN,sO]
      show CS.mk (me _ (fun Y=>g Y+g X*cT (okW W B) j k X Y) q').h (me (fun Y=>h Y || decide (0<cT (okW W B) j k X Y)) _ q').g _=_
      have a1:(fun y=>if y=X+2 ^ j then true else (h y || decide (0<cT (okW W B) j k X y)))=fun Y=>h Y || decide (0<cT (okW W B) (j+1) k X Y):=by
       funext Y;rw[hc];by_cases e:Y=X+2 ^ j
       · subst e;rw[if_pos rfl,if_pos rfl,decide_eq_true (by omega)];simp
       · rw[if_neg e,if_neg (fun h=>e h.symm)];rfl
      have a2:(fun y=>if y=X+2 ^ j then g (X+2 ^ j)+g X*cT (okW W B) j k X (X+2 ^ j)+g X else g y+g X*cT (okW W B) j k X y)=fun Y=>g Y+g X*cT (okW W B) (j+1) k X Y:=by
       funext Y;rw[hc];by_cases e:Y=X+2 ^ j
       · subst e;rw[if_pos rfl,if_pos rfl,Nat.mul_add];omega
       · rw[if_neg e,if_neg (fun h=>e h.symm)];rfl
      rw[a1,a2];rfl
     refine ⟨_,e3,?_⟩;unfold PJ;rw[gY,gZ,lU];exact F1 hG' _ _
theorem MS (W B:Nat→Int) (k X n:Nat) (hX:X<2 ^ 10) (h:Nat→Bool) (g:Nat→Nat) (q:Nat) (hG:Gd (me h g q)) (hn:n≤10) (hb:∀ i,i≤n→∀ Y,g Y+g X*cT (okW W B) i k X Y<2 ^ 60) :
 ∃ q',MR W B (k:Int) n (X:Int) (me h g q)=me (fun Y=>!decide (Y=X) && (h Y || decide (0<cT (okW W B) n k X Y))) (fun Y=>if Y=X then 0 else g Y+g X*cT (okW W B) n k X Y) q'∧Gd (MR W B (k:Int) n (X:Int) (me h g q)):=by
 obtain ⟨q',e,hG'⟩:=Hi W B k X hX h g q hG n hn hb
 unfold MR
 rw[e] at hG' ⊢
 have e3:PU (X:Int) (me (fun Y=>h Y || decide (0<cT (okW W B) n k X Y)) (fun Y=>g Y+g X*cT (okW W B) n k X Y) q')=me (fun Y=>!decide (Y=X) && (h Y || decide (0<cT (okW W B) n k X Y))) (fun Y=>if Y=X then 0 else g Y+g X*cT (okW W B) n k X Y) (xI ((me (fun Y=>h Y || decide (0<cT (okW W B) n k X Y)) (fun Y=>g Y+g X*cT (okW W B) n k X Y) q').h [(X:Int)]) q'):=by
  unfold PU;rw[gY,gZ,se,sN,show (Int.ofNat 0:Int)=((0:Nat):Int) from rfl,sO];have a1:(fun y=>if y=X then false else (h y || decide (0<cT (okW W B) n k X y)))=fun Y=>!decide (Y=X) && (h Y || decide (0<cT (okW W B) n k X Y)):=by
   funext Y;by_cases e:Y=X
   · rw[if_pos e,decide_eq_true e];rfl
   · rw[if_neg e,decide_eq_false e];rfl
  rw[a1];rfl
 refine ⟨_,e3,?_⟩
 unfold PU
 rw[gY,gZ,se]
 exact LW hG' _
theorem MQ (W B:Nat→Int) (k n:Nat) (hn:n≤10) (hk:k≤10) (q:Nat):∀ (L:List Nat) (z:Nat→Int),(∀ j (h:j<L.length),z j=((L[j]:Nat):Int))→L.Nodup→(∀ x ∈ L,0<cF n (okW W B) k x)→Gd (me (hD n (okW W B) k []) (gD n (okW W B) k []) q)→∀ m,m≤L.length →
 ∃ q',Hh W B (k:Int) n z m (me (hD n (okW W B) k []) (gD n (okW W B) k []) q)=me (hD n (okW W B) k (L.take m)) (gD n (okW W B) k (L.take m)) q'∧Gd (Hh W B (k:Int) n z m (me (hD n (okW W B) k []) (gD n (okW W B) k []) q)):=by
 intro L z hz hnd hL hG m
 induction m with
 | zero=>intro _;exact ⟨q,rfl,hG⟩
 | succ m ih =>
   intro hm
   obtain ⟨q',e,hG'⟩:=ih (by omega)
   have e2:Hh W B (k:Int) n z (m+1) (me (hD n (okW W B) k []) (gD n (okW W B) k []) q)=MR W B (k:Int) n (z m) (Hh W B (k:Int) n z m (me (hD n (okW W B) k []) (gD n (okW W B) k []) q)):=rfl
   rw[e2]
   rw[e] at hG' ⊢
   rw[hz m (by omega)]
   have hx:=hL _ (List.getElem_mem (show m<L.length by omega))
   have hlt:=Fq hx
   have hp:(2:Nat) ^ n≤2 ^ 10:=Nat.pow_le_pow_right (by decide) hn
   have htake:L.take (m+1)=L.take m++[L[m]'(by omega)]:=by rw[List.take_add_one,List.getElem?_eq_getElem (by omega)];rfl
   have hnin:L[m]'(by omega) ∉ L.take m:=fun hc=>by
    have:=hnd.sublist (List.take_sublist (m+1) L);rw[htake,List.nodup_append] at this;exact this.2.2 _ hc _ List.mem_cons_self rfl
   have hLt:∀ x ∈ L.take m,0<cF n (okW W B) k x:=fun x hx=>hL x (List.mem_of_mem_take hx)
   have hb:∀ i,i≤n→∀ Y,gD n (okW W B) k (L.take m) Y+gD n (okW W B) k (L.take m) (L[m]'(by omega))*cT (okW W B) i k (L[m]'(by omega)) Y<2 ^ 60:=fun i hi Y=>by
    have h1:=Ob (hnd.sublist (List.take_sublist m L)) hLt hx hnin i Y hi;have h2:=J0 (n:=n) (ok:=okW W B) k Y;have h3:=J0 (n:=n) (ok:=okW W B) (k+1) Y;have h4:n ^ k≤10 ^ 10:=Nat.le_trans (Nat.pow_le_pow_left hn k) (Nat.pow_le_pow_right (by decide) hk);have h5:n ^ (k+1)≤10 ^ 11:=Nat.le_trans (Nat.pow_le_pow_left hn _) (Nat.pow_le_pow_right (by decide) (by omega));omega
   obtain ⟨q'',e3,hG''⟩:=MS W B k (L[m]'(by omega)) n (by omega) _ _ q' hG' hn hb
   refine ⟨q'',?_,hG''⟩
   rw[e3,htake]
   congr 1
   · funext Y;exact Iu hLt hx Y
   · funext Y;exact It hLt hx hnin Y
end Go.Eng.Q
end
section
namespace Go.Eng.Q
open Go.Proofs Go.Eng.Gall
noncomputable def QA (k:Int):aC:=iT k++[(6,.nils),(18,.map 2 1),(19,.ptr 0 0 0 0),(20,.tup [.bool false]),(21,.bool false)]
noncomputable def Ut:bG:=⟨false,[(0,.dead)]⟩
theorem Xe (n:Nat) (k x y:Int) (H:ab):bP.tJ cL (ot n) (il aF n 0) aR aQ 0 1 (.int .u64 x,.int .i64 y) (hints (iT k++[(6,.nils),(18,.map 2 1),(19,.ptr 0 0 0 0)])) (⟨false,[(0,.dead)]⟩::H) =
 Tr.req (ji 0 1 8) (Tr.req (cg 0 0) (Tr.req (fp 1 1) (Tr.ok ([(1,AV.ptr 2 0 0 0,none),(3,AV.ptr 2 2 0 0,none),(4,AV.ptr 2 3 0 0,none),(5,AV.int .i64 k,none),(6,AV.slc 0 2 0 0 1 1 none,none),(19,AV.ptr 0 0 0 0,none)],{ lock:=false,bs:=[(0,an.dead),(0,an.row (Row.I IntKind.u64 [x])),(0,an.row (Row.M [dj.arr IntKind.u64 (aI [x]) 1]))] } :: H)))):=by kernel_rfl
theorem Xf (n:Nat) (k:Int) (H:ab):bP.vv cL (ot n) (il aF n 0) (hints (iT k++[(6,.nils),(18,.map 2 1),(19,.ptr 0 0 0 0)])) (⟨false,[(0,.dead)]⟩::H) =
 Tr.ok ([(1,AV.ptr 2 0 0 0,none),(3,AV.ptr 2 2 0 0,none),(4,AV.ptr 2 3 0 0,none),(5,AV.int .i64 k,none),(6,AV.nils,none),(18,AV.map 2 1,none),(19,AV.ptr 0 0 0 0,none),(20,AV.tup [AV.bool false],none),(21,AV.bool false,none)],{ lock:=false,bs:=[(0,an.dead)] } :: H):=by kernel_rfl
theorem tZ (n:Nat) (k:Int) (G:ab):aS (ot n) (il aF n 0) aR aQ qS (hints (QA k)) (⟨false,[(0,.dead)]⟩::av::G) =
 Tr.ok (Ex.normal,[(1,AV.ptr 2 0 0 0,none),(3,AV.ptr 2 2 0 0,none),(4,AV.ptr 2 3 0 0,none),(5,AV.int .i64 k,none),(28,AV.nils,none),(29,AV.int .i64 (Int.ofNat 0),some 1),(30,AV.int .i64 (Int.ofNat 0),some 1),(31,AV.bool false,some 1)],{ lock:=false,bs:=[(0,an.dead)] } :: av::G):=by kernel_rfl
theorem nO:ld [0,1,1,1,0,0] cB=part Tryd.f73 [1,1,1,0,1,0,1,0,1,1,1,0,0]:=by kernel_rfl
theorem nI:ld [0,1,1,1,0,0,1,1,0,0,1,0,1,0,0] cB=part Tryd.f73 [1,1,1,0,1,0,1,0,1,1,1,0,0,1,1,0,0,1,0,1,0,0]:=by kernel_rfl
theorem WV:qS=part Tryd.f73 [1,1,1,0,1,0,1,0,1,1]:=by kernel_rfl
theorem Uk:∀ b,(6,b) ∈ aP (ld [0,1,1,1,0,0] cB)→b=.loop (ld [0,1,1,1,0,0,1,1,0,0,1,0,1,0,0] cB):=by rw[nO,nI];exact b6
theorem UD:∀ b,(4,b) ∈ aP qS→b=.loop (ld [0,1,1,1,0,0] cB):=by rw[WV,nO];exact b4
section
variable (n:Nat) (k x0:Int) (v m:Nat) (z:Nat→Int) (O:Int) (U:Nat) (Z:Nat→Int) (V:Nat) (J:Nat→Int) (W B:Nat→Int) (b:an) (G:ab)
theorem Xc (j:Nat) (hj:j<m) (hm:m≤99990) (hl:U≤10) (s:CS):∃ y,exec (ot (n+1)) (ld [0,1,1,1,0,0] cB) (EI k v m (Int.ofNat j)) (jW x0 v m z::av::df O U Z V J W B b s::G)=some y ∧
 (y.1=.normal∧tidy 3 y.2.1 y.2.2=(EI k v m (Int.ofNat (j+1)),jW x0 v m z::av::df O U Z V J W B b (MR W B k U (z j) s)::G)):=by
 have ez:aw 0 (Int.ofNat j) 1=j:=by rw[bJ];show 0+j*1=j;omega
 have ec:bm .i64 (Int.ofNat j) (Int.ofNat 1)=Int.ofNat (j+1):=by
  have:=BV j (by omega);rw[fM];exact this
 have T:=tO (n+1) (BJ W B k (z j) U s).h (BJ W B k (z j) U s).g (BJ W B k (z j) U s).q k (Int.ofNat j) x0 v m z O U Z V J W B s.h s.g s.q b G
 rw[ez,ec] at T
 refine pK (Q:=fun y=>y.1=.normal∧tidy 3 y.2.1 y.2.2=(EI k v m (Int.ofNat (j+1)),jW x0 v m z::av::df O U Z V J W B b (MR W B k U (z j) s)::G)) T (ay _) (aZ (aj _ _) Uk (fun x h=>by rw[← Tr.ae h];simp only[eB.st,aL];exact Us n k x0 v m z O U Z V J W B b G (Int.ofNat j) (z j) hl s)) (ak _ _) ?_
 refine Tr.af (fun h0=>?_) (fun h0=>?_)
 · refine Tr.aa wG (Tr.aa (by rw[ft];simp) (Tr.aa wG (Tr.ai ⟨rfl,rfl⟩ (Tr.ag ⟨rfl,rfl⟩))))
 · exfalso
   simp (disch:=omega) only[nV,nW] at h0
   omega
theorem Vc (hm:m≤99990) (hl:U≤10) (s:CS):exec (ot (n+1)) (ld [0,1,1,1,0,0] cB) (EI k v m (Int.ofNat m)) (jW x0 v m z::av::df O U Z V J W B b s::G)=some (.exit 4,EI k v m (Int.ofNat m)++[(31,.bool false)],jW x0 v m z::av::df O U Z V J W B b s::G):=by
 have ez:aw 0 (Int.ofNat m) 1=m:=by rw[bJ];show 0+m*1=m;omega
 have T:=tO (n+1) (BJ W B k (z m) U s).h (BJ W B k (z m) U s).g (BJ W B k (z m) U s).q k (Int.ofNat m) x0 v m z O U Z V J W B s.h s.g s.q b G;rw[ez] at T;refine jN T (ay _) (aZ (aj _ _) Uk (fun x h=>by rw[← Tr.ae h];simp only[eB.st,aL];exact Us n k x0 v m z O U Z V J W B b G (Int.ofNat m) (z m) hl s)) (ak _ _) ?_;refine Tr.af (fun h0=>?_) (fun h0=>Tr.ag rfl);exfalso;simp (disch:=omega) only[nV,nW] at h0;omega
theorem WR (hm:m≤99990) (hl:U≤10) (s:CS):exec (ot (n+1)) (.block 4 (.loop (ld [0,1,1,1,0,0] cB))) (EI k v m (Int.ofNat 0)) (jW x0 v m z::av::df O U Z V J W B b s::G) =
 some (.normal,EI k v m (Int.ofNat m)++[(31,.bool false)],jW x0 v m z::av::df O U Z V J W B b (Hh W B k U z m s)::G):=by
 refine J5 (n:=n+1) (f:=73) (nt:=83) (d:=2) (i:=4) 4 (fun c=>EI k v m (Int.ofNat c)) (fun c=>jW x0 v m z::av::df O U Z V J W B b (Hh W B k U z c s)::G) m (_,_) (by omega) (fun c hc=>?_) ?_
 · exact Xc n k x0 v m z O U Z V J W B b G c hc hm hl (Hh W B k U z c s)
 · exact Vc n k x0 v m z O U Z V J W B b G hm hl _
theorem SF (hm:m≤99990) (hl:U≤10) (s:CS):exec (ot (n+1)) qS (QB k v m) (jW x0 v m z::av::df O U Z V J W B b s::G)=some (.normal,EI k v m (Int.ofNat m)++[(31,.bool false)],jW x0 v m z::av::df O U Z V J W B b (Hh W B k U z m s)::G):=by
 refine jN (t10 (n+1) k x0 v m z (df O U Z V J W B b s::G) (df O U Z V J W B b (Hh W B k U z m s)::G)) (ay _) (aZ (aj _ _) UD (fun x h=>by rw[← Tr.ae h];simp only[eB.st,aL];exact WR n k x0 v m z O U Z V J W B b G hm hl s)) (ak _ _) ?_;exact Tr.ai ⟨rfl,rfl⟩ (Tr.ag rfl)
end
end Go.Eng.Q
end
