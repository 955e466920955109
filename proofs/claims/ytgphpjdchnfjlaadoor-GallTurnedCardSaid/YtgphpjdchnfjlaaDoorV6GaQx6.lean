/- Gall: calls within count: those of the functions that it alone reaches. -/
import Derived.Test.YtgphpjdchnfjlaaDoorV6EngTgx11
import Derived.Test.YtgphpjdchnfjlaaDoorV6EngRnFx7
import Derived.Test.YtgphpjdchnfjlaaDoorV6EngTkx3
import Derived.Test.YtgphpjdchnfjlaaDoorProg
import Derived.KernelRfl
import Derived.Test.YtgphpjdchnfjlaaDoorV6Gp2x6
import Derived.IntWalk
set_option linter.unusedVariables false
set_option maxRecDepth 100000
set_option linter.unusedSimpArgs false
section
namespace Go.Eng
open Go.Proofs
def lI:List Nat→Code→Code
 | [],c=>c
 | x :: p,c=>match c with
   | .seq a b=>match x with
     | 0=>lI p a
     | _=>lI p b
   | .cond _ a b=>match x with
     | 0=>lI p a
     | _=>lI p b
   | .block _ b=>lI p b
   | .loop b=>lI p b
   | .scope b=>lI p b
   | .rangeFunc _ _ a b=>match x with
     | 0=>lI p a
     | _=>lI p b
   | c=>c
noncomputable def part (f:Func) (p:List Nat):Code:=lI p (aZ f)
theorem CE (j:Nat) (h:j<2 ^ 31):IntKind.i64.wrap ((j:Int)+1)=((j+1:Nat):Int):=by
 rw[show ((j:Int)+1)=((j+1:Nat):Int) by omega];exact Go.IntWalk.i64_in _ wO

def dH (p:Nat→Bool) (N:Nat):Bool:=decide (fN p N 0<N)
theorem sR {p:Nat→Bool} {N:Nat} (h:dH p N=true):fN p N 0<N:=by simpa[dH] using h
theorem vX {p:Nat→Bool} {N:Nat} (h:dH p N=false):fN p N 0=N:=by
 have h1:=(xe p N 0).2.1;have:¬ fN p N 0<N:=by simpa[dH] using h
 omega
theorem cj (p:Nat→Bool) (N:Nat):dH p N=true↔∃ i,i<N∧p i=true:=by
 obtain ⟨h1,h2,h3,h4⟩:=xe p N 0;constructor
 · intro h;have:=sR h;exact ⟨_,this,h4 wO⟩
 · rintro ⟨i,hi,hp⟩;unfold dH;rw[decide_eq_true_eq];apply Nat.lt_of_not_le;intro hc;have:=h3 i wO wO;rw[this] at hp;cases hp
namespace Q
noncomputable def iy:aN→FuncId→List AV→aa→Option (AV×aa):=uj []
def IB (f:FuncId):Bool:=Nat.beq f 1000000
noncomputable def cd (n:Nat):aN:=dk Tryd.prog iy KtG.kt 100000 n
noncomputable def il (tab:nK) (n k:Nat):bw:=BS Tryd.prog iy KtG.kt 100000 IB tab n k
theorem xD (g:FuncId) (h:IB g=false) (c:aN) (args:List AV) (H:aa):iy c g args H=none:=by
 unfold IB at h;unfold iy uj;rw[h,cond_false];rfl
theorem nr (n:Nat):∃ x,dk Tryd.prog iy KtG.kt 100000 n .mode [] []=some x:=by
 cases n<;>exact ⟨_,rfl⟩
theorem xH:ss Tryd.prog iy:=DO [] (fun e he=>by cases he)
theorem ir (tab:nK) (n k:Nat) (ht:∀ k,tab.Ok (cd (n+k))):(il tab n k).Ok (cd (n+k)):=xw _ _ _ _ _ _ _ xD (fun k=>nr _) ht k
theorem cD (n k:Nat):(il aK n k).Ok (cd (n+k)):=ir _ _ _ (fun k=>bp _)
theorem aA (n:Nat):(il aK n 0).Ok (cd n):=cD n 0
end Q
end Go.Eng
end
section
namespace Go.Eng.Q
open Go.Proofs
noncomputable def slA (n len:Nat) (z:Nat→Int):AV:=.slcT none (.M [.arr .i64 z (fT len n)]) n len false
noncomputable def shR (O:Int) (U:Nat) (Z:Nat→Int) (V:Nat) (J:Nat→Int) (W B:Nat→Int):Row:=.M [.one (.int .i64 O),.one (slA 4 U Z),.one (slA 2 V J),.arr .i64 W 20,.arr .u64 B 10]
noncomputable def shV (O:Int) (U:Nat) (Z:Nat→Int) (V:Nat) (J:Nat→Int) (W B:Nat→Int):AV:=.ptrT none (shR O U Z V J W B) 0
noncomputable def ay:bB:=⟨false,[]⟩
noncomputable def iR (n f nt d i:Nat):Cx:=⟨Tryd.prog,cd n,100000,f,nt,KtG.kt f,some (d,i)⟩
def xG:Code→Array Oper
 | .region _ ops _=>ops
 | _=>#[]
def Se (l:List Oper):Oper:=l.headD { dst:=none,op:=.move (.tmp 0),type:=0,pos := "",after:=#[],guard:=none }
noncomputable def cB:Code:=part Tryd.f73 [1,1,1,0,1,0,1]
noncomputable def cS:eO:={ id0:=6,ops0:=xG (lI [0,1,0,0] cB),pre:=(xG (lI [0,1,0,0] cB)).toList.take 1,ro:=Se ((xG (lI [0,1,0,0] cB)).toList.drop 1),m:=18,ty:=128 }
noncomputable def cL:bY:={ out:=2,BQ:=7,id2:=8,nxt:=3,ops1:=xG (lI [0,1,0,1,0,0,0] cB),ops2:=xG (lI [0,1,0,1,0,0,1,1,0,0] cB),no:=Se (xG (lI [0,1,0,1,0,0,0] cB)).toList,eo:=Se (xG (lI [0,1,0,1,0,0,1,1,0,0] cB)).toList,t1:=(xG (lI [0,1,0,1,0,0,0] cB)).toList.tail,t2:=(xG (lI [0,1,0,1,0,0,1,1,0,0] cB)).toList.tail,it:=19,nx:=20,mo:=21,en:=22,rest:=lI [0,1,0,1,0,0,1,1,0,1] cB,km:=267386880+128 }
noncomputable def rF:Code:=lI [0,1,1] cB
noncomputable def cR:qb:={ f:=73,id:=1,body:=cB,pre:=[lI [0,0] cB],S:=cS,L:=cL,suf:=rF }
noncomputable def jo (k:Int):aD:=[(1,.ptr 2 0 0 0),(3,.ptr 2 2 0 0),(4,.ptr 2 3 0 0),(5,.int .i64 k)]
noncomputable def mM (O:Int) (U:Nat) (Z:Nat→Int) (V:Nat) (J:Nat→Int) (W B:Nat→Int) (h:List Int→Bool) (g:List Int→Int) (c:Nat) (b:ak):bB:=⟨false,[(0,.row (.G [shV O U Z V J W B])),(0,.fmap (.num .u64) h g c),(0,.row (.G [.map 0 1])),(0,.row (.G [.fn (.func 71) [shV O U Z V J W B] []])),(0,b)]⟩
theorem t5 (n:Nat) (k:Int) (H:aa):aJ (iR n 73 83 2 4) (il aK n 0) aS aR (lI [0,0] cB) (hints (jo k)) (ay::H) =
 Tr.ok (Ex.normal,[(1,AV.ptr 2 0 0 0,none),(3,AV.ptr 2 2 0 0,none),(4,AV.ptr 2 3 0 0,none),(5,AV.int .i64 k,none),(6,AV.nils,none)],ay::H):=by kernel_rfl
theorem tS (n:Nat) (k:Int) (O:Int) (U:Nat) (Z:Nat→Int) (V:Nat) (J:Nat→Int) (W B:Nat→Int) (h:List Int→Bool) (g:List Int→Int) (c:Nat) (b:ak) (H:aa):eO.N4 cS (iR n 73 83 2 4) (il aK n 0) (hints (jo k++[(6,.nils)])) (ay::ay::mM O U Z V J W B h g c b::H) =
 (fun (Z0:List AV)=>Tr.ok ([(1,AV.ptr 2 0 0 0,none),(3,AV.ptr 2 2 0 0,none),(4,AV.ptr 2 3 0 0,none),(5,AV.int .i64 k,none),(6,AV.nils,none),(18,AV.map 2 1,none)],ay::ay::{ lock:=false,bs:=[(0,ak.row (Row.G Z0)),(0,ak.fmap (KK.num IntKind.u64) h g c),(0,ak.row (Row.G [AV.map 0 1])),(0,ak.row (Row.G [AV.fn (Fn.func 71) Z0 []])),(0,b)] } :: H)) [AV.ptrT none (Row.M [dp.one (AV.int .i64 O),dp.one (AV.slcT none (Row.M [dp.arr .i64 Z (bR U 4)]) 4 U false),dp.one (AV.slcT none (Row.M [dp.arr .i64 J (bR V 2)]) 2 V false),dp.arr .i64 W 20,dp.arr IntKind.u64 B 10]) 0]:=by kernel_rfl
theorem tB (n:Nat) (k x y x0:Int) (v m:Nat) (z:Nat→Int) (H:aa):bY.uB cL (iR n 73 83 2 4) (il aK n 0) aS aR 0 1 (.int .u64 x,.int .i64 y) (hints (jo k++[(6,.slc 0 2 v 0 1 m none),(19,.ptr 0 0 0 0)])) (⟨false,[(0,.dead),(0,.row (.I .u64 [x0])),(v,.row (.M [.arr .u64 z m]))]⟩::H) =
 Tr.req (eT m 1 8) (Tr.req (cg 0 0) (Tr.req (eU 1 1) (Tr.req (cg v v) (Tr.req (cg (ar 0 m) m) (Tr.ok ([(1,AV.ptr 2 0 0 0,none),(3,AV.ptr 2 2 0 0,none),(4,AV.ptr 2 3 0 0,none),(5,AV.int .i64 k,none),(6,AV.slc 0 2 (Nat.succ v) 0 1 (ar m 1) none,none),(19,AV.ptr 0 0 0 0,none)],{ lock:=false,bs:=[(0,ak.dead),(0,ak.row (Row.I IntKind.u64 [x0])),(Nat.succ v,ak.row (Row.M [dp.arr IntKind.u64 (mb (jI z 0) m (aC [x])) (ar m 1)]))] } :: H)))))):=by kernel_rfl
theorem tX (n:Nat) (k x0:Int) (v m:Nat) (z:Nat→Int) (H:aa):bY.wj cL (iR n 73 83 2 4) (il aK n 0) (hints (jo k++[(6,.slc 0 2 v 0 1 m none),(19,.ptr 0 0 0 0)])) (⟨false,[(0,.dead),(0,.row (.I .u64 [x0])),(v,.row (.M [.arr .u64 z m]))]⟩::H) =
 Tr.ok ([(1,AV.ptr 2 0 0 0,none),(3,AV.ptr 2 2 0 0,none),(4,AV.ptr 2 3 0 0,none),(5,AV.int .i64 k,none),(6,AV.slc 0 2 v 0 1 m none,none),(19,AV.ptr 0 0 0 0,none),(20,AV.tup [AV.bool false],none),(21,AV.bool false,none)],{ lock:=false,bs:=[(0,ak.dead),(0,ak.row (Row.I IntKind.u64 [x0])),(v,ak.row (Row.M [dp.arr IntKind.u64 z m]))] } :: H):=by kernel_rfl
theorem tN (n:Nat) (k:Int) (H:aa):bY.wj cL (iR n 73 83 2 4) (il aK n 0) (hints (jo k++[(6,.nils),(19,.ptr 0 0 0 0)])) (⟨false,[(0,.dead)]⟩::H) =
 Tr.ok ([(1,AV.ptr 2 0 0 0,none),(3,AV.ptr 2 2 0 0,none),(4,AV.ptr 2 3 0 0,none),(5,AV.int .i64 k,none),(6,AV.nils,none),(19,AV.ptr 0 0 0 0,none),(20,AV.tup [AV.bool false],none),(21,AV.bool false,none)],{ lock:=false,bs:=[(0,ak.dead)] } :: H):=by kernel_rfl
end Go.Eng.Q
end
section
namespace Go.Eng.Q
open Go.Proofs
noncomputable def gv (x0:Int) (v m:Nat) (z:Nat→Int):bB:=⟨false,[(0,.dead),(0,.row (.I .u64 [x0])),(v,.row (.M [.arr .u64 z m]))]⟩
noncomputable def Sc (k:Int) (v m:Nat):aD:=jo k++[(6,.slc 0 2 v 0 1 m none),(19,.ptr 0 0 0 0),(20,.tup [.bool false]),(21,.bool false)]
noncomputable def oT (n:Nat):Cx:=iR n 73 83 2 4
noncomputable def FF (k:Int) (v m:Nat) (j:Int):aD:=jo k++[(28,.slc 0 2 v 0 1 m none),(29,.int .i64 (Int.ofNat m)),(30,.int .i64 j)]
noncomputable def GI (k:Int) (v m:Nat) (x j:Int) (U:Nat) (c:Int):aD:=jo k++[(9,.int .u64 x),(28,.slc 0 2 v 0 1 m none),(29,.int .i64 (Int.ofNat m)),(30,.int .i64 j),(39,.int .i64 (Int.ofNat U)),(40,.int .i64 c)]
theorem t10 (n:Nat) (k x0:Int) (v m:Nat) (z:Nat→Int) (G G':aa):aJ (oT n) (il aK n 0) (bP aS 4 (FF k v m (Int.ofNat 0)) (gv x0 v m z::ay::G) (.ok (.normal,hints (FF k v m (Int.ofNat m)++[(31,.bool false)]),gv x0 v m z::ay::G'))) aR rF (hints (Sc k v m)) (gv x0 v m z::ay::G) =
 (fun (Z0:aD)=>Tr.reqP (Z0=Z0∧gv x0 v m z::ay::G=gv x0 v m z::ay::G) (Tr.ok (Ex.normal,[(1,AV.ptr 2 0 0 0,none),(3,AV.ptr 2 2 0 0,none),(4,AV.ptr 2 3 0 0,none),(5,AV.int .i64 k,none),(28,AV.slc 0 2 v 0 1 m none,none),(29,AV.int .i64 (Int.ofNat m),none),(30,AV.int .i64 (Int.ofNat m),none),(31,AV.bool false,none)],gv x0 v m z::ay::G'))) [(1,AV.ptr 2 0 0 0),(3,AV.ptr 2 2 0 0),(4,AV.ptr 2 3 0 0),(5,AV.int .i64 k),(28,AV.slc 0 2 v 0 1 m none),(29,AV.int .i64 (Int.ofNat m)),(30,AV.int .i64 (Int.ofNat 0))]:=by kernel_rfl
theorem tO (n:Nat) (h':List Int→Bool) (g':List Int→Int) (q':Nat) (k j x0:Int) (v m:Nat) (z:Nat→Int) (O:Int) (U:Nat) (Z:Nat→Int) (V:Nat) (J:Nat→Int) (W B:Nat→Int) (h:List Int→Bool) (g:List Int→Int) (q:Nat) (b:ak) (G:aa):aJ (oT n) (il aK n 0) (bP aS 6 (GI k v m (z (au 0 j 1)) j U (Int.ofNat 0)) (gv x0 v m z::ay::mM O U Z V J W B h g q b::G) (.ok (.normal,hints (GI k v m (z (au 0 j 1)) j U (Int.ofNat U)++[(41,.bool false)]),gv x0 v m z::ay::mM O U Z V J W B h' g' q' b::G))) aR (lI [0,1,1,1,0,0] cB) (hints (FF k v m j)) (gv x0 v m z::ay::mM O U Z V J W B h g q b::G) =
 (fun (Z0:aD)=>Tr.ite (bE j (Int.ofNat m)) (Tr.req (cQ j m) (Tr.req (cg v v) (Tr.req (cK (au 0 j 1) m) (Tr.reqP (Z0=Z0∧gv x0 v m z::ay::mM O U Z V J W B h g q b::G=gv x0 v m z::ay::mM O U Z V J W B h g q b::G) (Tr.ok (Ex.normal,[(1,AV.ptr 2 0 0 0,none),(3,AV.ptr 2 2 0 0,none),(4,AV.ptr 2 3 0 0,none),(5,AV.int .i64 k,none),(28,AV.slc 0 2 v 0 1 m none,none),(29,AV.int .i64 (Int.ofNat m),none),(30,AV.int .i64 (bm .i64 j (Int.ofNat 1)),none)],gv x0 v m z::ay::{ lock:=false,bs:=[(0,ak.row (Row.G [shV O U Z V J W B])),(0,ak.fmap (KK.num IntKind.u64) (mZ h' [z (au 0 j 1)] false) (m4 g' [z (au 0 j 1)] (Int.ofNat 0)) (yq (h' [z (au 0 j 1)]) q')),(0,ak.row (Row.G [AV.map 0 1])),(0,ak.row (Row.G [AV.fn (Fn.func 71) [shV O U Z V J W B] []])),(0,b)] } :: G)))))) (Tr.ok (Ex.exit 4,[(1,AV.ptr 2 0 0 0,none),(3,AV.ptr 2 2 0 0,none),(4,AV.ptr 2 3 0 0,none),(5,AV.int .i64 k,none),(28,AV.slc 0 2 v 0 1 m none,none),(29,AV.int .i64 (Int.ofNat m),none),(30,AV.int .i64 j,none),(31,AV.bool false,some 1)],gv x0 v m z::ay::mM O U Z V J W B h g q b::G))) [(1,AV.ptr 2 0 0 0),(3,AV.ptr 2 2 0 0),(4,AV.ptr 2 3 0 0),(5,AV.int .i64 k),(9,AV.int IntKind.u64 (z (au 0 j 1))),(28,AV.slc 0 2 v 0 1 m none),(29,AV.int .i64 (Int.ofNat m)),(30,AV.int .i64 j),(39,AV.int .i64 (Int.ofNat U)),(40,AV.int .i64 (Int.ofNat 0))]:=by kernel_rfl
theorem tI (n:Nat) (k j x x0 c:Int) (v m:Nat) (z:Nat→Int) (O:Int) (U:Nat) (Z:Nat→Int) (V:Nat) (J:Nat→Int) (W B:Nat→Int) (h:List Int→Bool) (g:List Int→Int) (q:Nat) (b:ak) (G:aa):aJ (oT (n+1)) (il aK n 1) aS aR (lI [0,1,1,1,0,0,1,1,0,0,1,0,1,0,0] cB) (hints (GI k v m x j U c)) (gv x0 v m z::ay::mM O U Z V J W B h g q b::G) =
 (fun (Z0:aO)=>Tr.ite (bE c (Int.ofNat U)) (Tr.req (dQ (Int.ofNat 0) c) (Tr.ite (bV (qd IntKind.u64 x (fU IntKind.u64 (Int.ofNat 1) c)) (Int.ofNat 0)) (Tr.req (cQ c 10) (Tr.req (dN (au 23 c 1) 1 23 10) (Tr.ite (bV (FQ IntKind.u64 (B (c9 (au 23 c 1) 23)) x) (Int.ofNat 0)) (Tr.req (cQ c 10) (Tr.req (dN (au 3 c 2) 1 3 20) (Tr.req (dN (ar (au 3 c 2) 1) 1 3 20) (Tr.ite (dQ (W (c9 (au 3 c 2) 3)) k) (Tr.ite (dQ k (W (c9 (ar (au 3 c 2) 1) 3))) (Tr.req (dQ (Int.ofNat 0) c) (Tr.req (cr (eU 0 0) (eU 0 1)) (Tr.ok (Ex.normal,Z0,gv x0 v m z::ay::{ lock:=false,bs:=[(0,ak.row (Row.G [shV O U Z V J W B])),(0,ak.fmap (KK.num IntKind.u64) (mZ h [wC IntKind.u64 x (fU IntKind.u64 (Int.ofNat 1) c)] true) (m4 g [wC IntKind.u64 x (fU IntKind.u64 (Int.ofNat 1) c)] (bm .i64 (g [wC IntKind.u64 x (fU IntKind.u64 (Int.ofNat 1) c)]) (g [x]))) (qZ (h [wC IntKind.u64 x (fU IntKind.u64 (Int.ofNat 1) c)]) q)),(0,ak.row (Row.G [AV.map 0 1])),(0,ak.row (Row.G [AV.fn (Fn.func 71) [shV O U Z V J W B] []])),(0,b)] } :: G)))) (Tr.ok (Ex.normal,Z0,gv x0 v m z::ay::mM O U Z V J W B h g q b::G))) (Tr.ok (Ex.normal,Z0,gv x0 v m z::ay::mM O U Z V J W B h g q b::G)))))) (Tr.ok (Ex.normal,Z0,gv x0 v m z::ay::mM O U Z V J W B h g q b::G))))) (Tr.ok (Ex.normal,Z0,gv x0 v m z::ay::mM O U Z V J W B h g q b::G)))) (Tr.ok (Ex.exit 6,[(1,AV.ptr 2 0 0 0,none),(3,AV.ptr 2 2 0 0,none),(4,AV.ptr 2 3 0 0,none),(5,AV.int .i64 k,none),(9,AV.int IntKind.u64 x,none),(28,AV.slc 0 2 v 0 1 m none,none),(29,AV.int .i64 (Int.ofNat m),none),(30,AV.int .i64 j,none),(39,AV.int .i64 (Int.ofNat U),none),(40,AV.int .i64 c,none),(41,AV.bool false,some 1)],gv x0 v m z::ay::mM O U Z V J W B h g q b::G))) [(1,AV.ptr 2 0 0 0,none),(3,AV.ptr 2 2 0 0,none),(4,AV.ptr 2 3 0 0,none),(5,AV.int .i64 k,none),(9,AV.int IntKind.u64 x,none),(28,AV.slc 0 2 v 0 1 m none,none),(29,AV.int .i64 (Int.ofNat m),none),(30,AV.int .i64 j,none),(39,AV.int .i64 (Int.ofNat U),none),(40,AV.int .i64 (bm .i64 c (Int.ofNat 1)),none)]:=by kernel_rfl
end Go.Eng.Q
end
section
namespace Go.Eng.Q
open Go.Proofs
theorem iE {n f nt d i:Nat} {c:Code} {callR:bw} {bl:eV} {rg:nZ} {fr:aD} {H:aa} {T:Tr db} (e:aJ (iR n f nt d i) callR bl rg c (hints fr) H=T) (hC:callR.Ok (cd n)) (hB:bl.Ok (iR n f nt d i) c) (hR:rg.Ok (iR n f nt d i) c) {y:Ex×aD×aa} (h:T.all fun x=>x.st=y):exec (iR n f nt d i) c fr H=some y:=by
 obtain ⟨x,h1,rfl⟩:=h;have:=ga (cx:=iR n f nt d i) hC c hB hR (hints fr) H x (by rw[e];exact h1);rw[aq] at this;exact this
theorem mB {n f nt d i:Nat} {c:Code} {callR:bw} {bl:eV} {rg:nZ} {fr:aD} {H:aa} {T:Tr db} {Q:Ex×aD×aa→Prop} (e:aJ (iR n f nt d i) callR bl rg c (hints fr) H=T) (hC:callR.Ok (cd n)) (hB:bl.Ok (iR n f nt d i) c) (hR:rg.Ok (iR n f nt d i) c) (h:T.all fun x=>Q x.st):∃ y,exec (iR n f nt d i) c fr H=some y∧Q y:=by
 obtain ⟨x,h1,h2⟩:=h;have:=ga (cx:=iR n f nt d i) hC c hB hR (hints fr) H x (by rw[e];exact h1);rw[aq] at this;exact ⟨_,this,h2⟩
theorem Nf {n f nt d i:Nat} {c:Code} (id:Nat) (F:Nat→aD) (G:Nat→aa) (N:Nat) (p:Nat→Bool) (X:Nat→aD×aa) (Y:aD×aa) (hN:N<99999)
 (hs:∀ j,j<N→∃ x,exec (iR n f nt d i) c (F j) (G j)=some x∧if p j=true then x=(.ret,X j) else x.1=.normal∧tidy (aY (G 0)) x.2.1 x.2.2=(F (j+1),G (j+1)))
 (he:exec (iR n f nt d i) c (F N) (G N)=some (.exit id,Y)):exec (iR n f nt d i) (.block id (.loop c)) (F 0) (G 0)=some (cond (dH p N) (.ret,X (fN p N 0)) (.normal,Y)):=by
 have key:=jg (body:=exec (iR n f nt d i) c) (n:=aY (G 0)) F G N p (fun j=>if j<N then (.ret,X j) else (.exit id,Y))
  (fun j hj hp=>by
    obtain ⟨x,h1,h2⟩:=hs j hj;rw[if_neg (by rw[hp];simp)] at h2;obtain ⟨e,f1,g1⟩:=x;obtain ⟨rfl,h3⟩:=h2;exact ⟨_,_,h1,h3⟩)
  (fun j hj hp=>by
    obtain ⟨x,h1,h2⟩:=hs j hj;rw[if_pos hp] at h2;subst h2;rw[if_pos hj];exact ⟨h1,by simp⟩)
  (by
    rw[if_neg (by omega)];exact ⟨he,by simp⟩) N 0 100000 (by omega) (by omega)
 cases hc:dH p N with
 | true =>
   have:=sR hc
   rw[if_pos this] at key
   exact cP (fun id' h=>by cases h) key
 | false =>
   have:=vX hc
   rw[if_neg (by omega)] at key
   exact iF key

theorem La {n f nt d i:Nat} {c:Code} (id:Nat) (F:Nat→aD) (G:Nat→aa) (N:Nat) (Y:aD×aa) (hN:N<99999)
 (hs:∀ j,j<N→∃ x,exec (iR n f nt d i) c (F j) (G j)=some x∧(x.1=.normal∧tidy (aY (G 0)) x.2.1 x.2.2=(F (j+1),G (j+1))))
 (he:exec (iR n f nt d i) c (F N) (G N)=some (.exit id,Y)):exec (iR n f nt d i) (.block id (.loop c)) (F 0) (G 0)=some (.normal,Y):=by
 have:=Nf id F G N (fun _=>false) (fun _=>Y) Y hN (fun j hj=>by
  obtain ⟨x,h1,h2⟩:=hs j hj;exact ⟨x,h1,by rw[if_neg (by simp)];exact h2⟩) he
 have h0:dH (fun _=>false) N=false:=by
  cases h:dH (fun _=>false) N with
  | false=>rfl
  | true=>obtain ⟨i2,_,h2⟩:=(cj _ _).1 h;cases h2
 rw[h0] at this
 exact this

structure CS where
 h:List Int→Bool
 g:List Int→Int
 q:Nat
noncomputable def Rt (x c:Int) (s:CS):CS:=⟨mZ s.h [wC .u64 x (fU .u64 (Int.ofNat 1) c)] true,m4 s.g [wC .u64 x (fU .u64 (Int.ofNat 1) c)] (bm .i64 (s.g [wC .u64 x (fU .u64 (Int.ofNat 1) c)]) (s.g [x])),qZ (s.h [wC .u64 x (fU .u64 (Int.ofNat 1) c)]) s.q⟩
noncomputable def ID (W B:Nat→Int) (k x c:Int):Bool:=cond (bV (qd .u64 x (fU .u64 (Int.ofNat 1) c)) (Int.ofNat 0)) (cond (bV (FQ .u64 (B (c9 (au 23 c 1) 23)) x) (Int.ofNat 0)) (cond (dQ (W (c9 (au 3 c 2) 3)) k) (dQ k (W (c9 (ar (au 3 c 2) 1) 3))) false) false) false
noncomputable def KD (W B:Nat→Int) (k x c:Int) (s:CS):CS:=cond (ID W B k x c) (Rt x c s) s
noncomputable def Cp (W B:Nat→Int) (k x:Int):Nat→CS→CS
 | 0,s=>s
 | j+1,s=>KD W B k x (Int.ofNat j) (Cp W B k x j s)
noncomputable def RE (x:Int) (s:CS):CS:=⟨mZ s.h [x] false,m4 s.g [x] (Int.ofNat 0),yq (s.h [x]) s.q⟩
noncomputable def On (W B:Nat→Int) (k:Int) (n:Nat) (x:Int) (s:CS):CS:=RE x (Cp W B k x n s)
noncomputable def Ic (W B:Nat→Int) (k:Int) (n:Nat) (z:Nat→Int):Nat→CS→CS
 | 0,s=>s
 | j+1,s=>On W B k n (z j) (Ic W B k n z j s)
section
variable (n:Nat) (k x0:Int) (v m:Nat) (z:Nat→Int) (O:Int) (U:Nat) (Z:Nat→Int) (V:Nat) (J:Nat→Int) (W B:Nat→Int) (b:ak) (G:aa)
noncomputable def iP (s:CS):bB:=mM O U Z V J W B s.h s.g s.q b
theorem Ys (j x:Int) (c:Nat) (hc:c<U) (hl:U≤10) (s:CS):∃ y,exec (oT (n+1)) (lI [0,1,1,1,0,0,1,1,0,0,1,0,1,0,0] cB) (GI k v m x j U (Int.ofNat c)) (gv x0 v m z::ay::iP O U Z V J W B b s::G)=some y ∧
 (y.1=.normal∧tidy 3 y.2.1 y.2.2=(GI k v m x j U (Int.ofNat (c+1)),gv x0 v m z::ay::iP O U Z V J W B b (KD W B k x (Int.ofNat c) s)::G)):=by
 refine mB (Q:=fun y=>y.1=.normal∧tidy 3 y.2.1 y.2.2=(GI k v m x j U (Int.ofNat (c+1)),gv x0 v m z::ay::iP O U Z V J W B b (KD W B k x (Int.ofNat c) s)::G)) (tI n k j x x0 (Int.ofNat c) v m z O U Z V J W B s.h s.g s.q b G) (cD n 1) (ai _ _) (aj _ _) ?_
 have ec:bm .i64 (Int.ofNat c) (Int.ofNat 1)=Int.ofNat (c+1):=by
  have:=CE c (by omega);rw[fX];exact this
 have no:ID W B k x (Int.ofNat c)=false→KD W B k x (Int.ofNat c) s=s:=fun h=>by unfold KD;rw[h];rfl
 have yes:ID W B k x (Int.ofNat c)=true→KD W B k x (Int.ofNat c) s=Rt x (Int.ofNat c) s:=fun h=>by unfold KD;rw[h];rfl
 refine Tr.af (fun h0=>?_) (fun h0=>?_)
 · refine Tr.ab wG ?_
   refine Tr.af (fun h1=>?_) (fun h1=>?_)
   · refine Tr.ab wG (Tr.ab wG ?_)
     refine Tr.af (fun h2=>?_) (fun h2=>?_)
     · refine Tr.ab wG (Tr.ab wG (Tr.ab wG ?_))
       refine Tr.af (fun h3=>?_) (fun h3=>?_)
       · refine Tr.af (fun h4=>?_) (fun h4=>?_)
         · refine Tr.ab wG (Tr.ab wG ?_)
           rw[yes (by unfold ID;rw[h1,h2,h3,h4];rfl),ec]
           exact Tr.ag ⟨rfl,rfl⟩
         · rw[no (by unfold ID;rw[h1,h2,h3,h4];rfl),ec]
           exact Tr.ag ⟨rfl,rfl⟩
       · rw[no (by unfold ID;rw[h1,h2,h3];rfl),ec]
         exact Tr.ag ⟨rfl,rfl⟩
     · rw[no (by unfold ID;rw[h1,h2];rfl),ec]
       exact Tr.ag ⟨rfl,rfl⟩
   · rw[no (by unfold ID;rw[h1];rfl),ec]
     exact Tr.ag ⟨rfl,rfl⟩
 · exfalso
   simp (disch:=omega) only[nV,nW] at h0
   omega
theorem Wx (j x:Int) (hl:U≤10) (s:CS):exec (oT (n+1)) (lI [0,1,1,1,0,0,1,1,0,0,1,0,1,0,0] cB) (GI k v m x j U (Int.ofNat U)) (gv x0 v m z::ay::iP O U Z V J W B b s::G)=some (.exit 6,GI k v m x j U (Int.ofNat U)++[(41,.bool false)],gv x0 v m z::ay::iP O U Z V J W B b s::G):=by
 refine iE (tI n k j x x0 (Int.ofNat U) v m z O U Z V J W B s.h s.g s.q b G) (cD n 1) (ai _ _) (aj _ _) ?_;refine Tr.af (fun h0=>?_) (fun h0=>Tr.ag rfl);exfalso;simp (disch:=omega) only[nV,nW] at h0;omega
theorem VQ (j x:Int) (hl:U≤10) (s:CS):exec (oT (n+1)) (.block 6 (.loop (lI [0,1,1,1,0,0,1,1,0,0,1,0,1,0,0] cB))) (GI k v m x j U (Int.ofNat 0)) (gv x0 v m z::ay::iP O U Z V J W B b s::G) =
 some (.normal,GI k v m x j U (Int.ofNat U)++[(41,.bool false)],gv x0 v m z::ay::iP O U Z V J W B b (Cp W B k x U s)::G):=by
 refine La (n:=n+1) (f:=73) (nt:=83) (d:=2) (i:=4) 6 (fun c=>GI k v m x j U (Int.ofNat c)) (fun c=>gv x0 v m z::ay::iP O U Z V J W B b (Cp W B k x c s)::G) U (_,_) (by omega) (fun c hc=>?_) ?_
 · exact Ys n k x0 v m z O U Z V J W B b G j x c hc hl (Cp W B k x c s)
 · exact Wx n k x0 v m z O U Z V J W B b G j x hl _
theorem b6:∀ b,(6,b) ∈ aP (part Tryd.f73 [1,1,1,0,1,0,1,0,1,1,1,0,0])→b=.loop (part Tryd.f73 [1,1,1,0,1,0,1,0,1,1,1,0,0,1,1,0,0,1,0,1,0,0]):=eA (by kernel_rfl)
theorem b4:∀ b,(4,b) ∈ aP (part Tryd.f73 [1,1,1,0,1,0,1,0,1,1])→b=.loop (part Tryd.f73 [1,1,1,0,1,0,1,0,1,1,1,0,0]):=eA (by kernel_rfl)
end
end Go.Eng.Q
end
section
namespace Go.Eng.Q
open Go.Proofs Go.Eng.Gall
theorem MQ (x:Nat):BitVec.ofInt 64 (x:Int)=BitVec.ofNat 64 x:=by
 apply BitVec.eq_of_toInt_eq;simp
theorem j7 {x:Nat} (h:x<2 ^ 64):IntKind.u64.wrap (x:Int)=x:=Go.IntWalk.u64_in _ (by omega)
theorem RH {x y:Nat} (hx:x<2 ^ 63) (hy:y<2 ^ 63):wC .u64 (x:Int) (y:Int)=((x ||| y:Nat):Int):=by
 rw[ui];show IntKind.u64.wrap ((BitVec.ofInt 64 (x:Int) ||| BitVec.ofInt 64 (y:Int)).toNat:Nat)=_;have h1:x ||| y<2 ^ 63:=Nat.or_lt_two_pow hx hy;rw[MQ,MQ,BitVec.toNat_or,BitVec.toNat_ofNat,BitVec.toNat_ofNat,Nat.mod_eq_of_lt (by omega),Nat.mod_eq_of_lt (by omega),j7 (by omega)]
theorem MK {x y:Nat} (hx:x<2 ^ 63) (hy:y<2 ^ 63):qd .u64 (x:Int) (y:Int)=((x &&& y:Nat):Int):=by
 rw[rN];show IntKind.u64.wrap ((BitVec.ofInt 64 (x:Int) &&& BitVec.ofInt 64 (y:Int)).toNat:Nat)=_;have h1:x &&& y<2 ^ 63:=Nat.and_lt_two_pow x hy;rw[MQ,MQ,BitVec.toNat_and,BitVec.toNat_ofNat,BitVec.toNat_ofNat,Nat.mod_eq_of_lt (by omega),Nat.mod_eq_of_lt (by omega),j7 (by omega)]
theorem Cn {i:Nat} (hi:i<62):fU .u64 (Int.ofNat 1) (Int.ofNat i)=((2 ^ i:Nat):Int):=by
 rw[xZ];show IntKind.u64.wrap (1*2 ^ min i 64)=_;have:(2:Nat) ^ i≤2 ^ 62:=Nat.pow_le_pow_right (by decide) (by omega);rw[Nat.min_eq_left (by omega),Int.one_mul,show (2:Int) ^ i=((2 ^ i:Nat):Int) from by rw[Int.natCast_pow];rfl];generalize (2:Nat) ^ i=P at *;exact j7 (by omega)
theorem F5 {X c:Nat} (hX:X<2 ^ 62) (hc:c<62):bV (qd .u64 (X:Int) (fU .u64 (Int.ofNat 1) (Int.ofNat c))) (Int.ofNat 0)=!X.testBit c:=by
 have:(2:Nat) ^ c≤2 ^ 61:=Nat.pow_le_pow_right (by decide) (by omega);rw[Cn hc,MK (by omega) (by omega),bg];have key:(X &&& 2 ^ c=0)↔X.testBit c=false:=by
  constructor
  · intro h;have:=congrArg (fun y=>y.testBit c) h;simpa[Nat.testBit_and,Nat.testBit_two_pow_self] using this
  · intro h;apply Nat.eq_of_testBit_eq;intro i;rw[Nat.testBit_and,Nat.testBit_two_pow,Nat.zero_testBit];by_cases e:c=i
    · subst e;rw[h];rfl
    · rw[decide_eq_false e,Bool.and_false]
 rw[Bool.eq_iff_iff,beq_iff_eq,Bool.not_eq_true',← key];show ((X &&& 2 ^ c:Nat):Int)=0↔_;omega
theorem F6 {X c:Nat} (hX:X<2 ^ 62) (hc:c<62) (h:X.testBit c=false):wC .u64 (X:Int) (fU .u64 (Int.ofNat 1) (Int.ofNat c))=((X+2 ^ c:Nat):Int):=by
 have:(2:Nat) ^ c≤2 ^ 61:=Nat.pow_le_pow_right (by decide) (by omega);rw[Cn hc,RH (by omega) (by omega),Ht h]
noncomputable def okW (W B:Nat→Int) (k X c:Nat):Bool:=bV (FQ .u64 (B c) (X:Int)) (Int.ofNat 0) && (dQ (W (2*c)) (k:Int) && dQ (k:Int) (W (2*c+1)))
theorem NT (W B:Nat→Int) (k:Nat) {X c:Nat} (hX:X<2 ^ 62) (hc:c<62):ID W B (k:Int) (X:Int) (Int.ofNat c)=(!X.testBit c && okW W B k X c):=by
 unfold ID okW;rw[F5 hX hc];simp only[bt,aI,dj];rw[show 23+(Int.ofNat c).toNat*1-23=c by show 23+c*1-23=c;omega,show 3+(Int.ofNat c).toNat*2-3=2*c by show 3+c*2-3=2*c;omega,show 3+(Int.ofNat c).toNat*2+1-3=2*c+1 by show 3+c*2+1-3=2*c+1;omega];cases (!X.testBit c)<;>cases (bV (FQ .u64 (B c) (X:Int)) (Int.ofNat 0))<;>cases (dQ (W (2*c)) (k:Int))<;>cases (dQ (k:Int) (W (2*c+1)))<;>rfl
def mL (h:Nat→Bool) (g:Nat→Nat) (q:Nat):CS:=⟨fun l=>match l with | [y]=>decide (0≤y) && h y.toNat | _=>false,fun l=>match l with | [y]=>if 0≤y then (g y.toNat:Int) else 0 | _=>0,q⟩
theorem tx (h:Nat→Bool) (g:Nat→Nat) (q:Nat) (X:Nat) (b:Bool):fG (mL h g q).h [(X:Int)] b=(mL (fun y=>if y=X then b else h y) g q).h:=by
 funext l;unfold fG;by_cases e:l=[(X:Int)]
 · subst e;rw[if_pos rfl];show b=(decide ((0:Int)≤(X:Int)) && (if (X:Int).toNat=X then b else _));rw[if_pos (Int.toNat_natCast X),decide_eq_true (by omega)];simp
 · rw[if_neg e];match l,e with
   | [],_=>rfl
   | [y],e =>
     show (decide (0≤y) && h y.toNat)=(decide (0≤y) && (if y.toNat=X then b else h y.toNat));by_cases h0:0≤y
     · rw[if_neg (fun hy=>e (by rw[show y=(X:Int) by omega]))]
     · rw[decide_eq_false h0];rfl
   | _::_::_,_=>rfl
theorem tz (h:Nat→Bool) (g:Nat→Nat) (q:Nat) (X:Nat) (z:Nat):jd (mL h g q).g [(X:Int)] (z:Int)=(mL h (fun y=>if y=X then z else g y) q).g:=by
 funext l;unfold jd;by_cases e:l=[(X:Int)]
 · subst e;rw[if_pos rfl];show (z:Int)=(if (0:Int)≤(X:Int) then (((if (X:Int).toNat=X then z else _):Nat):Int) else 0);rw[if_pos (by omega),if_pos (Int.toNat_natCast X)]
 · rw[if_neg e];match l,e with
   | [],_=>rfl
   | [y],e =>
     show (if 0≤y then (g y.toNat:Int) else 0)=(if 0≤y then (((if y.toNat=X then z else g y.toNat):Nat):Int) else 0);by_cases h0:0≤y
     · rw[if_pos h0,if_pos h0,if_neg (fun hy=>e (by rw[show y=(X:Int) by omega]))]
     · rw[if_neg h0,if_neg h0]
   | _::_::_,_=>rfl
theorem G4 (h:Nat→Bool) (g:Nat→Nat) (q X:Nat):(mL h g q).g [(X:Int)]=(g X:Int):=by
 show (if (0:Int)≤(X:Int) then (g (X:Int).toNat:Int) else 0)=_;rw[if_pos (by omega),Int.toNat_natCast]
def Gd (s:CS):Prop:=∃ es,rL (.num .u64) es s.h s.g s.q
theorem GO {h:List Int→Bool} {g:List Int→Int} {q:Nat} (hE:∃ es,rL (.num .u64) es h g q) (a y:Int):∃ es,rL (.num .u64) es (fG h [a] true) (jd g [a] y) (vi (h [a]) q):=by
 obtain ⟨es,hE⟩:=hE;cases hh:h [a] with
 | false=>exact ⟨_,hh ▸ hE.UQ (n:=[a]) (y:=y) rfl (r:=none) hh (fun j hj=>by cases hj)⟩
 | true =>
   obtain ⟨_,j,j1,j2⟩:=hE.all _ hh;obtain ⟨n,e1,e2⟩:=hE.ent j j1;have:eM (.num .u64) n=eM (.num .u64) [a]:=by rw[← j2,e1]
   have hn:n=[a]:=jx (hE.fit e2) rfl this;subst hn;exact ⟨_,hh ▸ hE.UQ (n:=[a]) (y:=y) rfl (r:=some j) hh (fun j' hj'=>by cases hj';exact ⟨j1,e1⟩)⟩
theorem Nm {h:List Int→Bool} {g:List Int→Int} {q:Nat} (hE:∃ es,rL (.num .u64) es h g q) (a:Int):∃ es,rL (.num .u64) es (fG h [a] false) (jd g [a] 0) (yp (h [a]) q):=by
 obtain ⟨es,hE⟩:=hE;cases hh:h [a] with
 | false=>exact ⟨_,hh ▸ hE.del (n:=[a]) rfl (r:=none) hh (fun j hj=>by cases hj)⟩
 | true =>
   obtain ⟨_,j,j1,j2⟩:=hE.all _ hh;obtain ⟨n,e1,e2⟩:=hE.ent j j1;have:eM (.num .u64) n=eM (.num .u64) [a]:=by rw[← j2,e1]
   have hn:n=[a]:=jx (hE.fit e2) rfl this;subst hn;exact ⟨_,hh ▸ hE.del (n:=[a]) rfl (r:=some j) hh (fun j' hj'=>by cases hj';exact ⟨j1,e1⟩)⟩
theorem Ie (W B:Nat→Int) (k X:Nat) (hX:X<2 ^ 10) (h:Nat→Bool) (g:Nat→Nat) (q:Nat) (hG:Gd (mL h g q)):∀ j,j≤10→(∀ i,i≤j→∀ Y,g Y+g X*cT (okW W B) i k X Y<2 ^ 60) →
 ∃ q',Cp W B (k:Int) (X:Int) j (mL h g q)=mL (fun Y=>h Y || decide (0<cT (okW W B) j k X Y)) (fun Y=>g Y+g X*cT (okW W B) j k X Y) q'∧Gd (Cp W B (k:Int) (X:Int) j (mL h g q))
 | 0,_,_=>⟨q,by
    have e:∀ Y,cT (okW W B) 0 k X Y=0:=fun Y=>rfl;simp only[e,Nat.mul_zero,Nat.add_zero];show mL h g q=_;congr 1;funext Y;simp,hG⟩
 | j + 1,hj,hb=>by
   obtain ⟨q',e,hG'⟩:=Ie W B k X hX h g q hG j (by omega) (fun i hi=>hb i (by omega));have hX2:X<2 ^ 62:=by omega
   have e2:Cp W B (k:Int) (X:Int) (j+1) (mL h g q)=KD W B (k:Int) (X:Int) (Int.ofNat j) (Cp W B (k:Int) (X:Int) j (mL h g q)):=rfl;rw[e2];rw[e] at hG' ⊢;unfold KD;rw[NT W B k hX2 (by omega)];cases ho:(!X.testBit j && okW W B k X j) with
   | false =>
     refine ⟨q',?_,hG'⟩;have:∀ Y,cT (okW W B) (j+1) k X Y=cT (okW W B) j k X Y:=fun Y=>by rw[Bq,ho];simp
     simp only[this];rfl
   | true =>
     have hbit:X.testBit j=false:=by
      cases hx:X.testBit j with
      | false=>rfl
      | true=>rw[hx] at ho;cases ho
     have hc:∀ Y,cT (okW W B) (j+1) k X Y=cT (okW W B) j k X Y+if X+2 ^ j=Y then 1 else 0:=fun Y=>by rw[Bq,ho];simp
     have hself:=CU (ok:=okW W B) j k X;have hp:=Nat.two_pow_pos j;rw[cond_true];have e3:Rt (X:Int) (Int.ofNat j) (mL (fun Y=>h Y || decide (0<cT (okW W B) j k X Y)) (fun Y=>g Y+g X*cT (okW W B) j k X Y) q') =
      mL (fun Y=>h Y || decide (0<cT (okW W B) (j+1) k X Y)) (fun Y=>g Y+g X*cT (okW W B) (j+1) k X Y) (vi ((mL (fun Y=>h Y || decide (0<cT (okW W B) j k X Y)) (fun Y=>g Y+g X*cT (okW W B) j k X Y) q').h [((X+2 ^ j:Nat):Int)]) q'):=by
      unfold Rt
      rw[F6 hX2 (by omega) hbit,iA,iB,mw,G4,G4,fX,hself]
      have hb2:=hb (j+1) (by omega) (X+2 ^ j)
      rw[hc,if_pos rfl,Nat.mul_add] at hb2
      rw[show (((g (X+2 ^ j)+g X*cT (okW W B) j k X (X+2 ^ j):Nat):Int)+((g X+g X*0:Nat):Int))=((g (X+2 ^ j)+g X*cT (okW W B) j k X (X+2 ^ j)+g X:Nat):Int) by omega,Go.IntWalk.i64_in _ (by omega),tx,tz]
      show CS.mk (mL _ (fun Y=>g Y+g X*cT (okW W B) j k X Y) q').h (mL (fun Y=>h Y || decide (0<cT (okW W B) j k X Y)) _ q').g _=_
      have a1:(fun y=>if y=X+2 ^ j then true else (h y || decide (0<cT (okW W B) j k X y)))=fun Y=>h Y || decide (0<cT (okW W B) (j+1) k X Y):=by
       funext Y;rw[hc];by_cases e:Y=X+2 ^ j
       · subst e;rw[if_pos rfl,if_pos rfl,decide_eq_true (by omega)];simp
       · rw[if_neg e,if_neg (fun h=>e h.symm)];rfl
      have a2:(fun y=>if y=X+2 ^ j then g (X+2 ^ j)+g X*cT (okW W B) j k X (X+2 ^ j)+g X else g y+g X*cT (okW W B) j k X y)=fun Y=>g Y+g X*cT (okW W B) (j+1) k X Y:=by
       funext Y;rw[hc];by_cases e:Y=X+2 ^ j
       · subst e;rw[if_pos rfl,if_pos rfl,Nat.mul_add];omega
       · rw[if_neg e,if_neg (fun h=>e h.symm)];rfl
      rw[a1,a2];rfl
     refine ⟨_,e3,?_⟩;unfold Rt;rw[iA,iB,mw];exact GO hG' _ _
theorem Oo (W B:Nat→Int) (k X n:Nat) (hX:X<2 ^ 10) (h:Nat→Bool) (g:Nat→Nat) (q:Nat) (hG:Gd (mL h g q)) (hn:n≤10) (hb:∀ i,i≤n→∀ Y,g Y+g X*cT (okW W B) i k X Y<2 ^ 60) :
 ∃ q',On W B (k:Int) n (X:Int) (mL h g q)=mL (fun Y=>!decide (Y=X) && (h Y || decide (0<cT (okW W B) n k X Y))) (fun Y=>if Y=X then 0 else g Y+g X*cT (okW W B) n k X Y) q'∧Gd (On W B (k:Int) n (X:Int) (mL h g q)):=by
 obtain ⟨q',e,hG'⟩:=Ie W B k X hX h g q hG n hn hb
 unfold On
 rw[e] at hG' ⊢
 have e3:RE (X:Int) (mL (fun Y=>h Y || decide (0<cT (okW W B) n k X Y)) (fun Y=>g Y+g X*cT (okW W B) n k X Y) q')=mL (fun Y=>!decide (Y=X) && (h Y || decide (0<cT (okW W B) n k X Y))) (fun Y=>if Y=X then 0 else g Y+g X*cT (okW W B) n k X Y) (yp ((mL (fun Y=>h Y || decide (0<cT (okW W B) n k X Y)) (fun Y=>g Y+g X*cT (okW W B) n k X Y) q').h [(X:Int)]) q'):=by
  unfold RE;rw[iA,iB,sL,tx,show (Int.ofNat 0:Int)=((0:Nat):Int) from rfl,tz];have a1:(fun y=>if y=X then false else (h y || decide (0<cT (okW W B) n k X y)))=fun Y=>!decide (Y=X) && (h Y || decide (0<cT (okW W B) n k X Y)):=by
   funext Y;by_cases e:Y=X
   · rw[if_pos e,decide_eq_true e];rfl
   · rw[if_neg e,decide_eq_false e];rfl
  rw[a1];rfl
 refine ⟨_,e3,?_⟩
 unfold RE
 rw[iA,iB,sL]
 exact Nm hG' _
theorem Om (W B:Nat→Int) (k n:Nat) (hn:n≤10) (hk:k≤10) (q:Nat):∀ (L:List Nat) (z:Nat→Int),(∀ j (h:j<L.length),z j=((L[j]:Nat):Int))→L.Nodup→(∀ x ∈ L,0<cF n (okW W B) k x)→Gd (mL (hD n (okW W B) k []) (gD n (okW W B) k []) q)→∀ m,m≤L.length →
 ∃ q',Ic W B (k:Int) n z m (mL (hD n (okW W B) k []) (gD n (okW W B) k []) q)=mL (hD n (okW W B) k (L.take m)) (gD n (okW W B) k (L.take m)) q'∧Gd (Ic W B (k:Int) n z m (mL (hD n (okW W B) k []) (gD n (okW W B) k []) q)):=by
 intro L z hz hnd hL hG m
 induction m with
 | zero=>intro _;exact ⟨q,rfl,hG⟩
 | succ m ih =>
   intro hm
   obtain ⟨q',e,hG'⟩:=ih (by omega)
   have e2:Ic W B (k:Int) n z (m+1) (mL (hD n (okW W B) k []) (gD n (okW W B) k []) q)=On W B (k:Int) n (z m) (Ic W B (k:Int) n z m (mL (hD n (okW W B) k []) (gD n (okW W B) k []) q)):=rfl
   rw[e2]
   rw[e] at hG' ⊢
   rw[hz m (by omega)]
   have hx:=hL _ (List.getElem_mem (show m<L.length by omega))
   have hlt:=Ga hx
   have hp:(2:Nat) ^ n≤2 ^ 10:=Nat.pow_le_pow_right (by decide) hn
   have htake:L.take (m+1)=L.take m++[L[m]'(by omega)]:=by rw[List.take_add_one,List.getElem?_eq_getElem (by omega)];rfl
   have hnin:L[m]'(by omega) ∉ L.take m:=fun hc=>by
    have:=hnd.sublist (List.take_sublist (m+1) L);rw[htake,List.nodup_append] at this;exact this.2.2 _ hc _ List.mem_cons_self rfl
   have hLt:∀ x ∈ L.take m,0<cF n (okW W B) k x:=fun x hx=>hL x (List.mem_of_mem_take hx)
   have hb:∀ i,i≤n→∀ Y,gD n (okW W B) k (L.take m) Y+gD n (okW W B) k (L.take m) (L[m]'(by omega))*cT (okW W B) i k (L[m]'(by omega)) Y<2 ^ 60:=fun i hi Y=>by
    have h1:=PM (hnd.sublist (List.take_sublist m L)) hLt hx hnin i Y hi;have h2:=K5 (n:=n) (ok:=okW W B) k Y;have h3:=K5 (n:=n) (ok:=okW W B) (k+1) Y;have h4:n ^ k≤10 ^ 10:=Nat.le_trans (Nat.pow_le_pow_left hn k) (Nat.pow_le_pow_right (by decide) hk);have h5:n ^ (k+1)≤10 ^ 11:=Nat.le_trans (Nat.pow_le_pow_left hn _) (Nat.pow_le_pow_right (by decide) (by omega));omega
   obtain ⟨q'',e3,hG''⟩:=Oo W B k (L[m]'(by omega)) n (by omega) _ _ q' hG' hn hb
   refine ⟨q'',?_,hG''⟩
   rw[e3,htake]
   congr 1
   · funext Y;exact Jx hLt hx Y
   · funext Y;exact Jw hLt hx hnin Y
end Go.Eng.Q
end
section
namespace Go.Eng.Q
open Go.Proofs Go.Eng.Gall
noncomputable def Sb (k:Int):aD:=jo k++[(6,.nils),(18,.map 2 1),(19,.ptr 0 0 0 0),(20,.tup [.bool false]),(21,.bool false)]
noncomputable def VR:bB:=⟨false,[(0,.dead)]⟩
theorem Yv (n:Nat) (k x y:Int) (H:aa):bY.uB cL (oT n) (il aK n 0) aS aR 0 1 (.int .u64 x,.int .i64 y) (hints (jo k++[(6,.nils),(18,.map 2 1),(19,.ptr 0 0 0 0)])) (⟨false,[(0,.dead)]⟩::H) =
 Tr.req (eT 0 1 8) (Tr.req (cg 0 0) (Tr.req (eU 1 1) (Tr.ok ([(1,AV.ptr 2 0 0 0,none),(3,AV.ptr 2 2 0 0,none),(4,AV.ptr 2 3 0 0,none),(5,AV.int .i64 k,none),(6,AV.slc 0 2 0 0 1 1 none,none),(19,AV.ptr 0 0 0 0,none)],{ lock:=false,bs:=[(0,ak.dead),(0,ak.row (Row.I IntKind.u64 [x])),(0,ak.row (Row.M [dp.arr IntKind.u64 (aC [x]) 1]))] } :: H)))):=by kernel_rfl
theorem Yw (n:Nat) (k:Int) (H:aa):bY.wj cL (oT n) (il aK n 0) (hints (jo k++[(6,.nils),(18,.map 2 1),(19,.ptr 0 0 0 0)])) (⟨false,[(0,.dead)]⟩::H) =
 Tr.ok ([(1,AV.ptr 2 0 0 0,none),(3,AV.ptr 2 2 0 0,none),(4,AV.ptr 2 3 0 0,none),(5,AV.int .i64 k,none),(6,AV.nils,none),(18,AV.map 2 1,none),(19,AV.ptr 0 0 0 0,none),(20,AV.tup [AV.bool false],none),(21,AV.bool false,none)],{ lock:=false,bs:=[(0,ak.dead)] } :: H):=by kernel_rfl
theorem tZ (n:Nat) (k:Int) (G:aa):aJ (oT n) (il aK n 0) aS aR rF (hints (Sb k)) (⟨false,[(0,.dead)]⟩::ay::G) =
 Tr.ok (Ex.normal,[(1,AV.ptr 2 0 0 0,none),(3,AV.ptr 2 2 0 0,none),(4,AV.ptr 2 3 0 0,none),(5,AV.int .i64 k,none),(28,AV.nils,none),(29,AV.int .i64 (Int.ofNat 0),some 1),(30,AV.int .i64 (Int.ofNat 0),some 1),(31,AV.bool false,some 1)],{ lock:=false,bs:=[(0,ak.dead)] } :: ay::G):=by kernel_rfl
theorem nO:lI [0,1,1,1,0,0] cB=part Tryd.f73 [1,1,1,0,1,0,1,0,1,1,1,0,0]:=by kernel_rfl
theorem nI:lI [0,1,1,1,0,0,1,1,0,0,1,0,1,0,0] cB=part Tryd.f73 [1,1,1,0,1,0,1,0,1,1,1,0,0,1,1,0,0,1,0,1,0,0]:=by kernel_rfl
theorem Yc:rF=part Tryd.f73 [1,1,1,0,1,0,1,0,1,1]:=by kernel_rfl
theorem VE:∀ b,(6,b) ∈ aP (lI [0,1,1,1,0,0] cB)→b=.loop (lI [0,1,1,1,0,0,1,1,0,0,1,0,1,0,0] cB):=by rw[nO,nI];exact b6
theorem V0:∀ b,(4,b) ∈ aP rF→b=.loop (lI [0,1,1,1,0,0] cB):=by rw[Yc,nO];exact b4
section
variable (n:Nat) (k x0:Int) (v m:Nat) (z:Nat→Int) (O:Int) (U:Nat) (Z:Nat→Int) (V:Nat) (J:Nat→Int) (W B:Nat→Int) (b:ak) (G:aa)
theorem Yt (j:Nat) (hj:j<m) (hm:m≤99990) (hl:U≤10) (s:CS):∃ y,exec (oT (n+1)) (lI [0,1,1,1,0,0] cB) (FF k v m (Int.ofNat j)) (gv x0 v m z::ay::iP O U Z V J W B b s::G)=some y ∧
 (y.1=.normal∧tidy 3 y.2.1 y.2.2=(FF k v m (Int.ofNat (j+1)),gv x0 v m z::ay::iP O U Z V J W B b (On W B k U (z j) s)::G)):=by
 have ez:au 0 (Int.ofNat j) 1=j:=by rw[bt];show 0+j*1=j;omega
 have ec:bm .i64 (Int.ofNat j) (Int.ofNat 1)=Int.ofNat (j+1):=by
  have:=CE j (by omega);rw[fX];exact this
 have T:=tO (n+1) (Cp W B k (z j) U s).h (Cp W B k (z j) U s).g (Cp W B k (z j) U s).q k (Int.ofNat j) x0 v m z O U Z V J W B s.h s.g s.q b G
 rw[ez,ec] at T
 refine mB (Q:=fun y=>y.1=.normal∧tidy 3 y.2.1 y.2.2=(FF k v m (Int.ofNat (j+1)),gv x0 v m z::ay::iP O U Z V J W B b (On W B k U (z j) s)::G)) T (aA _) (az (ai _ _) VE (fun x h=>by rw[← Tr.ae h];simp only[db.st,aq];exact VQ n k x0 v m z O U Z V J W B b G (Int.ofNat j) (z j) hl s)) (aj _ _) ?_
 refine Tr.af (fun h0=>?_) (fun h0=>?_)
 · refine Tr.ab wG (Tr.ab (by rw[fZ];simp) (Tr.ab wG (Tr.al ⟨rfl,rfl⟩ (Tr.ag ⟨rfl,rfl⟩))))
 · exfalso
   simp (disch:=omega) only[nV,nW] at h0
   omega
theorem Wy (hm:m≤99990) (hl:U≤10) (s:CS):exec (oT (n+1)) (lI [0,1,1,1,0,0] cB) (FF k v m (Int.ofNat m)) (gv x0 v m z::ay::iP O U Z V J W B b s::G)=some (.exit 4,FF k v m (Int.ofNat m)++[(31,.bool false)],gv x0 v m z::ay::iP O U Z V J W B b s::G):=by
 have ez:au 0 (Int.ofNat m) 1=m:=by rw[bt];show 0+m*1=m;omega
 have T:=tO (n+1) (Cp W B k (z m) U s).h (Cp W B k (z m) U s).g (Cp W B k (z m) U s).q k (Int.ofNat m) x0 v m z O U Z V J W B s.h s.g s.q b G;rw[ez] at T;refine iE T (aA _) (az (ai _ _) VE (fun x h=>by rw[← Tr.ae h];simp only[db.st,aq];exact VQ n k x0 v m z O U Z V J W B b G (Int.ofNat m) (z m) hl s)) (aj _ _) ?_;refine Tr.af (fun h0=>?_) (fun h0=>Tr.ag rfl);exfalso;simp (disch:=omega) only[nV,nW] at h0;omega
theorem X8 (hm:m≤99990) (hl:U≤10) (s:CS):exec (oT (n+1)) (.block 4 (.loop (lI [0,1,1,1,0,0] cB))) (FF k v m (Int.ofNat 0)) (gv x0 v m z::ay::iP O U Z V J W B b s::G) =
 some (.normal,FF k v m (Int.ofNat m)++[(31,.bool false)],gv x0 v m z::ay::iP O U Z V J W B b (Ic W B k U z m s)::G):=by
 refine La (n:=n+1) (f:=73) (nt:=83) (d:=2) (i:=4) 4 (fun c=>FF k v m (Int.ofNat c)) (fun c=>gv x0 v m z::ay::iP O U Z V J W B b (Ic W B k U z c s)::G) m (_,_) (by omega) (fun c hc=>?_) ?_
 · exact Yt n k x0 v m z O U Z V J W B b G c hc hm hl (Ic W B k U z c s)
 · exact Wy n k x0 v m z O U Z V J W B b G hm hl _
theorem Ug (hm:m≤99990) (hl:U≤10) (s:CS):exec (oT (n+1)) rF (Sc k v m) (gv x0 v m z::ay::iP O U Z V J W B b s::G)=some (.normal,FF k v m (Int.ofNat m)++[(31,.bool false)],gv x0 v m z::ay::iP O U Z V J W B b (Ic W B k U z m s)::G):=by
 refine iE (t10 (n+1) k x0 v m z (iP O U Z V J W B b s::G) (iP O U Z V J W B b (Ic W B k U z m s)::G)) (aA _) (az (ai _ _) V0 (fun x h=>by rw[← Tr.ae h];simp only[db.st,aq];exact X8 n k x0 v m z O U Z V J W B b G hm hl s)) (aj _ _) ?_;exact Tr.al ⟨rfl,rfl⟩ (Tr.ag rfl)
end
end Go.Eng.Q
end
