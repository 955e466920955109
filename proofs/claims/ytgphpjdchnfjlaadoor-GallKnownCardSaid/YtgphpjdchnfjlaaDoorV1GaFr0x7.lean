/- The tables of the library that the rows list: what their condition gives; a world that meets it. -/
import Derived.Test.YtgphpjdchnfjlaaDoorV1EngOrax3
import Derived.Test.YtgphpjdchnfjlaaDoorRows
import Derived.Test.YtgphpjdchnfjlaaDoorChecked
import Derived.Test.YtgphpjdchnfjlaaDoorTie
import Derived.Test.YtgphpjdchnfjlaaDoorCards
import Derived.ProofKit
import Derived.Lib.LaidIn
import Derived.Lib.LaidTab
import Derived.FnData
import Derived.Handed
import Derived.SevenTiedAt
import Derived.Test.YtgphpjdchnfjlaaDoorV1EngThx10
import Derived.Test.YtgphpjdchnfjlaaDoorV1EngRnFx7
import Derived.Test.YtgphpjdchnfjlaaDoorV1EngTkx3
import Derived.Test.YtgphpjdchnfjlaaDoorProg
import Derived.KernelRfl
import Derived.Test.YtgphpjdchnfjlaaDoorV1Gp2x4
import Derived.IntWalk
set_option linter.unusedVariables false
set_option maxRecDepth 100000
set_option linter.unusedSimpArgs false
section
namespace Go.Proofs.YtgphpjdchnfjlaaDoor
open Go.ChangeShapes Go.WideShapes Go.ChangeAt Go.RowKit
theorem Tryd.own:ownKnob Tryd.prog.godebug=none:=by kernel_rfl
def wh:List (String×DataW Unit):=[("math/bits.deBruijn32tab",Rows.laid_math_bits_deBruijn32tab),("math/bits.deBruijn64tab",Rows.laid_math_bits_deBruijn64tab)]
def t32:List Int:=Go.Lib.deBruijn32tab.map fun n:Nat=>(n:Int)
def t64:List Int:=Go.Lib.deBruijn64tab.map fun n:Nat=>(n:Int)
theorem Gk:(Rows.laid_math_bits_deBruijn64tab:DataW Unit)=Lib.tabData .u8 t64:=by kernel_rfl
set_option maxRecDepth 100000 in
theorem zH {W:World} (h:laidMetH Tryd.prog wh W):Eng.qB W:=by
 have h':laidMet Tryd.prog wh W:=h
 obtain ⟨ps,hv,_⟩:=h'
 obtain ⟨_,_,_,_,_,_,_,_,_,_,hv,_⟩:=hv
 obtain ⟨g,t,cs,fuel,p,q,h1,h2,h3,h4,_⟩:=hv
 obtain rfl:1=g:=Option.some.inj ((show Tryd.prog.globalNamed "math/bits.deBruijn64tab" = some 1 by kernel_rfl).symm.trans h1)
 obtain rfl:139=t:=Option.some.inj ((show (Tryd.prog.globals[1]?).map (·.type)=some 139 by kernel_rfl).symm.trans h2)
 rw[Gk] at h4
 have hcs:=Lib.cells_of_tab Tryd.underlying139 Tryd.underlying5 (by kernel_rfl) (by kernel_rfl) h4
 intro b o v hg
 unfold Eng.lj at hg
 split at hg
 · rename_i hbo
   obtain ⟨rfl,ho⟩:=hbo
   simp only[Option.some.injEq] at hg
   subst hg
   rw[World.var?_cell h1 h3 o,← Array.getElem?_toList,hcs,List.getElem?_map]
   have hl:Go.Lib.deBruijn64tab.length=64:=by decide
   rw[t64,List.getElem?_map,List.getElem?_eq_getElem (by omega)]
   simp only[Option.map_some,List.getD_eq_getElem?_getD,List.getElem?_eq_getElem (show o<Go.Lib.deBruijn64tab.length by omega),Option.getD_some]
 · cases hg
noncomputable def mC (os:Os):World :=
 let w0:=World.holding Tryd.prog os ⟨#[],#[],[]⟩
 let put (h:Array Obj) (g:Nat) (cs:Array Value):Array Obj:=h.modify g fun
  | .cells _ t frozen=>.cells cs t frozen
  | o=>o
 { w0 with heap:=put (put w0.heap 0 (t32.map fun z=>Value.int .u8 z).toArray) 1 (t64.map fun z=>Value.int .u8 z).toArray }
theorem BF (os:Os) (args:Array Value):LaidIn Tryd.prog ((mC os).forCall (fun _ _=>0) ⟨#[],args,[]⟩).memory wh [0,1] :=
 LaidIn.of_run [0,1] 8 (by kernel_rfl) (by kernel_rfl) (by kernel_rfl) (by kernel_rfl)
theorem zS (os:Os) (args:Array Value):laidMetH Tryd.prog wh ((mC os).forCall (fun _ _=>0) ⟨#[],args,[]⟩).memory:=(BF os args).met
end Go.Proofs.YtgphpjdchnfjlaaDoor
end
section
namespace Go.Eng
open Go.Proofs
def iw:List Nat→Code→Code
 | [],c=>c
 | x :: p,c=>match c with
   | .seq a b=>match x with
     | 0=>iw p a
     | _=>iw p b
   | .cond _ a b=>match x with
     | 0=>iw p a
     | _=>iw p b
   | .block _ b=>iw p b
   | .loop b=>iw p b
   | .scope b=>iw p b
   | .rangeFunc _ _ a b=>match x with
     | 0=>iw p a
     | _=>iw p b
   | c=>c
noncomputable def part (f:Func) (p:List Nat):Code:=iw p (eR f)
theorem wo (j:Nat) (h:j<2 ^ 31):IntKind.i64.wrap ((j:Int)+1)=((j+1:Nat):Int):=by
 rw[show ((j:Int)+1)=((j+1:Nat):Int) by omega]
 exact Go.IntWalk.i64_in _ (by omega)

def A0 (p:Nat→Bool) (N:Nat):Bool:=decide (fN p N 0<N)
theorem sG {p:Nat→Bool} {N:Nat} (h:A0 p N=true):fN p N 0<N:=by simpa[A0] using h
theorem x8 {p:Nat→Bool} {N:Nat} (h:A0 p N=false):fN p N 0=N:=by
 have h1:=(rM p N 0).2.1
 have:¬ fN p N 0<N:=by simpa[A0] using h
 omega
theorem Bs (p:Nat→Bool) (N:Nat):A0 p N=true↔∃ i,i<N∧p i=true:=by
 obtain ⟨h1,h2,h3,h4⟩:=rM p N 0
 constructor
 · intro h
   have:=sG h
   exact ⟨_,this,h4 (by omega)⟩
 · rintro ⟨i,hi,hp⟩
   unfold A0
   rw[decide_eq_true_eq]
   apply Nat.lt_of_not_le
   intro hc
   have:=h3 i (by omega) (by omega)
   rw[this] at hp;cases hp
namespace Q
noncomputable def yp:ak→FuncId→List AV→aa→Option (AV×aa):=B8 []
def Hy (f:FuncId):Bool:=Nat.beq f 1000000
noncomputable def cd (n:Nat):ak:=bY Tryd.prog yp KtG.kt 100000 n
noncomputable def il (tab:Fc) (n k:Nat):aQ:=zO Tryd.prog yp KtG.kt 100000 Hy tab n k
theorem Er (g:FuncId) (h:Hy g=false) (c:ak) (args:List AV) (H:aa):yp c g args H=none:=by
 unfold Hy at h
 unfold yp B8
 rw[h,cond_false];rfl
theorem yq (n:Nat):∃ x,bY Tryd.prog yp KtG.kt 100000 n .mode [] []=some x:=by
 cases n<;>exact ⟨_,rfl⟩
theorem B5:qC Tryd.prog yp:=B9 [] (fun e he=>by cases he)
theorem FN (tab:Fc) (n k:Nat) (ht:∀ k,tab.Ok (cd (n+k))):(il tab n k).Ok (cd (n+k)):=wY _ _ _ _ _ _ _ Er (fun k=>yq _) ht k
theorem wX (n k:Nat):(il fI n k).Ok (cd (n+k)):=FN _ _ _ (fun k=>BY _)
theorem eS (n:Nat):(il fI n 0).Ok (cd n):=wX n 0
end Q
end Go.Eng
end
section
namespace Go.Eng.Q
open Go.Proofs
noncomputable def JB (n len:Nat) (z:Nat→Int):AV:=.slcT none (.M [.arr .i64 z (fG len n)]) n len false
noncomputable def JA (dr:Int) (lc:Nat) (zc:Nat→Int) (lb:Nat) (zb:Nat→Int) (W B:Nat→Int):Row:=.M [.one (.int .i64 dr),.one (JB 4 lc zc),.one (JB 2 lb zb),.arr .i64 W 20,.arr .u64 B 10]
noncomputable def fp (dr:Int) (lc:Nat) (zc:Nat→Int) (lb:Nat) (zb:Nat→Int) (W B:Nat→Int):AV:=.ptrT none (JA dr lc zc lb zb W B) 0
noncomputable def bu:bT:=⟨false,[]⟩
noncomputable def p6 (n f nt d i:Nat):Cx:=⟨Tryd.prog,cd n,100000,f,nt,KtG.kt f,some (d,i)⟩
def rY:Code→Array Oper
 | .region _ ops _=>ops
 | _=>#[]
def GL (l:List Oper):Oper:=l.headD { dst:=none,op:=.move (.tmp 0),type:=0,pos := "",after:=#[],guard:=none }
noncomputable def cB:Code:=part Tryd.f73 [1,1,1,0,1,0,1]
noncomputable def cS:cH:={ id0:=6,ops0:=rY (iw [0,1,0,0] cB),pre:=(rY (iw [0,1,0,0] cB)).toList.take 1,ro:=GL ((rY (iw [0,1,0,0] cB)).toList.drop 1),m:=18,ty:=128 }
noncomputable def cL:aS:={ out:=2,id1:=7,id2:=8,nxt:=3,ops1:=rY (iw [0,1,0,1,0,0,0] cB),ops2:=rY (iw [0,1,0,1,0,0,1,1,0,0] cB),no:=GL (rY (iw [0,1,0,1,0,0,0] cB)).toList,eo:=GL (rY (iw [0,1,0,1,0,0,1,1,0,0] cB)).toList,t1:=(rY (iw [0,1,0,1,0,0,0] cB)).toList.tail,t2:=(rY (iw [0,1,0,1,0,0,1,1,0,0] cB)).toList.tail,it:=19,nx:=20,mo:=21,en:=22,rest:=iw [0,1,0,1,0,0,1,1,0,1] cB,km:=267386880+128 }
noncomputable def nw:Code:=iw [0,1,1] cB
noncomputable def cR:lX:={ f:=73,id:=1,body:=cB,pre:=[iw [0,0] cB],S:=cS,L:=cL,suf:=nw }
noncomputable def fQ (k:Int):aq:=[(1,.ptr 2 0 0 0),(3,.ptr 2 2 0 0),(4,.ptr 2 3 0 0),(5,.int .i64 k)]
noncomputable def jn (dr:Int) (lc:Nat) (zc:Nat→Int) (lb:Nat) (zb:Nat→Int) (W B:Nat→Int) (h:List Int→Bool) (g:List Int→Int) (c:Nat) (b:aN):bT:=⟨false,[(0,.row (.G [fp dr lc zc lb zb W B])),(0,.fmap (.num .u64) h g c),(0,.row (.G [.map 0 1])),(0,.row (.G [.fn (.func 71) [fp dr lc zc lb zb W B] []])),(0,b)]⟩
theorem t5 (n:Nat) (k:Int) (H:aa):bG (p6 n 73 83 2 4) (il fI n 0) jY jZ (iw [0,0] cB) (hints (fQ k)) (bu::H) =
 Tr.ok (Ex.normal,[(1,AV.ptr 2 0 0 0,none),(3,AV.ptr 2 2 0 0,none),(4,AV.ptr 2 3 0 0,none),(5,AV.int .i64 k,none),(6,AV.nils,none)],bu::H):=by kernel_rfl
theorem tS (n:Nat) (k:Int) (dr:Int) (lc:Nat) (zc:Nat→Int) (lb:Nat) (zb:Nat→Int) (W B:Nat→Int) (h:List Int→Bool) (g:List Int→Int) (c:Nat) (b:aN) (H:aa):cH.EE cS (p6 n 73 83 2 4) (il fI n 0) (hints (fQ k++[(6,.nils)])) (bu::bu::jn dr lc zc lb zb W B h g c b::H) =
 (fun (Z0:List AV)=>Tr.ok ([(1,AV.ptr 2 0 0 0,none),(3,AV.ptr 2 2 0 0,none),(4,AV.ptr 2 3 0 0,none),(5,AV.int .i64 k,none),(6,AV.nils,none),(18,AV.map 2 1,none)],bu::bu::{ lock:=false,bs:=[(0,aN.row (Row.G Z0)),(0,aN.fmap (KK.num IntKind.u64) h g c),(0,aN.row (Row.G [AV.map 0 1])),(0,aN.row (Row.G [AV.fn (Fn.func 71) Z0 []])),(0,b)] } :: H)) [AV.ptrT none (Row.M [bL.one (AV.int .i64 dr),bL.one (AV.slcT none (Row.M [bL.arr .i64 zc (kB lc 4)]) 4 lc false),bL.one (AV.slcT none (Row.M [bL.arr .i64 zb (kB lb 2)]) 2 lb false),bL.arr .i64 W 20,bL.arr IntKind.u64 B 10]) 0]:=by kernel_rfl
theorem tB (n:Nat) (k x y x0:Int) (v m:Nat) (z:Nat→Int) (H:aa):aS.pD cL (p6 n 73 83 2 4) (il fI n 0) jY jZ 0 1 (.int .u64 x,.int .i64 y) (hints (fQ k++[(6,.slc 0 2 v 0 1 m none),(19,.ptr 0 0 0 0)])) (⟨false,[(0,.dead),(0,.row (.I .u64 [x0])),(v,.row (.M [.arr .u64 z m]))]⟩::H) =
 Tr.req (pC m 1 8) (Tr.req (qf 0 0) (Tr.req (tg 1 1) (Tr.req (qf v v) (Tr.req (qf (dM 0 m) m) (Tr.ok ([(1,AV.ptr 2 0 0 0,none),(3,AV.ptr 2 2 0 0,none),(4,AV.ptr 2 3 0 0,none),(5,AV.int .i64 k,none),(6,AV.slc 0 2 (Nat.succ v) 0 1 (dM m 1) none,none),(19,AV.ptr 0 0 0 0,none)],{ lock:=false,bs:=[(0,aN.dead),(0,aN.row (Row.I IntKind.u64 [x0])),(Nat.succ v,aN.row (Row.M [bL.arr IntKind.u64 (yW (AI z 0) m (bx [x])) (dM m 1)]))] } :: H)))))):=by kernel_rfl
theorem tX (n:Nat) (k x0:Int) (v m:Nat) (z:Nat→Int) (H:aa):aS.te cL (p6 n 73 83 2 4) (il fI n 0) (hints (fQ k++[(6,.slc 0 2 v 0 1 m none),(19,.ptr 0 0 0 0)])) (⟨false,[(0,.dead),(0,.row (.I .u64 [x0])),(v,.row (.M [.arr .u64 z m]))]⟩::H) =
 Tr.ok ([(1,AV.ptr 2 0 0 0,none),(3,AV.ptr 2 2 0 0,none),(4,AV.ptr 2 3 0 0,none),(5,AV.int .i64 k,none),(6,AV.slc 0 2 v 0 1 m none,none),(19,AV.ptr 0 0 0 0,none),(20,AV.tup [AV.bool false],none),(21,AV.bool false,none)],{ lock:=false,bs:=[(0,aN.dead),(0,aN.row (Row.I IntKind.u64 [x0])),(v,aN.row (Row.M [bL.arr IntKind.u64 z m]))] } :: H):=by kernel_rfl
end Go.Eng.Q
end
section
namespace Go.Eng.Q
open Go.Proofs
noncomputable def gL (x0:Int) (v m:Nat) (z:Nat→Int):bT:=⟨false,[(0,.dead),(0,.row (.I .u64 [x0])),(v,.row (.M [.arr .u64 z m]))]⟩
noncomputable def GK (k:Int) (v m:Nat):aq:=fQ k++[(6,.slc 0 2 v 0 1 m none),(19,.ptr 0 0 0 0),(20,.tup [.bool false]),(21,.bool false)]
noncomputable def kO (n:Nat):Cx:=p6 n 73 83 2 4
noncomputable def yN (k:Int) (v m:Nat) (j:Int):aq:=fQ k++[(28,.slc 0 2 v 0 1 m none),(29,.int .i64 (Int.ofNat m)),(30,.int .i64 j)]
noncomputable def zB (k:Int) (v m:Nat) (x j:Int) (lc:Nat) (c:Int):aq:=fQ k++[(9,.int .u64 x),(28,.slc 0 2 v 0 1 m none),(29,.int .i64 (Int.ofNat m)),(30,.int .i64 j),(39,.int .i64 (Int.ofNat lc)),(40,.int .i64 c)]
theorem t10 (n:Nat) (k x0:Int) (v m:Nat) (z:Nat→Int) (G G':aa):bG (kO n) (il fI n 0) (xU jY 4 (yN k v m (Int.ofNat 0)) (gL x0 v m z::bu::G) (.ok (.normal,hints (yN k v m (Int.ofNat m)++[(31,.bool false)]),gL x0 v m z::bu::G'))) jZ nw (hints (GK k v m)) (gL x0 v m z::bu::G) =
 (fun (Z0:aq)=>Tr.reqP (Z0=Z0∧gL x0 v m z::bu::G=gL x0 v m z::bu::G) (Tr.ok (Ex.normal,[(1,AV.ptr 2 0 0 0,none),(3,AV.ptr 2 2 0 0,none),(4,AV.ptr 2 3 0 0,none),(5,AV.int .i64 k,none),(28,AV.slc 0 2 v 0 1 m none,none),(29,AV.int .i64 (Int.ofNat m),none),(30,AV.int .i64 (Int.ofNat m),none),(31,AV.bool false,none)],gL x0 v m z::bu::G'))) [(1,AV.ptr 2 0 0 0),(3,AV.ptr 2 2 0 0),(4,AV.ptr 2 3 0 0),(5,AV.int .i64 k),(28,AV.slc 0 2 v 0 1 m none),(29,AV.int .i64 (Int.ofNat m)),(30,AV.int .i64 (Int.ofNat 0))]:=by kernel_rfl
theorem tO (n:Nat) (h':List Int→Bool) (g':List Int→Int) (q':Nat) (k j x0:Int) (v m:Nat) (z:Nat→Int) (dr:Int) (lc:Nat) (zc:Nat→Int) (lb:Nat) (zb:Nat→Int) (W B:Nat→Int) (h:List Int→Bool) (g:List Int→Int) (q:Nat) (b:aN) (G:aa):bG (kO n) (il fI n 0) (xU jY 6 (zB k v m (z (oS 0 j 1)) j lc (Int.ofNat 0)) (gL x0 v m z::bu::jn dr lc zc lb zb W B h g q b::G) (.ok (.normal,hints (zB k v m (z (oS 0 j 1)) j lc (Int.ofNat lc)++[(41,.bool false)]),gL x0 v m z::bu::jn dr lc zc lb zb W B h' g' q' b::G))) jZ (iw [0,1,1,1,0,0] cB) (hints (yN k v m j)) (gL x0 v m z::bu::jn dr lc zc lb zb W B h g q b::G) =
 (fun (Z0:aq)=>Tr.ite (yP j (Int.ofNat m)) (Tr.req (yO j m) (Tr.req (qf v v) (Tr.req (sq (oS 0 j 1) m) (Tr.reqP (Z0=Z0∧gL x0 v m z::bu::jn dr lc zc lb zb W B h g q b::G=gL x0 v m z::bu::jn dr lc zc lb zb W B h g q b::G) (Tr.ok (Ex.normal,[(1,AV.ptr 2 0 0 0,none),(3,AV.ptr 2 2 0 0,none),(4,AV.ptr 2 3 0 0,none),(5,AV.int .i64 k,none),(28,AV.slc 0 2 v 0 1 m none,none),(29,AV.int .i64 (Int.ofNat m),none),(30,AV.int .i64 (nv .i64 j (Int.ofNat 1)),none)],gL x0 v m z::bu::{ lock:=false,bs:=[(0,aN.row (Row.G [fp dr lc zc lb zb W B])),(0,aN.fmap (KK.num IntKind.u64) (jA h' [z (oS 0 j 1)] false) (jB g' [z (oS 0 j 1)] (Int.ofNat 0)) (sB (h' [z (oS 0 j 1)]) q')),(0,aN.row (Row.G [AV.map 0 1])),(0,aN.row (Row.G [AV.fn (Fn.func 71) [fp dr lc zc lb zb W B] []])),(0,b)] } :: G)))))) (Tr.ok (Ex.exit 4,[(1,AV.ptr 2 0 0 0,none),(3,AV.ptr 2 2 0 0,none),(4,AV.ptr 2 3 0 0,none),(5,AV.int .i64 k,none),(28,AV.slc 0 2 v 0 1 m none,none),(29,AV.int .i64 (Int.ofNat m),none),(30,AV.int .i64 j,none),(31,AV.bool false,some 1)],gL x0 v m z::bu::jn dr lc zc lb zb W B h g q b::G))) [(1,AV.ptr 2 0 0 0),(3,AV.ptr 2 2 0 0),(4,AV.ptr 2 3 0 0),(5,AV.int .i64 k),(9,AV.int IntKind.u64 (z (oS 0 j 1))),(28,AV.slc 0 2 v 0 1 m none),(29,AV.int .i64 (Int.ofNat m)),(30,AV.int .i64 j),(39,AV.int .i64 (Int.ofNat lc)),(40,AV.int .i64 (Int.ofNat 0))]:=by kernel_rfl
theorem tI (n:Nat) (k j x x0 c:Int) (v m:Nat) (z:Nat→Int) (dr:Int) (lc:Nat) (zc:Nat→Int) (lb:Nat) (zb:Nat→Int) (W B:Nat→Int) (h:List Int→Bool) (g:List Int→Int) (q:Nat) (b:aN) (G:aa):bG (kO (n+1)) (il fI n 1) jY jZ (iw [0,1,1,1,0,0,1,1,0,0,1,0,1,0,0] cB) (hints (zB k v m x j lc c)) (gL x0 v m z::bu::jn dr lc zc lb zb W B h g q b::G) =
 (fun (Z0:aA)=>Tr.ite (yP c (Int.ofNat lc)) (Tr.req (qp (Int.ofNat 0) c) (Tr.ite (qM (vo IntKind.u64 x (iQ IntKind.u64 (Int.ofNat 1) c)) (Int.ofNat 0)) (Tr.req (yO c 10) (Tr.req (vm (oS 23 c 1) 1 23 10) (Tr.ite (qM (DH IntKind.u64 (B (mQ (oS 23 c 1) 23)) x) (Int.ofNat 0)) (Tr.req (yO c 10) (Tr.req (vm (oS 3 c 2) 1 3 20) (Tr.req (vm (dM (oS 3 c 2) 1) 1 3 20) (Tr.ite (qp (W (mQ (oS 3 c 2) 3)) k) (Tr.ite (qp k (W (mQ (dM (oS 3 c 2) 1) 3))) (Tr.req (qp (Int.ofNat 0) c) (Tr.req (qa (tg 0 0) (tg 0 1)) (Tr.ok (Ex.normal,Z0,gL x0 v m z::bu::{ lock:=false,bs:=[(0,aN.row (Row.G [fp dr lc zc lb zb W B])),(0,aN.fmap (KK.num IntKind.u64) (jA h [yo IntKind.u64 x (iQ IntKind.u64 (Int.ofNat 1) c)] true) (jB g [yo IntKind.u64 x (iQ IntKind.u64 (Int.ofNat 1) c)] (nv .i64 (g [yo IntKind.u64 x (iQ IntKind.u64 (Int.ofNat 1) c)]) (g [x]))) (mV (h [yo IntKind.u64 x (iQ IntKind.u64 (Int.ofNat 1) c)]) q)),(0,aN.row (Row.G [AV.map 0 1])),(0,aN.row (Row.G [AV.fn (Fn.func 71) [fp dr lc zc lb zb W B] []])),(0,b)] } :: G)))) (Tr.ok (Ex.normal,Z0,gL x0 v m z::bu::jn dr lc zc lb zb W B h g q b::G))) (Tr.ok (Ex.normal,Z0,gL x0 v m z::bu::jn dr lc zc lb zb W B h g q b::G)))))) (Tr.ok (Ex.normal,Z0,gL x0 v m z::bu::jn dr lc zc lb zb W B h g q b::G))))) (Tr.ok (Ex.normal,Z0,gL x0 v m z::bu::jn dr lc zc lb zb W B h g q b::G)))) (Tr.ok (Ex.exit 6,[(1,AV.ptr 2 0 0 0,none),(3,AV.ptr 2 2 0 0,none),(4,AV.ptr 2 3 0 0,none),(5,AV.int .i64 k,none),(9,AV.int IntKind.u64 x,none),(28,AV.slc 0 2 v 0 1 m none,none),(29,AV.int .i64 (Int.ofNat m),none),(30,AV.int .i64 j,none),(39,AV.int .i64 (Int.ofNat lc),none),(40,AV.int .i64 c,none),(41,AV.bool false,some 1)],gL x0 v m z::bu::jn dr lc zc lb zb W B h g q b::G))) [(1,AV.ptr 2 0 0 0,none),(3,AV.ptr 2 2 0 0,none),(4,AV.ptr 2 3 0 0,none),(5,AV.int .i64 k,none),(9,AV.int IntKind.u64 x,none),(28,AV.slc 0 2 v 0 1 m none,none),(29,AV.int .i64 (Int.ofNat m),none),(30,AV.int .i64 j,none),(39,AV.int .i64 (Int.ofNat lc),none),(40,AV.int .i64 (nv .i64 c (Int.ofNat 1)),none)]:=by kernel_rfl
end Go.Eng.Q
end
section
namespace Go.Eng.Q
open Go.Proofs
theorem mb {n f nt d i:Nat} {c:Code} {callR:aQ} {bl:iT} {rg:ss} {fr:aq} {H:aa} {T:Tr lY} (e:bG (p6 n f nt d i) callR bl rg c (hints fr) H=T) (hC:callR.Ok (cd n)) (hB:bl.Ok (p6 n f nt d i) c) (hR:rg.Ok (p6 n f nt d i) c) {y:Ex×aq×aa} (h:T.all fun x=>x.st=y):exec (p6 n f nt d i) c fr H=some y:=by
 obtain ⟨x,h1,rfl⟩:=h
 have:=gE (cx:=p6 n f nt d i) hC c hB hR (hints fr) H x (by rw[e];exact h1)
 rw[cr] at this;exact this
theorem zw {n f nt d i:Nat} {c:Code} {callR:aQ} {bl:iT} {rg:ss} {fr:aq} {H:aa} {T:Tr lY} {Q:Ex×aq×aa→Prop} (e:bG (p6 n f nt d i) callR bl rg c (hints fr) H=T) (hC:callR.Ok (cd n)) (hB:bl.Ok (p6 n f nt d i) c) (hR:rg.Ok (p6 n f nt d i) c) (h:T.all fun x=>Q x.st):∃ y,exec (p6 n f nt d i) c fr H=some y∧Q y:=by
 obtain ⟨x,h1,h2⟩:=h
 have:=gE (cx:=p6 n f nt d i) hC c hB hR (hints fr) H x (by rw[e];exact h1)
 rw[cr] at this;exact ⟨_,this,h2⟩
theorem D4 {n f nt d i:Nat} {c:Code} (id:Nat) (F:Nat→aq) (G:Nat→aa) (N:Nat) (p:Nat→Bool) (X:Nat→aq×aa) (Y:aq×aa) (hN:N<99999)
 (hs:∀ j,j<N→∃ x,exec (p6 n f nt d i) c (F j) (G j)=some x∧if p j=true then x=(.ret,X j) else x.1=.normal∧tidy (aC (G 0)) x.2.1 x.2.2=(F (j+1),G (j+1)))
 (he:exec (p6 n f nt d i) c (F N) (G N)=some (.exit id,Y)):exec (p6 n f nt d i) (.block id (.loop c)) (F 0) (G 0)=some (cond (A0 p N) (.ret,X (fN p N 0)) (.normal,Y)):=by
 have key:=mA (body:=exec (p6 n f nt d i) c) (n:=aC (G 0)) F G N p (fun j=>if j<N then (.ret,X j) else (.exit id,Y))
  (fun j hj hp=>by
    obtain ⟨x,h1,h2⟩:=hs j hj
    rw[if_neg (by rw[hp];simp)] at h2
    obtain ⟨e,f1,g1⟩:=x
    obtain ⟨rfl,h3⟩:=h2
    exact ⟨_,_,h1,h3⟩)
  (fun j hj hp=>by
    obtain ⟨x,h1,h2⟩:=hs j hj
    rw[if_pos hp] at h2
    subst h2
    rw[if_pos hj]
    exact ⟨h1,by simp⟩)
  (by
    rw[if_neg (by omega)]
    exact ⟨he,by simp⟩) N 0 100000 (by omega) (by omega)
 cases hc:A0 p N with
 | true =>
   have:=sG hc
   rw[if_pos this] at key
   exact iO (fun id' h=>by cases h) key
 | false =>
   have:=x8 hc
   rw[if_neg (by omega)] at key
   exact iK key

theorem CM {n f nt d i:Nat} {c:Code} (id:Nat) (F:Nat→aq) (G:Nat→aa) (N:Nat) (Y:aq×aa) (hN:N<99999)
 (hs:∀ j,j<N→∃ x,exec (p6 n f nt d i) c (F j) (G j)=some x∧(x.1=.normal∧tidy (aC (G 0)) x.2.1 x.2.2=(F (j+1),G (j+1))))
 (he:exec (p6 n f nt d i) c (F N) (G N)=some (.exit id,Y)):exec (p6 n f nt d i) (.block id (.loop c)) (F 0) (G 0)=some (.normal,Y):=by
 have:=D4 id F G N (fun _=>false) (fun _=>Y) Y hN (fun j hj=>by
  obtain ⟨x,h1,h2⟩:=hs j hj
  exact ⟨x,h1,by rw[if_neg (by simp)];exact h2⟩) he
 have h0:A0 (fun _=>false) N=false:=by
  cases h:A0 (fun _=>false) N with
  | false=>rfl
  | true=>obtain ⟨i2,_,h2⟩:=(Bs _ _).1 h;cases h2
 rw[h0] at this
 exact this

structure CS where
 h:List Int→Bool
 g:List Int→Int
 q:Nat
noncomputable def Gr (x c:Int) (s:CS):CS:=⟨jA s.h [yo .u64 x (iQ .u64 (Int.ofNat 1) c)] true,jB s.g [yo .u64 x (iQ .u64 (Int.ofNat 1) c)] (nv .i64 (s.g [yo .u64 x (iQ .u64 (Int.ofNat 1) c)]) (s.g [x])),mV (s.h [yo .u64 x (iQ .u64 (Int.ofNat 1) c)]) s.q⟩
noncomputable def A2 (W B:Nat→Int) (k x c:Int):Bool:=cond (qM (vo .u64 x (iQ .u64 (Int.ofNat 1) c)) (Int.ofNat 0)) (cond (qM (DH .u64 (B (mQ (oS 23 c 1) 23)) x) (Int.ofNat 0)) (cond (qp (W (mQ (oS 3 c 2) 3)) k) (qp k (W (mQ (dM (oS 3 c 2) 1) 3))) false) false) false
noncomputable def Cu (W B:Nat→Int) (k x c:Int) (s:CS):CS:=cond (A2 W B k x c) (Gr x c s) s
noncomputable def wc (W B:Nat→Int) (k x:Int):Nat→CS→CS
 | 0,s=>s
 | j+1,s=>Cu W B k x (Int.ofNat j) (wc W B k x j s)
noncomputable def Gx (x:Int) (s:CS):CS:=⟨jA s.h [x] false,jB s.g [x] (Int.ofNat 0),sB (s.h [x]) s.q⟩
noncomputable def EU (W B:Nat→Int) (k:Int) (n:Nat) (x:Int) (s:CS):CS:=Gx x (wc W B k x n s)
noncomputable def AL (W B:Nat→Int) (k:Int) (n:Nat) (z:Nat→Int):Nat→CS→CS
 | 0,s=>s
 | j+1,s=>EU W B k n (z j) (AL W B k n z j s)
section
variable (n:Nat) (k x0:Int) (v m:Nat) (z:Nat→Int) (dr:Int) (lc:Nat) (zc:Nat→Int) (lb:Nat) (zb:Nat→Int) (W B:Nat→Int) (b:aN) (G:aa)
noncomputable def fe (s:CS):bT:=jn dr lc zc lb zb W B s.h s.g s.q b
theorem Lx (j x:Int) (c:Nat) (hc:c<lc) (hl:lc≤10) (s:CS):∃ y,exec (kO (n+1)) (iw [0,1,1,1,0,0,1,1,0,0,1,0,1,0,0] cB) (zB k v m x j lc (Int.ofNat c)) (gL x0 v m z::bu::fe dr lc zc lb zb W B b s::G)=some y ∧
 (y.1=.normal∧tidy 3 y.2.1 y.2.2=(zB k v m x j lc (Int.ofNat (c+1)),gL x0 v m z::bu::fe dr lc zc lb zb W B b (Cu W B k x (Int.ofNat c) s)::G)):=by
 refine zw (Q:=fun y=>y.1=.normal∧tidy 3 y.2.1 y.2.2=(zB k v m x j lc (Int.ofNat (c+1)),gL x0 v m z::bu::fe dr lc zc lb zb W B b (Cu W B k x (Int.ofNat c) s)::G)) (tI n k j x x0 (Int.ofNat c) v m z dr lc zc lb zb W B s.h s.g s.q b G) (wX n 1) (b9 _ _) (cg _ _) ?_
 have ec:nv .i64 (Int.ofNat c) (Int.ofNat 1)=Int.ofNat (c+1):=by
  have:=wo c (by omega)
  rw[fT];exact this
 have no:A2 W B k x (Int.ofNat c)=false→Cu W B k x (Int.ofNat c) s=s:=fun h=>by unfold Cu;rw[h];rfl
 have yes:A2 W B k x (Int.ofNat c)=true→Cu W B k x (Int.ofNat c) s=Gr x (Int.ofNat c) s:=fun h=>by unfold Cu;rw[h];rfl
 refine Tr.dk (fun h0=>?_) (fun h0=>?_)
 · refine Tr.cW (by simp (disch:=omega) only[nV,nW];try omega) ?_
   refine Tr.dk (fun h1=>?_) (fun h1=>?_)
   · refine Tr.cW (by simp (disch:=omega) only[nV,nW];omega) (Tr.cW (by simp (disch:=omega) only[nV,nW];omega) ?_)
     refine Tr.dk (fun h2=>?_) (fun h2=>?_)
     · refine Tr.cW (by simp (disch:=omega) only[nV,nW];omega) (Tr.cW (by simp (disch:=omega) only[nV,nW];omega) (Tr.cW (by simp (disch:=omega) only[nV,nW];omega) ?_))
       refine Tr.dk (fun h3=>?_) (fun h3=>?_)
       · refine Tr.dk (fun h4=>?_) (fun h4=>?_)
         · refine Tr.cW (by simp (disch:=omega) only[nV,nW];try omega) (Tr.cW (by simp (disch:=omega) only[nV,nW];try omega) ?_)
           rw[yes (by unfold A2;rw[h1,h2,h3,h4];rfl),ec]
           exact Tr.bV ⟨rfl,rfl⟩
         · rw[no (by unfold A2;rw[h1,h2,h3,h4];rfl),ec]
           exact Tr.bV ⟨rfl,rfl⟩
       · rw[no (by unfold A2;rw[h1,h2,h3];rfl),ec]
         exact Tr.bV ⟨rfl,rfl⟩
     · rw[no (by unfold A2;rw[h1,h2];rfl),ec]
       exact Tr.bV ⟨rfl,rfl⟩
   · rw[no (by unfold A2;rw[h1];rfl),ec]
     exact Tr.bV ⟨rfl,rfl⟩
 · exfalso
   simp (disch:=omega) only[nV,nW] at h0
   omega
theorem JI (j x:Int) (hl:lc≤10) (s:CS):exec (kO (n+1)) (iw [0,1,1,1,0,0,1,1,0,0,1,0,1,0,0] cB) (zB k v m x j lc (Int.ofNat lc)) (gL x0 v m z::bu::fe dr lc zc lb zb W B b s::G)=some (.exit 6,zB k v m x j lc (Int.ofNat lc)++[(41,.bool false)],gL x0 v m z::bu::fe dr lc zc lb zb W B b s::G):=by
 refine mb (tI n k j x x0 (Int.ofNat lc) v m z dr lc zc lb zb W B s.h s.g s.q b G) (wX n 1) (b9 _ _) (cg _ _) ?_
 refine Tr.dk (fun h0=>?_) (fun h0=>Tr.bV rfl)
 exfalso
 simp (disch:=omega) only[nV,nW] at h0
 omega
theorem Jw (j x:Int) (hl:lc≤10) (s:CS):exec (kO (n+1)) (.block 6 (.loop (iw [0,1,1,1,0,0,1,1,0,0,1,0,1,0,0] cB))) (zB k v m x j lc (Int.ofNat 0)) (gL x0 v m z::bu::fe dr lc zc lb zb W B b s::G) =
 some (.normal,zB k v m x j lc (Int.ofNat lc)++[(41,.bool false)],gL x0 v m z::bu::fe dr lc zc lb zb W B b (wc W B k x lc s)::G):=by
 refine CM (n:=n+1) (f:=73) (nt:=83) (d:=2) (i:=4) 6 (fun c=>zB k v m x j lc (Int.ofNat c)) (fun c=>gL x0 v m z::bu::fe dr lc zc lb zb W B b (wc W B k x c s)::G) lc (_,_) (by omega) (fun c hc=>?_) ?_
 · exact Lx n k x0 v m z dr lc zc lb zb W B b G j x c hc hl (wc W B k x c s)
 · exact JI n k x0 v m z dr lc zc lb zb W B b G j x hl _
theorem b6:∀ b,(6,b) ∈ bf (part Tryd.f73 [1,1,1,0,1,0,1,0,1,1,1,0,0])→b=.loop (part Tryd.f73 [1,1,1,0,1,0,1,0,1,1,1,0,0,1,1,0,0,1,0,1,0,0]):=DO (by kernel_rfl)
theorem b4:∀ b,(4,b) ∈ bf (part Tryd.f73 [1,1,1,0,1,0,1,0,1,1])→b=.loop (part Tryd.f73 [1,1,1,0,1,0,1,0,1,1,1,0,0]):=DO (by kernel_rfl)
end
end Go.Eng.Q
end
section
namespace Go.Eng.Q
open Go.Proofs Go.Eng.Gall
theorem Fm (x:Nat):BitVec.ofInt 64 (x:Int)=BitVec.ofNat 64 x:=by
 apply BitVec.eq_of_toInt_eq;simp
theorem lS {x:Nat} (h:x<2 ^ 64):IntKind.u64.wrap (x:Int)=x:=Go.IntWalk.u64_in _ (by omega)
theorem Lu {x y:Nat} (hx:x<2 ^ 63) (hy:y<2 ^ 63):yo .u64 (x:Int) (y:Int)=((x ||| y:Nat):Int):=by
 rw[rZ]
 show IntKind.u64.wrap ((BitVec.ofInt 64 (x:Int) ||| BitVec.ofInt 64 (y:Int)).toNat:Nat)=_
 have h1:x ||| y<2 ^ 63:=Nat.or_lt_two_pow hx hy
 rw[Fm,Fm,BitVec.toNat_or,BitVec.toNat_ofNat,BitVec.toNat_ofNat,Nat.mod_eq_of_lt (by omega),Nat.mod_eq_of_lt (by omega),lS (by omega)]
theorem GB {x y:Nat} (hx:x<2 ^ 63) (hy:y<2 ^ 63):vo .u64 (x:Int) (y:Int)=((x &&& y:Nat):Int):=by
 rw[nF]
 show IntKind.u64.wrap ((BitVec.ofInt 64 (x:Int) &&& BitVec.ofInt 64 (y:Int)).toNat:Nat)=_
 have h1:x &&& y<2 ^ 63:=Nat.and_lt_two_pow x hy
 rw[Fm,Fm,BitVec.toNat_and,BitVec.toNat_ofNat,BitVec.toNat_ofNat,Nat.mod_eq_of_lt (by omega),Nat.mod_eq_of_lt (by omega),lS (by omega)]
theorem ER {i:Nat} (hi:i<62):iQ .u64 (Int.ofNat 1) (Int.ofNat i)=((2 ^ i:Nat):Int):=by
 rw[xx]
 show IntKind.u64.wrap (1*2 ^ min i 64)=_
 have:(2:Nat) ^ i≤2 ^ 62:=Nat.pow_le_pow_right (by decide) (by omega)
 rw[Nat.min_eq_left (by omega),Int.one_mul,show (2:Int) ^ i=((2 ^ i:Nat):Int) from by rw[Int.natCast_pow];rfl]
 generalize (2:Nat) ^ i=P at *
 exact lS (by omega)
theorem DM {X c:Nat} (hX:X<2 ^ 62) (hc:c<62):qM (vo .u64 (X:Int) (iQ .u64 (Int.ofNat 1) (Int.ofNat c))) (Int.ofNat 0)=!X.testBit c:=by
 have:(2:Nat) ^ c≤2 ^ 61:=Nat.pow_le_pow_right (by decide) (by omega)
 rw[ER hc,GB (by omega) (by omega),ef]
 have key:(X &&& 2 ^ c=0)↔X.testBit c=false:=by
  constructor
  · intro h
    have:=congrArg (fun y=>y.testBit c) h
    simpa[Nat.testBit_and,Nat.testBit_two_pow_self] using this
  · intro h
    apply Nat.eq_of_testBit_eq
    intro i
    rw[Nat.testBit_and,Nat.testBit_two_pow,Nat.zero_testBit]
    by_cases e:c=i
    · subst e;rw[h];rfl
    · rw[decide_eq_false e,Bool.and_false]
 rw[Bool.eq_iff_iff,beq_iff_eq,Bool.not_eq_true',← key]
 show ((X &&& 2 ^ c:Nat):Int)=0↔_
 omega
theorem DN {X c:Nat} (hX:X<2 ^ 62) (hc:c<62) (h:X.testBit c=false):yo .u64 (X:Int) (iQ .u64 (Int.ofNat 1) (Int.ofNat c))=((X+2 ^ c:Nat):Int):=by
 have:(2:Nat) ^ c≤2 ^ 61:=Nat.pow_le_pow_right (by decide) (by omega)
 rw[ER hc,Lu (by omega) (by omega),Ez h]
noncomputable def okW (W B:Nat→Int) (k X c:Nat):Bool:=qM (DH .u64 (B c) (X:Int)) (Int.ofNat 0) && (qp (W (2*c)) (k:Int) && qp (k:Int) (W (2*c+1)))
theorem Ew (W B:Nat→Int) (k:Nat) {X c:Nat} (hX:X<2 ^ 62) (hc:c<62):A2 W B (k:Int) (X:Int) (Int.ofNat c)=(!X.testBit c && okW W B k X c):=by
 unfold A2 okW
 rw[DM hX hc]
 simp only[mq,bc,jR]
 rw[show 23+(Int.ofNat c).toNat*1-23=c by show 23+c*1-23=c;omega,show 3+(Int.ofNat c).toNat*2-3=2*c by show 3+c*2-3=2*c;omega,show 3+(Int.ofNat c).toNat*2+1-3=2*c+1 by show 3+c*2+1-3=2*c+1;omega]
 cases (!X.testBit c)<;>cases (qM (DH .u64 (B c) (X:Int)) (Int.ofNat 0))<;>cases (qp (W (2*c)) (k:Int))<;>cases (qp (k:Int) (W (2*c+1)))<;>rfl
def jl (h:Nat→Bool) (g:Nat→Nat) (q:Nat):CS:=⟨fun l=>match l with | [y]=>decide (0≤y) && h y.toNat | _=>false,fun l=>match l with | [y]=>if 0≤y then (g y.toNat:Int) else 0 | _=>0,q⟩
theorem oX (h:Nat→Bool) (g:Nat→Nat) (q:Nat) (X:Nat) (b:Bool):dA (jl h g q).h [(X:Int)] b=(jl (fun y=>if y=X then b else h y) g q).h:=by
 funext l
 unfold dA
 by_cases e:l=[(X:Int)]
 · subst e
   rw[if_pos rfl]
   show b=(decide ((0:Int)≤(X:Int)) && (if (X:Int).toNat=X then b else _))
   rw[if_pos (Int.toNat_natCast X),decide_eq_true (by omega)];simp
 · rw[if_neg e]
   match l,e with
   | [],_=>rfl
   | [y],e =>
     show (decide (0≤y) && h y.toNat)=(decide (0≤y) && (if y.toNat=X then b else h y.toNat))
     by_cases h0:0≤y
     · rw[if_neg (fun hy=>e (by rw[show y=(X:Int) by omega]))]
     · rw[decide_eq_false h0];rfl
   | _::_::_,_=>rfl
theorem oY (h:Nat→Bool) (g:Nat→Nat) (q:Nat) (X:Nat) (z:Nat):fi (jl h g q).g [(X:Int)] (z:Int)=(jl h (fun y=>if y=X then z else g y) q).g:=by
 funext l
 unfold fi
 by_cases e:l=[(X:Int)]
 · subst e
   rw[if_pos rfl]
   show (z:Int)=(if (0:Int)≤(X:Int) then (((if (X:Int).toNat=X then z else _):Nat):Int) else 0)
   rw[if_pos (by omega),if_pos (Int.toNat_natCast X)]
 · rw[if_neg e]
   match l,e with
   | [],_=>rfl
   | [y],e =>
     show (if 0≤y then (g y.toNat:Int) else 0)=(if 0≤y then (((if y.toNat=X then z else g y.toNat):Nat):Int) else 0)
     by_cases h0:0≤y
     · rw[if_pos h0,if_pos h0,if_neg (fun hy=>e (by rw[show y=(X:Int) by omega]))]
     · rw[if_neg h0,if_neg h0]
   | _::_::_,_=>rfl
theorem zU (h:Nat→Bool) (g:Nat→Nat) (q X:Nat):(jl h g q).g [(X:Int)]=(g X:Int):=by
 show (if (0:Int)≤(X:Int) then (g (X:Int).toNat:Int) else 0)=_
 rw[if_pos (by omega),Int.toNat_natCast]
def Gd (s:CS):Prop:=∃ es,nE (.num .u64) es s.h s.g s.q
theorem zG {h:List Int→Bool} {g:List Int→Int} {q:Nat} (hE:∃ es,nE (.num .u64) es h g q) (a y:Int):∃ es,nE (.num .u64) es (dA h [a] true) (fi g [a] y) (qe (h [a]) q):=by
 obtain ⟨es,hE⟩:=hE
 cases hh:h [a] with
 | false=>exact ⟨_,hh ▸ hE.IG (n:=[a]) (y:=y) rfl (r:=none) hh (fun j hj=>by cases hj)⟩
 | true =>
   obtain ⟨_,j,j1,j2⟩:=hE.all _ hh
   obtain ⟨n,e1,e2⟩:=hE.ent j j1
   have:cG (.num .u64) n=cG (.num .u64) [a]:=by rw[← j2,e1]
   have hn:n=[a]:=fC (hE.fit e2) rfl this
   subst hn
   exact ⟨_,hh ▸ hE.IG (n:=[a]) (y:=y) rfl (r:=some j) hh (fun j' hj'=>by cases hj';exact ⟨j1,e1⟩)⟩
theorem D7 {h:List Int→Bool} {g:List Int→Int} {q:Nat} (hE:∃ es,nE (.num .u64) es h g q) (a:Int):∃ es,nE (.num .u64) es (dA h [a] false) (fi g [a] 0) (sA (h [a]) q):=by
 obtain ⟨es,hE⟩:=hE
 cases hh:h [a] with
 | false=>exact ⟨_,hh ▸ hE.del (n:=[a]) rfl (r:=none) hh (fun j hj=>by cases hj)⟩
 | true =>
   obtain ⟨_,j,j1,j2⟩:=hE.all _ hh
   obtain ⟨n,e1,e2⟩:=hE.ent j j1
   have:cG (.num .u64) n=cG (.num .u64) [a]:=by rw[← j2,e1]
   have hn:n=[a]:=fC (hE.fit e2) rfl this
   subst hn
   exact ⟨_,hh ▸ hE.del (n:=[a]) rfl (r:=some j) hh (fun j' hj'=>by cases hj';exact ⟨j1,e1⟩)⟩
theorem AM (W B:Nat→Int) (k X:Nat) (hX:X<2 ^ 10) (h:Nat→Bool) (g:Nat→Nat) (q:Nat) (hG:Gd (jl h g q)):∀ j,j≤10→(∀ i,i≤j→∀ Y,g Y+g X*cT (okW W B) i k X Y<2 ^ 60) →
 ∃ q',wc W B (k:Int) (X:Int) j (jl h g q)=jl (fun Y=>h Y || decide (0<cT (okW W B) j k X Y)) (fun Y=>g Y+g X*cT (okW W B) j k X Y) q'∧Gd (wc W B (k:Int) (X:Int) j (jl h g q))
 | 0,_,_=>⟨q,by
    have e:∀ Y,cT (okW W B) 0 k X Y=0:=fun Y=>rfl
    simp only[e,Nat.mul_zero,Nat.add_zero]
    show jl h g q=_
    congr 1
    funext Y;simp,hG⟩
 | j + 1,hj,hb=>by
   obtain ⟨q',e,hG'⟩:=AM W B k X hX h g q hG j (by omega) (fun i hi=>hb i (by omega))
   have hX2:X<2 ^ 62:=by omega
   have e2:wc W B (k:Int) (X:Int) (j+1) (jl h g q)=Cu W B (k:Int) (X:Int) (Int.ofNat j) (wc W B (k:Int) (X:Int) j (jl h g q)):=rfl
   rw[e2]
   rw[e] at hG' ⊢
   unfold Cu
   rw[Ew W B k hX2 (by omega)]
   cases ho:(!X.testBit j && okW W B k X j) with
   | false =>
     refine ⟨q',?_,hG'⟩
     have:∀ Y,cT (okW W B) (j+1) k X Y=cT (okW W B) j k X Y:=fun Y=>by rw[vv,ho];simp
     simp only[this];rfl
   | true =>
     have hbit:X.testBit j=false:=by
      cases hx:X.testBit j with
      | false=>rfl
      | true=>rw[hx] at ho;cases ho
     have hc:∀ Y,cT (okW W B) (j+1) k X Y=cT (okW W B) j k X Y+if X+2 ^ j=Y then 1 else 0:=fun Y=>by rw[vv,ho];simp
     have hself:=wG (ok:=okW W B) j k X
     have hp:=Nat.two_pow_pos j
     rw[cond_true]
     have e3:Gr (X:Int) (Int.ofNat j) (jl (fun Y=>h Y || decide (0<cT (okW W B) j k X Y)) (fun Y=>g Y+g X*cT (okW W B) j k X Y) q') =
      jl (fun Y=>h Y || decide (0<cT (okW W B) (j+1) k X Y)) (fun Y=>g Y+g X*cT (okW W B) (j+1) k X Y) (qe ((jl (fun Y=>h Y || decide (0<cT (okW W B) j k X Y)) (fun Y=>g Y+g X*cT (okW W B) j k X Y) q').h [((X+2 ^ j:Nat):Int)]) q'):=by
      unfold Gr
      rw[DN hX2 (by omega) hbit,eN,eO,iX,zU,zU,fT,hself]
      have hb2:=hb (j+1) (by omega) (X+2 ^ j)
      rw[hc,if_pos rfl,Nat.mul_add] at hb2
      rw[show (((g (X+2 ^ j)+g X*cT (okW W B) j k X (X+2 ^ j):Nat):Int)+((g X+g X*0:Nat):Int))=((g (X+2 ^ j)+g X*cT (okW W B) j k X (X+2 ^ j)+g X:Nat):Int) by omega,Go.IntWalk.i64_in _ (by omega),oX,oY]
      show CS.mk (jl _ (fun Y=>g Y+g X*cT (okW W B) j k X Y) q').h (jl (fun Y=>h Y || decide (0<cT (okW W B) j k X Y)) _ q').g _=_
      have a1:(fun y=>if y=X+2 ^ j then true else (h y || decide (0<cT (okW W B) j k X y)))=fun Y=>h Y || decide (0<cT (okW W B) (j+1) k X Y):=by
       funext Y
       rw[hc]
       by_cases e:Y=X+2 ^ j
       · subst e;rw[if_pos rfl,if_pos rfl,decide_eq_true (by omega)];simp
       · rw[if_neg e,if_neg (fun h=>e h.symm)];rfl
      have a2:(fun y=>if y=X+2 ^ j then g (X+2 ^ j)+g X*cT (okW W B) j k X (X+2 ^ j)+g X else g y+g X*cT (okW W B) j k X y)=fun Y=>g Y+g X*cT (okW W B) (j+1) k X Y:=by
       funext Y
       rw[hc]
       by_cases e:Y=X+2 ^ j
       · subst e;rw[if_pos rfl,if_pos rfl,Nat.mul_add];omega
       · rw[if_neg e,if_neg (fun h=>e h.symm)];rfl
      rw[a1,a2];rfl
     refine ⟨_,e3,?_⟩
     unfold Gr
     rw[eN,eO,iX]
     exact zG hG' _ _
theorem EV (W B:Nat→Int) (k X n:Nat) (hX:X<2 ^ 10) (h:Nat→Bool) (g:Nat→Nat) (q:Nat) (hG:Gd (jl h g q)) (hn:n≤10) (hb:∀ i,i≤n→∀ Y,g Y+g X*cT (okW W B) i k X Y<2 ^ 60) :
 ∃ q',EU W B (k:Int) n (X:Int) (jl h g q)=jl (fun Y=>!decide (Y=X) && (h Y || decide (0<cT (okW W B) n k X Y))) (fun Y=>if Y=X then 0 else g Y+g X*cT (okW W B) n k X Y) q'∧Gd (EU W B (k:Int) n (X:Int) (jl h g q)):=by
 obtain ⟨q',e,hG'⟩:=AM W B k X hX h g q hG n hn hb
 unfold EU
 rw[e] at hG' ⊢
 have e3:Gx (X:Int) (jl (fun Y=>h Y || decide (0<cT (okW W B) n k X Y)) (fun Y=>g Y+g X*cT (okW W B) n k X Y) q')=jl (fun Y=>!decide (Y=X) && (h Y || decide (0<cT (okW W B) n k X Y))) (fun Y=>if Y=X then 0 else g Y+g X*cT (okW W B) n k X Y) (sA ((jl (fun Y=>h Y || decide (0<cT (okW W B) n k X Y)) (fun Y=>g Y+g X*cT (okW W B) n k X Y) q').h [(X:Int)]) q'):=by
  unfold Gx
  rw[eN,eO,oz,oX,show (Int.ofNat 0:Int)=((0:Nat):Int) from rfl,oY]
  have a1:(fun y=>if y=X then false else (h y || decide (0<cT (okW W B) n k X y)))=fun Y=>!decide (Y=X) && (h Y || decide (0<cT (okW W B) n k X Y)):=by
   funext Y
   by_cases e:Y=X
   · rw[if_pos e,decide_eq_true e];rfl
   · rw[if_neg e,decide_eq_false e];rfl
  rw[a1];rfl
 refine ⟨_,e3,?_⟩
 unfold Gx
 rw[eN,eO,oz]
 exact D7 hG' _
theorem ET (W B:Nat→Int) (k n:Nat) (hn:n≤10) (hk:k≤10) (q:Nat):∀ (L:List Nat) (z:Nat→Int),(∀ j (h:j<L.length),z j=((L[j]:Nat):Int))→L.Nodup→(∀ x ∈ L,0<cF n (okW W B) k x)→Gd (jl (hD n (okW W B) k []) (gD n (okW W B) k []) q)→∀ m,m≤L.length →
 ∃ q',AL W B (k:Int) n z m (jl (hD n (okW W B) k []) (gD n (okW W B) k []) q)=jl (hD n (okW W B) k (L.take m)) (gD n (okW W B) k (L.take m)) q'∧Gd (AL W B (k:Int) n z m (jl (hD n (okW W B) k []) (gD n (okW W B) k []) q)):=by
 intro L z hz hnd hL hG m
 induction m with
 | zero=>intro _;exact ⟨q,rfl,hG⟩
 | succ m ih =>
   intro hm
   obtain ⟨q',e,hG'⟩:=ih (by omega)
   have e2:AL W B (k:Int) n z (m+1) (jl (hD n (okW W B) k []) (gD n (okW W B) k []) q)=EU W B (k:Int) n (z m) (AL W B (k:Int) n z m (jl (hD n (okW W B) k []) (gD n (okW W B) k []) q)):=rfl
   rw[e2]
   rw[e] at hG' ⊢
   rw[hz m (by omega)]
   have hx:=hL _ (List.getElem_mem (show m<L.length by omega))
   have hlt:=zd hx
   have hp:(2:Nat) ^ n≤2 ^ 10:=Nat.pow_le_pow_right (by decide) hn
   have htake:L.take (m+1)=L.take m++[L[m]'(by omega)]:=by rw[List.take_add_one,List.getElem?_eq_getElem (by omega)];rfl
   have hnin:L[m]'(by omega) ∉ L.take m:=fun hc=>by
    have:=hnd.sublist (List.take_sublist (m+1) L)
    rw[htake,List.nodup_append] at this
    exact this.2.2 _ hc _ List.mem_cons_self rfl
   have hLt:∀ x ∈ L.take m,0<cF n (okW W B) k x:=fun x hx=>hL x (List.mem_of_mem_take hx)
   have hb:∀ i,i≤n→∀ Y,gD n (okW W B) k (L.take m) Y+gD n (okW W B) k (L.take m) (L[m]'(by omega))*cT (okW W B) i k (L[m]'(by omega)) Y<2 ^ 60:=fun i hi Y=>by
    have h1:=FM (hnd.sublist (List.take_sublist m L)) hLt hx hnin i Y hi
    have h2:=CK (n:=n) (ok:=okW W B) k Y
    have h3:=CK (n:=n) (ok:=okW W B) (k+1) Y
    have h4:n ^ k≤10 ^ 10:=Nat.le_trans (Nat.pow_le_pow_left hn k) (Nat.pow_le_pow_right (by decide) hk)
    have h5:n ^ (k+1)≤10 ^ 11:=Nat.le_trans (Nat.pow_le_pow_left hn _) (Nat.pow_le_pow_right (by decide) (by omega))
    omega
   obtain ⟨q'',e3,hG''⟩:=EV W B k (L[m]'(by omega)) n (by omega) _ _ q' hG' hn hb
   refine ⟨q'',?_,hG''⟩
   rw[e3,htake]
   congr 1
   · funext Y;exact By hLt hx Y
   · funext Y;exact Bx hLt hx hnin Y
end Go.Eng.Q
end
section
namespace Go.Eng.Q
open Go.Proofs Go.Eng.Gall
noncomputable def GJ (k:Int):aq:=fQ k++[(6,.nils),(18,.map 2 1),(19,.ptr 0 0 0 0),(20,.tup [.bool false]),(21,.bool false)]
noncomputable def Jx:bT:=⟨false,[(0,.dead)]⟩
theorem Lz (n:Nat) (k x y:Int) (H:aa):aS.pD cL (kO n) (il fI n 0) jY jZ 0 1 (.int .u64 x,.int .i64 y) (hints (fQ k++[(6,.nils),(18,.map 2 1),(19,.ptr 0 0 0 0)])) (⟨false,[(0,.dead)]⟩::H) =
 Tr.req (pC 0 1 8) (Tr.req (qf 0 0) (Tr.req (tg 1 1) (Tr.ok ([(1,AV.ptr 2 0 0 0,none),(3,AV.ptr 2 2 0 0,none),(4,AV.ptr 2 3 0 0,none),(5,AV.int .i64 k,none),(6,AV.slc 0 2 0 0 1 1 none,none),(19,AV.ptr 0 0 0 0,none)],{ lock:=false,bs:=[(0,aN.dead),(0,aN.row (Row.I IntKind.u64 [x])),(0,aN.row (Row.M [bL.arr IntKind.u64 (bx [x]) 1]))] } :: H)))):=by kernel_rfl
theorem LA (n:Nat) (k:Int) (H:aa):aS.te cL (kO n) (il fI n 0) (hints (fQ k++[(6,.nils),(18,.map 2 1),(19,.ptr 0 0 0 0)])) (⟨false,[(0,.dead)]⟩::H) =
 Tr.ok ([(1,AV.ptr 2 0 0 0,none),(3,AV.ptr 2 2 0 0,none),(4,AV.ptr 2 3 0 0,none),(5,AV.int .i64 k,none),(6,AV.nils,none),(18,AV.map 2 1,none),(19,AV.ptr 0 0 0 0,none),(20,AV.tup [AV.bool false],none),(21,AV.bool false,none)],{ lock:=false,bs:=[(0,aN.dead)] } :: H):=by kernel_rfl
theorem tZ (n:Nat) (k:Int) (G:aa):bG (kO n) (il fI n 0) jY jZ nw (hints (GJ k)) (⟨false,[(0,.dead)]⟩::bu::G) =
 Tr.ok (Ex.normal,[(1,AV.ptr 2 0 0 0,none),(3,AV.ptr 2 2 0 0,none),(4,AV.ptr 2 3 0 0,none),(5,AV.int .i64 k,none),(28,AV.nils,none),(29,AV.int .i64 (Int.ofNat 0),some 1),(30,AV.int .i64 (Int.ofNat 0),some 1),(31,AV.bool false,some 1)],{ lock:=false,bs:=[(0,aN.dead)] } :: bu::G):=by kernel_rfl
theorem nO:iw [0,1,1,1,0,0] cB=part Tryd.f73 [1,1,1,0,1,0,1,0,1,1,1,0,0]:=by kernel_rfl
theorem nI:iw [0,1,1,1,0,0,1,1,0,0,1,0,1,0,0] cB=part Tryd.f73 [1,1,1,0,1,0,1,0,1,1,1,0,0,1,1,0,0,1,0,1,0,0]:=by kernel_rfl
theorem Li:nw=part Tryd.f73 [1,1,1,0,1,0,1,0,1,1]:=by kernel_rfl
theorem Jt:∀ b,(6,b) ∈ bf (iw [0,1,1,1,0,0] cB)→b=.loop (iw [0,1,1,1,0,0,1,1,0,0,1,0,1,0,0] cB):=by rw[nO,nI];exact b6
theorem JD:∀ b,(4,b) ∈ bf nw→b=.loop (iw [0,1,1,1,0,0] cB):=by rw[Li,nO];exact b4
section
variable (n:Nat) (k x0:Int) (v m:Nat) (z:Nat→Int) (dr:Int) (lc:Nat) (zc:Nat→Int) (lb:Nat) (zb:Nat→Int) (W B:Nat→Int) (b:aN) (G:aa)
theorem Ly (j:Nat) (hj:j<m) (hm:m≤99990) (hl:lc≤10) (s:CS):∃ y,exec (kO (n+1)) (iw [0,1,1,1,0,0] cB) (yN k v m (Int.ofNat j)) (gL x0 v m z::bu::fe dr lc zc lb zb W B b s::G)=some y ∧
 (y.1=.normal∧tidy 3 y.2.1 y.2.2=(yN k v m (Int.ofNat (j+1)),gL x0 v m z::bu::fe dr lc zc lb zb W B b (EU W B k lc (z j) s)::G)):=by
 have ez:oS 0 (Int.ofNat j) 1=j:=by rw[mq];show 0+j*1=j;omega
 have ec:nv .i64 (Int.ofNat j) (Int.ofNat 1)=Int.ofNat (j+1):=by
  have:=wo j (by omega)
  rw[fT];exact this
 have T:=tO (n+1) (wc W B k (z j) lc s).h (wc W B k (z j) lc s).g (wc W B k (z j) lc s).q k (Int.ofNat j) x0 v m z dr lc zc lb zb W B s.h s.g s.q b G
 rw[ez,ec] at T
 refine zw (Q:=fun y=>y.1=.normal∧tidy 3 y.2.1 y.2.2=(yN k v m (Int.ofNat (j+1)),gL x0 v m z::bu::fe dr lc zc lb zb W B b (EU W B k lc (z j) s)::G)) T (eS _) (nG (b9 _ _) Jt (fun x h=>by rw[← Tr.ab h];simp only[lY.st,cr];exact Jw n k x0 v m z dr lc zc lb zb W B b G (Int.ofNat j) (z j) hl s)) (cg _ _) ?_
 refine Tr.dk (fun h0=>?_) (fun h0=>?_)
 · refine Tr.cW (by simp (disch:=omega) only[nV,nW];try omega) (Tr.cW (by rw[dP];simp) (Tr.cW (by simp (disch:=omega) only[nV,nW];omega) (Tr.gx ⟨rfl,rfl⟩ (Tr.bV ⟨rfl,rfl⟩))))
 · exfalso
   simp (disch:=omega) only[nV,nW] at h0
   omega
theorem JJ (hm:m≤99990) (hl:lc≤10) (s:CS):exec (kO (n+1)) (iw [0,1,1,1,0,0] cB) (yN k v m (Int.ofNat m)) (gL x0 v m z::bu::fe dr lc zc lb zb W B b s::G)=some (.exit 4,yN k v m (Int.ofNat m)++[(31,.bool false)],gL x0 v m z::bu::fe dr lc zc lb zb W B b s::G):=by
 have ez:oS 0 (Int.ofNat m) 1=m:=by rw[mq];show 0+m*1=m;omega
 have T:=tO (n+1) (wc W B k (z m) lc s).h (wc W B k (z m) lc s).g (wc W B k (z m) lc s).q k (Int.ofNat m) x0 v m z dr lc zc lb zb W B s.h s.g s.q b G
 rw[ez] at T
 refine mb T (eS _) (nG (b9 _ _) Jt (fun x h=>by rw[← Tr.ab h];simp only[lY.st,cr];exact Jw n k x0 v m z dr lc zc lb zb W B b G (Int.ofNat m) (z m) hl s)) (cg _ _) ?_
 refine Tr.dk (fun h0=>?_) (fun h0=>Tr.bV rfl)
 exfalso
 simp (disch:=omega) only[nV,nW] at h0
 omega
theorem Lf (hm:m≤99990) (hl:lc≤10) (s:CS):exec (kO (n+1)) (.block 4 (.loop (iw [0,1,1,1,0,0] cB))) (yN k v m (Int.ofNat 0)) (gL x0 v m z::bu::fe dr lc zc lb zb W B b s::G) =
 some (.normal,yN k v m (Int.ofNat m)++[(31,.bool false)],gL x0 v m z::bu::fe dr lc zc lb zb W B b (AL W B k lc z m s)::G):=by
 refine CM (n:=n+1) (f:=73) (nt:=83) (d:=2) (i:=4) 4 (fun c=>yN k v m (Int.ofNat c)) (fun c=>gL x0 v m z::bu::fe dr lc zc lb zb W B b (AL W B k lc z c s)::G) m (_,_) (by omega) (fun c hc=>?_) ?_
 · exact Ly n k x0 v m z dr lc zc lb zb W B b G c hc hm hl (AL W B k lc z c s)
 · exact JJ n k x0 v m z dr lc zc lb zb W B b G hm hl _
theorem IB (hm:m≤99990) (hl:lc≤10) (s:CS):exec (kO (n+1)) nw (GK k v m) (gL x0 v m z::bu::fe dr lc zc lb zb W B b s::G)=some (.normal,yN k v m (Int.ofNat m)++[(31,.bool false)],gL x0 v m z::bu::fe dr lc zc lb zb W B b (AL W B k lc z m s)::G):=by
 refine mb (t10 (n+1) k x0 v m z (fe dr lc zc lb zb W B b s::G) (fe dr lc zc lb zb W B b (AL W B k lc z m s)::G)) (eS _) (nG (b9 _ _) JD (fun x h=>by rw[← Tr.ab h];simp only[lY.st,cr];exact Lf n k x0 v m z dr lc zc lb zb W B b G hm hl s)) (cg _ _) ?_
 exact Tr.gx ⟨rfl,rfl⟩ (Tr.bV rfl)
end
end Go.Eng.Q
end
