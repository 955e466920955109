/- Drop: CheckBath of the program: its searches. -/
import Derived.Test.YtjmjkhpfipglcaaV8DrAx6
import Derived.Test.YtjmjkhpfipglcaaV8EngArgx3
section
namespace Go.Eng
open Go.Proofs
set_option linter.unusedVariables false
set_option linter.unusedSimpArgs false
set_option maxRecDepth 100000
noncomputable def lvW (w:Int) (ls ld:Nat) (zs zd:Nat→Int):Lvl:=⟨false,[(0,.row (.G [.int .i64 w,slA 2 ls zs,slA 3 ld zd])),(0,.row (.I .i64 [w]))]⟩
def lv0:Lvl:=⟨false,[]⟩
noncomputable def slM (m:Nat) (z:Nat→Int) (full:Bool):AV:=.slcT none (.M [.arr .i64 z (mulO m 2)]) 2 m full
noncomputable def fr96 (ls:Nat) (zs:Nat→Int) (j:Int):Frm:=[(0,slA 2 ls zs),(1,AV.fn (Fn.func 62) [] [AV.ptr 2 0 0 0]),(7,AV.int .i64 (Int.ofNat ls)),(8,AV.int .i64 j)]
noncomputable def fr98 (ld:Nat) (zd:Nat→Int) (j:Int):Frm:=[(0,slA 3 ld zd),(1,AV.fn (Fn.func 64) [] [AV.ptr 2 0 0 0]),(7,AV.int .i64 (Int.ofNat ld)),(8,AV.int .i64 j)]
noncomputable def h96 (w:Int) (ls ld:Nat) (zs zd:Nat→Int) (H:Heap):Heap:=lv0::lv0::lvW w ls ld zs zd::H
noncomputable def fr97 (m:Nat) (z:Nat→Int) (full:Bool) (j:Int):Frm:=[(0,slM m z full),(3,.ptr 0 0 0 0),(7,AV.int .i64 (Int.ofNat m)),(8,AV.int .i64 j)]
noncomputable def lv97 (x y:Int):Lvl:=⟨false,[(0,.row (.I .i64 [x,y]))]⟩
theorem t96 (n:Nat) (w:Int) (ls ld:Nat) (zs zd:Nat→Int) (H:Heap) (j:Int):execT (cxD (n+5) 96 19) (il noCt n 5) noBT noRT (part Try.f96 [1,0,1,0,0]) (hints (fr96 ls zs j)) (h96 w ls ld zs zd H) =
 (fun (Z0:Lvl)=>Tr.ite (ltI j (Int.ofNat ls)) (Tr.req (inI j ls) (Tr.req (ltN (idO 0 j 2) (mulO ls 2)) (Tr.req (ltN (addO (idO 0 j 2) 1) (mulO ls 2)) (Tr.req (inI (Int.ofNat 0) 1) (Tr.ite (ltI (zs (idO 0 j 2)) (Int.ofNat 1)) (Tr.ok (Ex.ret,[(4,AV.int .i64 j,none)],{ lock:=false,bs:=[] } :: { lock:=false,bs:=[] } :: Z0::H)) (Tr.ite (ltI (subI .i64 w (Int.ofNat 1)) (zs (idO 0 j 2))) (Tr.ok (Ex.ret,[(4,AV.int .i64 j,none)],{ lock:=false,bs:=[] } :: { lock:=false,bs:=[] } :: Z0::H)) (Tr.req (inI (Int.ofNat 0) 1) (Tr.ite (ltI (zs (addO (idO 0 j 2) 1)) (Int.ofNat 0)) (Tr.ok (Ex.ret,[(4,AV.int .i64 j,none)],{ lock:=false,bs:=[] } :: { lock:=false,bs:=[] } :: Z0::H)) (Tr.ite (ltI (Int.ofNat 1000) (zs (addO (idO 0 j 2) 1))) (Tr.ok (Ex.ret,[(4,AV.int .i64 j,none)],{ lock:=false,bs:=[] } :: { lock:=false,bs:=[] } :: Z0::H)) (Tr.ok (Ex.normal,[(0,slA 2 ls zs,none),(1,AV.fn (Fn.func 62) [] [AV.ptr 2 0 0 0],none),(7,AV.int .i64 (Int.ofNat ls),none),(8,AV.int .i64 (addI .i64 j (Int.ofNat 1)),none)],{ lock:=false,bs:=[] } :: { lock:=false,bs:=[] } :: Z0::H))))))))))) (Tr.ok (Ex.exit 0,[(0,slA 2 ls zs,none),(1,AV.fn (Fn.func 62) [] [AV.ptr 2 0 0 0],none),(7,AV.int .i64 (Int.ofNat ls),none),(8,AV.int .i64 j,none),(9,AV.bool false,some 1)],{ lock:=false,bs:=[] } :: { lock:=false,bs:=[] } :: Z0::H))) { lock:=false,bs:=[(0,Blk.row (Row.G [AV.int .i64 w,slA 2 ls zs,slA 3 ld zd])),(0,Blk.row (Row.I .i64 [w]))] }:=by kernel_rfl
theorem t98 (n:Nat) (w:Int) (ls ld:Nat) (zs zd:Nat→Int) (H:Heap) (j:Int):execT (cxD (n+5) 98 19) (il noCt n 5) noBT noRT (part Try.f98 [1,0,1,0,0]) (hints (fr98 ld zd j)) (h96 w ls ld zs zd H) =
 (fun (Z0:Lvl)=>Tr.ite (ltI j (Int.ofNat ld)) (Tr.req (inI j ld) (Tr.req (ltN (idO 0 j 3) (mulO ld 3)) (Tr.req (ltN (addO (idO 0 j 3) 1) (mulO ld 3)) (Tr.req (ltN (addO (idO 0 j 3) 2) (mulO ld 3)) (Tr.ite (ltI (zd (idO 0 j 3)) (Int.ofNat 0)) (Tr.ok (Ex.ret,[(4,AV.int .i64 j,none)],{ lock:=false,bs:=[] } :: { lock:=false,bs:=[] } :: Z0::H)) (Tr.ite (leI (Int.ofNat ls) (zd (idO 0 j 3))) (Tr.ok (Ex.ret,[(4,AV.int .i64 j,none)],{ lock:=false,bs:=[] } :: { lock:=false,bs:=[] } :: Z0::H)) (Tr.ite (ltI (zd (addO (idO 0 j 3) 2)) (zd (addO (idO 0 j 3) 1))) (Tr.ok (Ex.ret,[(4,AV.int .i64 j,none)],{ lock:=false,bs:=[] } :: { lock:=false,bs:=[] } :: Z0::H)) (Tr.req (inI (Int.ofNat 0) 2) (Tr.ite (ltI (zd (addO (idO 0 j 3) 1)) (Int.ofNat 1)) (Tr.ok (Ex.ret,[(4,AV.int .i64 j,none)],{ lock:=false,bs:=[] } :: { lock:=false,bs:=[] } :: Z0::H)) (Tr.ite (ltI (Int.ofNat 10000) (zd (addO (idO 0 j 3) 1))) (Tr.ok (Ex.ret,[(4,AV.int .i64 j,none)],{ lock:=false,bs:=[] } :: { lock:=false,bs:=[] } :: Z0::H)) (Tr.req (inI (Int.ofNat 1) 2) (Tr.ite (ltI (zd (addO (idO 0 j 3) 2)) (Int.ofNat 1)) (Tr.ok (Ex.ret,[(4,AV.int .i64 j,none)],{ lock:=false,bs:=[] } :: { lock:=false,bs:=[] } :: Z0::H)) (Tr.ite (ltI (Int.ofNat 10000) (zd (addO (idO 0 j 3) 2))) (Tr.ok (Ex.ret,[(4,AV.int .i64 j,none)],{ lock:=false,bs:=[] } :: { lock:=false,bs:=[] } :: Z0::H)) (Tr.ok (Ex.normal,[(0,slA 3 ld zd,none),(1,AV.fn (Fn.func 64) [] [AV.ptr 2 0 0 0],none),(7,AV.int .i64 (Int.ofNat ld),none),(8,AV.int .i64 (addI .i64 j (Int.ofNat 1)),none)],{ lock:=false,bs:=[] } :: { lock:=false,bs:=[] } :: Z0::H))))))))))))))) (Tr.ok (Ex.exit 0,[(0,slA 3 ld zd,none),(1,AV.fn (Fn.func 64) [] [AV.ptr 2 0 0 0],none),(7,AV.int .i64 (Int.ofNat ld),none),(8,AV.int .i64 j,none),(9,AV.bool false,some 1)],{ lock:=false,bs:=[] } :: { lock:=false,bs:=[] } :: Z0::H))) { lock:=false,bs:=[(0,Blk.row (Row.G [AV.int .i64 w,slA 2 ls zs,slA 3 ld zd])),(0,Blk.row (Row.I .i64 [w]))] }:=by kernel_rfl
theorem t97 (n:Nat) (m:Nat) (z:Nat→Int) (full:Bool) (x y:Int) (H:Heap) (j:Int):execT (cxD n 97 19) (il noCt n 0) noBT noRT (part Try.f97 [1,0,1,0,0]) (hints (fr97 m z full j)) (lv97 x y::H) =
 (fun (Z0:Lvl)=>Tr.ite (ltI j (Int.ofNat m)) (Tr.req (inI j m) (Tr.req (ltN (idO 0 j 2) (mulO m 2)) (Tr.req (ltN (addO (idO 0 j 2) 1) (mulO m 2)) (Tr.ite (andB (eqI x (z (idO 0 j 2))) (eqI y (z (addO (idO 0 j 2) 1)))) (Tr.ok (Ex.ret,[(4,AV.int .i64 j,none)],Z0::H)) (Tr.ok (Ex.normal,[(0,AV.slcT none (Row.M [Seg.arr .i64 z (mulO m 2)]) 2 m full,none),(3,AV.ptr 0 0 0 0,none),(7,AV.int .i64 (Int.ofNat m),none),(8,AV.int .i64 (addI .i64 j (Int.ofNat 1)),none)],Z0::H)))))) (Tr.ok (Ex.exit 0,[(0,AV.slcT none (Row.M [Seg.arr .i64 z (mulO m 2)]) 2 m full,none),(3,AV.ptr 0 0 0 0,none),(7,AV.int .i64 (Int.ofNat m),none),(8,AV.int .i64 j,none),(9,AV.bool false,some 1)],Z0::H))) { lock:=false,bs:=[(0,Blk.row (Row.I .i64 [x,y]))] }:=by kernel_rfl
def badP (w:Int) (zs:Nat→Int) (j:Nat):Bool:=decide (zs (j*2)<1) || (decide (w-1<zs (j*2)) || (decide (zs (j*2+1)<0) || decide (1000<zs (j*2+1))))
def badQ (ls:Nat) (zd:Nat→Int) (j:Nat):Bool:=decide (zd (j*3)<0) || (decide ((ls:Int)≤zd (j*3)) || (decide (zd (j*3+2)<zd (j*3+1)) || (decide (zd (j*3+1)<1) || (decide (10000<zd (j*3+1)) || (decide (zd (j*3+2)<1) || decide (10000<zd (j*3+2)))))))
def eqP (z:Nat→Int) (x y:Int) (j:Nat):Bool:=(x == z (j*2)) && (y == z (j*2+1))
section
variable (n:Nat) (w:Int) (ls ld:Nat) (zs zd:Nat→Int) (H:Heap)
theorem l96 (h1:ls≤10) (hw:2≤w∧w≤1000) (x:Res) (hx:(Tr.ite (exN (badP w zs) ls) (Tr.ok (.ret,hints [(4,AV.int .i64 (Int.ofNat (fN (badP w zs) ls 0)))],h96 w ls ld zs zd H)) (Tr.ok (.normal,hints (fr96 ls zs (Int.ofNat ls)++[(9,AV.bool false)]),h96 w ls ld zs zd H))).run=some x) :
 exec (cxD (n+5) 96 19) (.block 0 (.loop (part Try.f96 [1,0,1,0,0]))) (fr96 ls zs (Int.ofNat 0)) (h96 w ls ld zs zd H)=some x.st:=by
 have hw1:IntKind.i64.wrap (w-1)=w-1:=Go.IntWalk.i64_in _ (by omega)
 refine findB (il_no n 5) (noBT_ok _ _) (noRT_ok _ _) 0 (fun j=>fr96 ls zs (Int.ofNat j)) (fun _=>h96 w ls ld zs zd H) ls (badP w zs)
  (fun j=>if j<ls then (.ret,hints [(4,AV.int .i64 (Int.ofNat j))],h96 w ls ld zs zd H) else (.exit 0,hints (fr96 ls zs (Int.ofNat ls))++[(9,AV.bool false,some 1)],h96 w ls ld zs zd H)) (by omega) (fun j hj hp=>?_) (fun j hj hp=>?_) ⟨?_,?_⟩ x ?_
 · refine ⟨hints (fr96 ls zs (Int.ofNat (j+1))),h96 w ls ld zs zd H,?_,hints_eq _,rfl⟩
   simp only[badP,Bool.or_eq_false_iff,decide_eq_false_iff_not] at hp
   rw[t96]
   simp (disch:=omega) only[nX,nS,eqI_eq,subI_eq,hw1]
   rfl
 · rw[if_pos hj]
   refine ⟨?_,rfl⟩
   simp only[badP,Bool.or_eq_true,decide_eq_true_eq] at hp
   rw[t96]
   by_cases e1:zs (j*2)<1<;>by_cases e2:w-1<zs (j*2)<;>by_cases e3:zs (j*2+1)<0<;>by_cases e4:1000<zs (j*2+1)<;>first
    | (exfalso;omega)
    | (simp (disch:=omega) only[nX,nS,eqI_eq,subI_eq,hw1];rfl)
 · rw[if_neg (by omega),t96]
   simp (disch:=omega) only[nX,nS,eqI_eq,subI_eq,hw1]
   rfl
 · rw[if_neg (by omega)]
 · rcases Tr.ite_some hx with ⟨hc,hx⟩ | ⟨hc,hx⟩
   · have:=exN_true hc
     exact .inl ⟨this,by rw[if_pos this,← Tr.ok_some hx]⟩
   · exact .inr ⟨exN_false hc,by rw[if_neg (by omega),← Tr.ok_some hx];rfl⟩
theorem l98 (h1:ld≤40) (x:Res) (hx:(Tr.ite (exN (badQ ls zd) ld) (Tr.ok (.ret,hints [(4,AV.int .i64 (Int.ofNat (fN (badQ ls zd) ld 0)))],h96 w ls ld zs zd H)) (Tr.ok (.normal,hints (fr98 ld zd (Int.ofNat ld)++[(9,AV.bool false)]),h96 w ls ld zs zd H))).run=some x) :
 exec (cxD (n+5) 98 19) (.block 0 (.loop (part Try.f98 [1,0,1,0,0]))) (fr98 ld zd (Int.ofNat 0)) (h96 w ls ld zs zd H)=some x.st:=by
 refine findB (il_no n 5) (noBT_ok _ _) (noRT_ok _ _) 0 (fun j=>fr98 ld zd (Int.ofNat j)) (fun _=>h96 w ls ld zs zd H) ld (badQ ls zd)
  (fun j=>if j<ld then (.ret,hints [(4,AV.int .i64 (Int.ofNat j))],h96 w ls ld zs zd H) else (.exit 0,hints (fr98 ld zd (Int.ofNat ld))++[(9,AV.bool false,some 1)],h96 w ls ld zs zd H)) (by omega) (fun j hj hp=>?_) (fun j hj hp=>?_) ⟨?_,?_⟩ x ?_
 · refine ⟨hints (fr98 ld zd (Int.ofNat (j+1))),h96 w ls ld zs zd H,?_,hints_eq _,rfl⟩
   simp only[badQ,Bool.or_eq_false_iff,decide_eq_false_iff_not] at hp
   rw[t98]
   simp (disch:=omega) only[nX,nS,eqI_eq]
   rfl
 · rw[if_pos hj]
   refine ⟨?_,rfl⟩
   simp only[badQ,Bool.or_eq_true,decide_eq_true_eq] at hp
   rw[t98]
   by_cases e1:zd (j*3)<0<;>by_cases e2:(ls:Int)≤zd (j*3)<;>by_cases e3:zd (j*3+2)<zd (j*3+1)<;>by_cases e4:zd (j*3+1)<1<;>by_cases e5:10000<zd (j*3+1)<;>by_cases e6:zd (j*3+2)<1<;>by_cases e7:10000<zd (j*3+2)<;>first
    | (exfalso;omega)
    | (simp (disch:=omega) only[nX,nS,eqI_eq];rfl)
 · rw[if_neg (by omega),t98]
   simp (disch:=omega) only[nX,nS,eqI_eq]
   rfl
 · rw[if_neg (by omega)]
 · rcases Tr.ite_some hx with ⟨hc,hx⟩ | ⟨hc,hx⟩
   · have:=exN_true hc
     exact .inl ⟨this,by rw[if_pos this,← Tr.ok_some hx]⟩
   · exact .inr ⟨exN_false hc,by rw[if_neg (by omega),← Tr.ok_some hx];rfl⟩
theorem l97 (m:Nat) (z:Nat→Int) (full:Bool) (x' y':Int) (h1:m≤1000) (x:Res) (hx:(Tr.ite (exN (eqP z x' y') m) (Tr.ok (.ret,hints [(4,AV.int .i64 (Int.ofNat (fN (eqP z x' y') m 0)))],lv97 x' y'::H)) (Tr.ok (.normal,hints (fr97 m z full (Int.ofNat m)++[(9,AV.bool false)]),lv97 x' y'::H))).run=some x) :
 exec (cxD (n) 97 19) (.block 0 (.loop (part Try.f97 [1,0,1,0,0]))) (fr97 m z full (Int.ofNat 0)) (lv97 x' y'::H)=some x.st:=by
 refine findB (il_no0 n) (noBT_ok _ _) (noRT_ok _ _) 0 (fun j=>fr97 m z full (Int.ofNat j)) (fun _=>lv97 x' y'::H) m (eqP z x' y')
  (fun j=>if j<m then (.ret,hints [(4,AV.int .i64 (Int.ofNat j))],lv97 x' y'::H) else (.exit 0,hints (fr97 m z full (Int.ofNat m))++[(9,AV.bool false,some 1)],lv97 x' y'::H)) (by omega) (fun j hj hp=>?_) (fun j hj hp=>?_) ⟨?_,?_⟩ x ?_
 · refine ⟨hints (fr97 m z full (Int.ofNat (j+1))),lv97 x' y'::H,?_,hints_eq _,rfl⟩
   rw[t97]
   simp (disch:=omega) only[nX,nS,eqI_eq]
   simp only[eqP] at hp
   rw[hp]
   rfl
 · rw[if_pos hj]
   refine ⟨?_,rfl⟩
   rw[t97]
   simp (disch:=omega) only[nX,nS,eqI_eq]
   simp only[eqP] at hp
   rw[hp]
   rfl
 · rw[if_neg (by omega),t97]
   simp (disch:=omega) only[nX,nS,eqI_eq]
   rfl
 · rw[if_neg (by omega)]
 · rcases Tr.ite_some hx with ⟨hc,hx⟩ | ⟨hc,hx⟩
   · have:=exN_true hc
     exact .inl ⟨this,by rw[if_pos this,← Tr.ok_some hx]⟩
   · exact .inr ⟨exN_false hc,by rw[if_neg (by omega),← Tr.ok_some hx];rfl⟩
end
end Go.Eng
end
section
namespace Go.Eng
open Go.Proofs
set_option linter.unusedVariables false
set_option linter.unusedSimpArgs false
set_option maxRecDepth 100000
def idxN (p:Nat→Bool) (N:Nat):Int:=if exN p N then ((fN p N 0:Nat):Int) else -1
def g97 (ix:(Nat→Int)→Nat→Int→Int→Int):List AV→Option (Prop×AV)
 | [.slcT none (.M [.arr .i64 z N]) 2 m full,.agg (.I .i64 [x,y])]=>some (N=mulO m 2∧leN m 1000=true,.int .i64 (ix z m x y))
 | _=>none
noncomputable def fr19 (ls:Nat) (zs:Nat→Int) (j:Int):Frm:=[(1,AV.ptr 0 0 0 0),(4,.fn (.func 64) [] [.ptr 0 0 0 0]),(32,slA 2 ls zs),(33,.int .i64 (Int.ofNat ls)),(34,.int .i64 j)]
noncomputable def lvX (w:Int) (ls ld:Nat) (zs zd:Nat→Int) (x y:Int):Lvl:=⟨false,[(0,.row (.G [.int .i64 w,slA 2 ls zs,slA 3 ld zd])),(0,.row (.I .i64 [w])),(0,.row (.I .i64 [x,y]))]⟩
theorem u96 (n:Nat) (w:Int) (ls ld:Nat) (zs zd:Nat→Int) (H:Heap) (q:Bool) (i:Int):bodyT Try.prog (cd (n+5)) 100000 96 Try.f96 (Kt.kt 96) (il noCt n 5) (blkE noBT 0 (fr96 ls zs (Int.ofNat 0)) (h96 w ls ld zs zd H) (Tr.ite q (Tr.ok (.ret,hints [(4,AV.int .i64 i)],h96 w ls ld zs zd H)) (Tr.ok (.normal,hints (fr96 ls zs (Int.ofNat ls)++[(9,AV.bool false)]),h96 w ls ld zs zd H)))) noRT [(slA 2 ls zs,none),(.fn (.func 62) [] [.ptr 1 0 0 0],none)] (lv0::lvW w ls ld zs zd::H) =
 (fun (Z0:Lvl)=>((fun (Z1:Frm)=>Tr.reqP (Z1=Z1∧lv0::lv0::Z0::H=lv0::lv0::Z0::H) (Tr.ite q (Tr.ok ((AV.int .i64 i,none),lv0::Z0::H)) (Tr.ok ((AV.int .i64 (Int.negSucc 0),some 1),lv0::Z0::H)))) [(0,slA 2 ls zs),(1,AV.fn (Fn.func 62) [] [AV.ptr 2 0 0 0]),(7,AV.int .i64 (Int.ofNat ls)),(8,AV.int .i64 (Int.ofNat 0))])) { lock:=false,bs:=[(0,Blk.row (Row.G [AV.int .i64 w,slA 2 ls zs,slA 3 ld zd])),(0,Blk.row (Row.I .i64 [w]))] }:=by kernel_rfl
theorem u98 (n:Nat) (w:Int) (ls ld:Nat) (zs zd:Nat→Int) (H:Heap) (q:Bool) (i:Int):bodyT Try.prog (cd (n+5)) 100000 98 Try.f98 (Kt.kt 98) (il noCt n 5) (blkE noBT 0 (fr98 ld zd (Int.ofNat 0)) (h96 w ls ld zs zd H) (Tr.ite q (Tr.ok (.ret,hints [(4,AV.int .i64 i)],h96 w ls ld zs zd H)) (Tr.ok (.normal,hints (fr98 ld zd (Int.ofNat ld)++[(9,AV.bool false)]),h96 w ls ld zs zd H)))) noRT [(slA 3 ld zd,none),(.fn (.func 64) [] [.ptr 1 0 0 0],none)] (lv0::lvW w ls ld zs zd::H) =
 (fun (Z0:Lvl)=>((fun (Z1:Frm)=>Tr.reqP (Z1=Z1∧lv0::lv0::Z0::H=lv0::lv0::Z0::H) (Tr.ite q (Tr.ok ((AV.int .i64 i,none),lv0::Z0::H)) (Tr.ok ((AV.int .i64 (Int.negSucc 0),some 1),lv0::Z0::H)))) [(0,slA 3 ld zd),(1,AV.fn (Fn.func 64) [] [AV.ptr 2 0 0 0]),(7,AV.int .i64 (Int.ofNat ld)),(8,AV.int .i64 (Int.ofNat 0))])) { lock:=false,bs:=[(0,Blk.row (Row.G [AV.int .i64 w,slA 2 ls zs,slA 3 ld zd])),(0,Blk.row (Row.I .i64 [w]))] }:=by kernel_rfl
theorem u97 (n:Nat) (m:Nat) (z:Nat→Int) (full:Bool) (x y:Int) (H:Heap) (q:Bool) (i:Int):bodyT Try.prog (cd n) 100000 97 Try.f97 (Kt.kt 97) (il noCt n 0) (blkE noBT 0 (fr97 m z full (Int.ofNat 0)) (lv97 x y::H) (Tr.ite q (Tr.ok (.ret,hints [(4,AV.int .i64 i)],lv97 x y::H)) (Tr.ok (.normal,hints (fr97 m z full (Int.ofNat m)++[(9,AV.bool false)]),lv97 x y::H)))) noRT [(slM m z full,none),(.agg (.I .i64 [x,y]),none)] H =
 (fun (Z0:Frm)=>Tr.reqP (Z0=Z0∧{ lock:=false,bs:=[(0,Blk.row (Row.I .i64 [x,y]))] } :: H={ lock:=false,bs:=[(0,Blk.row (Row.I .i64 [x,y]))] } :: H) (Tr.ite q (Tr.ok ((AV.int .i64 i,none),H)) (Tr.ok ((AV.int .i64 (Int.negSucc 0),some 1),H)))) [(0,AV.slcT none (Row.M [Seg.arr .i64 z (mulO m 2)]) 2 m full),(3,AV.ptr 0 0 0 0),(7,AV.int .i64 (Int.ofNat m)),(8,AV.int .i64 (Int.ofNat 0))]:=by kernel_rfl
theorem t19 (n:Nat) (w:Int) (ls ld:Nat) (zs zd:Nat→Int) (H:Heap) (j:Int) (ix:(Nat→Int)→Nat→Int→Int→Int):execT (cxD (n+2) 19 50) (il (ctG noCt 97 (g97 ix)) (n+1) 1) noBT noRT (part Try.f19 [1,1,1,1,0,1,0,0]) (hints (fr19 ls zs j)) (lvW w ls ld zs zd::H) =
 (fun (Z0:Lvl)=>Tr.ite (ltI j (Int.ofNat ls)) (Tr.req (inI j ls) (Tr.req (ltN (idO 0 j 2) (mulO ls 2)) (Tr.req (ltN (addO (idO 0 j 2) 1) (mulO ls 2)) (Tr.req (bndI j ls) (Tr.req (leN (addO (mulO 0 2) (mulO (toN j) 2)) (mulO ls 2)) (Tr.reqP (mulO (toN j) 2=mulO (toN j) 2∧leN (toN j) 1000=true) (Tr.ite (leI (Int.ofNat 0) (ix zs (toN j) (zs (idO 0 j 2)) (zs (addO (idO 0 j 2) 1)))) (Tr.ok (Ex.ret,[(2,AV.int .i64 (Int.ofNat 15),some 1)],Z0::H)) (Tr.ok (Ex.normal,[(1,AV.ptr 0 0 0 0,none),(4,AV.fn (Fn.func 64) [] [AV.ptr 0 0 0 0],none),(32,slA 2 ls zs,none),(33,AV.int .i64 (Int.ofNat ls),none),(34,AV.int .i64 (addI .i64 j (Int.ofNat 1)),none)],Z0::H))))))))) (Tr.ok (Ex.exit 1,[(1,AV.ptr 0 0 0 0,none),(4,AV.fn (Fn.func 64) [] [AV.ptr 0 0 0 0],none),(32,slA 2 ls zs,none),(33,AV.int .i64 (Int.ofNat ls),none),(34,AV.int .i64 j,none),(35,AV.bool false,some 1)],{ lock:=false,bs:=[(0,Blk.row (Row.G [AV.int .i64 w,slA 2 ls zs,slA 3 ld zd])),(0,Blk.row (Row.I .i64 [w]))] } :: H))) { lock:=false,bs:=[(0,Blk.row (Row.G [AV.int .i64 w,slA 2 ls zs,slA 3 ld zd])),(0,Blk.row (Row.I .i64 [w])),(0,Blk.row (Row.I .i64 [zs (idO 0 j 2),zs (addO (idO 0 j 2) 1)]))] }:=by kernel_rfl
theorem b96:∀ b,(0,b) ∈ blocksOf (bodyOf Try.f96)→b=.loop (part Try.f96 [1,0,1,0,0]):=by
 have:blocksOf (bodyOf Try.f96)=[(0,.loop (part Try.f96 [1,0,1,0,0])),(1,part Try.f96 [1,0,1,0,0,1,1,0,0])]:=by kernel_rfl
 intro b hb;rw[this] at hb;simpa using hb
theorem b98:∀ b,(0,b) ∈ blocksOf (bodyOf Try.f98)→b=.loop (part Try.f98 [1,0,1,0,0]):=by
 have:blocksOf (bodyOf Try.f98)=[(0,.loop (part Try.f98 [1,0,1,0,0])),(1,part Try.f98 [1,0,1,0,0,1,1,0,0])]:=by kernel_rfl
 intro b hb;rw[this] at hb;simpa using hb
theorem b97:∀ b,(0,b) ∈ blocksOf (bodyOf Try.f97)→b=.loop (part Try.f97 [1,0,1,0,0]):=by
 have:blocksOf (bodyOf Try.f97)=[(0,.loop (part Try.f97 [1,0,1,0,0])),(1,part Try.f97 [1,0,1,0,0,1,1,0,0])]:=by kernel_rfl
 intro b hb;rw[this] at hb;simpa using hb
theorem leI_idx (p:Nat→Bool) (N:Nat):leI (Int.ofNat 0) (idxN p N)=exN p N:=by
 rw[leI_eq]
 unfold idxN
 cases exN p N<;>simp
section
variable (n:Nat) (w:Int) (ls ld:Nat) (zs zd:Nat→Int) (H:Heap)
theorem c96 (h1:ls≤10) (hw:2≤w∧w≤1000):cd (n+6) (.fn 96) [slA 2 ls zs,.fn (.func 62) [] [.ptr 1 0 0 0]] (lv0::lvW w ls ld zs zd::H)=some (.int .i64 (idxN (badP w zs) ls),lv0::lvW w ls ld zs zd::H):=by
 refine fn_of (n:=n+5) Try.func96 rfl rfl rfl (u96 n w ls ld zs zd H (exN (badP w zs) ls) (Int.ofNat (fN (badP w zs) ls 0))) (il_no n 5) (blkE_ok (noBT_ok _ _) b96 (fun x hx=>l96 n w ls ld zs zd H h1 hw x hx)) (noRT_ok _ _) (y:=((.int .i64 (idxN (badP w zs) ls),if exN (badP w zs) ls then none else some 1),lv0::lvW w ls ld zs zd::H)) ((Tr.run_reqP ⟨rfl,rfl⟩).trans ?_)
 unfold idxN
 cases exN (badP w zs) ls<;>rfl
theorem c98 (h1:ld≤40):cd (n+6) (.fn 98) [slA 3 ld zd,.fn (.func 64) [] [.ptr 1 0 0 0]] (lv0::lvW w ls ld zs zd::H)=some (.int .i64 (idxN (badQ ls zd) ld),lv0::lvW w ls ld zs zd::H):=by
 refine fn_of (n:=n+5) Try.func98 rfl rfl rfl (u98 n w ls ld zs zd H (exN (badQ ls zd) ld) (Int.ofNat (fN (badQ ls zd) ld 0))) (il_no n 5) (blkE_ok (noBT_ok _ _) b98 (fun x hx=>l98 n w ls ld zs zd H h1 x hx)) (noRT_ok _ _) (y:=((.int .i64 (idxN (badQ ls zd) ld),if exN (badQ ls zd) ld then none else some 1),lv0::lvW w ls ld zs zd::H)) ((Tr.run_reqP ⟨rfl,rfl⟩).trans ?_)
 unfold idxN
 cases exN (badQ ls zd) ld<;>rfl
theorem c97 (m:Nat) (z:Nat→Int) (full:Bool) (x' y':Int) (h1:m≤1000):cd (n+1) (.fn 97) [slM m z full,.agg (.I .i64 [x',y'])] H=some (.int .i64 (idxN (eqP z x' y') m),H):=by
 refine fn_of Try.func97 rfl rfl rfl (u97 n m z full x' y' H (exN (eqP z x' y') m) (Int.ofNat (fN (eqP z x' y') m 0))) (il_no0 n) (blkE_ok (noBT_ok _ _) b97 (fun x hx=>l97 n H m z full x' y' h1 x hx)) (noRT_ok _ _) (y:=((.int .i64 (idxN (eqP z x' y') m),if exN (eqP z x' y') m then none else some 1),H)) ((Tr.run_reqP ⟨rfl,rfl⟩).trans ?_)
 unfold idxN
 cases exN (eqP z x' y') m<;>rfl
theorem ct97 (k:Nat) (t:Ctr) (ht:t.Ok (cd (n+1+k))):(ctG t 97 (g97 fun z m x y=>idxN (eqP z x y) m)).Ok (cd (n+1+k)):=by
 refine ctG_ok ht (fun args p v h hp H=>?_)
 unfold g97 at h
 split at h
 · simp only[nP] at h
   obtain ⟨rfl,rfl⟩:=h
   obtain ⟨rfl,hp⟩:=hp
   rw[leN_eq,decide_eq_true_eq] at hp
   rw[show n+1+k=n+k+1 by omega]
   exact c97 (n+k) H _ _ _ _ _ hp
 · cases h
theorem il19:(il (ctG noCt 97 (g97 fun z m x y=>idxN (eqP z x y) m)) (n+1) 1).Ok (cd (n+2)):=il_ok _ (n+1) 1 (fun k=>ct97 n k _ (noCt_ok _))
theorem l19 (h1:ls≤10) (x:Res) (hx:(Tr.ite (exN (fun i=>exN (eqS zs i) i) ls) (Tr.ok (.ret,hints [(2,AV.int .i64 15)],lvX w ls ld zs zd (zs (fN (fun i=>exN (eqS zs i) i) ls 0*2)) (zs (fN (fun i=>exN (eqS zs i) i) ls 0*2+1))::H)) (Tr.ok (.normal,hints (fr19 ls zs (Int.ofNat ls)++[(35,AV.bool false)]),lvW w ls ld zs zd::H))).run=some x) :
 exec (cxD (n+2) 19 50) (.block 1 (.loop (part Try.f19 [1,1,1,1,0,1,0,0]))) (fr19 ls zs (Int.ofNat 0)) (lvW w ls ld zs zd::H)=some x.st:=by
 have st:∀ j,j<ls→(execT (cxD (n+2) 19 50) (il (ctG noCt 97 (g97 fun z m x y=>idxN (eqP z x y) m)) (n+1) 1) noBT noRT (part Try.f19 [1,1,1,1,0,1,0,0]) (hints (fr19 ls zs (Int.ofNat j))) (lvW w ls ld zs zd::H)).run=some (cond (exN (eqS zs j) j) (Ex.ret,[(2,AV.int .i64 15,some 1)],lvX w ls ld zs zd (zs (j*2)) (zs (j*2+1))::H) (.normal,hints (fr19 ls zs (Int.ofNat (j+1))),lvX w ls ld zs zd (zs (j*2)) (zs (j*2+1))::H)):=by
  intro j hj
  rw[t19]
  rw[Tr.run_ite,ltI_eq,decide_eq_true (by simpa using hj),cond_true,Tr.run_req,inI_eq,decide_eq_true (by simpa using hj),cond_true,Tr.run_req,ltN_eq,decide_eq_true (by rw[idO_eq,mulO_eq];simp;omega),cond_true,Tr.run_req,ltN_eq,decide_eq_true (by rw[addO_eq,idO_eq,mulO_eq];simp;omega),cond_true,Tr.run_req,bndI_eq,decide_eq_true (by simp;omega),cond_true,Tr.run_req,leN_eq,decide_eq_true (by rw[addO_eq,mulO_eq,mulO_eq,mulO_eq,toN_eq];simp;omega),cond_true,Tr.run_reqP ⟨rfl,by rw[leN_eq,decide_eq_true_eq,toN_eq];simp;omega⟩,Tr.run_ite,leI_idx]
  simp (disch:=omega) only[nX,nS,eqI_eq,toN_eq]
  show cond (exN (eqS zs j) j) _ _=_
  cases exN (eqS zs j) j<;>rfl
 refine findB (il19 n) (noBT_ok _ _) (noRT_ok _ _) 1 (fun j=>fr19 ls zs (Int.ofNat j)) (fun _=>lvW w ls ld zs zd::H) ls (fun i=>exN (eqS zs i) i)
  (fun j=>if j<ls then (.ret,[(2,AV.int .i64 15,some 1)],lvX w ls ld zs zd (zs (j*2)) (zs (j*2+1))::H) else (.exit 1,hints (fr19 ls zs (Int.ofNat ls))++[(35,AV.bool false,some 1)],lvW w ls ld zs zd::H)) (by omega) (fun j hj hp=>?_) (fun j hj hp=>?_) ⟨?_,?_⟩ x ?_
 · refine ⟨hints (fr19 ls zs (Int.ofNat (j+1))),lvX w ls ld zs zd (zs (j*2)) (zs (j*2+1))::H,?_,hints_eq _,rfl⟩
   rw[st j hj,hp];rfl
 · rw[if_pos hj]
   exact ⟨by rw[st j hj,hp];rfl,rfl⟩
 · rw[if_neg (by omega),t19]
   simp (disch:=omega) only[nX,nS,eqI_eq]
   rfl
 · rw[if_neg (by omega)]
 · rcases Tr.ite_some hx with ⟨hc,hx⟩ | ⟨hc,hx⟩
   · have:=exN_true hc
     exact .inl ⟨this,by rw[if_pos this,← Tr.ok_some hx];rfl⟩
   · exact .inr ⟨exN_false hc,by rw[if_neg (by omega),← Tr.ok_some hx];rfl⟩
end
end Go.Eng
end
section
namespace Go.Eng
open Go.Proofs
set_option linter.unusedVariables false
set_option linter.unusedSimpArgs false
set_option maxRecDepth 100000
theorem u19 (n:Nat) (w:Int) (ls ld:Nat) (zs zd:Nat→Int) (H:Heap) (q:Bool) (i1 i2 x y:Int):bodyT Try.prog (cd (n+10)) 100000 19 Try.f19 (Kt.kt 19) (il (ctE (ctE noCt 96 [slA 2 ls zs,.fn (.func 62) [] [.ptr 1 0 0 0]] (lv0::lvW w ls ld zs zd::H) (.ok (.int .i64 i1,lv0::lvW w ls ld zs zd::H))) 98 [slA 3 ld zd,.fn (.func 64) [] [.ptr 1 0 0 0]] (lv0::lvW w ls ld zs zd::H) (.ok (.int .i64 i2,lv0::lvW w ls ld zs zd::H))) (n+6) 4) (blkE noBT 1 (fr19 ls zs (Int.ofNat 0)) (lvW w ls ld zs zd::H) (Tr.ite q (Tr.ok (.ret,hints [(2,AV.int .i64 15)],lvX w ls ld zs zd x y::H)) (Tr.ok (.normal,hints (fr19 ls zs (Int.ofNat ls)++[(35,AV.bool false)]),lvW w ls ld zs zd::H)))) noRT [(bathA w ls zs ld zd,none)] H =
 (fun (Z0:Lvl)=>((fun (Z1:Frm)=>Tr.req (inI (Int.ofNat 0) 1) (Tr.ite (ltI w (Int.ofNat 2)) (Tr.ok ((AV.int .i64 (Int.ofNat 2),some 1),H)) (Tr.ite (ltI (Int.ofNat 1000) w) (Tr.ok ((AV.int .i64 (Int.ofNat 2),some 1),H)) (Tr.ite (ltI (Int.ofNat 10) (Int.ofNat ls)) (Tr.ok ((AV.int .i64 (Int.ofNat 6),some 1),H)) (Tr.ite (ltI (Int.ofNat 40) (Int.ofNat ld)) (Tr.ok ((AV.int .i64 (Int.ofNat 6),some 1),H)) (Tr.reqP ([slA 2 ls zs,AV.fn (Fn.func 62) [] [AV.ptr 1 0 0 0]]=[slA 2 ls zs,AV.fn (Fn.func 62) [] [AV.ptr 1 0 0 0]]∧lv0::Z0::H=lv0::Z0::H) (Tr.ite (leI (Int.ofNat 0) i1) (Tr.ok ((AV.int .i64 (Int.ofNat 3),some 1),H)) (Tr.reqP (Z1=Z1∧Z0::H=Z0::H) (Tr.ite q (Tr.ok ((AV.int .i64 (Int.ofNat 15),none),H)) (Tr.reqP ([slA 3 ld zd,AV.fn (Fn.func 64) [] [AV.ptr 1 0 0 0]]=[slA 3 ld zd,AV.fn (Fn.func 64) [] [AV.ptr 1 0 0 0]]∧lv0::Z0::H=lv0::Z0::H) (Tr.ite (leI (Int.ofNat 0) i2) (Tr.ok ((AV.int .i64 (Int.ofNat 16),some 1),H)) (Tr.ok ((AV.int .i64 (Int.ofNat 0),some 1),H))))))))))))) [(1,AV.ptr 0 0 0 0),(4,AV.fn (Fn.func 64) [] [AV.ptr 0 0 0 0]),(32,slA 2 ls zs),(33,AV.int .i64 (Int.ofNat ls)),(34,AV.int .i64 (Int.ofNat 0))])) { lock:=false,bs:=[(0,Blk.row (Row.G [AV.int .i64 w,slA 2 ls zs,slA 3 ld zd])),(0,Blk.row (Row.I .i64 [w]))] }:=by kernel_rfl
theorem v19 (n:Nat) (w:Int) (ls ld:Nat) (zs zd:Nat→Int) (H:Heap):bodyT Try.prog (cd (n+4)) 100000 19 Try.f19 (Kt.kt 19) (il (ctE (ctE noCt 96 [] [] .bad) 98 [] [] .bad) n 4) (stopB noBT 1) noRT [(bathA w ls zs ld zd,none)] H =
 Tr.req (inI (Int.ofNat 0) 1) (Tr.ite (ltI w (Int.ofNat 2)) (Tr.ok ((AV.int .i64 (Int.ofNat 2),some 1),H)) (Tr.ite (ltI (Int.ofNat 1000) w) (Tr.ok ((AV.int .i64 (Int.ofNat 2),some 1),H)) (Tr.ite (ltI (Int.ofNat 10) (Int.ofNat ls)) (Tr.ok ((AV.int .i64 (Int.ofNat 6),some 1),H)) (Tr.ite (ltI (Int.ofNat 40) (Int.ofNat ld)) (Tr.ok ((AV.int .i64 (Int.ofNat 6),some 1),H)) (Tr.reqP ([slA 2 ls zs,AV.fn (Fn.func 62) [] [AV.ptr 1 0 0 0]]=[]∧lv0::{ lock:=false,bs:=[(0,Blk.row (Row.G [AV.int .i64 w,slA 2 ls zs,slA 3 ld zd])),(0,Blk.row (Row.I .i64 [w]))] } :: H=[]) Tr.bad))))):=by kernel_rfl
theorem b19:∀ b,(1,b) ∈ blocksOf (bodyOf Try.f19)→b=.loop (part Try.f19 [1,1,1,1,0,1,0,0]):=by
 have:blocksOf (bodyOf Try.f19)=[(0,part Try.f19 [1,1,1,0,0]),(1,.loop (part Try.f19 [1,1,1,1,0,1,0,0])),(2,part Try.f19 [1,1,1,1,0,1,0,0,1,1,0,0])]:=by kernel_rfl
 intro b hb;rw[this] at hb;simpa using hb
theorem exN_congr {p q:Nat→Bool} {N:Nat} (h:∀ i,i<N→p i=q i):exN p N=exN q N:=by
 rw[Bool.eq_iff_iff,exN_iff,exN_iff]
 constructor
 · rintro ⟨i,h1,h2⟩;exact ⟨i,h1,by rw[← h i h1];exact h2⟩
 · rintro ⟨i,h1,h2⟩;exact ⟨i,h1,by rw[h i h1];exact h2⟩
theorem badP_eq (w:Int) (zs:Nat→Int) (j:Nat):badP w zs j=badS w zs j:=by
 unfold badP badS
 rw[show decide (w-1<zs (j*2))=decide (w≤zs (j*2)) by rw[decide_eq_decide];omega]
theorem badQ_eq (ls:Nat) (zd:Nat→Int) (j:Nat):badQ ls zd j=badD ls zd j:=by
 rw[Bool.eq_iff_iff]
 unfold badQ badD
 simp only[Bool.or_eq_true,decide_eq_true_eq]
 omega
section
variable (n:Nat) (w:Int) (ls ld:Nat) (zs zd:Nat→Int) (H:Heap)
theorem c19:cd (n+11) (.fn 19) [bathA w ls zs ld zd] H=some (.int .i64 (chkB w ls ld zs zd),H):=by
 have out:(w<2∨1000<w∨¬ ls≤10∨¬ ld≤40)→cd (n+11) (.fn 19) [bathA w ls zs ld zd] H=some (.int .i64 (chkB w ls ld zs zd),H):=by
  intro ho
  refine fn_of (n:=n+6+4) Try.func19 rfl rfl rfl (v19 (n+6) w ls ld zs zd H) (il_ok _ (n+6) 4 (fun k=>ctE_ok (ctE_ok (noCt_ok _) (fun x hx=>(Tr.bad_some hx).elim)) (fun x hx=>(Tr.bad_some hx).elim))) (stopB_ok (noBT_ok _ _) 1) (noRT_ok _ _) (y:=((.int .i64 (chkB w ls ld zs zd),some 1),H)) ?_
  by_cases e1:w<2<;>by_cases e2:1000<w<;>by_cases e3:10<ls<;>by_cases e4:40<ld<;>first
   | (exfalso;omega)
   | (simp (disch:=omega) only[nX,nS,eqI_eq,chkB,e1,e2,e3,e4,decide_true,decide_false];rfl)
 by_cases hw1:w<2
 · exact out (.inl hw1)
 by_cases hw2:1000<w
 · exact out (.inr (.inl hw2))
 by_cases hls:ls≤10
 case neg=>exact out (.inr (.inr (.inl hls)))
 by_cases hld:ld≤40
 case neg=>exact out (.inr (.inr (.inr hld)))
 have q1:exN (badP w zs) ls=exN (badS w zs) ls:=exN_congr fun i _=>badP_eq w zs i
 have q2:exN (badQ ls zd) ld=exN (badD ls zd) ld:=exN_congr fun i _=>badQ_eq ls zd i
 refine fn_of (n:=n+10) Try.func19 rfl rfl rfl (u19 n w ls ld zs zd H (exN (fun i=>exN (eqS zs i) i) ls) (idxN (badP w zs) ls) (idxN (badQ ls zd) ld) (zs (fN (fun i=>exN (eqS zs i) i) ls 0*2)) (zs (fN (fun i=>exN (eqS zs i) i) ls 0*2+1))) (il_ok _ (n+6) 4 (fun k=>ctE_ok (ctE_ok (noCt_ok _) (fun x hx=>?_)) (fun x hx=>?_))) (blkE_ok (noBT_ok _ _) b19 (fun x hx=>l19 (n+8) w ls ld zs zd H hls x hx)) (noRT_ok _ _) (y:=((.int .i64 (chkB w ls ld zs zd),if exN (badS w zs) ls then some 1 else if exN (fun i=>exN (eqS zs i) i) ls then none else some 1),H)) ?_
 · rw[← Tr.ok_some hx,show n+6+k=n+k+6 by omega]
   exact c96 (n+k) w ls ld zs zd H hls (by omega)
 · rw[← Tr.ok_some hx,show n+6+k=n+k+6 by omega]
   exact c98 (n+k) w ls ld zs zd H hld
 · rw[Tr.run_req,inI_eq,decide_eq_true (by decide),cond_true,Tr.run_ite,ltI_eq,decide_eq_false (by simpa using hw1),cond_false,Tr.run_ite,ltI_eq,decide_eq_false (by simpa using hw2),cond_false,Tr.run_ite,ltI_eq,decide_eq_false (by simp;omega),cond_false,Tr.run_ite,ltI_eq,decide_eq_false (by simp;omega),cond_false,Tr.run_reqP ⟨rfl,rfl⟩,Tr.run_ite,leI_idx,q1]
   have e3:¬ 10<ls:=by omega
   have e4:¬ 40<ld:=by omega
   simp only[chkB,hw1,hw2,e3,e4,decide_false,cond_false]
   cases exN (badS w zs) ls with
   | true=>rfl
   | false =>
     rw[cond_false,Tr.run_reqP (by simp),Tr.run_ite]
     cases exN (fun i=>exN (eqS zs i) i) ls with
     | true=>rfl
     | false =>
       rw[cond_false,Tr.run_reqP (by simp),Tr.run_ite,leI_idx,q2]
       cases exN (badD ls zd) ld<;>rfl
end
end Go.Eng
end
section
namespace Go.Eng
open Go.Proofs
set_option linter.unusedVariables false
set_option linter.unusedSimpArgs false
set_option maxRecDepth 100000
noncomputable def lvT (w:Int) (ls ld:Nat) (zs zd sz kd:Nat→Int) (rest:List (Nat×Blk)):Lvl:=⟨false,(0,.row (.G [.int .i64 w,slA 2 ls zs,slA 3 ld zd]))::(0,.row (.M [.arr .i64 sz (mulO ls 2)]))::(0,.row (.M [.one (.int .i64 w),.one (slA 2 ls zs),.one (slA 3 ld zd),.one (.slc 0 1 0 0 2 ls (some ls)),.arr .i64 kd 144]))::(0,.row (.G [.ptr 0 2 0 0]))::rest⟩
noncomputable def fr77 (ld:Nat) (zd:Nat→Int) (j:Int):Frm:=[(3,AV.ptr 0 3 0 0),(17,slA 3 ld zd),(18,AV.int .i64 (Int.ofNat ld)),(19,AV.int .i64 j)]
noncomputable def cxR (n f nt d i:Nat):Cx:=⟨Try.prog,cd n,100000,f,nt,Kt.kt f,some (d,i)⟩
noncomputable def cap0 (s:Nat):AV:=.ptrT (some s) (.G [.ptr 0 2 0 0]) 0
noncomputable def lvP (p:Int) (rest:List (Nat×Blk)):Lvl:=⟨false,(0,.row (.I .i64 [p]))::rest⟩
def g112 (bo:Int→Int→Int→Int→Int→Int→Bool):List AV→Option (Prop×AV)
 | [.int .i64 a,.int .i64 c,.agg (.I .i64 [x,y]),.agg (.I .i64 [x',y'])]=>some (True,.bool (bo a c x y x' y'))
 | _=>none
noncomputable def hT (pp w:Int) (ls ld:Nat) (zs zd sz kd:Nat→Int) (H:Heap) (L Li:ALoop):Heap:=lv0::lv0::lvP pp [(0,.loop Li)]::lv0::lvT w ls ld zs zd sz kd [(0,.loop L)]::H
def szs (zd:Nat→Int):Nat→Nat→Int
 | 0=>fun _=>0
 | j+1=>fun i=>if i=(zd (j*3)).toNat*2+1 then IntKind.i64.wrap (szs zd j ((zd (j*3)).toNat*2+1)+zd (j*3+2)) else if i=(zd (j*3)).toNat*2 then IntKind.i64.wrap (szs zd j ((zd (j*3)).toNat*2)+zd (j*3+1)) else szs zd j i
theorem t77 (n:Nat) (w:Int) (ls ld:Nat) (zs zd sz kd:Nat→Int) (H:Heap) (j:Int):execT (cxD n 77 94) (il noCt n 0) noBT noRT (part Try.f77 [1,1,0,1,0,0]) (hints (fr77 ld zd j)) (lvT w ls ld zs zd sz kd []::H) =
 (fun (Z0:Nat×Blk)=>Tr.ite (ltI j (Int.ofNat ld)) (Tr.req (inI j ld) (Tr.req (ltN (idO 0 j 3) (mulO ld 3)) (Tr.req (ltN (addO (idO 0 j 3) 1) (mulO ld 3)) (Tr.req (ltN (addO (idO 0 j 3) 2) (mulO ld 3)) (Tr.req (inI (zd (idO 0 j 3)) ls) (Tr.req (eqN 0 0) (Tr.req (ltN (idO 0 (zd (idO 0 j 3)) 2) (mulO ls 2)) (Tr.req (eqN 0 0) (Tr.req (ltN (idO 0 (zd (idO 0 j 3)) 2) (mulO ls 2)) (Tr.req (andB (leN 0 0) (leN 0 1)) (Tr.req (eqN 0 0) (Tr.req (ltN (addO (idO 0 (zd (idO 0 j 3)) 2) 1) (mulO ls 2)) (Tr.req (eqN 0 0) (Tr.req (ltN (addO (idO 0 (zd (idO 0 j 3)) 2) 1) (mulO ls 2)) (Tr.req (andB (leN 0 0) (leN 0 1)) (Tr.ok (Ex.normal,[(3,AV.ptr 0 3 0 0,none),(17,slA 3 ld zd,none),(18,AV.int .i64 (Int.ofNat ld),none),(19,AV.int .i64 (addI .i64 j (Int.ofNat 1)),none)],{ lock:=false,bs:=[(0,Blk.row (Row.G [AV.int .i64 w,slA 2 ls zs,slA 3 ld zd])),(0,Blk.row (Row.M [Seg.arr .i64 (updO (updO sz (idO 0 (zd (idO 0 j 3)) 2) (addI .i64 (sz (idO 0 (zd (idO 0 j 3)) 2)) (zd (addO (idO 0 j 3) 1)))) (addO (idO 0 (zd (idO 0 j 3)) 2) 1) (addI .i64 (updO sz (idO 0 (zd (idO 0 j 3)) 2) (addI .i64 (sz (idO 0 (zd (idO 0 j 3)) 2)) (zd (addO (idO 0 j 3) 1))) (addO (idO 0 (zd (idO 0 j 3)) 2) 1)) (zd (addO (idO 0 j 3) 2)))) (mulO ls 2)])),Z0,(0,Blk.row (Row.G [AV.ptr 0 2 0 0])),(0,Blk.row (Row.I .i64 [zd (idO 0 j 3),zd (addO (idO 0 j 3) 1),zd (addO (idO 0 j 3) 2)]))] } :: H))))))))))))))))) (Tr.ok (Ex.exit 0,[(3,AV.ptr 0 3 0 0,none),(17,slA 3 ld zd,none),(18,AV.int .i64 (Int.ofNat ld),none),(19,AV.int .i64 j,none),(20,AV.bool false,some 1)],{ lock:=false,bs:=[(0,Blk.row (Row.G [AV.int .i64 w,slA 2 ls zs,slA 3 ld zd])),(0,Blk.row (Row.M [Seg.arr .i64 sz (mulO ls 2)])),Z0,(0,Blk.row (Row.G [AV.ptr 0 2 0 0]))] } :: H))) (0,Blk.row (Row.M [Seg.one (AV.int .i64 w),Seg.one (slA 2 ls zs),Seg.one (slA 3 ld zd),Seg.one (AV.slc 0 1 0 0 2 ls (some ls)),Seg.arr .i64 kd 144])):=by kernel_rfl
theorem u112 (n:Nat) (a c x y x' y':Int) (H:Heap):bodyT Try.prog (cd n) 100000 112 Try.f112 (Kt.kt 112) (il noCt n 0) noBT noRT [(.int .i64 a,none),(.int .i64 c,none),(.agg (.I .i64 [x,y]),none),(.agg (.I .i64 [x',y']),none)] H =
 Tr.ite (ltI (Int.ofNat 0) c) (Tr.ite (leI (subI .i64 (subI .i64 (addI .i64 (mulI .i64 (subI .i64 x x') (subI .i64 x x')) (mulI .i64 (subI .i64 y y') (subI .i64 y y'))) a) c) (Int.ofNat 0)) (Tr.ok ((AV.bool true,some 1),H)) (Tr.ok ((AV.bool (leI (mulI .i64 (subI .i64 (subI .i64 (addI .i64 (mulI .i64 (subI .i64 x x') (subI .i64 x x')) (mulI .i64 (subI .i64 y y') (subI .i64 y y'))) a) c) (subI .i64 (subI .i64 (addI .i64 (mulI .i64 (subI .i64 x x') (subI .i64 x x')) (mulI .i64 (subI .i64 y y') (subI .i64 y y'))) a) c)) (mulI .i64 (mulI .i64 (Int.ofNat 4) a) c)),none),H))) (Tr.ok ((AV.bool false,some 1),H)):=by kernel_rfl
def bothT (a c x y x' y':Int):Bool :=
 let wr:=IntKind.i64.wrap
 let lack:=wr (wr (wr (wr (wr (x-x')*wr (x-x'))+wr (wr (y-y')*wr (y-y')))-a)-c)
 decide (0<c) && (decide (lack≤0) || decide (wr (lack*lack)≤wr (wr (4*a)*c)))
theorem c112 (n:Nat) (a c x y x' y':Int) (H:Heap):cd (n+1) (.fn 112) [.int .i64 a,.int .i64 c,.agg (.I .i64 [x,y]),.agg (.I .i64 [x',y'])] H=some (.bool (bothT a c x y x' y'),H):=by
 refine fn_of Try.func112 rfl rfl rfl (u112 n a c x y x' y' H) (il_no0 n) (noBT_ok _ _) (noRT_ok _ _) (y:=((.bool (bothT a c x y x' y'),if 0<c then (if leI (subI .i64 (subI .i64 (addI .i64 (mulI .i64 (subI .i64 x x') (subI .i64 x x')) (mulI .i64 (subI .i64 y y') (subI .i64 y y'))) a) c) 0 then some 1 else none) else some 1),H)) ?_
 have e0:Int.ofNat 0=0:=rfl
 have e4:Int.ofNat 4=4:=rfl
 simp only[Tr.run_ite,bothT,ltI_eq,leI_eq,subI_eq,addI_eq,mulI_eq,Tr.run_ok,e0,e4]
 by_cases h1:0<c
 · simp only[h1,decide_true,cond_true,Bool.true_and,if_true]
   generalize IntKind.i64.wrap (IntKind.i64.wrap (IntKind.i64.wrap (IntKind.i64.wrap (IntKind.i64.wrap (x-x')*IntKind.i64.wrap (x-x'))+IntKind.i64.wrap (IntKind.i64.wrap (y-y')*IntKind.i64.wrap (y-y')))-a)-c)=lack
   by_cases h2:lack≤0
   · simp only[h2,decide_true,cond_true,Bool.true_or,if_true]
   · simp only[h2,decide_false,cond_false,Bool.false_or,Bool.false_eq_true,if_false]
 · simp only[h1,decide_false,cond_false,Bool.false_and,if_false]
section
variable (n:Nat) (w:Int) (ls ld:Nat) (zs zd kd:Nat→Int) (H:Heap)
theorem l77 (h1:ld≤40) (hd:∀ j,j<ld→0≤zd (j*3)∧zd (j*3)<ls):exec (cxD n 77 94) (.block 0 (.loop (part Try.f77 [1,1,0,1,0,0]))) (fr77 ld zd (Int.ofNat 0)) (lvT w ls ld zs zd (szs zd 0) kd []::H)=some (.normal,fr77 ld zd (Int.ofNat ld)++[(20,AV.bool false)],lvT w ls ld zs zd (szs zd ld) kd []::H):=by
 refine forB (il_no0 n) (noBT_ok _ _) (noRT_ok _ _) 0 (fun j=>fr77 ld zd (Int.ofNat j)) (fun j=>lvT w ls ld zs zd (szs zd j) kd []::H) ld (.exit 0,hints (fr77 ld zd (Int.ofNat ld))++[(20,AV.bool false,some 1)],lvT w ls ld zs zd (szs zd ld) kd []::H) (by omega) (fun j hj=>?_) ⟨?_,rfl⟩
 · obtain ⟨d1,d2⟩:=hd j hj
   refine ⟨hints (fr77 ld zd (Int.ofNat (j+1))),lvT w ls ld zs zd (szs zd (j+1)) kd [(0,.row (.I .i64 [zd (j*3),zd (j*3+1),zd (j*3+2)]))]::H,?_,hints_eq _,rfl⟩
   rw[t77]
   have hz:updO (updO (szs zd j) ((zd (j*3)).toNat*2) (IntKind.i64.wrap (szs zd j ((zd (j*3)).toNat*2)+zd (j*3+1)))) ((zd (j*3)).toNat*2+1) (IntKind.i64.wrap (updO (szs zd j) ((zd (j*3)).toNat*2) (IntKind.i64.wrap (szs zd j ((zd (j*3)).toNat*2)+zd (j*3+1))) ((zd (j*3)).toNat*2+1)+zd (j*3+2)))=szs zd (j+1):=by
    rw[updO_fn]
    funext i
    simp only[szs]
    by_cases e1:i=(zd (j*3)).toNat*2+1
    · rw[if_pos e1,if_pos e1,if_neg (by omega)]
    · rw[if_neg e1,if_neg e1]
   simp (disch:=omega) only[nX,nS,eqI_eq,eqN_eq,decide_true]
   rw[hz]
   rfl
 · rw[t77]
   simp (disch:=omega) only[nX,nS,eqI_eq]
   rfl
end
end Go.Eng
end
