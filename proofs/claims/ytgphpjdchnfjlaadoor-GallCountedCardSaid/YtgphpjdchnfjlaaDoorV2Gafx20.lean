/- Gall: bounds, the program's: trees. -/
import Derived.Test.YtgphpjdchnfjlaaDoorV2Gabx4
import Derived.Test.YtgphpjdchnfjlaaDoorV2EngRnOx7
import Derived.Test.YtgphpjdchnfjlaaDoorV2EngRnFx7
import Derived.Test.YtgphpjdchnfjlaaDoorV2Ga8x3
set_option linter.unusedVariables false
set_option linter.unusedSimpArgs false
set_option maxRecDepth 100000
section
namespace Go.Eng
open Go.Proofs
noncomputable def cM (r:Nat→Int):Nat×aq:=(0,.row (.M [.arr .i64 r 20]))
noncomputable def fk (bs:List (Nat×aq)):bA:=⟨false,cM (fun _=>Int.ofNat 0)::bs⟩
noncomputable def mU (A:AV) (lc:Nat) (t:Int):az:=[(0,A),(2,.ptr 0 0 0 0),(3,.ptr 0 1 0 0),(17,.int .i64 (Int.ofNat lc)),(18,.int .i64 t)]
noncomputable def xy (A:AV) (lc:Nat) (t:Int) (B:Nat→Int) (c:Int):az:=[(0,A),(2,.ptr 0 0 0 0),(3,.ptr 0 1 0 0),(4,.ptr 0 2 0 0),(17,.int .i64 (Int.ofNat lc)),(18,.int .i64 t),(24,.agg (.M [.arr .u64 B 10])),(25,.int .i64 c)]
noncomputable def Ae (A:AV) (lc:Nat) (t:Int) (B:Nat→Int) (c x:Int):az:=[(0,A),(2,.ptr 0 0 0 0),(3,.ptr 0 1 0 0),(4,.ptr 0 2 0 0),(5,.int .i64 c),(6,.int .u64 x),(17,.int .i64 (Int.ofNat lc)),(18,.int .i64 t),(24,.agg (.M [.arr .u64 B 10])),(25,.int .i64 c)]
noncomputable def Ou (cz:Int→Int):List AV→Option (Prop×AV)
 | [.int .u64 x]=>some (0≤x∧x<18446744073709551616,.int .i64 (cz x))
 | _=>none
theorem Nr (n:Nat) (dr:Int) (lc:Nat) (zc:Nat→Int) (lb:Nat) (zb:Nat→Int) (W B:Nat→Int) (H:aa) (cz:Int→Int) (r q:Nat→Int) (t c x:Int):aW (cj n 56 69) (il (oa a6 82 (Ou cz)) n 0) bp br (part Tryd.f56 [1,1,0,1,0,0,1,1,0,0,1,0,1,0,0,1,1,0,0,1,0,0]) (hints (Ae (shV dr lc zc lb zb W B) lc t B c x)) (fk [cM r,cM q]::H) =
 Tr.ite (bL (cJ x (Int.ofNat 0))) (Tr.reqP (Int.NonNeg (x-0)∧Int.NonNeg (18446744073709551616-(x+1))) (Tr.req (dj c 10) (Tr.req (cG 0 0) (Tr.req (cZ (aC 0 c 2) 20) (Tr.req (dj (cz x) 10) (Tr.req (cG 0 0) (Tr.req (cZ (aC 0 (cz x) 2) 20) (Tr.req (dj c 10) (Tr.req (cG 0 0) (Tr.req (cZ (aC 0 c 2) 20) (Tr.req (b7 (gm 0 0) (gm 0 1)) (Tr.req (dj (cz x) 10) (Tr.req (cG 0 0) (Tr.req (cZ (av (aC 0 (cz x) 2) 1) 20) (Tr.req (dj c 10) (Tr.req (cG 0 0) (Tr.req (cZ (av (aC 0 c 2) 1) 20) (Tr.req (dj (cz x) 10) (Tr.req (cG 0 0) (Tr.req (cZ (av (aC 0 (cz x) 2) 1) 20) (Tr.req (b7 (gm 0 0) (gm 0 1)) (Tr.ok (Ex.normal,[(0,shV dr lc zc lb zb W B,none),(2,AV.ptr 0 0 0 0,none),(3,AV.ptr 0 1 0 0,none),(4,AV.ptr 0 2 0 0,none),(5,AV.int .i64 c,none),(6,AV.int IntKind.u64 (pj IntKind.u64 x (bX IntKind.u64 x (Int.ofNat 1))),none),(17,AV.int .i64 (Int.ofNat lc),none),(18,AV.int .i64 t,none),(24,AV.agg (Row.M [an.arr IntKind.u64 B 10]),none),(25,AV.int .i64 c,none)],{ lock:=false,bs:=[(0,aq.row (Row.M [an.arr .i64 (fun x=>Int.ofNat 0) 20])),(0,aq.row (Row.M [an.arr .i64 (eW (eW r (aC 0 c 2) (uk (r (aC 0 c 2)) (bg .i64 (r (aC 0 (cz x) 2)) (Int.ofNat 1)))) (av (aC 0 (cz x) 2) 1) (ya (eW r (aC 0 c 2) (uk (r (aC 0 c 2)) (bg .i64 (r (aC 0 (cz x) 2)) (Int.ofNat 1))) (av (aC 0 (cz x) 2) 1)) (bX .i64 (eW r (aC 0 c 2) (uk (r (aC 0 c 2)) (bg .i64 (r (aC 0 (cz x) 2)) (Int.ofNat 1))) (av (aC 0 c 2) 1)) (Int.ofNat 1)))) 20])),(0,aq.row (Row.M [an.arr .i64 q 20]))] } :: H))))))))))))))))))))))) (Tr.ok (Ex.exit 4,[(0,shV dr lc zc lb zb W B,none),(2,AV.ptr 0 0 0 0,none),(3,AV.ptr 0 1 0 0,none),(4,AV.ptr 0 2 0 0,none),(5,AV.int .i64 c,none),(6,AV.int IntKind.u64 x,none),(17,AV.int .i64 (Int.ofNat lc),none),(18,AV.int .i64 t,none),(24,AV.agg (Row.M [an.arr IntKind.u64 B 10]),none),(25,AV.int .i64 c,none),(30,AV.bool false,some 1)],{ lock:=false,bs:=[(0,aq.row (Row.M [an.arr .i64 (fun x=>Int.ofNat 0) 20])),(0,aq.row (Row.M [an.arr .i64 r 20])),(0,aq.row (Row.M [an.arr .i64 q 20]))] } :: H)):=by kernel_rfl
theorem Qt (n:Nat) (dr:Int) (lc:Nat) (zc:Nat→Int) (lb:Nat) (zb:Nat→Int) (W B:Nat→Int) (H:aa) (r q r':Nat→Int) (t c x:Int):aW (cj n 56 69) (il a6 n 0) (dc bp 4 (Ae (shV dr lc zc lb zb W B) lc t B c (B (aC 0 c 1))) (fk [cM r,cM q]::H) (.ok (.normal,hints (Ae (shV dr lc zc lb zb W B) lc t B c x++[(30,.bool false)]),fk [cM r',cM q]::H))) br (part Tryd.f56 [1,1,0,1,0,0,1,1,0,0,1,0,1,0,0]) (hints (xy (shV dr lc zc lb zb W B) lc t B c)) (fk [cM r,cM q]::H) =
 (fun (Z0:bA)=>((fun (Z1:az)=>Tr.ite (bO c (Int.ofNat 10)) (Tr.req (dj c 10) (Tr.req (cZ (aC 0 c 1) 10) (Tr.reqP (Z1=Z1∧Z0::H=Z0::H) (Tr.ok (Ex.normal,[(0,shV dr lc zc lb zb W B,none),(2,AV.ptr 0 0 0 0,none),(3,AV.ptr 0 1 0 0,none),(4,AV.ptr 0 2 0 0,none),(17,AV.int .i64 (Int.ofNat lc),none),(18,AV.int .i64 t,none),(24,AV.agg (Row.M [an.arr IntKind.u64 B 10]),none),(25,AV.int .i64 (bg .i64 c (Int.ofNat 1)),none)],{ lock:=false,bs:=[(0,aq.row (Row.M [an.arr .i64 (fun x=>Int.ofNat 0) 20])),(0,aq.row (Row.M [an.arr .i64 r' 20])),(0,aq.row (Row.M [an.arr .i64 q 20]))] } :: H))))) (Tr.ok (Ex.exit 2,[(0,shV dr lc zc lb zb W B,none),(2,AV.ptr 0 0 0 0,none),(3,AV.ptr 0 1 0 0,none),(4,AV.ptr 0 2 0 0,none),(17,AV.int .i64 (Int.ofNat lc),none),(18,AV.int .i64 t,none),(24,AV.agg (Row.M [an.arr IntKind.u64 B 10]),none),(25,AV.int .i64 c,none),(26,AV.bool false,some 1)],Z0::H))) [(0,shV dr lc zc lb zb W B),(2,AV.ptr 0 0 0 0),(3,AV.ptr 0 1 0 0),(4,AV.ptr 0 2 0 0),(5,AV.int .i64 c),(6,AV.int IntKind.u64 (B (aC 0 c 1))),(17,AV.int .i64 (Int.ofNat lc)),(18,AV.int .i64 t),(24,AV.agg (Row.M [an.arr IntKind.u64 B 10])),(25,AV.int .i64 c)])) { lock:=false,bs:=[(0,aq.row (Row.M [an.arr .i64 (fun x=>Int.ofNat 0) 20])),(0,aq.row (Row.M [an.arr .i64 r 20])),(0,aq.row (Row.M [an.arr .i64 q 20]))] }:=by kernel_rfl
theorem Nq (n:Nat) (dr:Int) (lc:Nat) (zc:Nat→Int) (lb:Nat) (zb:Nat→Int) (W B:Nat→Int) (H:aa) (r q:Nat→Int) (t:Int):aW (cj n 56 69) (il a6 n 0) (jB bp 4) br (part Tryd.f56 [1,1,0,1,0,0,1,1,0,0,1,0,1,0,0]) (hints (xy (shV dr lc zc lb zb W B) lc t B 10)) (fk [cM r,cM q]::H) =
 Tr.ite (bO (Int.ofNat 10) (Int.ofNat 10)) (Tr.req (dj (Int.ofNat 10) 10) (Tr.req (cZ (aC 0 (Int.ofNat 10) 1) 10) Tr.bad)) (Tr.ok (Ex.exit 2,[(0,shV dr lc zc lb zb W B,none),(2,AV.ptr 0 0 0 0,none),(3,AV.ptr 0 1 0 0,none),(4,AV.ptr 0 2 0 0,none),(17,AV.int .i64 (Int.ofNat lc),none),(18,AV.int .i64 t,none),(24,AV.agg (Row.M [an.arr IntKind.u64 B 10]),none),(25,AV.int .i64 (Int.ofNat 10),none),(26,AV.bool false,some 1)],{ lock:=false,bs:=[(0,aq.row (Row.M [an.arr .i64 (fun x=>Int.ofNat 0) 20])),(0,aq.row (Row.M [an.arr .i64 r 20])),(0,aq.row (Row.M [an.arr .i64 q 20]))] } :: H)):=by kernel_rfl
theorem Qs (n:Nat) (dr:Int) (lc:Nat) (zc:Nat→Int) (lb:Nat) (zb:Nat→Int) (W B:Nat→Int) (H:aa) (r r':Nat→Int) (t:Int):aW (cj n 56 69) (il a6 n 0) (dc bp 2 (xy (shV dr lc zc lb zb W B) lc t B (Int.ofNat 0)) (fk [cM r,cM r]::H) (.ok (.normal,hints (xy (shV dr lc zc lb zb W B) lc t B (Int.ofNat 10)++[(26,.bool false)]),fk [cM r',cM r]::H))) br (part Tryd.f56 [1,1,0,1,0,0]) (hints (mU (shV dr lc zc lb zb W B) lc t)) (fk [cM r]::H) =
 (fun (Z0:az)=>((fun (Z1:Nat×aq)=>((fun (Z2:Nat×aq)=>Tr.ite (bO t (Int.ofNat lc)) (Tr.req (fC 0 20 0 20) (Tr.reqP (Z0=Z0∧{ lock:=false,bs:=[Z1,Z2,(0,aq.row (Row.M [an.arr .i64 (oo (fun x=>Int.ofNat 0) 0 r 20) 20]))] } :: H={ lock:=false,bs:=[Z1,Z2,Z2] } :: H) (Tr.ite (lA r' r 20) (Tr.ok (Ex.exit 0,[(0,shV dr lc zc lb zb W B,none),(2,AV.ptr 0 0 0 0,none),(3,AV.ptr 0 1 0 0,none),(17,AV.int .i64 (Int.ofNat lc),none),(18,AV.int .i64 t,none),(66,AV.bool true,some 1)],{ lock:=false,bs:=[Z1,(0,aq.row (Row.M [an.arr .i64 r' 20])),Z2] } :: H)) (Tr.ok (Ex.normal,[(0,shV dr lc zc lb zb W B,none),(2,AV.ptr 0 0 0 0,none),(3,AV.ptr 0 1 0 0,none),(17,AV.int .i64 (Int.ofNat lc),none),(18,AV.int .i64 (bg .i64 t (Int.ofNat 1)),none)],{ lock:=false,bs:=[Z1,(0,aq.row (Row.M [an.arr .i64 r' 20])),Z2] } :: H))))) (Tr.ok (Ex.exit 0,[(0,shV dr lc zc lb zb W B,none),(2,AV.ptr 0 0 0 0,none),(3,AV.ptr 0 1 0 0,none),(17,AV.int .i64 (Int.ofNat lc),none),(18,AV.int .i64 t,none),(19,AV.bool false,some 1)],{ lock:=false,bs:=[Z1,Z2] } :: H))) (0,aq.row (Row.M [an.arr .i64 r 20])))) (0,aq.row (Row.M [an.arr .i64 (fun x=>Int.ofNat 0) 20])))) [(0,shV dr lc zc lb zb W B),(2,AV.ptr 0 0 0 0),(3,AV.ptr 0 1 0 0),(4,AV.ptr 0 2 0 0),(17,AV.int .i64 (Int.ofNat lc)),(18,AV.int .i64 t),(24,AV.agg (Row.M [an.arr IntKind.u64 B 10])),(25,AV.int .i64 (Int.ofNat 0))]:=by kernel_rfl
theorem Np (n:Nat) (dr:Int) (lc:Nat) (zc:Nat→Int) (lb:Nat) (zb:Nat→Int) (W B:Nat→Int) (H:aa) (r:Nat→Int) (t:Int):aW (cj n 56 69) (il a6 n 0) (jB bp 2) br (part Tryd.f56 [1,1,0,1,0,0]) (hints (mU (shV dr lc zc lb zb W B) lc t)) (fk [cM r]::H) =
 Tr.ite (bO t (Int.ofNat lc)) (Tr.req (fC 0 20 0 20) Tr.bad) (Tr.ok (Ex.exit 0,[(0,shV dr lc zc lb zb W B,none),(2,AV.ptr 0 0 0 0,none),(3,AV.ptr 0 1 0 0,none),(17,AV.int .i64 (Int.ofNat lc),none),(18,AV.int .i64 t,none),(19,AV.bool false,some 1)],{ lock:=false,bs:=[(0,aq.row (Row.M [an.arr .i64 (fun x=>Int.ofNat 0) 20])),(0,aq.row (Row.M [an.arr .i64 r 20]))] } :: H)):=by kernel_rfl
theorem QE (n:Nat) (dr:Int) (lc:Nat) (zc:Nat→Int) (lb:Nat) (zb:Nat→Int) (W B:Nat→Int) (H:aa) (r:Nat→Int):bE Tryd.prog (cd n) 100000 56 Tryd.f56 (KtG.kt 56) (il a6 n 0) (dc bp 0 (mU (shV dr lc zc lb zb W B) lc (Int.ofNat 0)) (fk [cM W]::H) (.ok (.normal,hints (mU (shV dr lc zc lb zb W B) lc (Int.ofNat lc)++[(19,.bool false)]),fk [cM r]::H))) br [(shV dr lc zc lb zb W B,none)] H =
 (fun (Z0:az)=>Tr.req (fC 0 20 0 20) (Tr.reqP (Z0=Z0∧{ lock:=false,bs:=[(0,aq.row (Row.M [an.arr .i64 (fun x=>Int.ofNat 0) 20])),(0,aq.row (Row.M [an.arr .i64 (oo (fun x=>Int.ofNat 0) 0 W 20) 20]))] } :: H={ lock:=false,bs:=[(0,aq.row (Row.M [an.arr .i64 (fun x=>Int.ofNat 0) 20])),(0,aq.row (Row.M [an.arr .i64 W 20]))] } :: H) (Tr.req (fC 0 20 0 20) (Tr.ok ((AV.agg (Row.M [an.arr .i64 (oo (fun x=>Int.ofNat 0) 0 r 20) 20]),none),H))))) [(0,shV dr lc zc lb zb W B),(2,AV.ptr 0 0 0 0),(3,AV.ptr 0 1 0 0),(17,AV.int .i64 (Int.ofNat lc)),(18,AV.int .i64 (Int.ofNat 0))]:=by kernel_rfl
theorem QF (n:Nat) (dr:Int) (lc:Nat) (zc:Nat→Int) (lb:Nat) (zb:Nat→Int) (W B:Nat→Int) (H:aa) (r q:Nat→Int) (t:Int):bE Tryd.prog (cd n) 100000 56 Tryd.f56 (KtG.kt 56) (il a6 n 0) (dc bp 0 (mU (shV dr lc zc lb zb W B) lc (Int.ofNat 0)) (fk [cM W]::H) (.ok (.normal,hints (mU (shV dr lc zc lb zb W B) lc t++[(66,.bool true)]),fk [cM r,cM q]::H))) br [(shV dr lc zc lb zb W B,none)] H =
 (fun (Z0:az)=>Tr.req (fC 0 20 0 20) (Tr.reqP (Z0=Z0∧{ lock:=false,bs:=[(0,aq.row (Row.M [an.arr .i64 (fun x=>Int.ofNat 0) 20])),(0,aq.row (Row.M [an.arr .i64 (oo (fun x=>Int.ofNat 0) 0 W 20) 20]))] } :: H={ lock:=false,bs:=[(0,aq.row (Row.M [an.arr .i64 (fun x=>Int.ofNat 0) 20])),(0,aq.row (Row.M [an.arr .i64 W 20]))] } :: H) (Tr.req (fC 0 20 0 20) (Tr.ok ((AV.agg (Row.M [an.arr .i64 (oo (fun x=>Int.ofNat 0) 0 r 20) 20]),none),H))))) [(0,shV dr lc zc lb zb W B),(2,AV.ptr 0 0 0 0),(3,AV.ptr 0 1 0 0),(17,AV.int .i64 (Int.ofNat lc)),(18,AV.int .i64 (Int.ofNat 0))]:=by kernel_rfl
end Go.Eng
end
section
namespace Go.Eng
open Go.Proofs Go.Eng.Gall
theorem EC {c:Nat} (hc:0<c):(oa a6 82 (Ou (fun x=>Int.ofNat (l6 x.toNat)))).Ok (cd c):=by
 obtain ⟨m,rfl⟩:∃ m,c=m+1:=⟨c-1,by omega⟩
 refine lH (bx _) (fun args p v hg hp H=>?_)
 unfold Ou at hg
 split at hg
 · rename_i x
   simp only[nP] at hg
   obtain ⟨rfl,rfl⟩:=hg
   refine rP ?_
   show (match Gall.uq (cd m) 82 [.int .u64 x] H with
    | some x=>some x
    | none=>_)=_
   have e:Gall.uq (cd m) 82 [.int .u64 x] H=some (.int .i64 (Go.Lib.ctz 64 x.toNat),H):=by
    show En [.int .u64 x] H=_
    unfold En
    exact if_pos hp
   rw[e];rfl
 · cases hg
theorem rY {W:Nat→Int} (h:∀ j,20≤j→W j=0):oo (fun _=>Int.ofNat 0) 0 W 20=W:=by
 rw[vM];funext j
 unfold xh
 by_cases e:j<20
 · simp[e]
 · rw[h j (by omega)]
   simp[e]
section
variable {n:Nat} {b:Nat→Nat} {w:Nat→Int}
theorem MM {K:Int} (hw:∀ i,w i≤K) (t c:Nat):fj n b w t c≤K+t:=by
 induction t generalizing c with
 | zero=>have:=hw (2*c);show w (2*c)≤K+((0:Nat):Int);omega
 | succ t ih =>
   rcases jd (fj n b w t c) (fun a=>fj n b w t a+1) (fun a=>(b c).testBit a) n with e | ⟨a,h1,h2,h3⟩
   · have:fj n b w (t+1) c=fj n b w t c:=e
     have:=ih c;omega
   · have:fj n b w (t+1) c=fj n b w t a+1:=h3
     have:=ih a;omega
theorem Mr {K:Int} (hw:∀ i,-K≤w i) (t c:Nat):fh n b w t c≤K+t:=by
 induction t generalizing c with
 | zero=>have:=hw (2*c+1);show -w (2*c+1)≤K+((0:Nat):Int);omega
 | succ t ih =>
   rcases jd (fh n b w t c) (fun a=>fh n b w t a+1) (fun a=>(b a).testBit c) n with e | ⟨a,h1,h2,h3⟩
   · have:fh n b w (t+1) c=fh n b w t c:=e
     have:=ih c;omega
   · have:fh n b w (t+1) c=fh n b w t a+1:=h3
     have:=ih a;omega
theorem zP {K:Int} (hK:0≤K) (hw:∀ i,-K≤w i∧w i≤K) {t:Nat} {r:Nat→Int} (hr:Bd n b w t r) (c:Nat) (hc:c<n):(-K≤r (2*c)∧r (2*c)≤K+n)∧-K-n≤r (2*c+1)∧r (2*c+1)≤K:=by
 have h1:=hr.lo c hc
 have h2:=hr.hi c hc
 have h3:=MM (n:=n) (b:=b) (fun i=>(hw i).2) n c
 have h4:=Mr (n:=n) (b:=b) (fun i=>(hw i).1) n c
 have h5:fj n b w 0 c≤fj n b w t c:=by have:=lo_le (n:=n) (b:=b) (w:=w) 0 t c;rwa [Nat.zero_add] at this
 have h6:fh n b w 0 c≤fh n b w t c:=by have:=BG (n:=n) (b:=b) (w:=w) 0 t c;rwa [Nat.zero_add] at this
 have h7:fj n b w 0 c=w (2*c):=rfl
 have h8:fh n b w 0 c=-w (2*c+1):=rfl
 have h9:=hw (2*c)
 have h10:=hw (2*c+1)
 omega
end
structure lz (lc:Nat) (W:Nat→Int) (b:Nat→Nat):Prop where
 len:lc≤10
 win:∀ j,-100000≤W j∧W j≤100000
 zer:∀ j,20≤j→W j=0
 bef:∀ c,c<lc→b c<2 ^ lc
 off:∀ c,lc≤c→b c=0
 nob:fB lc b=false
theorem lz.lt {lc:Nat} {W:Nat→Int} {b:Nat→Nat} (h:lz lc W b) (c:Nat):b c<2 ^ 10:=by
 by_cases hc:c<lc
 · exact Nat.lt_of_lt_of_le (h.bef c hc) (Nat.pow_le_pow_right (by decide) h.len)
 · rw[h.off c (by omega)];decide
theorem lz.bit {lc:Nat} {W:Nat→Int} {b:Nat→Nat} (h:lz lc W b) {c a:Nat} (hb:(b c).testBit a=true):c<lc∧a<lc:=by
 have hc:c<lc:=by
  apply Classical.byContradiction
  intro hn
  rw[h.off c (by omega)] at hb
  simp at hb
 refine ⟨hc,?_⟩
 apply Classical.byContradiction
 intro hn
 have:=Nat.testBit_lt_two_pow (Nat.lt_of_lt_of_le (h.bef c hc) (Nat.pow_le_pow_right (by decide) (show lc≤a by omega)))
 rw[hb] at this;cases this
theorem lz.all {lc:Nat} {W:Nat→Int} {b:Nat→Nat} (h:lz lc W b):Gl lc b (lx b 10):=fun a c=>by
 rw[Ci b 10 (fun c _=>h.lt c)]
 constructor
 · rintro ⟨_,h2⟩
   obtain ⟨h3,h4⟩:=h.bit h2
   exact ⟨h4,h3,h2⟩
 · rintro ⟨_,h1,h2⟩
   exact ⟨by have:=h.len;omega,h2⟩
theorem Iw:∀ b,(0,b) ∈ aO (bz Tryd.f56)→b=.loop (part Tryd.f56 [1,1,0,1,0,0]):=gk (by kernel_rfl)
theorem LO:∀ b,(2,b) ∈ aO (part Tryd.f56 [1,1,0,1,0,0])→b=.loop (part Tryd.f56 [1,1,0,1,0,0,1,1,0,0,1,0,1,0,0]):=gk (by kernel_rfl)
theorem LP:∀ b,(4,b) ∈ aO (part Tryd.f56 [1,1,0,1,0,0,1,1,0,0,1,0,1,0,0])→b=.loop (part Tryd.f56 [1,1,0,1,0,0,1,1,0,0,1,0,1,0,0,1,1,0,0,1,0,0]):=gk (by kernel_rfl)
theorem F8 (r:Nat→Int) (i:Nat) (x:Int):eW r i x=DQ r i x:=by rw[lg];rfl
section
variable (n:Nat) (dr:Int) (lc:Nat) (zc:Nat→Int) (lb:Nat) (zb:Nat→Int) (W:Nat→Int) (b:Nat→Nat) (H:aa)
theorem Po (hS:lz lc W b) (q r:Nat→Int) (t':Nat) (hr:Bd lc b W t' r) (t:Int) (c:Nat) (hc:c<10):exec (cj (n+1) 56 69) (.block 4 (.loop (part Tryd.f56 [1,1,0,1,0,0,1,1,0,0,1,0,1,0,0,1,1,0,0,1,0,0]))) (Ae (shV dr lc zc lb zb W (bI b)) lc t (bI b) (c:Int) (bI b c)) (fk [cM r,cM q]::H) =
 some (.normal,Ae (shV dr lc zc lb zb W (bI b)) lc t (bI b) (c:Int) 0++[(30,.bool false)],fk [cM (nR r ((mB 10 (b c)).map fun a=>(a,c))),cM q]::H):=by
 have hlt:=hS.lt c
 obtain ⟨m1,m2,m3⟩:=vJ 10 (b c) (Nat.lt_of_lt_of_le hlt (by decide)) (fun i hi=>⟨by omega,by have:=(hS.bit hi).2;have:=hS.len;omega⟩)
 have hlen:(mB 10 (b c)).length≤10:=by
  have:∀ f x,(mB f x).length≤f:=by
   intro f
   induction f with
   | zero=>intro x;exact Nat.le_refl _
   | succ f ih =>
     intro x
     show (if x=0 then [] else l6 x::mB f (x &&& (x-1))).length≤f+1
     split
     · exact Nat.zero_le _
     · rw[List.length_cons];have:=ih (x &&& (x-1));omega
  exact this 10 (b c)
 have hst:∀ k,k≤(mB 10 (b c)).length→Bd lc b W t' (nR r (((mB 10 (b c)).take k).map fun a=>(a,c))):=fun k hk =>
  (qV hS.nob _ hr (fun p hp=>by
    obtain ⟨a,ha,rfl⟩:=List.mem_map.1 hp
    have hb:=(m1 a).1 (List.mem_of_mem_take ha)
    obtain ⟨h1,h2⟩:=hS.bit hb
    exact ⟨h2,h1,hb⟩)).1
 have hN:nR r ((mB 10 (b c)).map fun a=>(a,c))=nR r (((mB 10 (b c)).take (mB 10 (b c)).length).map fun a=>(a,c)):=by rw[List.take_length]
 rw[hN]
 have hl:=hS.len
 refine kG (n:=n+1) (f:=56) (nt:=69) (c:=part Tryd.f56 [1,1,0,1,0,0,1,1,0,0,1,0,1,0,0,1,1,0,0,1,0,0]) 4 (fun k=>Ae (shV dr lc zc lb zb W (bI b)) lc t (bI b) (c:Int) (jP (b c) k:Nat)) (fun k=>fk [cM (nR r (((mB 10 (b c)).take k).map fun a=>(a,c))),cM q]::H) (mB 10 (b c)).length (_,_) (by omega) (fun k hk=>?_) ?_
 · obtain ⟨z0,z1⟩:=m2 k hk
   have hs:=hst k (by omega)
   have hmem:=(m1 _).1 (List.getElem_mem hk)
   obtain ⟨hcl,hal⟩:=hS.bit hmem
   have htake:(mB 10 (b c)).take (k+1)=(mB 10 (b c)).take k++[(mB 10 (b c))[k]]:=by rw[List.take_add_one,List.getElem?_eq_getElem hk];rfl
   have hlw:l6 (jP (b c) k)=(mB 10 (b c))[k]:=z1.symm
   generalize hR:nR r (((mB 10 (b c)).take k).map fun a=>(a,c))=R at *
   have bc:=zP (K:=100000) (by omega) hS.win hs c hcl
   have ba:=zP (K:=100000) (by omega) hS.win hs (l6 (jP (b c) k)) (by rw[hlw];exact hal)
   have hrl:=K8 (b c) k (Nat.lt_of_lt_of_le hlt (by decide))
   have T:=Nr (n+1) dr lc zc lb zb W (bI b) H (fun x=>Int.ofNat (l6 x.toNat)) R q t (c:Int) ((jP (b c) k:Nat):Int)
   have e1:aC 0 (c:Int) 2=2*c:=by rw[bY];omega
   have e2:aC 0 (Int.ofNat (l6 ((jP (b c) k:Nat):Int).toNat)) 2=2*l6 (jP (b c) k):=by rw[bY,Int.toNat_natCast];show 0+l6 (jP (b c) k)*2=_;omega
   have e3:pj .u64 ((jP (b c) k:Nat):Int) (bX .u64 ((jP (b c) k:Nat):Int) (Int.ofNat 1))=((jP (b c) (k+1):Nat):Int):=by
    rw[dT]
    show pj .u64 _ (IntKind.u64.wrap (((jP (b c) k:Nat):Int)-1))=_
    rw[show ((jP (b c) k:Nat):Int)-1=((jP (b c) k-1:Nat):Int) by omega,Q.jE (by omega),Q.JX (by omega) (by omega)]
    rfl
   rw[e1,e2,aH,aH,e3,F8,F8] at T
   have e4:bg .i64 (R (2*l6 (jP (b c) k))) (Int.ofNat 1)=R (2*l6 (jP (b c) k))+1:=Gm (by show _≤R (2*l6 (jP (b c) k))+1;omega) (by show R (2*l6 (jP (b c) k))+1≤_;omega)
   rw[e4] at T
   have e5:uk (R (2*c)) (R (2*l6 (jP (b c) k))+1)=max (R (2*c)) (R (2*l6 (jP (b c) k))+1):=by rw[rh];omega
   rw[e5] at T
   have e6:DQ R (2*c) (max (R (2*c)) (R (2*l6 (jP (b c) k))+1)) (2*c+1)=R (2*c+1):=by unfold DQ;rw[if_neg (by omega)]
   have e7:bX .i64 (DQ R (2*c) (max (R (2*c)) (R (2*l6 (jP (b c) k))+1)) (2*c+1)) (Int.ofNat 1)=DQ R (2*c) (max (R (2*c)) (R (2*l6 (jP (b c) k))+1)) (2*c+1)-1:=by
    rw[e6]
    exact Ld (by show _≤R (2*c+1)-1;omega) (by show R (2*c+1)-1≤_;omega)
   rw[e7] at T
   have e8:∀ x y:Int,ya x y=min x y:=fun x y=>by rw[ri];omega
   rw[e8] at T
   have e9:nR r (((mB 10 (b c)).take (k+1)).map fun a=>(a,c))=AU R (l6 (jP (b c) k)) c:=by
    rw[htake,List.map_append,Cn,hR,hlw];rfl
   refine aK T (bZ _ _ (EC (by omega))) (ak _ _) (al _ _) ?_
   have hi1:dj (c:Int) 10=true:=by simp (disch:=omega) only[nV,nW];omega
   have hi2:dj (Int.ofNat (l6 ((jP (b c) k:Nat):Int).toNat)) 10=true:=by
    rw[Int.toNat_natCast];simp (disch:=omega) only[nV,nW];rw[hlw];omega
   have h00:cG 0 0=true:=by simp (disch:=omega) only[nV,nW]
   have hl1:cZ (2*c) 20=true:=by simp (disch:=omega) only[nV,nW];omega
   have hl2:cZ (2*l6 (jP (b c) k)) 20=true:=by simp (disch:=omega) only[nV,nW];rw[hlw];omega
   have hl3:cZ (2*l6 (jP (b c) k)+1) 20=true:=by simp (disch:=omega) only[nV,nW];rw[hlw];omega
   have hl4:cZ (2*c+1) 20=true:=by simp (disch:=omega) only[nV,nW];omega
   have hle:b7 (gm 0 0) (gm 0 1)=true:=by simp (disch:=omega) only[nV,nW];omega
   refine Tr.af (fun h0=>?_) (fun h0=>?_)
   · refine Tr.aj ⟨show (0:Int)≤((jP (b c) k:Nat):Int) by omega,show ((jP (b c) k:Nat):Int)<18446744073709551616 by omega⟩ ?_
     refine Tr.ab hi1 (Tr.ab h00 (Tr.ab hl1 (Tr.ab hi2 (Tr.ab h00 (Tr.ab hl2 (Tr.ab hi1 (Tr.ab h00 (Tr.ab hl1 (Tr.ab hle (Tr.ab hi2 (Tr.ab h00 (Tr.ab hl3 (Tr.ab hi1 (Tr.ab h00 (Tr.ab hl4 (Tr.ab hi2 (Tr.ab h00 (Tr.ab hl3 (Tr.ab hle ?_)))))))))))))))))))
     refine Tr.ah ⟨rfl,?_⟩
     rw[e9];rfl
   · rw[aY,aT] at h0
     exfalso
     have:(((jP (b c) k:Nat):Int) == 0)=true:=by simpa using h0
     rw[beq_iff_eq] at this
     omega
 · obtain ⟨x,h1,rfl⟩:=aK (Q:=fun x=>x=(.exit 4,Ae (shV dr lc zc lb zb W (bI b)) lc t (bI b) (c:Int) 0++[(30,.bool false)],fk [cM (nR r (((mB 10 (b c)).take (mB 10 (b c)).length).map fun a=>(a,c))),cM q]::H)) (Nr (n+1) dr lc zc lb zb W (bI b) H (fun x=>Int.ofNat (l6 x.toNat)) (nR r (((mB 10 (b c)).take (mB 10 (b c)).length).map fun a=>(a,c))) q t (c:Int) ((jP (b c) (mB 10 (b c)).length:Nat):Int)) (bZ _ _ (EC (by omega))) (ak _ _) (al _ _) (by
    rw[m3]
    refine Tr.af (fun h0=>?_) (fun h0=>Tr.ah rfl)
    rw[aY,aT] at h0
    exact absurd h0 (by decide))
   exact h1
end
end Go.Eng
end
section
namespace Go.Eng
open Go.Proofs Go.Eng.Gall
section
variable (n:Nat) (dr:Int) (lc:Nat) (zc:Nat→Int) (lb:Nat) (zb:Nat→Int) (W:Nat→Int) (b:Nat→Nat) (H:aa)
theorem Pm (hS:lz lc W b) (q r:Nat→Int) (t':Nat) (hr:Bd lc b W t' r) (t:Int):exec (cj (n+1) 56 69) (.block 2 (.loop (part Tryd.f56 [1,1,0,1,0,0,1,1,0,0,1,0,1,0,0]))) (xy (shV dr lc zc lb zb W (bI b)) lc t (bI b) (Int.ofNat 0)) (fk [cM r,cM q]::H) =
 some (.normal,xy (shV dr lc zc lb zb W (bI b)) lc t (bI b) (Int.ofNat 10)++[(26,.bool false)],fk [cM (nR r (lx b 10)),cM q]::H):=by
 refine kG (n:=n+1) (f:=56) (nt:=69) (c:=part Tryd.f56 [1,1,0,1,0,0,1,1,0,0,1,0,1,0,0]) 2 (fun c=>xy (shV dr lc zc lb zb W (bI b)) lc t (bI b) (c:Int)) (fun c=>fk [cM (nR r (lx b c)),cM q]::H) 10 (_,_) (by omega) (fun c hc=>?_) ?_
 · have hs:Bd lc b W t' (nR r (lx b c)):=(qV hS.nob _ hr (fun p hp=>by
    obtain ⟨a,d⟩:=p
    have:=(Ci b c (fun d _=>hS.lt d) a d).1 hp
    obtain ⟨h1,h2⟩:=hS.bit this.2
    exact ⟨h2,h1,this.2⟩)).1
   have ec:bg .i64 (c:Int) (Int.ofNat 1)=((c+1:Nat):Int):=gr (by omega)
   have T:=Qt (n+1) dr lc zc lb zb W (bI b) H (nR r (lx b c)) q (nR r (lx b (c+1))) t (c:Int) 0
   rw[ec,DN] at T
   have hx:=Po n dr lc zc lb zb W b H hS q (nR r (lx b c)) t' hs t c hc
   rw[← Cn] at hx
   refine aK T (aJ _) (a8 (ak _ _) LP (fun x h=>by rw[← Tr.ae h];simp only[fq.st,aV];exact hx)) (al _ _) ?_
   refine Tr.af (fun h0=>?_) (fun h0=>by simp (disch:=omega) only[nV,nW] at h0;omega)
   exact Tr.ab (by simp (disch:=omega) only[nV,nW];omega) (Tr.ab (by simp (disch:=omega) only[nV,nW];omega) (Tr.aj ⟨rfl,rfl⟩ (Tr.ah ⟨rfl,rfl⟩)))
 · obtain ⟨x,h1,rfl⟩:=aK (Q:=fun x=>x=(.exit 2,xy (shV dr lc zc lb zb W (bI b)) lc t (bI b) (Int.ofNat 10)++[(26,.bool false)],fk [cM (nR r (lx b 10)),cM q]::H)) (Nq (n+1) dr lc zc lb zb W (bI b) H (nR r (lx b 10)) q t) (aJ _) (dJ (ak _ _) 4) (al _ _) (by
    refine Tr.af (fun h0=>by simp (disch:=omega) only[nV,nW] at h0;omega) (fun h0=>Tr.ah rfl))
   exact h1
theorem JZ (hS:lz lc W b) {t:Nat} {r:Nat→Int} (hr:Bd lc b W t r):∀ j,20≤j→r j=0:=fun j hj=>by
 rw[hr.out j (by have:=hS.len;omega)];exact hS.zer j hj
theorem K5 (hS:lz lc W b) (t:Nat) (ht:t<lc):∃ x,exec (cj (n+1) 56 69) (part Tryd.f56 [1,1,0,1,0,0]) (mU (shV dr lc zc lb zb W (bI b)) lc (t:Int)) (fk [cM (ir (lx b 10) W t)]::H)=some x ∧
 if lA (ir (lx b 10) W (t+1)) (ir (lx b 10) W t) 20=true then x=(.exit 0,mU (shV dr lc zc lb zb W (bI b)) lc (t:Int)++[(66,.bool true)],fk [cM (ir (lx b 10) W (t+1)),cM (ir (lx b 10) W t)]::H)
 else x.1=.normal∧tidy 2 x.2.1 x.2.2=(mU (shV dr lc zc lb zb W (bI b)) lc ((t+1:Nat):Int),fk [cM (ir (lx b 10) W (t+1))]::H):=by
 have hb:=oZ (w:=W) hS.nob hS.all t
 have ec:bg .i64 (t:Int) (Int.ofNat 1)=((t+1:Nat):Int):=gr (by have:=hS.len;omega)
 have T:=Qs (n+1) dr lc zc lb zb W (bI b) H (ir (lx b 10) W t) (ir (lx b 10) W (t+1)) (t:Int)
 rw[ec,rY (JZ lc W b hS hb)] at T
 refine aK T (aJ _) (a8 (ak _ _) LO (fun x h=>by rw[← Tr.ae h];simp only[fq.st,aV];exact Pm n dr lc zc lb zb W b H hS (ir (lx b 10) W t) (ir (lx b 10) W t) t hb (t:Int))) (al _ _) ?_
 refine Tr.af (fun h0=>?_) (fun h0=>by simp (disch:=omega) only[nV,nW] at h0;omega)
 refine Tr.ab (by simp (disch:=omega) only[nV,nW];omega) (Tr.aj ⟨rfl,rfl⟩ (Tr.af (fun q=>Tr.ah ?_) (fun q=>Tr.ah ?_)))
 · rw[if_pos q];rfl
 · rw[if_neg (by rw[q];decide)];exact ⟨rfl,rfl⟩
theorem R7 (hS:lz lc W b):cd (n+2) (.fn 56) [shV dr lc zc lb zb W (bI b)] H=some (.agg (.M [.arr .i64 (hJ lc b W) 20]),H):=by
 have hl:=hS.len
 have hz:∀ j,20≤j→hJ lc b W j=0:=fun j hj=>by unfold hJ;rw[if_neg (by omega)];exact hS.zer j hj
 rcases sc (fun t=>t<lc∧lA (ir (lx b 10) W (t+1)) (ir (lx b 10) W t) 20=true) lc with h | ⟨T,h1,⟨_,h2⟩,h3⟩
 · have hx:exec (cj (n+1) 56 69) (.block 0 (.loop (part Tryd.f56 [1,1,0,1,0,0]))) (mU (shV dr lc zc lb zb W (bI b)) lc (Int.ofNat 0)) (fk [cM W]::H)=some (.normal,mU (shV dr lc zc lb zb W (bI b)) lc (Int.ofNat lc)++[(19,.bool false)],fk [cM (ir (lx b 10) W lc)]::H):=by
    refine kG (n:=n+1) (f:=56) (nt:=69) (c:=part Tryd.f56 [1,1,0,1,0,0]) 0 (fun t=>mU (shV dr lc zc lb zb W (bI b)) lc (t:Int)) (fun t=>fk [cM (ir (lx b 10) W t)]::H) lc (_,_) (by omega) (fun t ht=>?_) ?_
    · obtain ⟨x,x1,x2⟩:=K5 n dr lc zc lb zb W b H hS t ht
      rw[if_neg (fun q=>h t ht ⟨ht,q⟩)] at x2
      exact ⟨x,x1,x2⟩
    · obtain ⟨x,h1,rfl⟩:=aK (Q:=fun x=>x=(.exit 0,mU (shV dr lc zc lb zb W (bI b)) lc (Int.ofNat lc)++[(19,.bool false)],fk [cM (ir (lx b 10) W lc)]::H)) (Np (n+1) dr lc zc lb zb W (bI b) H (ir (lx b 10) W lc) (Int.ofNat lc)) (aJ _) (dJ (ak _ _) 2) (al _ _) (by
       refine Tr.af (fun h0=>by simp (disch:=omega) only[nV,nW] at h0;omega) (fun h0=>Tr.ah rfl))
      exact h1
   have he:=DX (Nat.le_refl lc) (oZ (w:=W) hS.nob hS.all lc)
   rw[he] at hx
   have U:=QE (n+1) dr lc zc lb zb W (bI b) H (hJ lc b W)
   rw[rY hS.zer,rY hz] at U
   refine bV (n:=n+1) Tryd.func56 rfl rfl rfl U (aJ _) (a8 (ak _ _) Iw (fun x h=>by rw[← Tr.ae h];simp only[fq.st,aV];exact hx)) (al _ _) ?_
   exact Tr.ab (by simp (disch:=omega) only[nV,nW];omega) (Tr.aj ⟨rfl,rfl⟩ (Tr.ab (by simp (disch:=omega) only[nV,nW];omega) (Tr.ah ⟨rfl,rfl⟩)))
 · have hbT:=oZ (w:=W) hS.nob hS.all T
   have hbT1:=oZ (w:=W) hS.nob hS.all (T+1)
   have heq:ir (lx b 10) W (T+1)=ir (lx b 10) W T:=by
    funext j
    by_cases hj:j<20
    · exact uA h2 j hj
    · rw[JZ lc W b hS hbT1 j (by omega),JZ lc W b hS hbT j (by omega)]
   have he:ir (lx b 10) W (T+1)=hJ lc b W:=by
    rw[heq];exact GB hS.nob hS.all hbT heq
   have hx:exec (cj (n+1) 56 69) (.block 0 (.loop (part Tryd.f56 [1,1,0,1,0,0]))) (mU (shV dr lc zc lb zb W (bI b)) lc (Int.ofNat 0)) (fk [cM W]::H)=some (.normal,mU (shV dr lc zc lb zb W (bI b)) lc (T:Int)++[(66,.bool true)],fk [cM (ir (lx b 10) W (T+1)),cM (ir (lx b 10) W T)]::H):=by
    refine kG (n:=n+1) (f:=56) (nt:=69) (c:=part Tryd.f56 [1,1,0,1,0,0]) 0 (fun t=>mU (shV dr lc zc lb zb W (bI b)) lc (t:Int)) (fun t=>fk [cM (ir (lx b 10) W t)]::H) T (_,_) (by omega) (fun t ht=>?_) ?_
    · obtain ⟨x,x1,x2⟩:=K5 n dr lc zc lb zb W b H hS t (by omega)
      rw[if_neg (fun q=>h3 t ht ⟨by omega,q⟩)] at x2
      exact ⟨x,x1,x2⟩
    · obtain ⟨x,x1,x2⟩:=K5 n dr lc zc lb zb W b H hS T h1
      rw[if_pos h2] at x2
      subst x2
      exact x1
   rw[he] at hx
   have U:=QF (n+1) dr lc zc lb zb W (bI b) H (hJ lc b W) (ir (lx b 10) W T) (T:Int)
   rw[rY hS.zer,rY hz] at U
   refine bV (n:=n+1) Tryd.func56 rfl rfl rfl U (aJ _) (a8 (ak _ _) Iw (fun x h=>by rw[← Tr.ae h];simp only[fq.st,aV];exact hx)) (al _ _) ?_
   exact Tr.ab (by simp (disch:=omega) only[nV,nW];omega) (Tr.aj ⟨rfl,rfl⟩ (Tr.ab (by simp (disch:=omega) only[nV,nW];omega) (Tr.ah ⟨rfl,rfl⟩)))
end
end Go.Eng
end
section
namespace Go.Eng
open Go.Proofs Go.Eng.Gall
end Go.Eng
end
section
namespace Go.Eng
open Go.Proofs Go.Eng.Gall
theorem Bs {a b:Int} (hb:1≤b) {K:Int} (h1:-K≤a) (h2:a≤K) (hK:0≤K):-K-b≤a / b∧a / b≤K:=by
 have h7:=Int.mul_ediv_add_emod a b
 have h3:=Int.emod_nonneg a (show b≠0 by omega)
 have h4:=Int.emod_lt_of_pos a (show 0<b by omega)
 constructor
 · apply Classical.byContradiction
   intro hc
   have h8:b*(a / b)≤1*(a / b):=Int.mul_le_mul_of_nonpos_right hb (by omega)
   omega
 · exact Int.le_trans (Int.ediv_le_ediv (by omega) h2) (Int.ediv_le_self b hK)
section
variable (n:Nat) (dr:Int) (lc:Nat) (zc:Nat→Int) (lb:Nat) (zb:Nat→Int) (H:aa)
end
end Go.Eng
end
section
namespace Go.Eng
open Go.Proofs Go.Eng.Gall
section
variable (dr:Int) (lc:Nat) (zc:Nat→Int) (lb:Nat) (zb:Nat→Int)
theorem H7 (hl:lc≤10) (hd:1≤dr∧dr≤100) (hv:wZ lc zc) (hp:fH lc lb zb) (hk:fB lc (fun c=>cI zb c lb)=false):lz lc (fc dr lc zc) (fun c=>cI zb c lb):=by
 refine ⟨hl,fun j=>?_,fun j hj=>?_,fun c hc=>pq zb c lc lb (fun i hi=>(hp i hi).1),fun c hc=>?_,hk⟩
 · unfold fc
   by_cases h:j<2*lc
   · rw[if_pos h]
     obtain ⟨v1,v2,v3,v4,v5,v6⟩:=NU hv (show j / 2<lc by omega)
     have q1:=Bs (a:=zc (j / 2*4+3)-zc (j / 2*4+1)) hd.1 (K:=1000) (by omega) (by omega) (by decide)
     have q2:=Bs (a:=zc (j / 2*4)-zc (j / 2*4+2)) hd.1 (K:=1000) (by omega) (by omega) (by decide)
     split<;>omega
   · rw[if_neg h];omega
 · unfold fc;rw[if_neg (by omega)]
 · cases e:cI zb c lb with
   | zero=>rfl
   | succ m =>
     exfalso
     have:∃ a,(cI zb c lb).testBit a=true:=by
      apply Classical.byContradiction
      intro hn
      have:cI zb c lb=0:=by
       apply Nat.eq_of_testBit_eq
       intro i
       rw[Nat.zero_testBit]
       cases e:(cI zb c lb).testBit i with
       | false=>rfl
       | true=>exact absurd ⟨i,e⟩ hn
      omega
     obtain ⟨a,ha⟩:=this
     obtain ⟨i,hi,h4,h5⟩:=(mA zb c a lb (fun i hi=>(hp i hi).1.1)).1 ha
     have:=hp i hi
     omega
variable (n:Nat) (H:aa)
end
end Go.Eng
end
section
namespace Go.Eng
open Go.Proofs
noncomputable def mE (n f nt d i:Nat):Cx:=⟨Tryd.prog,cd n,100000,f,nt,KtG.kt f,some (d,i)⟩
section
variable (n s k:Nat) (P:Nat→Int)
end
theorem ni {n f nt d i:Nat} {c:Code} {callR:bo} {bl:eP} {rg:od} {fr:az} {H:aa} {T:Tr fq} (e:aW (mE n f nt d i) callR bl rg c (hints fr) H=T) (hC:callR.Ok (cd n)) (hB:bl.Ok (mE n f nt d i) c) (hR:rg.Ok (mE n f nt d i) c) {y:Ex×az×aa} (h:T.all fun x=>x.st=y):exec (mE n f nt d i) c fr H=some y:=by
 obtain ⟨x,h1,rfl⟩:=h
 have:=fP (cx:=mE n f nt d i) hC c hB hR (hints fr) H x (by rw[e];exact h1)
 rw[aV] at this;exact this
theorem Ac {n f nt d i:Nat} {c:Code} {callR:bo} {bl:eP} {rg:od} {fr:az} {H:aa} {T:Tr fq} {Q:Ex×az×aa→Prop} (e:aW (mE n f nt d i) callR bl rg c (hints fr) H=T) (hC:callR.Ok (cd n)) (hB:bl.Ok (mE n f nt d i) c) (hR:rg.Ok (mE n f nt d i) c) (h:T.all fun x=>Q x.st):∃ y,exec (mE n f nt d i) c fr H=some y∧Q y:=by
 obtain ⟨x,h1,h2⟩:=h
 have:=fP (cx:=mE n f nt d i) hC c hB hR (hints fr) H x (by rw[e];exact h1)
 rw[aV] at this;exact ⟨_,this,h2⟩
section
variable (n s k:Nat) (P:Nat→Int) (H:aa)
end
end Go.Eng
end
section
namespace Go.Eng
open Go.Proofs Go.Eng.Gall
theorem QD (n:Nat) (dr:Int) (lc:Nat) (zc:Nat→Int) (lb:Nat) (zb:Nat→Int) (W B:Nat→Int) (G:aa) (C:List AV→Prop):bE Tryd.prog (cd (n+2)) 100000 49 Tryd.f49 (KtG.kt 49) (il (oa (tX a6 22 [di dr lc zc lb zb] (.int .i64 (Int.ofNat 0))) 62 (fun x=>some (C x,shV dr lc zc lb zb W B))) n 2) bp br [(di dr lc zc lb zb,none),(.nils,none)] G =
 (fun (Z0:List AV)=>Tr.reqP (Z0=Z0) (Tr.ite (bL (cJ (Int.ofNat 0) (Int.ofNat 0))) (Tr.ok ((AV.tup [AV.nilp,AV.int .i64 (Int.ofNat 0)],none),G)) (Tr.reqP (C Z0) (Tr.ok ((AV.tup [AV.ptrT none (Row.M [an.one (AV.int .i64 dr),an.one (AV.slcT none (Row.M [an.arr .i64 zc (ar lc 4)]) 4 lc false),an.one (AV.slcT none (Row.M [an.arr .i64 zb (ar lb 2)]) 2 lb false),an.arr .i64 W 20,an.arr IntKind.u64 B 10]) 0,AV.int .i64 (Int.ofNat 0)],none),G))))) [AV.agg (Row.G [AV.int .i64 dr,AV.slcT none (Row.M [an.arr .i64 zc (ar lc 4)]) 4 lc false,AV.slcT none (Row.M [an.arr .i64 zb (ar lb 2)]) 2 lb false])]:=by kernel_rfl
end Go.Eng
end
section
namespace Go.Eng
open Go.Proofs Go.Eng.Gall
theorem BY {L:List Nat} (hn:L.Nodup) {n:Nat} (h:∀ x ∈ L,x<n):mask L<2 ^ n:=by
 refine Nat.lt_pow_two_of_testBit _ fun i hi=>?_
 rw[eh hn]
 exact decide_eq_false fun hm=>by have:=h i hm;omega
theorem HG {lb lc:Nat} {zb:Nat→Int} (hp:fH lc lb zb) (a c:Nat):rq lb zb (a:Int) (c:Int)=(cI zb c lb).testBit a:=by
 unfold rq
 rw[Bool.eq_iff_iff,dq,mA zb c a lb (fun i hi=>(hp i hi).1.1)]
 constructor
 · rintro ⟨i,hi,he⟩
   unfold eB at he
   rw[Bool.and_eq_true,decide_eq_true_iff,decide_eq_true_iff] at he
   exact ⟨i,hi,he.1.symm,he.2.symm⟩
 · rintro ⟨i,hi,he⟩
   refine ⟨i,hi,?_⟩
   unfold eB
   rw[Bool.and_eq_true,decide_eq_true_iff,decide_eq_true_iff]
   exact ⟨he.1.symm,he.2.symm⟩
end Go.Eng
end
section
namespace Go.Eng
open Go.Proofs Go.Eng.Gall
noncomputable def xn (d:Nat):AV:=.fn (.func 80) [] [.ptr d 0 0 0]
end Go.Eng
end
section
namespace Go.Eng
open Go.Proofs Go.Eng.Gall
theorem RZ:∀ b,(0,b) ∈ aO (bz Tryd.f89)→b=.loop (part Tryd.f89 [1,0,1,0,0]):=gk (by kernel_rfl)
theorem qL {dr:Int} {lc:Nat} {zc:Nat→Int} {lb:Nat} {zb:Nat→Int} (h:dX dr lc zc lb zb=0):(1≤lc∧lc≤10)∧lb≤40∧(1≤dr∧dr≤100)∧wZ lc zc∧fH lc lb zb∧fB lc (fun c=>cI zb c lb)=false:=by
 unfold dX at h
 split at h
 · cases h
 · rename_i h1
   split at h
   · cases h
   · rename_i h2
     split at h
     · cases h
     · rename_i h3
       split at h
       · cases h
       · rename_i h4
         exact ⟨by omega,by omega,by omega,q8 (by simpa using fun q=>h2 (.inr (.inr q))),pc (by simpa using h3),by simpa using h4⟩
section
variable (n:Nat) (dr:Int) (lc:Nat) (zc:Nat→Int) (lb:Nat) (zb:Nat→Int) (H:aa)
end
end Go.Eng
end
section
namespace Go.Eng
open Go.Proofs Go.Eng.Gall
section
variable (n:Nat) (dr:Int) (lc:Nat) (zc:Nat→Int) (lb:Nat) (zb:Nat→Int) (H:aa)
theorem Og (hb:lb≤1000) (h0:dX dr lc zc lb zb=0):cd (n+14) (.fn 49) [di dr lc zc lb zb,.nils] H=some (.tup [H4 dr lc zc lb zb,.int .i64 (Int.ofNat 0)],H):=by
 obtain ⟨h1,h2,h3,h4,h5,_⟩:=qL h0
 refine bV (n:=n+13) Tryd.func49 rfl rfl rfl (QD (n+11) dr lc zc lb zb (fc dr lc zc) (jl lb zb) H (fun x=>x=[di dr lc zc lb zb])) (m6 _ (n+11) 2 (fun q=>qj (iz (bx _) (fun H=>by
  rw[show n+11+q=n+q+11 by omega]
  have:=Ob (n+q) dr lc zc lb zb H (by omega) hb
  rw[h0] at this;exact this)) (fun A H hA=>by
   subst hA
   rw[show n+11+q=n+q+4+7 by omega]
   exact Oh (n+q+4) dr lc zc lb zb H h1.2 hb h3 h4 h5))) (ak _ _) (al _ _) ?_
 refine Tr.aj rfl (Tr.af (fun q=>by simp[aY,aT] at q) (fun q=>Tr.aj rfl (Tr.ah ⟨rfl,rfl⟩)))
variable (W B:Nat→Int)
end
section
variable (n:Nat) (r:Row) (G:aa) (m:Nat) (z S:Nat→Int) (R:Row)
end
section
variable (n:Nat) (dr:Int) (lc:Nat) (zc:Nat→Int) (lb:Nat) (zb:Nat→Int) (W B:Nat→Int) (r:Row) (G:aa) (m:Nat) (z:Nat→Int)
end
end Go.Eng
end
section
namespace Go.Eng
open Go.Proofs Go.Eng.Gall
end Go.Eng
end
section
namespace Go.Eng
open Go.Proofs Go.Eng.Gall
section
variable (n:Nat) (dr:Int) (lc:Nat) (zc:Nat→Int) (lb:Nat) (zb:Nat→Int) (H:aa) (m:Nat) (z:Nat→Int)
end
end Go.Eng
end
section
namespace Go.Eng
open Go.Proofs Go.Eng.Gall
end Go.Eng
end
section
namespace Go.Eng
open Go.Proofs Go.Eng.Gall
section
variable (n:Nat) (dr:Int) (lc:Nat) (zc:Nat→Int) (lb:Nat) (zb:Nat→Int) (H:aa)
variable (m:Nat) (z:Nat→Int) (W B:Nat→Int)
end
end Go.Eng
end
section
namespace Go.Eng
open Go.Proofs Go.Eng.Gall
end Go.Eng
end
section
namespace Go.Eng
open Go.Proofs Go.Eng.Gall
end Go.Eng
end
section
namespace Go.Eng
open Go.Proofs Go.Eng.Gall
theorem Gx (z:Nat→Int):po (aS []) 0 z=z:=by rw[my];funext i;simp
section
variable (dr:Int) (lc:Nat) (zc:Nat→Int) (lb:Nat) (zb:Nat→Int)
end
end Go.Eng
end
section
namespace Go.Eng
open Go.Proofs Go.Eng.Gall
section
variable (dr:Int) (lc:Nat) (zc:Nat→Int) (lb:Nat) (zb:Nat→Int)
variable (n:Nat) (H:aa) (m:Nat) (z:Nat→Int) (w:Int)
end
end Go.Eng
end
