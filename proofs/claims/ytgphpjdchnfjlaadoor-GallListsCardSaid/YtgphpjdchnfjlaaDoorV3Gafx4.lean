/- Gall: bounds, the program's: trees. -/
import Derived.Test.YtgphpjdchnfjlaaDoorV3Gabx4
import Derived.Test.YtgphpjdchnfjlaaDoorV3EngRoSx4
set_option linter.unusedVariables false
set_option linter.unusedSimpArgs false
set_option maxRecDepth 100000
section
namespace Go.Eng
open Go.Proofs
noncomputable def cw (r:Nat→Int):Nat×av:=(0,.row (.M [.arr .i64 r 20]))
noncomputable def eP (bs:List (Nat×av)):bL:=⟨false,cw (fun _=>Int.ofNat 0)::bs⟩
noncomputable def mw (A:AV) (lc:Nat) (t:Int):az:=[(0,A),(2,.ptr 0 0 0 0),(3,.ptr 0 1 0 0),(17,.int .i64 (Int.ofNat lc)),(18,.int .i64 t)]
noncomputable def wI (A:AV) (lc:Nat) (t:Int) (B:Nat→Int) (c:Int):az:=[(0,A),(2,.ptr 0 0 0 0),(3,.ptr 0 1 0 0),(4,.ptr 0 2 0 0),(17,.int .i64 (Int.ofNat lc)),(18,.int .i64 t),(24,.agg (.M [.arr .u64 B 10])),(25,.int .i64 c)]
noncomputable def zn (A:AV) (lc:Nat) (t:Int) (B:Nat→Int) (c x:Int):az:=[(0,A),(2,.ptr 0 0 0 0),(3,.ptr 0 1 0 0),(4,.ptr 0 2 0 0),(5,.int .i64 c),(6,.int .u64 x),(17,.int .i64 (Int.ofNat lc)),(18,.int .i64 t),(24,.agg (.M [.arr .u64 B 10])),(25,.int .i64 c)]
noncomputable def Mp (cz:Int→Int):List AV→Option (Prop×AV)
 | [.int .u64 x]=>some (0≤x∧x<18446744073709551616,.int .i64 (cz x))
 | _=>none
theorem Lw (n:Nat) (dr:Int) (lc:Nat) (zc:Nat→Int) (lb:Nat) (zb:Nat→Int) (W B:Nat→Int) (H:aa) (cz:Int→Int) (r q:Nat→Int) (t c x:Int):aZ (cI n 56 69) (il (mr aX 82 (Mp cz)) n 0) bo bp (part Tryd.f56 [1,1,0,1,0,0,1,1,0,0,1,0,1,0,0,1,1,0,0,1,0,0]) (hints (zn (shV dr lc zc lb zb W B) lc t B c x)) (eP [cw r,cw q]::H) =
 Tr.ite (cH (dC x (Int.ofNat 0))) (Tr.reqP (Int.NonNeg (x-0)∧Int.NonNeg (18446744073709551616-(x+1))) (Tr.req (dk c 10) (Tr.req (fX 0 0) (Tr.req (cW (aE 0 c 2) 20) (Tr.req (dk (cz x) 10) (Tr.req (fX 0 0) (Tr.req (cW (aE 0 (cz x) 2) 20) (Tr.req (dk c 10) (Tr.req (fX 0 0) (Tr.req (cW (aE 0 c 2) 20) (Tr.req (bY (jS 0 0) (jS 0 1)) (Tr.req (dk (cz x) 10) (Tr.req (fX 0 0) (Tr.req (cW (aG (aE 0 (cz x) 2) 1) 20) (Tr.req (dk c 10) (Tr.req (fX 0 0) (Tr.req (cW (aG (aE 0 c 2) 1) 20) (Tr.req (dk (cz x) 10) (Tr.req (fX 0 0) (Tr.req (cW (aG (aE 0 (cz x) 2) 1) 20) (Tr.req (bY (jS 0 0) (jS 0 1)) (Tr.ok (Ex.normal,[(0,shV dr lc zc lb zb W B,none),(2,AV.ptr 0 0 0 0,none),(3,AV.ptr 0 1 0 0,none),(4,AV.ptr 0 2 0 0,none),(5,AV.int .i64 c,none),(6,AV.int IntKind.u64 (oL IntKind.u64 x (bW IntKind.u64 x (Int.ofNat 1))),none),(17,AV.int .i64 (Int.ofNat lc),none),(18,AV.int .i64 t,none),(24,AV.agg (Row.M [aw.arr IntKind.u64 B 10]),none),(25,AV.int .i64 c,none)],{ lock:=false,bs:=[(0,av.row (Row.M [aw.arr .i64 (fun x=>Int.ofNat 0) 20])),(0,av.row (Row.M [aw.arr .i64 (gH (gH r (aE 0 c 2) (mC (r (aE 0 c 2)) (bz .i64 (r (aE 0 (cz x) 2)) (Int.ofNat 1)))) (aG (aE 0 (cz x) 2) 1) (qh (gH r (aE 0 c 2) (mC (r (aE 0 c 2)) (bz .i64 (r (aE 0 (cz x) 2)) (Int.ofNat 1))) (aG (aE 0 (cz x) 2) 1)) (bW .i64 (gH r (aE 0 c 2) (mC (r (aE 0 c 2)) (bz .i64 (r (aE 0 (cz x) 2)) (Int.ofNat 1))) (aG (aE 0 c 2) 1)) (Int.ofNat 1)))) 20])),(0,av.row (Row.M [aw.arr .i64 q 20]))] } :: H))))))))))))))))))))))) (Tr.ok (Ex.exit 4,[(0,shV dr lc zc lb zb W B,none),(2,AV.ptr 0 0 0 0,none),(3,AV.ptr 0 1 0 0,none),(4,AV.ptr 0 2 0 0,none),(5,AV.int .i64 c,none),(6,AV.int IntKind.u64 x,none),(17,AV.int .i64 (Int.ofNat lc),none),(18,AV.int .i64 t,none),(24,AV.agg (Row.M [aw.arr IntKind.u64 B 10]),none),(25,AV.int .i64 c,none),(30,AV.bool false,some 1)],{ lock:=false,bs:=[(0,av.row (Row.M [aw.arr .i64 (fun x=>Int.ofNat 0) 20])),(0,av.row (Row.M [aw.arr .i64 r 20])),(0,av.row (Row.M [aw.arr .i64 q 20]))] } :: H)):=by kernel_rfl
theorem Ox (n:Nat) (dr:Int) (lc:Nat) (zc:Nat→Int) (lb:Nat) (zb:Nat→Int) (W B:Nat→Int) (H:aa) (r q r':Nat→Int) (t c x:Int):aZ (cI n 56 69) (il aX n 0) (dN bo 4 (zn (shV dr lc zc lb zb W B) lc t B c (B (aE 0 c 1))) (eP [cw r,cw q]::H) (.ok (.normal,hints (zn (shV dr lc zc lb zb W B) lc t B c x++[(30,.bool false)]),eP [cw r',cw q]::H))) bp (part Tryd.f56 [1,1,0,1,0,0,1,1,0,0,1,0,1,0,0]) (hints (wI (shV dr lc zc lb zb W B) lc t B c)) (eP [cw r,cw q]::H) =
 (fun (Z0:bL)=>((fun (Z1:az)=>Tr.ite (da c (Int.ofNat 10)) (Tr.req (dk c 10) (Tr.req (cW (aE 0 c 1) 10) (Tr.reqP (Z1=Z1∧Z0::H=Z0::H) (Tr.ok (Ex.normal,[(0,shV dr lc zc lb zb W B,none),(2,AV.ptr 0 0 0 0,none),(3,AV.ptr 0 1 0 0,none),(4,AV.ptr 0 2 0 0,none),(17,AV.int .i64 (Int.ofNat lc),none),(18,AV.int .i64 t,none),(24,AV.agg (Row.M [aw.arr IntKind.u64 B 10]),none),(25,AV.int .i64 (bz .i64 c (Int.ofNat 1)),none)],{ lock:=false,bs:=[(0,av.row (Row.M [aw.arr .i64 (fun x=>Int.ofNat 0) 20])),(0,av.row (Row.M [aw.arr .i64 r' 20])),(0,av.row (Row.M [aw.arr .i64 q 20]))] } :: H))))) (Tr.ok (Ex.exit 2,[(0,shV dr lc zc lb zb W B,none),(2,AV.ptr 0 0 0 0,none),(3,AV.ptr 0 1 0 0,none),(4,AV.ptr 0 2 0 0,none),(17,AV.int .i64 (Int.ofNat lc),none),(18,AV.int .i64 t,none),(24,AV.agg (Row.M [aw.arr IntKind.u64 B 10]),none),(25,AV.int .i64 c,none),(26,AV.bool false,some 1)],Z0::H))) [(0,shV dr lc zc lb zb W B),(2,AV.ptr 0 0 0 0),(3,AV.ptr 0 1 0 0),(4,AV.ptr 0 2 0 0),(5,AV.int .i64 c),(6,AV.int IntKind.u64 (B (aE 0 c 1))),(17,AV.int .i64 (Int.ofNat lc)),(18,AV.int .i64 t),(24,AV.agg (Row.M [aw.arr IntKind.u64 B 10])),(25,AV.int .i64 c)])) { lock:=false,bs:=[(0,av.row (Row.M [aw.arr .i64 (fun x=>Int.ofNat 0) 20])),(0,av.row (Row.M [aw.arr .i64 r 20])),(0,av.row (Row.M [aw.arr .i64 q 20]))] }:=by kernel_rfl
theorem Lv (n:Nat) (dr:Int) (lc:Nat) (zc:Nat→Int) (lb:Nat) (zb:Nat→Int) (W B:Nat→Int) (H:aa) (r q:Nat→Int) (t:Int):aZ (cI n 56 69) (il aX n 0) (lT bo 4) bp (part Tryd.f56 [1,1,0,1,0,0,1,1,0,0,1,0,1,0,0]) (hints (wI (shV dr lc zc lb zb W B) lc t B 10)) (eP [cw r,cw q]::H) =
 Tr.ite (da (Int.ofNat 10) (Int.ofNat 10)) (Tr.req (dk (Int.ofNat 10) 10) (Tr.req (cW (aE 0 (Int.ofNat 10) 1) 10) Tr.bad)) (Tr.ok (Ex.exit 2,[(0,shV dr lc zc lb zb W B,none),(2,AV.ptr 0 0 0 0,none),(3,AV.ptr 0 1 0 0,none),(4,AV.ptr 0 2 0 0,none),(17,AV.int .i64 (Int.ofNat lc),none),(18,AV.int .i64 t,none),(24,AV.agg (Row.M [aw.arr IntKind.u64 B 10]),none),(25,AV.int .i64 (Int.ofNat 10),none),(26,AV.bool false,some 1)],{ lock:=false,bs:=[(0,av.row (Row.M [aw.arr .i64 (fun x=>Int.ofNat 0) 20])),(0,av.row (Row.M [aw.arr .i64 r 20])),(0,av.row (Row.M [aw.arr .i64 q 20]))] } :: H)):=by kernel_rfl
theorem Ow (n:Nat) (dr:Int) (lc:Nat) (zc:Nat→Int) (lb:Nat) (zb:Nat→Int) (W B:Nat→Int) (H:aa) (r r':Nat→Int) (t:Int):aZ (cI n 56 69) (il aX n 0) (dN bo 2 (wI (shV dr lc zc lb zb W B) lc t B (Int.ofNat 0)) (eP [cw r,cw r]::H) (.ok (.normal,hints (wI (shV dr lc zc lb zb W B) lc t B (Int.ofNat 10)++[(26,.bool false)]),eP [cw r',cw r]::H))) bp (part Tryd.f56 [1,1,0,1,0,0]) (hints (mw (shV dr lc zc lb zb W B) lc t)) (eP [cw r]::H) =
 (fun (Z0:az)=>((fun (Z1:Nat×av)=>((fun (Z2:Nat×av)=>Tr.ite (da t (Int.ofNat lc)) (Tr.req (nv 0 20 0 20) (Tr.reqP (Z0=Z0∧{ lock:=false,bs:=[Z1,Z2,(0,av.row (Row.M [aw.arr .i64 (uT (fun x=>Int.ofNat 0) 0 r 20) 20]))] } :: H={ lock:=false,bs:=[Z1,Z2,Z2] } :: H) (Tr.ite (kR r' r 20) (Tr.ok (Ex.exit 0,[(0,shV dr lc zc lb zb W B,none),(2,AV.ptr 0 0 0 0,none),(3,AV.ptr 0 1 0 0,none),(17,AV.int .i64 (Int.ofNat lc),none),(18,AV.int .i64 t,none),(66,AV.bool true,some 1)],{ lock:=false,bs:=[Z1,(0,av.row (Row.M [aw.arr .i64 r' 20])),Z2] } :: H)) (Tr.ok (Ex.normal,[(0,shV dr lc zc lb zb W B,none),(2,AV.ptr 0 0 0 0,none),(3,AV.ptr 0 1 0 0,none),(17,AV.int .i64 (Int.ofNat lc),none),(18,AV.int .i64 (bz .i64 t (Int.ofNat 1)),none)],{ lock:=false,bs:=[Z1,(0,av.row (Row.M [aw.arr .i64 r' 20])),Z2] } :: H))))) (Tr.ok (Ex.exit 0,[(0,shV dr lc zc lb zb W B,none),(2,AV.ptr 0 0 0 0,none),(3,AV.ptr 0 1 0 0,none),(17,AV.int .i64 (Int.ofNat lc),none),(18,AV.int .i64 t,none),(19,AV.bool false,some 1)],{ lock:=false,bs:=[Z1,Z2] } :: H))) (0,av.row (Row.M [aw.arr .i64 r 20])))) (0,av.row (Row.M [aw.arr .i64 (fun x=>Int.ofNat 0) 20])))) [(0,shV dr lc zc lb zb W B),(2,AV.ptr 0 0 0 0),(3,AV.ptr 0 1 0 0),(4,AV.ptr 0 2 0 0),(17,AV.int .i64 (Int.ofNat lc)),(18,AV.int .i64 t),(24,AV.agg (Row.M [aw.arr IntKind.u64 B 10])),(25,AV.int .i64 (Int.ofNat 0))]:=by kernel_rfl
theorem Lu (n:Nat) (dr:Int) (lc:Nat) (zc:Nat→Int) (lb:Nat) (zb:Nat→Int) (W B:Nat→Int) (H:aa) (r:Nat→Int) (t:Int):aZ (cI n 56 69) (il aX n 0) (lT bo 2) bp (part Tryd.f56 [1,1,0,1,0,0]) (hints (mw (shV dr lc zc lb zb W B) lc t)) (eP [cw r]::H) =
 Tr.ite (da t (Int.ofNat lc)) (Tr.req (nv 0 20 0 20) Tr.bad) (Tr.ok (Ex.exit 0,[(0,shV dr lc zc lb zb W B,none),(2,AV.ptr 0 0 0 0,none),(3,AV.ptr 0 1 0 0,none),(17,AV.int .i64 (Int.ofNat lc),none),(18,AV.int .i64 t,none),(19,AV.bool false,some 1)],{ lock:=false,bs:=[(0,av.row (Row.M [aw.arr .i64 (fun x=>Int.ofNat 0) 20])),(0,av.row (Row.M [aw.arr .i64 r 20]))] } :: H)):=by kernel_rfl
theorem OH (n:Nat) (dr:Int) (lc:Nat) (zc:Nat→Int) (lb:Nat) (zb:Nat→Int) (W B:Nat→Int) (H:aa) (r:Nat→Int):bA Tryd.prog (cd n) 100000 56 Tryd.f56 (KtG.kt 56) (il aX n 0) (dN bo 0 (mw (shV dr lc zc lb zb W B) lc (Int.ofNat 0)) (eP [cw W]::H) (.ok (.normal,hints (mw (shV dr lc zc lb zb W B) lc (Int.ofNat lc)++[(19,.bool false)]),eP [cw r]::H))) bp [(shV dr lc zc lb zb W B,none)] H =
 (fun (Z0:az)=>Tr.req (nv 0 20 0 20) (Tr.reqP (Z0=Z0∧{ lock:=false,bs:=[(0,av.row (Row.M [aw.arr .i64 (fun x=>Int.ofNat 0) 20])),(0,av.row (Row.M [aw.arr .i64 (uT (fun x=>Int.ofNat 0) 0 W 20) 20]))] } :: H={ lock:=false,bs:=[(0,av.row (Row.M [aw.arr .i64 (fun x=>Int.ofNat 0) 20])),(0,av.row (Row.M [aw.arr .i64 W 20]))] } :: H) (Tr.req (nv 0 20 0 20) (Tr.ok ((AV.agg (Row.M [aw.arr .i64 (uT (fun x=>Int.ofNat 0) 0 r 20) 20]),none),H))))) [(0,shV dr lc zc lb zb W B),(2,AV.ptr 0 0 0 0),(3,AV.ptr 0 1 0 0),(17,AV.int .i64 (Int.ofNat lc)),(18,AV.int .i64 (Int.ofNat 0))]:=by kernel_rfl
theorem OI (n:Nat) (dr:Int) (lc:Nat) (zc:Nat→Int) (lb:Nat) (zb:Nat→Int) (W B:Nat→Int) (H:aa) (r q:Nat→Int) (t:Int):bA Tryd.prog (cd n) 100000 56 Tryd.f56 (KtG.kt 56) (il aX n 0) (dN bo 0 (mw (shV dr lc zc lb zb W B) lc (Int.ofNat 0)) (eP [cw W]::H) (.ok (.normal,hints (mw (shV dr lc zc lb zb W B) lc t++[(66,.bool true)]),eP [cw r,cw q]::H))) bp [(shV dr lc zc lb zb W B,none)] H =
 (fun (Z0:az)=>Tr.req (nv 0 20 0 20) (Tr.reqP (Z0=Z0∧{ lock:=false,bs:=[(0,av.row (Row.M [aw.arr .i64 (fun x=>Int.ofNat 0) 20])),(0,av.row (Row.M [aw.arr .i64 (uT (fun x=>Int.ofNat 0) 0 W 20) 20]))] } :: H={ lock:=false,bs:=[(0,av.row (Row.M [aw.arr .i64 (fun x=>Int.ofNat 0) 20])),(0,av.row (Row.M [aw.arr .i64 W 20]))] } :: H) (Tr.req (nv 0 20 0 20) (Tr.ok ((AV.agg (Row.M [aw.arr .i64 (uT (fun x=>Int.ofNat 0) 0 r 20) 20]),none),H))))) [(0,shV dr lc zc lb zb W B),(2,AV.ptr 0 0 0 0),(3,AV.ptr 0 1 0 0),(17,AV.int .i64 (Int.ofNat lc)),(18,AV.int .i64 (Int.ofNat 0))]:=by kernel_rfl
end Go.Eng
end
section
namespace Go.Eng
open Go.Proofs Go.Eng.Gall
theorem DL {c:Nat} (hc:0<c):(mr aX 82 (Mp (fun x=>Int.ofNat (lC x.toNat)))).Ok (cd c):=by
 obtain ⟨m,rfl⟩:∃ m,c=m+1:=⟨c-1,by omega⟩
 refine j4 (bG _) (fun args p v hg hp H=>?_)
 unfold Mp at hg
 split at hg
 · rename_i x
   simp only[nP] at hg
   obtain ⟨rfl,rfl⟩:=hg
   refine AB ?_
   show (match Gall.tn (cd m) 82 [.int .u64 x] H with
    | some x=>some x
    | none=>_)=_
   have e:Gall.tn (cd m) 82 [.int .u64 x] H=some (.int .i64 (Go.Lib.ctz 64 x.toNat),H):=by
    show Dx [.int .u64 x] H=_
    unfold Dx
    exact if_pos hp
   rw[e];rfl
 · cases hg
theorem re {W:Nat→Int} (h:∀ j,20≤j→W j=0):uT (fun _=>Int.ofNat 0) 0 W 20=W:=by
 rw[AD];funext j
 unfold zf
 by_cases e:j<20
 · simp[e]
 · rw[h j (by omega)]
   simp[e]
section
variable {n:Nat} {b:Nat→Nat} {w:Nat→Int}
theorem K8 {K:Int} (hw:∀ i,w i≤K) (t c:Nat):gn n b w t c≤K+t:=by
 induction t generalizing c with
 | zero=>have:=hw (2*c);show w (2*c)≤K+((0:Nat):Int);omega
 | succ t ih =>
   rcases kh (gn n b w t c) (fun a=>gn n b w t a+1) (fun a=>(b c).testBit a) n with e | ⟨a,h1,h2,h3⟩
   · have:gn n b w (t+1) c=gn n b w t c:=e
     have:=ih c;omega
   · have:gn n b w (t+1) c=gn n b w t a+1:=h3
     have:=ih a;omega
theorem KS {K:Int} (hw:∀ i,-K≤w i) (t c:Nat):gl n b w t c≤K+t:=by
 induction t generalizing c with
 | zero=>have:=hw (2*c+1);show -w (2*c+1)≤K+((0:Nat):Int);omega
 | succ t ih =>
   rcases kh (gl n b w t c) (fun a=>gl n b w t a+1) (fun a=>(b a).testBit c) n with e | ⟨a,h1,h2,h3⟩
   · have:gl n b w (t+1) c=gl n b w t c:=e
     have:=ih c;omega
   · have:gl n b w (t+1) c=gl n b w t a+1:=h3
     have:=ih a;omega
theorem uP {K:Int} (hK:0≤K) (hw:∀ i,-K≤w i∧w i≤K) {t:Nat} {r:Nat→Int} (hr:Bd n b w t r) (c:Nat) (hc:c<n):(-K≤r (2*c)∧r (2*c)≤K+n)∧-K-n≤r (2*c+1)∧r (2*c+1)≤K:=by
 have h1:=hr.lo c hc
 have h2:=hr.hi c hc
 have h3:=K8 (n:=n) (b:=b) (fun i=>(hw i).2) n c
 have h4:=KS (n:=n) (b:=b) (fun i=>(hw i).1) n c
 have h5:gn n b w 0 c≤gn n b w t c:=by have:=lo_le (n:=n) (b:=b) (w:=w) 0 t c;rwa [Nat.zero_add] at this
 have h6:gl n b w 0 c≤gl n b w t c:=by have:=DS (n:=n) (b:=b) (w:=w) 0 t c;rwa [Nat.zero_add] at this
 have h7:gn n b w 0 c=w (2*c):=rfl
 have h8:gl n b w 0 c=-w (2*c+1):=rfl
 have h9:=hw (2*c)
 have h10:=hw (2*c+1)
 omega
end
structure ny (lc:Nat) (W:Nat→Int) (b:Nat→Nat):Prop where
 len:lc≤10
 win:∀ j,-100000≤W j∧W j≤100000
 zer:∀ j,20≤j→W j=0
 bef:∀ c,c<lc→b c<2 ^ lc
 off:∀ c,lc≤c→b c=0
 nob:kK lc b=false
theorem ny.lt {lc:Nat} {W:Nat→Int} {b:Nat→Nat} (h:ny lc W b) (c:Nat):b c<2 ^ 10:=by
 by_cases hc:c<lc
 · exact Nat.lt_of_lt_of_le (h.bef c hc) (Nat.pow_le_pow_right (by decide) h.len)
 · rw[h.off c (by omega)];decide
theorem ny.bit {lc:Nat} {W:Nat→Int} {b:Nat→Nat} (h:ny lc W b) {c a:Nat} (hb:(b c).testBit a=true):c<lc∧a<lc:=by
 have hc:c<lc:=by
  apply Classical.byContradiction
  intro hn
  rw[h.off c (by omega)] at hb
  simp at hb
 refine ⟨hc,?_⟩
 apply Classical.byContradiction
 intro hn
 have:=Nat.testBit_lt_two_pow (Nat.lt_of_lt_of_le (h.bef c hc) (Nat.pow_le_pow_right (by decide) (show lc≤a by omega)))
 rw[hb] at this;cases this
theorem ny.all {lc:Nat} {W:Nat→Int} {b:Nat→Nat} (h:ny lc W b):CY lc b (kP b 10):=fun a c=>by
 rw[Bu b 10 (fun c _=>h.lt c)]
 constructor
 · rintro ⟨_,h2⟩
   obtain ⟨h3,h4⟩:=h.bit h2
   exact ⟨h4,h3,h2⟩
 · rintro ⟨_,h1,h2⟩
   exact ⟨by have:=h.len;omega,h2⟩
theorem GZ:∀ b,(0,b) ∈ aP (bw Tryd.f56)→b=.loop (part Tryd.f56 [1,1,0,1,0,0]):=fJ (by kernel_rfl)
theorem Ke:∀ b,(2,b) ∈ aP (part Tryd.f56 [1,1,0,1,0,0])→b=.loop (part Tryd.f56 [1,1,0,1,0,0,1,1,0,0,1,0,1,0,0]):=fJ (by kernel_rfl)
theorem Kf:∀ b,(4,b) ∈ aP (part Tryd.f56 [1,1,0,1,0,0,1,1,0,0,1,0,1,0,0])→b=.loop (part Tryd.f56 [1,1,0,1,0,0,1,1,0,0,1,0,1,0,0,1,1,0,0,1,0,0]):=fJ (by kernel_rfl)
theorem vW (r:Nat→Int) (i:Nat) (x:Int):gH r i x=yP r i x:=by rw[mn];rfl
section
variable (n:Nat) (dr:Int) (lc:Nat) (zc:Nat→Int) (lb:Nat) (zb:Nat→Int) (W:Nat→Int) (b:Nat→Nat) (H:aa)
theorem Nt (hS:ny lc W b) (q r:Nat→Int) (t':Nat) (hr:Bd lc b W t' r) (t:Int) (c:Nat) (hc:c<10):exec (cI (n+1) 56 69) (.block 4 (.loop (part Tryd.f56 [1,1,0,1,0,0,1,1,0,0,1,0,1,0,0,1,1,0,0,1,0,0]))) (zn (shV dr lc zc lb zb W (bI b)) lc t (bI b) (c:Int) (bI b c)) (eP [cw r,cw q]::H) =
 some (.normal,zn (shV dr lc zc lb zb W (bI b)) lc t (bI b) (c:Int) 0++[(30,.bool false)],eP [cw (kx r ((lX 10 (b c)).map fun a=>(a,c))),cw q]::H):=by
 have hlt:=hS.lt c
 obtain ⟨m1,m2,m3⟩:=uQ 10 (b c) (Nat.lt_of_lt_of_le hlt (by decide)) (fun i hi=>⟨by omega,by have:=(hS.bit hi).2;have:=hS.len;omega⟩)
 have hlen:(lX 10 (b c)).length≤10:=by
  have:∀ f x,(lX f x).length≤f:=by
   intro f
   induction f with
   | zero=>intro x;exact Nat.le_refl _
   | succ f ih =>
     intro x
     show (if x=0 then [] else lC x::lX f (x &&& (x-1))).length≤f+1
     split
     · exact Nat.zero_le _
     · rw[List.length_cons];have:=ih (x &&& (x-1));omega
  exact this 10 (b c)
 have hst:∀ k,k≤(lX 10 (b c)).length→Bd lc b W t' (kx r (((lX 10 (b c)).take k).map fun a=>(a,c))):=fun k hk =>
  (nE hS.nob _ hr (fun p hp=>by
    obtain ⟨a,ha,rfl⟩:=List.mem_map.1 hp
    have hb:=(m1 a).1 (List.mem_of_mem_take ha)
    obtain ⟨h1,h2⟩:=hS.bit hb
    exact ⟨h2,h1,hb⟩)).1
 have hN:kx r ((lX 10 (b c)).map fun a=>(a,c))=kx r (((lX 10 (b c)).take (lX 10 (b c)).length).map fun a=>(a,c)):=by rw[List.take_length]
 rw[hN]
 have hl:=hS.len
 refine ld (n:=n+1) (f:=56) (nt:=69) (c:=part Tryd.f56 [1,1,0,1,0,0,1,1,0,0,1,0,1,0,0,1,1,0,0,1,0,0]) 4 (fun k=>zn (shV dr lc zc lb zb W (bI b)) lc t (bI b) (c:Int) (jo (b c) k:Nat)) (fun k=>eP [cw (kx r (((lX 10 (b c)).take k).map fun a=>(a,c))),cw q]::H) (lX 10 (b c)).length (_,_) (by omega) (fun k hk=>?_) ?_
 · obtain ⟨z0,z1⟩:=m2 k hk
   have hs:=hst k (by omega)
   have hmem:=(m1 _).1 (List.getElem_mem hk)
   obtain ⟨hcl,hal⟩:=hS.bit hmem
   have htake:(lX 10 (b c)).take (k+1)=(lX 10 (b c)).take k++[(lX 10 (b c))[k]]:=by rw[List.take_add_one,List.getElem?_eq_getElem hk];rfl
   have hlw:lC (jo (b c) k)=(lX 10 (b c))[k]:=z1.symm
   generalize hR:kx r (((lX 10 (b c)).take k).map fun a=>(a,c))=R at *
   have bc:=uP (K:=100000) (by omega) hS.win hs c hcl
   have ba:=uP (K:=100000) (by omega) hS.win hs (lC (jo (b c) k)) (by rw[hlw];exact hal)
   have hrl:=Jx (b c) k (Nat.lt_of_lt_of_le hlt (by decide))
   have T:=Lw (n+1) dr lc zc lb zb W (bI b) H (fun x=>Int.ofNat (lC x.toNat)) R q t (c:Int) ((jo (b c) k:Nat):Int)
   have e1:aE 0 (c:Int) 2=2*c:=by rw[bO];omega
   have e2:aE 0 (Int.ofNat (lC ((jo (b c) k:Nat):Int).toNat)) 2=2*lC (jo (b c) k):=by rw[bO,Int.toNat_natCast];show 0+lC (jo (b c) k)*2=_;omega
   have e3:oL .u64 ((jo (b c) k:Nat):Int) (bW .u64 ((jo (b c) k:Nat):Int) (Int.ofNat 1))=((jo (b c) (k+1):Nat):Int):=by
    rw[dK]
    show oL .u64 _ (IntKind.u64.wrap (((jo (b c) k:Nat):Int)-1))=_
    rw[show ((jo (b c) k:Nat):Int)-1=((jo (b c) k-1:Nat):Int) by omega,Q.jf (by omega),Q.Ip (by omega) (by omega)]
    rfl
   rw[e1,e2,aJ,aJ,e3,vW,vW] at T
   have e4:bz .i64 (R (2*lC (jo (b c) k))) (Int.ofNat 1)=R (2*lC (jo (b c) k))+1:=J8 (by show _≤R (2*lC (jo (b c) k))+1;omega) (by show R (2*lC (jo (b c) k))+1≤_;omega)
   rw[e4] at T
   have e5:mC (R (2*c)) (R (2*lC (jo (b c) k))+1)=max (R (2*c)) (R (2*lC (jo (b c) k))+1):=by rw[mb];omega
   rw[e5] at T
   have e6:yP R (2*c) (max (R (2*c)) (R (2*lC (jo (b c) k))+1)) (2*c+1)=R (2*c+1):=by unfold yP;rw[if_neg (by omega)]
   have e7:bW .i64 (yP R (2*c) (max (R (2*c)) (R (2*lC (jo (b c) k))+1)) (2*c+1)) (Int.ofNat 1)=yP R (2*c) (max (R (2*c)) (R (2*lC (jo (b c) k))+1)) (2*c+1)-1:=by
    rw[e6]
    exact tw (by show _≤R (2*c+1)-1;omega) (by show R (2*c+1)-1≤_;omega)
   rw[e7] at T
   have e8:∀ x y:Int,qh x y=min x y:=fun x y=>by rw[mc];omega
   rw[e8] at T
   have e9:kx r (((lX 10 (b c)).take (k+1)).map fun a=>(a,c))=yO R (lC (jo (b c) k)) c:=by
    rw[htake,List.map_append,vK,hR,hlw];rfl
   refine aY T (cK _ _ (DL (by omega))) (ak _ _) (al _ _) ?_
   have hi1:dk (c:Int) 10=true:=by simp (disch:=omega) only[nV,nW];omega
   have hi2:dk (Int.ofNat (lC ((jo (b c) k:Nat):Int).toNat)) 10=true:=by
    rw[Int.toNat_natCast];simp (disch:=omega) only[nV,nW];rw[hlw];omega
   have h00:fX 0 0=true:=by simp (disch:=omega) only[nV,nW]
   have hl1:cW (2*c) 20=true:=by simp (disch:=omega) only[nV,nW];omega
   have hl2:cW (2*lC (jo (b c) k)) 20=true:=by simp (disch:=omega) only[nV,nW];rw[hlw];omega
   have hl3:cW (2*lC (jo (b c) k)+1) 20=true:=by simp (disch:=omega) only[nV,nW];rw[hlw];omega
   have hl4:cW (2*c+1) 20=true:=by simp (disch:=omega) only[nV,nW];omega
   have hle:bY (jS 0 0) (jS 0 1)=true:=by simp (disch:=omega) only[nV,nW];omega
   refine Tr.ag (fun h0=>?_) (fun h0=>?_)
   · refine Tr.an ⟨show (0:Int)≤((jo (b c) k:Nat):Int) by omega,show ((jo (b c) k:Nat):Int)<18446744073709551616 by omega⟩ ?_
     refine Tr.af hi1 (Tr.af h00 (Tr.af hl1 (Tr.af hi2 (Tr.af h00 (Tr.af hl2 (Tr.af hi1 (Tr.af h00 (Tr.af hl1 (Tr.af hle (Tr.af hi2 (Tr.af h00 (Tr.af hl3 (Tr.af hi1 (Tr.af h00 (Tr.af hl4 (Tr.af hi2 (Tr.af h00 (Tr.af hl3 (Tr.af hle ?_)))))))))))))))))))
     refine Tr.ah ⟨rfl,?_⟩
     rw[e9];rfl
   · rw[aS,bh] at h0
     exfalso
     have:(((jo (b c) k:Nat):Int) == 0)=true:=by simpa using h0
     rw[beq_iff_eq] at this
     omega
 · obtain ⟨x,h1,rfl⟩:=aY (Q:=fun x=>x=(.exit 4,zn (shV dr lc zc lb zb W (bI b)) lc t (bI b) (c:Int) 0++[(30,.bool false)],eP [cw (kx r (((lX 10 (b c)).take (lX 10 (b c)).length).map fun a=>(a,c))),cw q]::H)) (Lw (n+1) dr lc zc lb zb W (bI b) H (fun x=>Int.ofNat (lC x.toNat)) (kx r (((lX 10 (b c)).take (lX 10 (b c)).length).map fun a=>(a,c))) q t (c:Int) ((jo (b c) (lX 10 (b c)).length:Nat):Int)) (cK _ _ (DL (by omega))) (ak _ _) (al _ _) (by
    rw[m3]
    refine Tr.ag (fun h0=>?_) (fun h0=>Tr.ah rfl)
    rw[aS,bh] at h0
    exact absurd h0 (by decide))
   exact h1
end
end Go.Eng
end
section
namespace Go.Eng
open Go.Proofs Go.Eng.Gall
section
variable (n:Nat) (dr:Int) (lc:Nat) (zc:Nat→Int) (lb:Nat) (zb:Nat→Int) (W:Nat→Int) (b:Nat→Nat) (H:aa)
theorem Nr (hS:ny lc W b) (q r:Nat→Int) (t':Nat) (hr:Bd lc b W t' r) (t:Int):exec (cI (n+1) 56 69) (.block 2 (.loop (part Tryd.f56 [1,1,0,1,0,0,1,1,0,0,1,0,1,0,0]))) (wI (shV dr lc zc lb zb W (bI b)) lc t (bI b) (Int.ofNat 0)) (eP [cw r,cw q]::H) =
 some (.normal,wI (shV dr lc zc lb zb W (bI b)) lc t (bI b) (Int.ofNat 10)++[(26,.bool false)],eP [cw (kx r (kP b 10)),cw q]::H):=by
 refine ld (n:=n+1) (f:=56) (nt:=69) (c:=part Tryd.f56 [1,1,0,1,0,0,1,1,0,0,1,0,1,0,0]) 2 (fun c=>wI (shV dr lc zc lb zb W (bI b)) lc t (bI b) (c:Int)) (fun c=>eP [cw (kx r (kP b c)),cw q]::H) 10 (_,_) (by omega) (fun c hc=>?_) ?_
 · have hs:Bd lc b W t' (kx r (kP b c)):=(nE hS.nob _ hr (fun p hp=>by
    obtain ⟨a,d⟩:=p
    have:=(Bu b c (fun d _=>hS.lt d) a d).1 hp
    obtain ⟨h1,h2⟩:=hS.bit this.2
    exact ⟨h2,h1,this.2⟩)).1
   have ec:bz .i64 (c:Int) (Int.ofNat 1)=((c+1:Nat):Int):=gN (by omega)
   have T:=Ox (n+1) dr lc zc lb zb W (bI b) H (kx r (kP b c)) q (kx r (kP b (c+1))) t (c:Int) 0
   rw[ec,DX] at T
   have hx:=Nt n dr lc zc lb zb W b H hS q (kx r (kP b c)) t' hs t c hc
   rw[← vK] at hx
   refine aY T (aV _) (bu (ak _ _) Kf (fun x h=>by rw[← Tr.ab h];simp only[gZ.st,bn];exact hx)) (al _ _) ?_
   refine Tr.ag (fun h0=>?_) (fun h0=>by simp (disch:=omega) only[nV,nW] at h0;omega)
   exact Tr.af (by simp (disch:=omega) only[nV,nW];omega) (Tr.af (by simp (disch:=omega) only[nV,nW];omega) (Tr.an ⟨rfl,rfl⟩ (Tr.ah ⟨rfl,rfl⟩)))
 · obtain ⟨x,h1,rfl⟩:=aY (Q:=fun x=>x=(.exit 2,wI (shV dr lc zc lb zb W (bI b)) lc t (bI b) (Int.ofNat 10)++[(26,.bool false)],eP [cw (kx r (kP b 10)),cw q]::H)) (Lv (n+1) dr lc zc lb zb W (bI b) H (kx r (kP b 10)) q t) (aV _) (fB (ak _ _) 4) (al _ _) (by
    refine Tr.ag (fun h0=>by simp (disch:=omega) only[nV,nW] at h0;omega) (fun h0=>Tr.ah rfl))
   exact h1
theorem Ir (hS:ny lc W b) {t:Nat} {r:Nat→Int} (hr:Bd lc b W t r):∀ j,20≤j→r j=0:=fun j hj=>by
 rw[hr.out j (by have:=hS.len;omega)];exact hS.zer j hj
theorem Ju (hS:ny lc W b) (t:Nat) (ht:t<lc):∃ x,exec (cI (n+1) 56 69) (part Tryd.f56 [1,1,0,1,0,0]) (mw (shV dr lc zc lb zb W (bI b)) lc (t:Int)) (eP [cw (eQ (kP b 10) W t)]::H)=some x ∧
 if kR (eQ (kP b 10) W (t+1)) (eQ (kP b 10) W t) 20=true then x=(.exit 0,mw (shV dr lc zc lb zb W (bI b)) lc (t:Int)++[(66,.bool true)],eP [cw (eQ (kP b 10) W (t+1)),cw (eQ (kP b 10) W t)]::H)
 else x.1=.normal∧tidy 2 x.2.1 x.2.2=(mw (shV dr lc zc lb zb W (bI b)) lc ((t+1:Nat):Int),eP [cw (eQ (kP b 10) W (t+1))]::H):=by
 have hb:=ky (w:=W) hS.nob hS.all t
 have ec:bz .i64 (t:Int) (Int.ofNat 1)=((t+1:Nat):Int):=gN (by have:=hS.len;omega)
 have T:=Ow (n+1) dr lc zc lb zb W (bI b) H (eQ (kP b 10) W t) (eQ (kP b 10) W (t+1)) (t:Int)
 rw[ec,re (Ir lc W b hS hb)] at T
 refine aY T (aV _) (bu (ak _ _) Ke (fun x h=>by rw[← Tr.ab h];simp only[gZ.st,bn];exact Nr n dr lc zc lb zb W b H hS (eQ (kP b 10) W t) (eQ (kP b 10) W t) t hb (t:Int))) (al _ _) ?_
 refine Tr.ag (fun h0=>?_) (fun h0=>by simp (disch:=omega) only[nV,nW] at h0;omega)
 refine Tr.af (by simp (disch:=omega) only[nV,nW];omega) (Tr.an ⟨rfl,rfl⟩ (Tr.ag (fun q=>Tr.ah ?_) (fun q=>Tr.ah ?_)))
 · rw[if_pos q];rfl
 · rw[if_neg (by rw[q];decide)];exact ⟨rfl,rfl⟩
theorem Qd (hS:ny lc W b):cd (n+2) (.fn 56) [shV dr lc zc lb zb W (bI b)] H=some (.agg (.M [.arr .i64 (qc lc b W) 20]),H):=by
 have hl:=hS.len
 have hz:∀ j,20≤j→qc lc b W j=0:=fun j hj=>by unfold qc;rw[if_neg (by omega)];exact hS.zer j hj
 rcases rr (fun t=>t<lc∧kR (eQ (kP b 10) W (t+1)) (eQ (kP b 10) W t) 20=true) lc with h | ⟨T,h1,⟨_,h2⟩,h3⟩
 · have hx:exec (cI (n+1) 56 69) (.block 0 (.loop (part Tryd.f56 [1,1,0,1,0,0]))) (mw (shV dr lc zc lb zb W (bI b)) lc (Int.ofNat 0)) (eP [cw W]::H)=some (.normal,mw (shV dr lc zc lb zb W (bI b)) lc (Int.ofNat lc)++[(19,.bool false)],eP [cw (eQ (kP b 10) W lc)]::H):=by
    refine ld (n:=n+1) (f:=56) (nt:=69) (c:=part Tryd.f56 [1,1,0,1,0,0]) 0 (fun t=>mw (shV dr lc zc lb zb W (bI b)) lc (t:Int)) (fun t=>eP [cw (eQ (kP b 10) W t)]::H) lc (_,_) (by omega) (fun t ht=>?_) ?_
    · obtain ⟨x,x1,x2⟩:=Ju n dr lc zc lb zb W b H hS t ht
      rw[if_neg (fun q=>h t ht ⟨ht,q⟩)] at x2
      exact ⟨x,x1,x2⟩
    · obtain ⟨x,h1,rfl⟩:=aY (Q:=fun x=>x=(.exit 0,mw (shV dr lc zc lb zb W (bI b)) lc (Int.ofNat lc)++[(19,.bool false)],eP [cw (eQ (kP b 10) W lc)]::H)) (Lu (n+1) dr lc zc lb zb W (bI b) H (eQ (kP b 10) W lc) (Int.ofNat lc)) (aV _) (fB (ak _ _) 2) (al _ _) (by
       refine Tr.ag (fun h0=>by simp (disch:=omega) only[nV,nW] at h0;omega) (fun h0=>Tr.ah rfl))
      exact h1
   have he:=yU (Nat.le_refl lc) (ky (w:=W) hS.nob hS.all lc)
   rw[he] at hx
   have U:=OH (n+1) dr lc zc lb zb W (bI b) H (qc lc b W)
   rw[re hS.zer,re hz] at U
   refine bN (n:=n+1) Tryd.func56 rfl rfl rfl U (aV _) (bu (ak _ _) GZ (fun x h=>by rw[← Tr.ab h];simp only[gZ.st,bn];exact hx)) (al _ _) ?_
   exact Tr.af (by simp (disch:=omega) only[nV,nW];omega) (Tr.an ⟨rfl,rfl⟩ (Tr.af (by simp (disch:=omega) only[nV,nW];omega) (Tr.ah ⟨rfl,rfl⟩)))
 · have hbT:=ky (w:=W) hS.nob hS.all T
   have hbT1:=ky (w:=W) hS.nob hS.all (T+1)
   have heq:eQ (kP b 10) W (T+1)=eQ (kP b 10) W T:=by
    funext j
    by_cases hj:j<20
    · exact tD h2 j hj
    · rw[Ir lc W b hS hbT1 j (by omega),Ir lc W b hS hbT j (by omega)]
   have he:eQ (kP b 10) W (T+1)=qc lc b W:=by
    rw[heq];exact Ft hS.nob hS.all hbT heq
   have hx:exec (cI (n+1) 56 69) (.block 0 (.loop (part Tryd.f56 [1,1,0,1,0,0]))) (mw (shV dr lc zc lb zb W (bI b)) lc (Int.ofNat 0)) (eP [cw W]::H)=some (.normal,mw (shV dr lc zc lb zb W (bI b)) lc (T:Int)++[(66,.bool true)],eP [cw (eQ (kP b 10) W (T+1)),cw (eQ (kP b 10) W T)]::H):=by
    refine ld (n:=n+1) (f:=56) (nt:=69) (c:=part Tryd.f56 [1,1,0,1,0,0]) 0 (fun t=>mw (shV dr lc zc lb zb W (bI b)) lc (t:Int)) (fun t=>eP [cw (eQ (kP b 10) W t)]::H) T (_,_) (by omega) (fun t ht=>?_) ?_
    · obtain ⟨x,x1,x2⟩:=Ju n dr lc zc lb zb W b H hS t (by omega)
      rw[if_neg (fun q=>h3 t ht ⟨by omega,q⟩)] at x2
      exact ⟨x,x1,x2⟩
    · obtain ⟨x,x1,x2⟩:=Ju n dr lc zc lb zb W b H hS T h1
      rw[if_pos h2] at x2
      subst x2
      exact x1
   rw[he] at hx
   have U:=OI (n+1) dr lc zc lb zb W (bI b) H (qc lc b W) (eQ (kP b 10) W T) (T:Int)
   rw[re hS.zer,re hz] at U
   refine bN (n:=n+1) Tryd.func56 rfl rfl rfl U (aV _) (bu (ak _ _) GZ (fun x h=>by rw[← Tr.ab h];simp only[gZ.st,bn];exact hx)) (al _ _) ?_
   exact Tr.af (by simp (disch:=omega) only[nV,nW];omega) (Tr.an ⟨rfl,rfl⟩ (Tr.af (by simp (disch:=omega) only[nV,nW];omega) (Tr.ah ⟨rfl,rfl⟩)))
end
end Go.Eng
end
section
namespace Go.Eng
open Go.Proofs Go.Eng.Gall
noncomputable def JX (a b:Int):AV:=.agg (.I .i64 [a,b])
noncomputable def L6 (A:AV) (P:Int→Prop) (V:Int→AV):List AV→Option (Prop×AV)
 | [B,.int .i64 c]=>some (B=A∧P c,V c)
 | _=>none
noncomputable def wH (S:AV) (j:Int):az:=[(1,.ptr 0 0 0 0),(3,S),(4,.int .i64 j)]
noncomputable def wJ (S:AV) (t:Int):az:=[(1,.ptr 0 0 0 0),(3,S),(5,.int .i64 t)]
noncomputable def zo (S:AV) (t j:Int):az:=[(1,.ptr 0 0 0 0),(3,S),(5,.int .i64 t),(6,.int .i64 j)]
noncomputable def Mq (C:Int→Int→Prop) (d:Int→Int→Int):List AV→Option (Prop×AV)
 | [.int .i64 a,.int .i64 b]=>some (C a b,.int .i64 (d a b))
 | _=>none
noncomputable def uE (i v m:Nat):AV:=.slc 0 i v 0 2 m none
noncomputable def uB (v M:Nat) (z:Nat→Int):Nat×av:=(v,.row (.M [.arr .i64 z M]))
theorem SQ (n:Nat) (a b:Int) (H:aa):bA Tryd.prog (cd n) 100000 81 Tryd.f81 (KtG.kt 81) (il aX n 0) bo bp [(.int .i64 a,none),(.int .i64 b,none)] H =
 Tr.req (cH (dC b (Int.ofNat 0))) (Tr.ite (da a (qi .i64 (tr IntKind.i64 a b) b)) (Tr.ok ((AV.int .i64 (bW .i64 (tr IntKind.i64 a b) (Int.ofNat 1)),none),H)) (Tr.ok ((AV.int .i64 (tr IntKind.i64 a b),none),H))):=by kernel_rfl
theorem SG (n:Nat) (dr:Int) (lc:Nat) (zc:Nat→Int) (lb:Nat) (zb:Nat→Int) (H:aa) (c:Int) (d:Int→Int→Int) (C:Int→Int→Prop):bA Tryd.prog (cd n) 100000 55 Tryd.f55 (KtG.kt 55) (il (mr aX 81 (Mq C d)) n 0) bo bp [(df dr lc zc lb zb,none),(.int .i64 c,none)] H =
 Tr.req (dk c lc) (Tr.req (cW (aE 0 c 4) (aq lc 4)) (Tr.req (cW (aG (aE 0 c 4) 1) (aq lc 4)) (Tr.req (cW (aG (aE 0 c 4) 2) (aq lc 4)) (Tr.req (cW (aG (aE 0 c 4) 3) (aq lc 4)) (Tr.reqP (C (bW .i64 (zc (aG (aE 0 c 4) 3)) (zc (aG (aE 0 c 4) 1))) dr) (Tr.reqP (C (bW .i64 (zc (aE 0 c 4)) (zc (aG (aE 0 c 4) 2))) dr) (Tr.req (bY (jS 0 0) (jS 0 1)) (Tr.ok ((AV.agg (Row.I .i64 [mC (Int.ofNat 0) (zL IntKind.i64 (d (bW .i64 (zc (aG (aE 0 c 4) 3)) (zc (aG (aE 0 c 4) 1))) dr)),qh (bW .i64 (Int.ofNat lc) (Int.ofNat 1)) (d (bW .i64 (zc (aE 0 c 4)) (zc (aG (aE 0 c 4) 2))) dr)]),none),H))))))))):=by kernel_rfl
theorem Oy (n:Nat) (dr:Int) (lc:Nat) (zc:Nat→Int) (lb:Nat) (zb:Nat→Int) (H:aa) (j:Int) (P:Int→Prop) (f g:Int→Int):aZ (cI n 57 81) (il (mr aX 55 (L6 (df dr lc zc lb zb) P (fun c=>JX (f c) (g c)))) n 0) bo bp (part Tryd.f57 [1,1,0,1,0,0]) (hints (wH .nils j)) (iN dr lc zc lb zb::H) =
 (fun (Z0:Row)=>Tr.ite (da j (Int.ofNat lc)) (Tr.reqP (AV.agg Z0=AV.agg Z0∧P j) (Tr.req (ou 0 1 16) (Tr.req (fX 0 0) (Tr.req (jS 1 1) (Tr.ok (Ex.normal,[(1,AV.ptr 0 0 0 0,none),(3,AV.slc 0 2 0 0 2 1 none,none),(4,AV.int .i64 (bz .i64 j (Int.ofNat 1)),none)],{ lock:=false,bs:=[(0,av.row Z0),(0,av.row (Row.I .i64 [f j,g j])),(0,av.row (Row.M [aw.arr .i64 (bC [f j,g j]) 2]))] } :: H)))))) (Tr.ok (Ex.exit 0,[(1,AV.ptr 0 0 0 0,none),(3,AV.nils,none),(4,AV.int .i64 j,none),(13,AV.bool false,some 1)],{ lock:=false,bs:=[(0,av.row Z0)] } :: H))) (Row.G [AV.int .i64 dr,AV.slcT none (Row.M [aw.arr .i64 zc (aq lc 4)]) 4 lc false,AV.slcT none (Row.M [aw.arr .i64 zb (aq lb 2)]) 2 lb false]):=by kernel_rfl
theorem Lz (n:Nat) (dr:Int) (lc:Nat) (zc:Nat→Int) (lb:Nat) (zb:Nat→Int) (H:aa) (j:Int) (P:Int→Prop) (f g:Int→Int) (v m M:Nat) (z:Nat→Int):aZ (cI n 57 81) (il (mr aX 55 (L6 (df dr lc zc lb zb) P (fun c=>JX (f c) (g c)))) n 0) bo bp (part Tryd.f57 [1,1,0,1,0,0]) (hints (wH (uE 1 v m) j)) (c6 dr lc zc lb zb [uB v M z]::H) =
 (fun (Z0:Row)=>Tr.ite (da j (Int.ofNat lc)) (Tr.reqP (AV.agg Z0=AV.agg Z0∧P j) (Tr.req (ou m 1 16) (Tr.req (fX 0 0) (Tr.req (jS 1 1) (Tr.req (fX v v) (Tr.req (fX (aG 0 (aq m 2)) M) (Tr.ok (Ex.normal,[(1,AV.ptr 0 0 0 0,none),(3,AV.slc 0 1 (Nat.succ v) 0 2 (aG m 1) none,none),(4,AV.int .i64 (bz .i64 j (Int.ofNat 1)),none)],{ lock:=false,bs:=[(0,av.row Z0),(Nat.succ v,av.row (Row.M [aw.arr .i64 (sV (yN z 0) (aq m 2) (bC [f j,g j])) (aG (aq m 2) 2)])),(0,av.row (Row.I .i64 [f j,g j]))] } :: H)))))))) (Tr.ok (Ex.exit 0,[(1,AV.ptr 0 0 0 0,none),(3,AV.slc 0 1 v 0 2 m none,none),(4,AV.int .i64 j,none),(13,AV.bool false,some 1)],{ lock:=false,bs:=[(0,av.row Z0),(v,av.row (Row.M [aw.arr .i64 z M]))] } :: H))) (Row.G [AV.int .i64 dr,AV.slcT none (Row.M [aw.arr .i64 zc (aq lc 4)]) 4 lc false,AV.slcT none (Row.M [aw.arr .i64 zb (aq lb 2)]) 2 lb false]):=by kernel_rfl
theorem Lx (n:Nat) (dr:Int) (lc:Nat) (zc:Nat→Int) (lb:Nat) (zb:Nat→Int) (H:aa) (t j:Int) (v m M:Nat) (z:Nat→Int):aZ (cI n 57 81) (il aX n 0) bo bp (part Tryd.f57 [1,1,1,0,1,0,0,1,0,0,1,0,0]) (hints (zo (uE 1 v m) t j)) (c6 dr lc zc lb zb [uB v M z]::H) =
 (fun (Z0:Nat×av)=>Tr.ite (da j (Int.ofNat lb)) (Tr.req (dk j lb) (Tr.req (dk (Int.ofNat 0) 2) (Tr.req (cW (aE 0 j 2) (aq lb 2)) (Tr.req (dk j lb) (Tr.req (dk (Int.ofNat 1) 2) (Tr.req (cW (Nat.succ (aE 0 j 2)) (aq lb 2)) (Tr.req (dk (zb (Nat.succ (aE 0 j 2))) m) (Tr.req (fX v v) (Tr.req (cW (aE 0 (zb (Nat.succ (aE 0 j 2))) 2) M) (Tr.req (dk (zb (aE 0 j 2)) m) (Tr.req (fX v v) (Tr.req (cW (aE 0 (zb (aE 0 j 2)) 2) M) (Tr.req (dk (zb (Nat.succ (aE 0 j 2))) m) (Tr.req (fX v v) (Tr.req (cW (aE 0 (zb (Nat.succ (aE 0 j 2))) 2) M) (Tr.req (bY (jS v v) (jS v (Nat.succ v))) (Tr.req (dk (zb (aE 0 j 2)) m) (Tr.req (fX v v) (Tr.req (cW (aG (aE 0 (zb (aE 0 j 2)) 2) 1) M) (Tr.req (dk (zb (Nat.succ (aE 0 j 2))) m) (Tr.req (fX v v) (Tr.req (cW (aG (aE 0 (zb (Nat.succ (aE 0 j 2))) 2) 1) M) (Tr.req (dk (zb (aE 0 j 2)) m) (Tr.req (fX v v) (Tr.req (cW (aG (aE 0 (zb (aE 0 j 2)) 2) 1) M) (Tr.req (bY (jS v v) (jS v (Nat.succ v))) (Tr.ok (Ex.normal,[(1,AV.ptr 0 0 0 0,none),(3,AV.slc 0 1 v 0 2 m none,none),(5,AV.int .i64 t,none),(6,AV.int .i64 (bz .i64 j (Int.ofNat 1)),none)],{ lock:=false,bs:=[Z0,(v,av.row (Row.M [aw.arr .i64 (gH (gH z (aE 0 (zb (Nat.succ (aE 0 j 2))) 2) (mC (z (aE 0 (zb (Nat.succ (aE 0 j 2))) 2)) (bz .i64 (z (aE 0 (zb (aE 0 j 2)) 2)) (Int.ofNat 1)))) (aG (aE 0 (zb (aE 0 j 2)) 2) 1) (qh (gH z (aE 0 (zb (Nat.succ (aE 0 j 2))) 2) (mC (z (aE 0 (zb (Nat.succ (aE 0 j 2))) 2)) (bz .i64 (z (aE 0 (zb (aE 0 j 2)) 2)) (Int.ofNat 1))) (aG (aE 0 (zb (aE 0 j 2)) 2) 1)) (bW .i64 (gH z (aE 0 (zb (Nat.succ (aE 0 j 2))) 2) (mC (z (aE 0 (zb (Nat.succ (aE 0 j 2))) 2)) (bz .i64 (z (aE 0 (zb (aE 0 j 2)) 2)) (Int.ofNat 1))) (aG (aE 0 (zb (Nat.succ (aE 0 j 2))) 2) 1)) (Int.ofNat 1)))) M]))] } :: H)))))))))))))))))))))))))))) (Tr.ok (Ex.exit 4,[(1,AV.ptr 0 0 0 0,none),(3,AV.slc 0 1 v 0 2 m none,none),(5,AV.int .i64 t,none),(6,AV.int .i64 j,none),(33,AV.bool false,some 1)],{ lock:=false,bs:=[Z0,(v,av.row (Row.M [aw.arr .i64 z M]))] } :: H))) (0,av.row (Row.G [AV.int .i64 dr,AV.slcT none (Row.M [aw.arr .i64 zc (aq lc 4)]) 4 lc false,AV.slcT none (Row.M [aw.arr .i64 zb (aq lb 2)]) 2 lb false])):=by kernel_rfl
theorem Oz (n:Nat) (dr:Int) (lc:Nat) (zc:Nat→Int) (lb:Nat) (zb:Nat→Int) (H:aa) (t:Int) (v m M:Nat) (z z':Nat→Int):aZ (cI n 57 81) (il aX n 0) (dN bo 4 (zo (uE 1 v m) t (Int.ofNat 0)) (c6 dr lc zc lb zb [uB v M z]::H) (.ok (.normal,hints (zo (uE 1 v m) t (Int.ofNat lb)++[(33,.bool false)]),c6 dr lc zc lb zb [uB v M z']::H))) bp (part Tryd.f57 [1,1,1,0,1,0,0]) (hints (wJ (uE 1 v m) t)) (c6 dr lc zc lb zb [uB v M z]::H) =
 (fun (Z0:Nat×av)=>((fun (Z1:bL)=>((fun (Z2:az)=>Tr.ite (da t (Int.ofNat lc)) (Tr.reqP (Z2=Z2∧Z1::H=Z1::H) (Tr.ok (Ex.normal,[(1,AV.ptr 0 0 0 0,none),(3,AV.slc 0 1 v 0 2 m none,none),(5,AV.int .i64 (bz .i64 t (Int.ofNat 1)),none)],{ lock:=false,bs:=[Z0,(v,av.row (Row.M [aw.arr .i64 z' M]))] } :: H))) (Tr.ok (Ex.exit 2,[(1,AV.ptr 0 0 0 0,none),(3,AV.slc 0 1 v 0 2 m none,none),(5,AV.int .i64 t,none),(26,AV.bool false,some 1)],Z1::H))) [(1,AV.ptr 0 0 0 0),(3,AV.slc 0 1 v 0 2 m none),(5,AV.int .i64 t),(6,AV.int .i64 (Int.ofNat 0))])) { lock:=false,bs:=[Z0,(v,av.row (Row.M [aw.arr .i64 z M]))] })) (0,av.row (Row.G [AV.int .i64 dr,AV.slcT none (Row.M [aw.arr .i64 zc (aq lc 4)]) 4 lc false,AV.slcT none (Row.M [aw.arr .i64 zb (aq lb 2)]) 2 lb false])):=by kernel_rfl
theorem Ly (n:Nat) (dr:Int) (lc:Nat) (zc:Nat→Int) (lb:Nat) (zb:Nat→Int) (H:aa) (t:Int) (v m M:Nat) (z:Nat→Int):aZ (cI n 57 81) (il aX n 0) (lT bo 4) bp (part Tryd.f57 [1,1,1,0,1,0,0]) (hints (wJ (uE 1 v m) t)) (c6 dr lc zc lb zb [uB v M z]::H) =
 Tr.ite (da t (Int.ofNat lc)) Tr.bad (Tr.ok (Ex.exit 2,[(1,AV.ptr 0 0 0 0,none),(3,AV.slc 0 1 v 0 2 m none,none),(5,AV.int .i64 t,none),(26,AV.bool false,some 1)],{ lock:=false,bs:=[(0,av.row (Row.G [AV.int .i64 dr,AV.slcT none (Row.M [aw.arr .i64 zc (aq lc 4)]) 4 lc false,AV.slcT none (Row.M [aw.arr .i64 zb (aq lb 2)]) 2 lb false])),(v,av.row (Row.M [aw.arr .i64 z M]))] } :: H)):=by kernel_rfl
theorem SH (n:Nat) (dr:Int) (lc:Nat) (zc:Nat→Int) (lb:Nat) (zb:Nat→Int) (H:aa) (v m M:Nat) (z z':Nat→Int):bA Tryd.prog (cd n) 100000 57 Tryd.f57 (KtG.kt 57) (il aX n 0) (dN (dN bo 0 (wH .nils (Int.ofNat 0)) (iN dr lc zc lb zb::H) (.ok (.normal,hints (wH (uE 1 v m) (Int.ofNat lc)++[(13,.bool false)]),c6 dr lc zc lb zb [uB v M z]::H))) 2 (wJ (uE 1 v m) (Int.ofNat 0)) (c6 dr lc zc lb zb [uB v M z]::H) (.ok (.normal,hints (wJ (uE 1 v m) (Int.ofNat lc)++[(26,.bool false)]),c6 dr lc zc lb zb [uB v M z']::H))) bp [(df dr lc zc lb zb,none)] H =
 (fun (Z0:Nat×av)=>((fun (Z1:az)=>Tr.reqP ([(1,AV.ptr 0 0 0 0),(3,AV.nils),(4,AV.int .i64 (Int.ofNat 0))]=[(1,AV.ptr 0 0 0 0),(3,AV.nils),(4,AV.int .i64 (Int.ofNat 0))]∧{ lock:=false,bs:=[Z0] } :: H={ lock:=false,bs:=[Z0] } :: H) (Tr.reqP (Z1=Z1∧{ lock:=false,bs:=[Z0,(v,av.row (Row.M [aw.arr .i64 z M]))] } :: H={ lock:=false,bs:=[Z0,(v,av.row (Row.M [aw.arr .i64 z M]))] } :: H) (Tr.req (fX v v) (Tr.req (nv 0 (aq m 2) 0 M) (Tr.ok ((AV.slcT none (Row.M [aw.arr .i64 (yN z' 0) (aq m 2)]) 2 m false,none),H)))))) [(1,AV.ptr 0 0 0 0),(3,AV.slc 0 1 v 0 2 m none),(5,AV.int .i64 (Int.ofNat 0))])) (0,av.row (Row.G [AV.int .i64 dr,AV.slcT none (Row.M [aw.arr .i64 zc (aq lc 4)]) 4 lc false,AV.slcT none (Row.M [aw.arr .i64 zb (aq lb 2)]) 2 lb false])):=by kernel_rfl
end Go.Eng
end
