/- Gall: a list with a pair more (plain law). -/
import Derived.Test.YtgphpjdchnfjlaaDoorV6Gbdx11
import Derived.Test.YtgphpjdchnfjlaaDoorV6Gahx18
set_option linter.unusedVariables false
set_option linter.unusedSimpArgs false
set_option maxRecDepth 100000
section
namespace Go.Eng
open Go.Proofs Go.Eng.Gall Go.Eng.Q
section
variable {O:Int} {U:Nat} {Z:Nat→Int} {V:Nat} {J zb2:Nat→Int} {a b:Nat}
end
end Go.Eng
end
section
namespace Go.Eng
open Go.Proofs Go.Eng.Gall Go.Eng.Q
section
variable {O:Int} {U:Nat} {Z:Nat→Int} {V:Nat} {J:Nat→Int} {a b:Nat}
theorem PK (c:Nat) (hc:c<U):0≤cj O U Z (2*c)∧cj O U Z (2*c+1)<U:=by
 unfold cj;rw[if_pos wO,if_pos wO,if_pos wO,if_neg wO];omega
theorem Ln (hl:U≤10) (W B:Nat→Int):0≤cntF U W B∧cntF U W B≤10000000000:=by
 have h1:=GO (n:=U) (ok:=okW W B) U;have h2:U ^ U≤10 ^ 10:=Nat.le_trans (Nat.pow_le_pow_left hl U) (Nat.pow_le_pow_right (by decide) hl);unfold cntF;have h3:(10:Nat) ^ 10=10000000000:=by decide
 omega
theorem Me (h0:c7 O U Z V J=0):Ho O U Z V J=none↔¬ cntF U (cj O U Z) (mZ V J)=0:=by
 obtain ⟨h1,h2,h3,h4,h5,h6⟩:=pH h0;have hi:=Lg (Jf O U Z V J h1.2 h3 h4 h5 h6) PK;unfold Ho;rw[hi];unfold cntF;constructor
 · rintro ⟨L,hL⟩ h;rw[show mZ V J=bI (fun c=>cZ J c V) from rfl] at h;rw[List.eq_nil_of_length_eq_zero (show (ro U (okW (cj O U Z) (bI (fun c=>cZ J c V))) U).length=0 by omega)] at hL;cases hL
 · intro h;rw[show mZ V J=bI (fun c=>cZ J c V) from rfl] at h;cases e:ro U (okW (cj O U Z) (bI (fun c=>cZ J c V))) U with
   | nil=>rw[e] at h;exact absurd rfl h
   | cons L l=>exact ⟨L,by simp⟩
end
end Go.Eng
end
section
namespace Go.Eng
open Go.Proofs Go.Eng.Gall Go.Eng.Q
section
variable {n:Nat} {g:Nat→Nat} {W:Nat→Int}
variable (n g W)
variable {n g W}
end
end Go.Eng
end
section
namespace Go.Eng
open Go.Proofs Go.Eng.Gall
noncomputable def sn (U:Nat) (j:Int):aA:=[(0,.yld 1 5),(9,.int .i64 (Int.ofNat U)),(10,.int .i64 j)]
end Go.Eng
end
section
namespace Go.Eng
open Go.Proofs Go.Eng.Gall
section
variable (n:Nat) (O:Int) (U:Nat) (Z:Nat→Int) (V:Nat) (J:Nat→Int)
variable (W:Nat→Int) (g:Nat→Nat) (H:ab)
end
end Go.Eng
end
section
namespace Go.Eng
open Go.Proofs Go.Eng.Gall
section
variable (n:Nat) (O:Int) (U:Nat) (Z:Nat→Int) (V:Nat) (J:Nat→Int) (W:Nat→Int) (g:Nat→Nat) (H:ab)
end
end Go.Eng
end
section
namespace Go.Eng
open Int (ofNat)
open Go.Proofs Go.Eng.Gall
noncomputable def oF (f t:Int) (m:Nat) (z:Nat→Int):AV:=.agg (.G [.int .i64 f,.int .i64 t,bG m z false])
noncomputable def uB (R:Row) (m:Nat) (z:Nat→Int) (l j:Int):aA:=[(2,.ptr 0 0 0 0),(3,.ptr 0 1 0 0),(5,.ptrT none R 0),(7,.int .i64 l),(36,bG m z false),(37,.int .i64 (ofNat m)),(38,.int .i64 j)]
noncomputable def o6 (O:Int) (U:Nat) (Z:Nat→Int) (V:Nat) (J:Nat→Int) (f t:Int) (m:Nat) (z:Nat→Int):bJ:=⟨false,[(0,.row (.G [.int .i64 O,slA 4 U Z,slA 2 V J])),(0,.row (.G [.int .i64 f,.int .i64 t,bG m z false])),(0,.row (.I .i64 [f,t]))]⟩
noncomputable def Bm (O:Int) (U:Nat) (Z:Nat→Int) (V:Nat) (J:Nat→Int) (f t:Int) (m:Nat) (z r:Nat→Int):bJ:=⟨false,[(0,.row (.G [.int .i64 O,slA 4 U Z,slA 2 V J])),(0,.row (.G [.int .i64 f,.int .i64 t,bG m z false])),(0,.row (.I .i64 [f,t])),(0,.row (.M [.arr .i64 r 20]))]⟩
noncomputable def xT (d:Nat):AV:=.fn (.func 68) [] [.ptr d 3 0 0,.ptr d 1 0 0]
noncomputable def sm (m:Nat) (z:Nat→Int) (j:Int):aA:=[(0,bG m z false),(1,xT 2),(7,.int .i64 (ofNat m)),(8,.int .i64 j)]
noncomputable def uC (j:Int):aA:=[(2,.ptr 0 0 0 0),(3,.ptr 0 1 0 0),(5,.int .i64 j)]
noncomputable def jf (O:Int) (U:Nat) (Z:Nat→Int) (V:Nat) (J:Nat→Int) (f t:Int) (m:Nat) (z:Nat→Int):bJ:=⟨false,[(0,.row (.G [.int .i64 O,slA 4 U Z,slA 2 V J])),(0,.row (.G [.int .i64 f,.int .i64 t,bG m z false]))]⟩
noncomputable def qw (U:Nat) (r:Nat→Int) (j:Int):aA:=[(3,.ptr 0 1 0 0),(6,K8 U r),(7,.int .i64 j)]
noncomputable def F9 (O:Int) (U:Nat) (Z:Nat→Int) (V:Nat) (J:Nat→Int) (f t:Int) (m:Nat) (z:Nat→Int) (x y:Int):bJ:=⟨false,[(0,.row (.G [.int .i64 O,slA 4 U Z,slA 2 V J])),(0,.row (.G [.int .i64 f,.int .i64 t,bG m z false])),(0,.row (.I .i64 [x,y]))]⟩
theorem Xa (n:Nat) (O:Int) (U:Nat) (Z:Nat→Int) (V:Nat) (J:Nat→Int) (W B:Nat→Int) (H:ab) (f t:Int) (m:Nat) (y:Nat→Int):bu Tryd.prog (cd n) 100000 25 Tryd.f25 (KtG.kt 25) (il (tX (tX aJ 49 [bk O U Z V J,.nils] (.tup [shV O U Z V J W B,.int .i64 (ofNat 0)])) 65 [shV O U Z V J W B] (.tup [.agg (.G [.int .i64 f,.int .i64 t,bG m y false]),.bool true])) n 0) aS aR [(bk O U Z V J,none)] H =
 Tr.reqP ([bk O U Z V J,AV.nils]=[bk O U Z V J,AV.nils]) (Tr.ite (bU (cK (ofNat 0) (ofNat 0))) (Tr.ok ((AV.tup [AV.agg (Row.G [iI 0,iI 0,AV.nils]),iI 0],none),H)) (Tr.reqP ([shV O U Z V J W B]=[shV O U Z V J W B]) (Tr.ite (bU true) (Tr.ok ((AV.tup [AV.agg (Row.G [iI 0,iI 0,AV.nils]),iI 5],none),H)) (Tr.ok ((AV.tup [AV.agg (Row.G [AV.int .i64 f,AV.int .i64 t,bG m y false]),iI 0],none),H))))):=by kernel_rfl
theorem SP (n:Nat) (O:Int) (U:Nat) (Z:Nat→Int) (V:Nat) (J:Nat→Int) (W B:Nat→Int) (H:ab):bu Tryd.prog (cd n) 100000 25 Tryd.f25 (KtG.kt 25) (il (tX (tX aJ 49 [bk O U Z V J,.nils] (.tup [shV O U Z V J W B,.int .i64 (ofNat 0)])) 65 [shV O U Z V J W B] (.tup [.agg (.G [.int .i64 (ofNat 0),.int .i64 (ofNat 0),.nils]),.bool false])) n 0) aS aR [(bk O U Z V J,none)] H =
 Tr.reqP ([bk O U Z V J,AV.nils]=[bk O U Z V J,AV.nils]) (Tr.ite (bU (cK (ofNat 0) (ofNat 0))) (Tr.ok ((AV.tup [AV.agg (Row.G [iI 0,iI 0,AV.nils]),iI 0],none),H)) (Tr.reqP ([shV O U Z V J W B]=[shV O U Z V J W B]) (Tr.ite (bU false) (Tr.ok ((AV.tup [AV.agg (Row.G [iI 0,iI 0,AV.nils]),iI 5],none),H)) (Tr.ok ((AV.tup [AV.agg (Row.G [iI 0,iI 0,AV.nils]),iI 0],none),H))))):=by kernel_rfl
theorem t27 (n:Nat) (O:Int) (U:Nat) (Z:Nat→Int) (V:Nat) (J:Nat→Int) (R:Row) (H:ab) (f t:Int) (m:Nat) (z:Nat→Int) (l j:Int):aH (bO n 27 73) (il aJ n 0) aS aR (part Tryd.f27 [1,1,1,1,0,1,0,0]) (hints (uB R m z l j)) (o6 O U Z V J f t m z::H) =
 (fun (Z0:bJ)=>Tr.ite (bw j (ofNat m)) (Tr.req (b8 j m) (Tr.req (bR (aq 0 j 1) m) (Tr.ite (cU (z (aq 0 j 1)) l) (Tr.ok (Ex.ret,[(4,iI 3,some 1)],Z0::H)) (Tr.ite (cU (ofNat U) (z (aq 0 j 1))) (Tr.ok (Ex.ret,[(4,iI 3,some 1)],Z0::H)) (Tr.ok (Ex.normal,[(2,AV.ptr 0 0 0 0,none),(3,AV.ptr 0 1 0 0,none),(5,AV.ptrT none R 0,none),(7,AV.int .i64 (z (aq 0 j 1)),none),(36,bG m z false,none),(37,iI m,none),(38,AV.int .i64 (aQ .i64 j (ofNat 1)),none)],Z0::H)))))) (Tr.ok (Ex.exit 1,[(2,AV.ptr 0 0 0 0,none),(3,AV.ptr 0 1 0 0,none),(5,AV.ptrT none R 0,none),(7,AV.int .i64 l,none),(36,bG m z false,none),(37,iI m,none),(38,AV.int .i64 j,none),(39,AV.bool false,some 1)],Z0::H))) (bK [(0,cW O U Z V J),(0,an.row (Row.G [AV.int .i64 f,AV.int .i64 t,bG m z false])),(0,an.row (Row.I .i64 [f,t]))]):=by kernel_rfl
theorem Xc (n:Nat) (O:Int) (U:Nat) (Z:Nat→Int) (V:Nat) (J:Nat→Int) (W B:Nat→Int) (H:ab) (f t:Int) (m:Nat) (z r:Nat→Int) (q q2:Bool) (l:Int):bu Tryd.prog (cd n) 100000 27 Tryd.f27 (KtG.kt 27) (il (Lo (kZ (tX (tX aJ 49 [bk O U Z V J,.nils] (.tup [shV O U Z V J W B,.int .i64 (ofNat 0)])) 56 [shV O U Z V J W B] (.agg (.M [.arr .i64 r 20]))) 59 gW) 67 [bG m z false,xT 0] (Bm O U Z V J f t m z (lI (fun _=>ofNat 0) 0 r 20)::H) (.ok (.bool q2,Bm O U Z V J f t m z (lI (fun _=>ofNat 0) 0 r 20)::H))) n 0) (cw aS 1 (uB (shR O U Z V J W B) m z (Int.negSucc 0) (ofNat 0)) (o6 O U Z V J f t m z::H) (.ite q (.ok (.ret,[(4,.int .i64 (ofNat 3),none)],o6 O U Z V J f t m z::H)) (.ok (.normal,hints (uB (shR O U Z V J W B) m z l (ofNat m)++[(39,.bool false)]),o6 O U Z V J f t m z::H)))) aR [(bk O U Z V J,none),(oF f t m z,none)] H =
 (fun (Z0:bJ)=>((fun (Z1:aA)=>((fun (Z2:bJ)=>Tr.reqP ([bk O U Z V J,AV.nils]=[bk O U Z V J,AV.nils]) (Tr.ite (bU (cK (ofNat 0) (ofNat 0))) (Tr.ok ((iI 0,none),H)) (Tr.ite (bU (bL (bL (cU (Int.negSucc 1999) f) (cU f (ofNat 2000))) (bL (bL (cU (Int.negSucc 1999) t) (cU t (ofNat 2000))) true))) (Tr.ok ((iI 3,some 1),H)) (Tr.ite (cK (ofNat m) (ofNat 0)) (Tr.ok ((iI 3,some 1),H)) (Tr.reqP (Z1=Z1∧Z2::H=Z2::H) (Tr.ite q (Tr.ok ((iI 3,none),H)) (Tr.reqP ([shV O U Z V J W B]=[shV O U Z V J W B]) (Tr.req (fF 0 20 0 20) (Tr.reqP ([bG m z false,AV.fn (Fn.func 68) [] [AV.ptr 0 3 0 0,AV.ptr 0 1 0 0]]=[bG m z false,AV.fn (Fn.func 68) [] [AV.ptr 0 3 0 0,AV.ptr 0 1 0 0]]∧Z0::H=Z0::H) (Tr.ite q2 (Tr.ok ((iI 14,some 1),H)) (Tr.ite (cU (ofNat m) (aQ .i64 (bH .i64 t f) (ofNat 1))) (Tr.ok ((iI 14,some 1),H)) (Tr.ok ((iI 0,some 1),H))))))))))))) (bK [(0,cW O U Z V J),(0,an.row (Row.G [AV.int .i64 f,AV.int .i64 t,bG m z false])),(0,an.row (Row.I .i64 [f,t]))]))) [(2,AV.ptr 0 0 0 0),(3,AV.ptr 0 1 0 0),(5,shV O U Z V J W B),(7,AV.int .i64 (Int.negSucc 0)),(36,bG m z false),(37,iI m),(38,iI 0)])) (bK [(0,cW O U Z V J),(0,an.row (Row.G [AV.int .i64 f,AV.int .i64 t,bG m z false])),(0,an.row (Row.I .i64 [f,t])),(0,an.row (rM (lI (fun x=>ofNat 0) 0 r 20) 20))]):=by kernel_rfl
theorem SV (n:Nat) (O:Int) (U:Nat) (Z:Nat→Int) (V:Nat) (J:Nat→Int) (W B:Nat→Int) (H:ab) (f t:Int) (m:Nat) (z:Nat→Int) (l:Int):bu Tryd.prog (cd n) 100000 27 Tryd.f27 (KtG.kt 27) (il (tN (kZ (tN (tX aJ 49 [bk O U Z V J,.nils] (.tup [shV O U Z V J W B,.int .i64 (ofNat 0)])) 56) 59 gW) 67) n 0) (cw aS 1 (uB (shR O U Z V J W B) m z (Int.negSucc 0) (ofNat 0)) (o6 O U Z V J f t m z::H) (.ite true (.ok (.ret,[(4,.int .i64 (ofNat 3),none)],o6 O U Z V J f t m z::H)) (.ok (.normal,hints (uB (shR O U Z V J W B) m z l (ofNat m)++[(39,.bool false)]),o6 O U Z V J f t m z::H)))) aR [(bk O U Z V J,none),(oF f t m z,none)] H =
 (fun (Z0:aA)=>((fun (Z1:bJ)=>Tr.reqP ([bk O U Z V J,AV.nils]=[bk O U Z V J,AV.nils]) (Tr.ite (bU (cK (ofNat 0) (ofNat 0))) (Tr.ok ((iI 0,none),H)) (Tr.ite (bU (bL (bL (cU (Int.negSucc 1999) f) (cU f (ofNat 2000))) (bL (bL (cU (Int.negSucc 1999) t) (cU t (ofNat 2000))) true))) (Tr.ok ((iI 3,some 1),H)) (Tr.ite (cK (ofNat m) (ofNat 0)) (Tr.ok ((iI 3,some 1),H)) (Tr.reqP (Z0=Z0∧Z1::H=Z1::H) (Tr.ite true (Tr.ok ((iI 3,none),H)) Tr.bad)))))) (bK [(0,cW O U Z V J),(0,an.row (Row.G [AV.int .i64 f,AV.int .i64 t,bG m z false])),(0,an.row (Row.I .i64 [f,t]))]))) [(2,AV.ptr 0 0 0 0),(3,AV.ptr 0 1 0 0),(5,shV O U Z V J W B),(7,AV.int .i64 (Int.negSucc 0)),(36,bG m z false),(37,iI m),(38,iI 0)]:=by kernel_rfl
theorem Xq (n:Nat) (O:Int) (U:Nat) (Z:Nat→Int) (V:Nat) (J:Nat→Int) (H:ab) (f t:Int) (m:Nat) (z r:Nat→Int) (c:Int):bu Tryd.prog (cd n) 100000 68 Tryd.f68 (KtG.kt 68) (il aJ n 0) aS aR [(.int .i64 c,none),(.ptr 2 3 0 0,none),(.ptr 2 1 0 0,none)] (aV::aV::Bm O U Z V J f t m z r::H) =
 (fun (Z0:bJ)=>Tr.req (b8 c 10) (Tr.req (cu 0 0) (Tr.req (bR (aq 0 c 2) 20) (Tr.ite (bw (r (aq 0 c 2)) f) (Tr.ok ((AV.bool true,some 1),aV::aV::Z0::H)) (Tr.req (b8 c 10) (Tr.req (cu 0 0) (Tr.req (bR (ar (aq 0 c 2) 1) 20) (Tr.ok ((AV.bool (bw t (r (ar (aq 0 c 2) 1))),none),aV::aV::Z0::H))))))))) (bK [(0,cW O U Z V J),(0,an.row (Row.G [AV.int .i64 f,AV.int .i64 t,bG m z false])),(0,an.row (Row.I .i64 [f,t])),(0,an.row (rM r 20))]):=by kernel_rfl
theorem SL (n:Nat) (m:Nat) (z:Nat→Int) (H:ab) (j:Int) (q:Bool):aH (bO n 89 19) (il (Lo aJ 68 [.int .i64 (z (aq 0 j 1)),.ptr 2 3 0 0,.ptr 2 1 0 0] (aV::H) (.ok (.bool q,aV::H))) n 0) aS aR (part Tryd.f89 [1,0,1,0,0]) (hints (sm m z j)) (aV::H) =
 Tr.ite (bw j (ofNat m)) (Tr.req (b8 j m) (Tr.req (bR (aq 0 j 1) m) (Tr.reqP ([AV.int .i64 (z (aq 0 j 1)),AV.ptr 2 3 0 0,AV.ptr 2 1 0 0]=[AV.int .i64 (z (aq 0 j 1)),AV.ptr 2 3 0 0,AV.ptr 2 1 0 0]∧aV::H=aV::H) (Tr.ite q (Tr.ok (Ex.ret,[(4,AV.int .i64 j,none)],aV::H)) (Tr.ok (Ex.normal,[(0,bG m z false,none),(1,AV.fn (Fn.func 68) [] [AV.ptr 2 3 0 0,AV.ptr 2 1 0 0],none),(7,iI m,none),(8,AV.int .i64 (aQ .i64 j (ofNat 1)),none)],aV::H)))))) (Tr.ok (Ex.exit 0,[(0,bG m z false,none),(1,AV.fn (Fn.func 68) [] [AV.ptr 2 3 0 0,AV.ptr 2 1 0 0],none),(7,iI m,none),(8,AV.int .i64 j,none),(9,AV.bool false,some 1)],aV::H)):=by kernel_rfl
theorem Pr (n:Nat) (m:Nat) (z:Nat→Int) (H:ab) (j:Int):aH (bO n 89 19) (il aJ n 0) aS aR (part Tryd.f89 [1,0,1,0,0]) (hints (sm m z j)) (aV::H) =
 Tr.ite (bw j (ofNat m)) (Tr.req (b8 j m) (Tr.req (bR (aq 0 j 1) m) Tr.bad)) (Tr.ok (Ex.exit 0,[(0,bG m z false,none),(1,AV.fn (Fn.func 68) [] [AV.ptr 2 3 0 0,AV.ptr 2 1 0 0],none),(7,iI m,none),(8,AV.int .i64 j,none),(9,AV.bool false,some 1)],aV::H)):=by kernel_rfl
theorem S8 (n:Nat) (m:Nat) (z:Nat→Int) (H:ab) (q:Bool) (k:Int):bu Tryd.prog (cd n) 100000 89 Tryd.f89 (KtG.kt 89) (il aJ n 0) (cw aS 0 (sm m z (ofNat 0)) (aV::H) (.ite q (.ok (.ret,[(4,.int .i64 k,none)],aV::H)) (.ok (.normal,hints (sm m z (ofNat m)++[(9,.bool false)]),aV::H)))) aR [(bG m z false,none),(xT 1,none)] H =
 (fun (Z0:aA)=>Tr.reqP (Z0=Z0∧aV::H=aV::H) (Tr.ite q (Tr.ok ((AV.int .i64 k,none),H)) (Tr.ok ((AV.int .i64 (Int.negSucc 0),some 1),H)))) [(0,bG m z false),(1,AV.fn (Fn.func 68) [] [AV.ptr 2 3 0 0,AV.ptr 2 1 0 0]),(7,iI m),(8,iI 0)]:=by kernel_rfl
theorem S7 (n:Nat) (m:Nat) (z:Nat→Int) (H:ab) (k:Int):bu Tryd.prog (cd n) 100000 67 Tryd.f67 (KtG.kt 67) (il (Lo aJ 89 [bG m z false,xT 1] (aV::H) (.ok (.int .i64 k,aV::H))) n 0) aS aR [(bG m z false,none),(xT 0,none)] H =
 Tr.reqP ([bG m z false,AV.fn (Fn.func 68) [] [AV.ptr 1 3 0 0,AV.ptr 1 1 0 0]]=[bG m z false,AV.fn (Fn.func 68) [] [AV.ptr 1 3 0 0,AV.ptr 1 1 0 0]]∧aV::H=aV::H) (Tr.ok ((AV.bool (cU (ofNat 0) k),none),H)):=by kernel_rfl
theorem t28 (n:Nat) (O:Int) (U:Nat) (Z:Nat→Int) (V:Nat) (J:Nat→Int) (H:ab) (f t:Int) (m:Nat) (z:Nat→Int) (j:Int):aH (bO (n+1) 28 110) (il aJ n 1) aS aR (part Tryd.f28 [1,1,1,0,1,0,0]) (hints (uC j)) (jf O U Z V J f t m z::H) =
 (fun (Z0:bJ)=>((fun (Z1:aD)=>Tr.ite (bw j (ofNat m)) (Tr.req (b8 j m) (Tr.req (bR (aq 0 j 1) m) (Tr.ite (cU (ofNat 0) (z (aq 0 j 1))) (Tr.ite (bU (bw (z (aq 0 j 1)) (ofNat U))) (Tr.ok (Ex.ret,[(4,iI 3,some 1)],Z0::H)) (Tr.ite (bw (ofNat 0) j) (Tr.req (b8 j m) (Tr.req (bR (aq 0 j 1) m) (Tr.req (b8 (bH .i64 j (ofNat 1)) m) (Tr.req (bR (aq 0 (bH .i64 j (ofNat 1)) 1) m) (Tr.ite (cU (z (aq 0 j 1)) (z (aq 0 (bH .i64 j (ofNat 1)) 1))) (Tr.ok (Ex.ret,[(4,iI 3,some 1)],Z0::H)) (Tr.ok (Ex.normal,Z1,Z0::H))))))) (Tr.ok (Ex.normal,Z1,Z0::H)))) (Tr.ok (Ex.ret,[(4,iI 3,some 1)],Z0::H))))) (Tr.ok (Ex.exit 0,[(2,AV.ptr 0 0 0 0,none),(3,AV.ptr 0 1 0 0,none),(5,AV.int .i64 j,none),(42,AV.bool false,some 1)],Z0::H))) [(2,AV.ptr 0 0 0 0,none),(3,AV.ptr 0 1 0 0,none),(5,AV.int .i64 (aQ .i64 j (ofNat 1)),none)])) (bK [(0,cW O U Z V J),(0,an.row (Row.G [AV.int .i64 f,AV.int .i64 t,bG m z false]))]):=by kernel_rfl
theorem Pa (n:Nat) (O:Int) (U:Nat) (Z:Nat→Int) (V:Nat) (J:Nat→Int) (H:ab) (f t:Int) (m:Nat) (z:Nat→Int) (r:Nat→Int) (j:Int):aH (bO n 28 110) (il aJ n 0) aS aR (part Tryd.f28 [1,1,1,1,1,0,1,0,0]) (hints (qw U r j)) (jf O U Z V J f t m z::H) =
 (fun (Z0:bJ)=>Tr.ite (bw j (ofNat m)) (Tr.req (b8 j m) (Tr.req (bR (aq 0 j 1) m) (Tr.req (b8 (z (aq 0 j 1)) U) (Tr.req (bR (aq 0 (z (aq 0 j 1)) 2) (bD U 2)) (Tr.req (bR (ar (aq 0 (z (aq 0 j 1)) 2) 1) (bD U 2)) (Tr.ite (bw (r (aq 0 (z (aq 0 j 1)) 2)) f) (Tr.ok (Ex.ret,[(4,iI 14,some 1)],Z0::H)) (Tr.ite (bw t (r (ar (aq 0 (z (aq 0 j 1)) 2) 1))) (Tr.ok (Ex.ret,[(4,iI 14,some 1)],Z0::H)) (Tr.ok (Ex.normal,[(3,AV.ptr 0 1 0 0,none),(6,slA 2 U r,none),(7,AV.int .i64 (aQ .i64 j (ofNat 1)),none)],Z0::H))))))))) (Tr.ok (Ex.exit 2,[(3,AV.ptr 0 1 0 0,none),(6,slA 2 U r,none),(7,AV.int .i64 j,none),(77,AV.bool false,some 1)],(bK [(0,cW O U Z V J),(0,an.row (Row.G [AV.int .i64 f,AV.int .i64 t,bG m z false]))])::H))) (bK [(0,cW O U Z V J),(0,an.row (Row.G [AV.int .i64 f,AV.int .i64 t,bG m z false])),(0,an.row (Row.I .i64 [r (aq 0 (z (aq 0 j 1)) 2),r (ar (aq 0 (z (aq 0 j 1)) 2) 1)]))]):=by kernel_rfl
theorem Xd (n:Nat) (O:Int) (U:Nat) (Z:Nat→Int) (V:Nat) (J:Nat→Int) (H:ab) (f t:Int) (m:Nat) (z:Nat→Int) (r:Nat→Int) (q q2:Bool) (x y:Int):bu Tryd.prog (cd n) 100000 28 Tryd.f28 (KtG.kt 28) (il (tX (tX aJ 23 [bk O U Z V J] (.int .i64 (ofNat 0))) 57 [bk O U Z V J] (K8 U r)) n 0) (cw (cw aS 2 (qw U r (ofNat 0)) (jf O U Z V J f t m z::H) (.ite q2 (.ok (.ret,[(4,.int .i64 (ofNat 14),none)],F9 O U Z V J f t m z x y::H)) (.ok (.normal,hints (qw U r (ofNat m)++[(77,.bool false)]),jf O U Z V J f t m z::H)))) 0 (uC (ofNat 0)) (jf O U Z V J f t m z::H) (.ite q (.ok (.ret,[(4,.int .i64 (ofNat 3),none)],jf O U Z V J f t m z::H)) (.ok (.normal,hints (uC (ofNat m)++[(42,.bool false)]),jf O U Z V J f t m z::H)))) aR [(bk O U Z V J,none),(oF f t m z,none)] H =
 (fun (Z0:bJ)=>Tr.reqP ([bk O U Z V J]=[bk O U Z V J]) (Tr.ite (bU (cK (ofNat 0) (ofNat 0))) (Tr.reqP ([bk O U Z V J]=[bk O U Z V J]) (Tr.ok ((iI 0,none),H))) (Tr.ite (bw f (Int.negSucc 1999)) (Tr.ok ((iI 3,some 1),H)) (Tr.ite (bw (ofNat 2000) f) (Tr.ok ((iI 3,some 1),H)) (Tr.ite (bw t (Int.negSucc 1999)) (Tr.ok ((iI 3,some 1),H)) (Tr.ite (bw (ofNat 2000) t) (Tr.ok ((iI 3,some 1),H)) (Tr.ite (cK (ofNat m) (ofNat 0)) (Tr.ok ((iI 3,some 1),H)) (Tr.reqP ([(2,AV.ptr 0 0 0 0),(3,AV.ptr 0 1 0 0),(5,iI 0)]=[(2,AV.ptr 0 0 0 0),(3,AV.ptr 0 1 0 0),(5,iI 0)]∧Z0::H=Z0::H) (Tr.ite q (Tr.ok ((iI 3,none),H)) (Tr.reqP ([bk O U Z V J]=[bk O U Z V J]) (Tr.reqP ([(3,AV.ptr 0 1 0 0),(6,slA 2 U r),(7,iI 0)]=[(3,AV.ptr 0 1 0 0),(6,slA 2 U r),(7,iI 0)]∧Z0::H=Z0::H) (Tr.ite q2 (Tr.ok ((iI 14,none),H)) (Tr.ite (cU (ofNat m) (aQ .i64 (bH .i64 t f) (ofNat 1))) (Tr.ok ((iI 14,some 1),H)) (Tr.ok ((iI 0,some 1),H))))))))))))))) (bK [(0,cW O U Z V J),(0,an.row (Row.G [AV.int .i64 f,AV.int .i64 t,bG m z false]))]):=by kernel_rfl
theorem SX (n:Nat) (O:Int) (U:Nat) (Z:Nat→Int) (V:Nat) (J:Nat→Int) (H:ab) (f t:Int) (m:Nat) (z:Nat→Int):bu Tryd.prog (cd n) 100000 28 Tryd.f28 (KtG.kt 28) (il (tN (tX aJ 23 [bk O U Z V J] (.int .i64 (ofNat 0))) 57) n 0) (dC (cw aS 0 (uC (ofNat 0)) (jf O U Z V J f t m z::H) (.ite true (.ok (.ret,[(4,.int .i64 (ofNat 3),none)],jf O U Z V J f t m z::H)) (.ok (.normal,hints (uC (ofNat m)++[(42,.bool false)]),jf O U Z V J f t m z::H)))) 2) aR [(bk O U Z V J,none),(oF f t m z,none)] H =
 (fun (Z0:bJ)=>Tr.reqP ([bk O U Z V J]=[bk O U Z V J]) (Tr.ite (bU (cK (ofNat 0) (ofNat 0))) (Tr.reqP ([bk O U Z V J]=[bk O U Z V J]) (Tr.ok ((iI 0,none),H))) (Tr.ite (bw f (Int.negSucc 1999)) (Tr.ok ((iI 3,some 1),H)) (Tr.ite (bw (ofNat 2000) f) (Tr.ok ((iI 3,some 1),H)) (Tr.ite (bw t (Int.negSucc 1999)) (Tr.ok ((iI 3,some 1),H)) (Tr.ite (bw (ofNat 2000) t) (Tr.ok ((iI 3,some 1),H)) (Tr.ite (cK (ofNat m) (ofNat 0)) (Tr.ok ((iI 3,some 1),H)) (Tr.reqP ([(2,AV.ptr 0 0 0 0),(3,AV.ptr 0 1 0 0),(5,iI 0)]=[(2,AV.ptr 0 0 0 0),(3,AV.ptr 0 1 0 0),(5,iI 0)]∧Z0::H=Z0::H) (Tr.ite true (Tr.ok ((iI 3,none),H)) Tr.bad))))))))) (bK [(0,cW O U Z V J),(0,an.row (Row.G [AV.int .i64 f,AV.int .i64 t,bG m z false]))]):=by kernel_rfl
end Go.Eng
end
section
namespace Go.Eng
open Int (ofNat)
open Go.Proofs Go.Eng.Gall
theorem TY:∀ b,(1,b) ∈ aE (bx Tryd.f27)→b=.loop (part Tryd.f27 [1,1,1,1,0,1,0,0]):=dK (by kernel_rfl)
theorem TZ:∀ b,(0,b) ∈ aE (bx Tryd.f28)→b=.loop (part Tryd.f28 [1,1,1,0,1,0,0]):=dK (by kernel_rfl)
theorem P3:∀ b,(2,b) ∈ aE (bx Tryd.f28)→b=.loop (part Tryd.f28 [1,1,1,1,1,0,1,0,0]):=dK (by kernel_rfl)
noncomputable def P8 (q:Nat→Int) (U:Nat):Option (Int×Int)→AV
 | none=>.tup [.agg (.G [.int .i64 (ofNat 0),.int .i64 (ofNat 0),.nils]),.int .i64 5]
 | some (f,t)=>.tup [oF f t (cE q f t U).length (aI (cE q f t U)),.int .i64 0]
def Bg (z:Nat→Int) (j:Nat):Int:=if j=0 then -1 else z (j-1)
def ur (U:Nat) (z:Nat→Int) (j:Nat):Bool:=decide (z j≤Bg z j) || decide ((U:Int)≤z j)
def EI (U:Nat) (z:Nat→Int) (j:Nat):Bool:=!(decide (0≤z j) && decide (z j<U)) || (decide (0<j) && decide (z j≤z (j-1)))
def vZ (r:Nat→Int) (f t:Int) (z:Nat→Int) (j:Nat):Bool:=decide (r ((z j).toNat*2)<f) || decide (t<r ((z j).toNat*2+1))
theorem AH {U:Nat} {z:Nat→Int} {m:Nat} (h:∀ j,j<m→ur U z j=false):∀ j,j<m→0≤z j∧z j<U∧∀ i,i<j→z i<z j:=by
 intro j;induction j with
 | zero =>
   intro hj;have:=h 0 hj;unfold ur Bg at this;rw[if_pos rfl,Bool.or_eq_false_iff,decide_eq_false_iff_not,decide_eq_false_iff_not] at this;exact ⟨by omega,by omega,fun i hi=>by omega⟩
 | succ j ih =>
   intro hj;have:=h (j+1) hj;unfold ur Bg at this;rw[if_neg wO,Bool.or_eq_false_iff,decide_eq_false_iff_not,decide_eq_false_iff_not,Nat.add_sub_cancel] at this;obtain ⟨i1,i2,i3⟩:=ih wO;refine ⟨by omega,by omega,fun i hi=>?_⟩;by_cases e:i=j
   · subst e;omega
   · have:=i3 i wO;omega
theorem JB (U:Nat) (z:Nat→Int) (m:Nat):dz (EI U z) m=dz (ur U z) m:=by
 have key:dz (ur U z) m=false↔dz (EI U z) m=false:=by
  rw[FG,FG];constructor
  · intro h j hj;obtain ⟨i1,i2,i3⟩:=AH h j hj;unfold EI;rw[decide_eq_true i1,decide_eq_true i2];by_cases e:0<j
    · have:=i3 (j-1) wO;rw[decide_eq_true e,decide_eq_false wO];rfl
    · rw[decide_eq_false e];rfl
  · intro h j hj;have:=h j hj;unfold EI at this;rw[Bool.or_eq_false_iff,Bool.not_eq_false',Bool.and_eq_true,decide_eq_true_iff,decide_eq_true_iff,Bool.and_eq_false_iff,decide_eq_false_iff_not,decide_eq_false_iff_not] at this;unfold ur Bg;rw[decide_eq_false (show ¬ (U:Int)≤z j by omega),Bool.or_false,decide_eq_false_iff_not];split<;>omega
 cases h:dz (ur U z) m with
 | false=>exact key.1 h
 | true =>
   cases h2:dz (EI U z) m with
   | true=>rfl
   | false=>rw[key.2 h2] at h;cases h
def uf (U:Nat) (r:Nat→Int) (f t:Int) (m:Nat) (z:Nat→Int):Int :=
 if (f < -2000∨2000<f∨t < -2000∨2000<t)∨m=0 then 3 else if dz (ur U z) m=true then 3 else if dz (vZ r f t z) m=true∨(m:Int)≤t-f+1 then 14 else 0
section
variable (n:Nat) (O:Int) (U:Nat) (Z:Nat→Int) (V:Nat) (J:Nat→Int) (H:ab)
theorem UE (hb:V≤1000) (h0:c7 O U Z V J=0):cd (n+15) (.fn 25) [bk O U Z V J] H=some (P8 (qB (dN U (fun c=>cZ J c V) (cj O U Z))) U (Ho O U Z V J),H):=by
 obtain ⟨h1,h2,h3,h4,h5,h6⟩:=pH h0;have hS:=Jf O U Z V J h1.2 h3 h4 h5 h6;have h49:=fun H=>Lj n O U Z V J H hb h0;have h65:∀ H,cd (n+14) (.fn 65) [shV O U Z V J (cj O U Z) (mZ V J)] H=_:=fun H=>UO (n+11) O U Z V J (cj O U Z) H (fun c=>cZ J c V) hS;unfold Ho;generalize qB (dN U (fun c=>cZ J c V) (cj O U Z))=q at *;generalize lh q U U=c at *;cases c with
 | none =>
   refine bB (n:=n+14) Tryd.func25 rfl rfl rfl (SP (n+14) O U Z V J (cj O U Z) (mZ V J) H) (bC _ _ (b7 (b7 (bh _) h49) h65)) (aj _ _) (ai _ _) ?_;exact Tr.ak rfl (Tr.ae (fun q=>by simp[aO,bf] at q) (fun _=>Tr.ak rfl (Tr.ae (fun _=>Tr.ag ⟨rfl,rfl⟩) (fun q=>by simp[aO] at q))))
 | some v =>
   obtain ⟨f,t⟩:=v;refine bB (n:=n+14) Tryd.func25 rfl rfl rfl (Xa (n+14) O U Z V J (cj O U Z) (mZ V J) H f t (cE q f t U).length (aI (cE q f t U))) (bC _ _ (b7 (b7 (bh _) h49) h65)) (aj _ _) (ai _ _) ?_;exact Tr.ak rfl (Tr.ae (fun q=>by simp[aO,bf] at q) (fun _=>Tr.ak rfl (Tr.ae (fun q=>by simp[aO] at q) (fun _=>Tr.ag ⟨rfl,rfl⟩))))
variable (f t:Int) (m:Nat) (z:Nat→Int)
theorem Qk (hm:m≤1000) (p:Nat→Bool) (h68:∀ j,j<m→cd n (.fn 68) [.int .i64 (z j),.ptr 2 3 0 0,.ptr 2 1 0 0] (aV::aV::H)=some (.bool (p j),aV::aV::H)):cd (n+2) (.fn 67) [bG m z false,xT 0] H=some (.bool (dz p m),H):=by
 have lp:=iH (n:=n) (f:=89) (nt:=19) (c:=part Tryd.f89 [1,0,1,0,0]) 0 (fun j=>sm m z (j:Int)) (fun _=>aV::aV::H) m p (fun j=>([(4,.int .i64 (j:Int))],aV::aV::H)) (sm m z (ofNat m)++[(9,.bool false)],aV::aV::H) wO (fun j hj=>?_) ?_
 · have h89:cd (n+1) (.fn 89) [bG m z false,xT 1] (aV::H)=some (.int .i64 (yr p m),aV::H):=by
    refine bB (n:=n) Tryd.func89 rfl rfl rfl (S8 n m z (aV::H) (dz p m) (fN p m 0:Nat)) (aw n) (aM (aj _ _) Uy (fun x hx=>dy hx lp)) (ai _ _) ?_;unfold yr;refine Tr.ak ⟨rfl,rfl⟩ (Tr.ae (fun q=>Tr.ag ⟨?_,rfl⟩) (fun q=>Tr.ag ⟨?_,rfl⟩))
    · rw[if_pos q]
    · rw[if_neg (by rw[q];decide)];rfl
   refine bB (n:=n+1) Tryd.func67 rfl rfl rfl (S7 (n+1) m z H (yr p m)) (bC _ _ (sd (bh _) (fun x hy=>by rw[← Tr.af hy];exact h89))) (aj _ _) (ai _ _) ?_;refine Tr.ak ⟨rfl,rfl⟩ (Tr.ag ⟨?_,rfl⟩);rw[wE]
 · have T:=SL n m z (aV::H) (j:Int) (p j);rw[vu,eg wO] at T;refine av T (bC _ _ (sd (bh _) (fun x hy=>by rw[← Tr.af hy];exact h68 j hj))) (aj _ _) (ai _ _) ?_;refine Tr.ae (fun _=>Tr.aa wG (Tr.aa wG (Tr.ak ⟨rfl,rfl⟩ (Tr.ae (fun q=>Tr.ag ?_) (fun q=>Tr.ag ?_))))) wJ
   · rw[if_pos q];rfl
   · rw[if_neg (by rw[q];decide)];exact ⟨rfl,rfl⟩
 · obtain ⟨x,h1,rfl⟩:=av (Q:=fun x=>x=(.exit 0,sm m z (ofNat m)++[(9,.bool false)],aV::aV::H)) (Pr n m z (aV::H) (ofNat m)) (aw n) (aj _ _) (ai _ _) (by
    refine Tr.ae wJ (fun h0=>Tr.ag rfl))
   exact h1
theorem Uf (R:Row) (hm:m≤1000):exec (bO n 27 73) (.block 1 (.loop (part Tryd.f27 [1,1,1,1,0,1,0,0]))) (uB R m z (Int.negSucc 0) (ofNat 0)) (o6 O U Z V J f t m z::H)=some (cond (dz (ur U z) m) (.ret,[(4,.int .i64 (ofNat 3))],o6 O U Z V J f t m z::H) (.normal,uB R m z (Bg z m) (ofNat m)++[(39,.bool false)],o6 O U Z V J f t m z::H)):=by
 refine iH (n:=n) (f:=27) (nt:=73) (c:=part Tryd.f27 [1,1,1,1,0,1,0,0]) 1 (fun j=>uB R m z (Bg z j) (j:Int)) (fun _=>o6 O U Z V J f t m z::H) m (ur U z) (fun _=>([(4,.int .i64 (ofNat 3))],o6 O U Z V J f t m z::H)) (uB R m z (Bg z m) (ofNat m)++[(39,.bool false)],o6 O U Z V J f t m z::H) wO (fun j hj=>?_) ?_
 · have T:=t27 n O U Z V J R H f t m z (Bg z j) (j:Int);rw[vu,eg wO] at T;refine av T (aw n) (aj _ _) (ai _ _) ?_;refine Tr.ae (fun _=>Tr.aa wG (Tr.aa wG (Tr.ae (fun q=>Tr.ag ?_) (fun q=>Tr.ae (fun q2=>Tr.ag ?_) (fun q2=>Tr.ag ?_))))) wJ;all_goals rw[a7] at q
   · rw[if_pos (by unfold ur;rw[q];rfl)];rfl
   all_goals rw[a7] at q2
   · have q2:decide ((U:Int)≤z j)=true:=q2;rw[if_pos (by unfold ur;rw[q2,Bool.or_true])];rfl
   · have q2:decide ((U:Int)≤z j)=false:=q2;rw[if_neg (by unfold ur;rw[q,q2];decide)];have:Bg z (j+1)=z j:=by unfold Bg;rw[if_neg wO,Nat.add_sub_cancel]
     rw[this];exact ⟨rfl,rfl⟩
 · obtain ⟨x,h1,rfl⟩:=av (Q:=fun x=>x=(.exit 1,uB R m z (Bg z m) (ofNat m)++[(39,.bool false)],o6 O U Z V J f t m z::H)) (t27 n O U Z V J R H f t m z (Bg z m) (ofNat m)) (aw n) (aj _ _) (ai _ _) (by
    refine Tr.ae wJ (fun h0=>Tr.ag rfl))
   exact h1
end
end Go.Eng
end
section
namespace Go.Eng
open Go.Proofs Go.Eng.Gall
section
variable (n:Nat) (O:Int) (U:Nat) (Z:Nat→Int) (V:Nat) (J:Nat→Int) (H:ab) (f t:Int) (m:Nat) (z:Nat→Int)
theorem UQ (r:Nat→Int) (j:Nat) (hl:U≤10) (hz:0≤z j∧z j<U):cd (n+1) (.fn 68) [.int .i64 (z j),.ptr 2 3 0 0,.ptr 2 1 0 0] (aV::aV::Bm O U Z V J f t m z (qB r)::H)=some (.bool (vZ r f t z j),aV::aV::Bm O U Z V J f t m z (qB r)::H):=by
 have T:=Xq n O U Z V J H f t m z (qB r) (z j);have e1:aq 0 (z j) 2=(z j).toNat*2:=by rw[bP,Nat.zero_add]
 rw[e1,aC,tv r (show (z j).toNat*2<20 by omega),tv r (show (z j).toNat*2+1<20 by omega)] at T;refine bB (n:=n) Tryd.func68 rfl rfl rfl T (aw n) (aj _ _) (ai _ _) ?_;unfold vZ;refine Tr.aa wG (Tr.aa wG (Tr.aa wG (Tr.ae (fun q=>Tr.ag ⟨?_,rfl⟩) (fun q=>Tr.aa wG (Tr.aa wG (Tr.aa wG (Tr.ag ⟨?_,rfl⟩)))))));all_goals rw[bn] at q
 · rw[q];rfl
 · rw[q,bn];rfl
theorem Oa:bL (bL (cU (Int.negSucc 1999) f) (cU f (Int.ofNat 2000))) (bL (bL (cU (Int.negSucc 1999) t) (cU t (Int.ofNat 2000))) true)=!decide (f < -2000∨2000<f∨t < -2000∨2000<t):=by
 rw[bW,bW,bW,bW,a7,a7,a7,a7,Bool.and_true,Bool.eq_iff_iff];simp only[Bool.and_eq_true,decide_eq_true_iff,Bool.not_eq_true',decide_eq_false_iff_not];show ((-2000≤f∧f≤2000)∧-2000≤t∧t≤2000)↔_;omega
theorem Qa (hb:V≤1000) (h0:c7 O U Z V J=0) (hm:m≤1000) (hbad:dz (ur U z) m=true):cd (n+15) (.fn 27) [bk O U Z V J,oF f t m z] H=some (.int .i64 3,H):=by
 have h49:=fun H=>Lj n O U Z V J H hb h0;have lp:=Uf (n+14) O U Z V J H f t m z (shR O U Z V J (cj O U Z) (mZ V J)) hm;have hgw:=fun (tt:nv) (ht:tt.Ok (cd (n+14)))=>sq (n:=n+8) ht;rw[hbad] at lp;have T:=SV (n+14) O U Z V J (cj O U Z) (mZ V J) H f t m z (Bg z m);rw[Oa] at T;refine bB (n:=n+14) Tryd.func27 rfl rfl rfl T (bC _ _ (ga (hgw _ (ga (b7 (bh _) h49))))) (aM (aj _ _) TY (fun x hx=>dy hx lp)) (ai _ _) ?_;clear T lp h49 hgw;refine Tr.ak rfl (Tr.ae (fun q=>by simp[aO,bf] at q) (fun _=>Tr.ae (fun q=>Tr.ag ⟨rfl,rfl⟩) (fun q=>Tr.ae (fun q2=>Tr.ag ⟨rfl,rfl⟩) (fun q2=>Tr.ak ⟨rfl,rfl⟩ (Tr.ae (fun _=>Tr.ag ⟨rfl,rfl⟩) (fun q=>by cases q))))))
theorem Qb (hb:V≤1000) (h0:c7 O U Z V J=0) (hm:m≤1000) (hbad:dz (ur U z) m=false):cd (n+15) (.fn 27) [bk O U Z V J,oF f t m z] H=some (.int .i64 (uf U (dN U (fun c=>cZ J c V) (cj O U Z)) f t m z),H):=by
 obtain ⟨h1,h2,h3,h4,h5,h6⟩:=pH h0;have hS:=Jf O U Z V J h1.2 h3 h4 h5 h6;have h49:=fun H=>Lj n O U Z V J H hb h0;have h56:∀ H,cd (n+14) (.fn 56) [shV O U Z V J (cj O U Z) (mZ V J)] H=some (.agg (.M [.arr .i64 (dN U (fun c=>cZ J c V) (cj O U Z)) 20]),H):=fun H=>T5 (n+12) O U Z V J (cj O U Z) (fun c=>cZ J c V) H hS;have lp:=Uf (n+14) O U Z V J H f t m z (shR O U Z V J (cj O U Z) (mZ V J)) hm;have hgw:=fun (tt:nv) (ht:tt.Ok (cd (n+14)))=>sq (n:=n+8) ht;unfold uf;rw[hbad] at lp ⊢;have hinc:=AH (mD hbad);generalize dN U (fun c=>cZ J c V) (cj O U Z)=r at *;have h67:cd (n+14) (.fn 67) [bG m z false,xT 0] (Bm O U Z V J f t m z (qB r)::H)=_:=Qk (n+12) (Bm O U Z V J f t m z (qB r)::H) m z hm (vZ r f t z) (fun j hj=>UQ (n+11) O U Z V J H f t m z _ j h1.2 ⟨(hinc j hj).1,(hinc j hj).2.1⟩);have T:=Xc (n+14) O U Z V J (cj O U Z) (mZ V J) H f t m z r false (dz (vZ r f t z) m) (Bg z m);rw[Oa] at T;refine bB (n:=n+14) Tryd.func27 rfl rfl rfl T (bC _ _ (sd (hgw _ (b7 (b7 (bh _) h49) h56)) (fun x hy=>by rw[← Tr.af hy];exact h67))) (aM (aj _ _) TY (fun x hx=>dy hx lp)) (ai _ _) ?_;clear T lp h67 h49 h56 hgw hinc hS;generalize dz (vZ r f t z) m=e14;refine Tr.ak rfl (Tr.ae (fun q=>by simp[aO,bf] at q) (fun _=>Tr.ae (fun q=>Tr.ag ⟨?_,rfl⟩) (fun q=>Tr.ae (fun q2=>Tr.ag ⟨?_,rfl⟩) (fun q2=>Tr.ak ⟨rfl,rfl⟩ (Tr.ae (fun q=>by cases q) (fun _=>?_))))));all_goals rw[aO,Bool.not_not] at q
 · rw[if_pos (.inl (of_decide_eq_true q))];rfl
 · rw[bf] at q2;have:(m:Int)=0:=by simpa using q2
   rw[if_pos (.inr wO)];rfl
 · rw [bf] at q2;have hm0:¬ (m:Int)=0:=by simpa using q2
   have q:=of_decide_eq_false q;rw[if_neg wO,if_neg (by decide)];refine Tr.ak rfl (Tr.aa wG (Tr.ak ⟨rfl,rfl⟩ ?_));refine Tr.ae (fun q3=>Tr.ag ⟨?_,rfl⟩) (fun q3=>?_)
   · rw[if_pos (.inl q3)];rfl
   · have e:aQ .i64 (bH .i64 t f) (Int.ofNat 1)=t-f+1:=by
      rw[od wO wO,xF]<;>simp only[Int.ofNat_eq_natCast]<;>omega
     rw[e];refine Tr.ae (fun q4=>Tr.ag ⟨?_,rfl⟩) (fun q4=>Tr.ag ⟨?_,rfl⟩);all_goals rw[a7] at q4
     · have q4:=of_decide_eq_true q4;rw[if_pos (.inr q4)];rfl
     · have q4:=of_decide_eq_false q4;rw[if_neg (fun h=>h.elim (fun h=>by rw[h] at q3;cases q3) q4)];rfl
theorem UG (hb:V≤1000) (h0:c7 O U Z V J=0) (hm:m≤1000):cd (n+15) (.fn 27) [bk O U Z V J,oF f t m z] H=some (.int .i64 (uf U (dN U (fun c=>cZ J c V) (cj O U Z)) f t m z),H):=by
 cases hbad:dz (ur U z) m with
 | false=>exact Qb n O U Z V J H f t m z hb h0 hm hbad
 | true =>
   rw[Qa n O U Z V J H f t m z hb h0 hm hbad];unfold uf;rw[hbad];split<;>rfl
end
end Go.Eng
end
section
namespace Go.Eng
open Int (ofNat)
open Go.Proofs Go.Eng.Gall
section
variable (n:Nat) (O:Int) (U:Nat) (Z:Nat→Int) (V:Nat) (J:Nat→Int) (H:ab) (f t:Int) (m:Nat) (z:Nat→Int)
theorem On (hm:m≤1000):exec (bO (n+1) 28 110) (.block 0 (.loop (part Tryd.f28 [1,1,1,0,1,0,0]))) (uC (ofNat 0)) (jf O U Z V J f t m z::H)=some (cond (dz (EI U z) m) (.ret,[(4,.int .i64 (ofNat 3))],jf O U Z V J f t m z::H) (.normal,uC (ofNat m)++[(42,.bool false)],jf O U Z V J f t m z::H)):=by
 refine iH (n:=n+1) (f:=28) (nt:=110) (c:=part Tryd.f28 [1,1,1,0,1,0,0]) 0 (fun j=>uC (j:Int)) (fun _=>jf O U Z V J f t m z::H) m (EI U z) (fun _=>([(4,.int .i64 (ofNat 3))],jf O U Z V J f t m z::H)) (uC (ofNat m)++[(42,.bool false)],jf O U Z V J f t m z::H) wO (fun j hj=>?_) ?_
 · have T:=t28 n O U Z V J H f t m z (j:Int);rw[vu,eg wO] at T;refine av T (gI n 1) (aj _ _) (ai _ _) ?_;clear T;refine Tr.ae (fun _=>Tr.aa wG (Tr.aa wG (Tr.ae (fun q=>?_) (fun q=>Tr.ag ?_)))) wJ;all_goals rw[a7] at q
   · have q:=of_decide_eq_true q;have q:0≤z j:=q;refine Tr.ae (fun q2=>Tr.ag ?_) (fun q2=>Tr.ae (fun q3=>?_) (fun q3=>Tr.ag ?_));all_goals rw[aO,bn] at q2
     · have q2:(!decide (z j<U))=true:=q2;rw[if_pos (by unfold EI;rw[decide_eq_true q,Bool.true_and,q2];rfl)];rfl
     all_goals have q2:(!decide (z j<U))=false:=q2
     · simp (disch:=omega) only[nV,nW] at q3;have e:bH .i64 (j:Int) (ofNat 1)=((j-1:Nat):Int):=by rw[od]<;>simp only[Int.ofNat_eq_natCast]<;>omega
       rw[e,vu];refine Tr.aa wG (Tr.aa wG (Tr.aa wG (Tr.aa wG (Tr.ae (fun q4=>Tr.ag ?_) (fun q4=>Tr.ag ?_)))));all_goals rw[a7] at q4
       · rw[if_pos (by unfold EI;rw[decide_eq_true q,Bool.true_and,q2,q4,decide_eq_true (show 0<j by omega)];rfl)];rfl
       · rw[if_neg (by unfold EI;rw[decide_eq_true q,Bool.true_and,q2,q4,Bool.and_false];simp)];exact ⟨rfl,rfl⟩
     · simp (disch:=omega) only[nV,nW] at q3;rw[if_neg (by unfold EI;rw[decide_eq_true q,Bool.true_and,q2,decide_eq_false (show ¬ 0<j by omega)];simp)];exact ⟨rfl,rfl⟩
   · have q:=of_decide_eq_false q;have q:¬ 0≤z j:=q;rw[if_pos (by unfold EI;rw[decide_eq_false q];rfl)];rfl
 · obtain ⟨x,h1,rfl⟩:=av (Q:=fun x=>x=(.exit 0,uC (ofNat m)++[(42,.bool false)],jf O U Z V J f t m z::H)) (t28 n O U Z V J H f t m z (ofNat m)) (gI n 1) (aj _ _) (ai _ _) (by
    refine Tr.ae wJ (fun h0=>Tr.ag rfl))
   exact h1
theorem Rj (r:Nat→Int) (hm:m≤1000) (hl:U≤10) (hz:∀ j,j<m→0≤z j∧z j<U):exec (bO n 28 110) (.block 2 (.loop (part Tryd.f28 [1,1,1,1,1,0,1,0,0]))) (qw U r (ofNat 0)) (jf O U Z V J f t m z::H)=some (cond (dz (vZ r f t z) m) (.ret,[(4,.int .i64 (ofNat 14))],F9 O U Z V J f t m z (r ((z (fN (vZ r f t z) m 0)).toNat*2)) (r ((z (fN (vZ r f t z) m 0)).toNat*2+1))::H) (.normal,qw U r (ofNat m)++[(77,.bool false)],jf O U Z V J f t m z::H)):=by
 refine iH (n:=n) (f:=28) (nt:=110) (c:=part Tryd.f28 [1,1,1,1,1,0,1,0,0]) 2 (fun j=>qw U r (j:Int)) (fun _=>jf O U Z V J f t m z::H) m (vZ r f t z) (fun j=>([(4,.int .i64 (ofNat 14))],F9 O U Z V J f t m z (r ((z j).toNat*2)) (r ((z j).toNat*2+1))::H)) (qw U r (ofNat m)++[(77,.bool false)],jf O U Z V J f t m z::H) wO (fun j hj=>?_) ?_
 · have T:=Pa n O U Z V J H f t m z r (j:Int);have e1:aq 0 (z j) 2=(z j).toNat*2:=by rw[bP,Nat.zero_add]
   have:=hz j hj;rw[vu,e1,aC,eg wO] at T;refine av T (aw n) (aj _ _) (ai _ _) ?_;clear T;refine Tr.ae (fun _=>Tr.aa wG (Tr.aa wG (Tr.aa wG (Tr.aa wG (Tr.aa wG (Tr.ae (fun q=>Tr.ag ?_) (fun q=>Tr.ae (fun q2=>Tr.ag ?_) (fun q2=>Tr.ag ?_)))))))) wJ;all_goals rw[bn] at q
   · rw[if_pos (by unfold vZ;rw[q];rfl)];rfl
   all_goals rw[bn] at q2
   · rw[if_pos (by unfold vZ;rw[q2,Bool.or_true])];rfl
   · rw[if_neg (by unfold vZ;rw[q,q2];decide)];exact ⟨rfl,rfl⟩
 · obtain ⟨x,h1,rfl⟩:=av (Q:=fun x=>x=(.exit 2,qw U r (ofNat m)++[(77,.bool false)],jf O U Z V J f t m z::H)) (Pa n O U Z V J H f t m z r (ofNat m)) (aw n) (aj _ _) (ai _ _) (by
    refine Tr.ae wJ (fun h0=>Tr.ag rfl))
   exact h1
theorem sv (hb:V≤1000) (h0:c7 O U Z V J=0) (H:ab):cd (n+4) (.fn 23) [bk O U Z V J] H=some (.int .i64 (ofNat 0),H):=by
 obtain ⟨h1,h2,h3,h4,h5,h6⟩:=pH h0;have:=NA (n+1) O U Z V J H wO hb;rw[h0] at this;exact this
theorem Qe (hb:V≤1000) (h0:c7 O U Z V J=0) (hm:m≤1000) (hbad:dz (ur U z) m=true):cd (n+5) (.fn 28) [bk O U Z V J,oF f t m z] H=some (.int .i64 3,H):=by
 have h23:=sv n O U Z V J hb h0;have la:=On (n+3) O U Z V J H f t m z hm;rw[JB,hbad] at la;refine bB (n:=n+4) Tryd.func28 rfl rfl rfl (SX (n+4) O U Z V J H f t m z) (bC _ _ (ga (b7 (bh _) h23))) (bN (aM (aj _ _) TZ (fun x hx=>dy hx la)) 2) (ai _ _) ?_;clear la h23;exact Tr.ak rfl (Tr.ae (fun q=>by simp[aO,bf] at q) (fun _=>Tr.ae (fun q=>Tr.ag ⟨rfl,rfl⟩) (fun q=>Tr.ae (fun q=>Tr.ag ⟨rfl,rfl⟩) (fun q=>Tr.ae (fun q=>Tr.ag ⟨rfl,rfl⟩) (fun q=>Tr.ae (fun q=>Tr.ag ⟨rfl,rfl⟩) (fun q=>Tr.ae (fun q=>Tr.ag ⟨rfl,rfl⟩) (fun q=>Tr.ak ⟨rfl,rfl⟩ (Tr.ae (fun q=>Tr.ag ⟨rfl,rfl⟩) (fun q=>by cases q)))))))))
theorem Qf (hb:V≤1000) (h0:c7 O U Z V J=0) (hm:m≤1000) (hbad:dz (ur U z) m=false):cd (n+5) (.fn 28) [bk O U Z V J,oF f t m z] H=some (.int .i64 (uf U (dN U (fun c=>cZ J c V) (cj O U Z)) f t m z),H):=by
 obtain ⟨h1,h2,h3,h4,h5,h6⟩:=pH h0;have h23:=sv n O U Z V J hb h0;have h57:∀ H,cd (n+4) (.fn 57) [bk O U Z V J] H=some (K8 U (dN U (fun c=>cZ J c V) (cj O U Z)),H):=fun H=>T6 O U Z V J (n+1) H h1.1 h1.2 hb h3 h4 h5 h6;have la:=On (n+3) O U Z V J H f t m z hm;rw[JB] at la;unfold uf;generalize dN U (fun c=>cZ J c V) (cj O U Z)=r at *;rw[hbad] at la ⊢;have hinc:=AH (mD hbad);have lb2:=Rj (n+4) O U Z V J H f t m z r hm h1.2 (fun j hj=>⟨(hinc j hj).1,(hinc j hj).2.1⟩);refine bB (n:=n+4) Tryd.func28 rfl rfl rfl (Xd (n+4) O U Z V J H f t m z r false (dz (vZ r f t z) m) (r ((z (fN (vZ r f t z) m 0)).toNat*2)) (r ((z (fN (vZ r f t z) m 0)).toNat*2+1))) (bC _ _ (b7 (b7 (bh _) h23) h57)) (aM (aM (aj _ _) P3 (fun x hx=>dy hx lb2)) TZ (fun x hx=>dy hx la)) (ai _ _) ?_;clear la lb2 h23 h57 hinc;generalize dz (vZ r f t z) m=e14;refine Tr.ak rfl (Tr.ae (fun q=>by simp[aO,bf] at q) (fun _=>Tr.ae (fun q1=>Tr.ag ⟨?_,rfl⟩) (fun q1=>Tr.ae (fun q2=>Tr.ag ⟨?_,rfl⟩) (fun q2=>Tr.ae (fun q3=>Tr.ag ⟨?_,rfl⟩) (fun q3=>Tr.ae (fun q4=>Tr.ag ⟨?_,rfl⟩) (fun q4=>Tr.ae (fun q5=>Tr.ag ⟨?_,rfl⟩) (fun q5=>Tr.ak ⟨rfl,rfl⟩ (Tr.ae (fun q=>by cases q) (fun _=>Tr.ak rfl (Tr.ak ⟨rfl,rfl⟩ ?_))))))))));all_goals rw[bn] at q1
 · have q1:f < -2000:=of_decide_eq_true q1;rw[if_pos (.inl (.inl q1))];rfl
 all_goals have q1:¬ f < -2000:=of_decide_eq_false q1
 all_goals rw[bn] at q2
 · have q2:2000<f:=of_decide_eq_true q2;rw[if_pos (.inl (.inr (.inl q2)))];rfl
 all_goals have q2:¬ 2000<f:=of_decide_eq_false q2
 all_goals rw[bn] at q3
 · have q3:t < -2000:=of_decide_eq_true q3;rw[if_pos (.inl (.inr (.inr (.inl q3))))];rfl
 all_goals have q3:¬ t < -2000:=of_decide_eq_false q3
 all_goals rw[bn] at q4
 · have q4:2000<t:=of_decide_eq_true q4;rw[if_pos (.inl (.inr (.inr (.inr q4))))];rfl
 all_goals have q4:¬ 2000<t:=of_decide_eq_false q4
 all_goals rw[bf] at q5
 · have q5:(m:Int)=0:=by simpa using q5
   rw[if_pos (.inr wO)];rfl
 have q5:¬ (m:Int)=0:=by simpa using q5
 rw[if_neg wO,if_neg (by decide)];refine Tr.ae (fun q6=>Tr.ag ⟨?_,rfl⟩) (fun q6=>?_)
 · rw[if_pos (.inl q6)];rfl
 · have e:aQ .i64 (bH .i64 t f) (ofNat 1)=t-f+1:=by
    rw[od wO wO,xF]<;>simp only[Int.ofNat_eq_natCast]<;>omega
   rw[e];refine Tr.ae (fun q7=>Tr.ag ⟨?_,rfl⟩) (fun q7=>Tr.ag ⟨?_,rfl⟩);all_goals rw[a7] at q7
   · have q7:=of_decide_eq_true q7;rw[if_pos (.inr q7)];rfl
   · have q7:=of_decide_eq_false q7;rw[if_neg (fun h=>h.elim (fun h=>by rw[h] at q6;cases q6) q7)];rfl
theorem T4 (hb:V≤1000) (h0:c7 O U Z V J=0) (hm:m≤1000):cd (n+5) (.fn 28) [bk O U Z V J,oF f t m z] H=some (.int .i64 (uf U (dN U (fun c=>cZ J c V) (cj O U Z)) f t m z),H):=by
 cases hbad:dz (ur U z) m with
 | false=>exact Qf n O U Z V J H f t m z hb h0 hm hbad
 | true =>
   rw[Qe n O U Z V J H f t m z hb h0 hm hbad];unfold uf;rw[hbad];split<;>rfl
end
end Go.Eng
end
section
namespace Go.Eng
open Go.Proofs Go.Eng.Gall Go.Eng.Q
section
variable {O:Int} {U:Nat} {Z:Nat→Int} {V:Nat} {J:Nat→Int}
theorem CC (q:Nat→Int) (F T:Int):∀ j,(cE q F T j).Pairwise (· < ·)
 | 0=>List.Pairwise.nil
 | j + 1=>by
   have ih:=CC q F T j;unfold cE;split
   · rw[List.pairwise_append];refine ⟨ih,List.pairwise_singleton _ _,fun a ha b hb=>?_⟩;rw[List.mem_singleton] at hb;obtain ⟨k,h1,_,h3⟩:=(mI q F T a j).1 ha;omega
   · exact ih
end
end Go.Eng
end
section
namespace Go.Eng
open Go.Proofs Go.Eng.Gall Go.Eng.Q
section
variable {O:Int} {U:Nat} {Z zx:Nat→Int}
end
end Go.Eng
end
section
namespace Go.Eng
open Go.Proofs Go.Eng.Gall Go.Eng.Q
section
variable {n:Nat} {g:Nat→Nat} {W:Nat→Int} {c k:Nat}
end
end Go.Eng
end
section
namespace Go.Eng
open Go.Proofs Go.Eng.Gall
end Go.Eng
end
section
namespace Go.Eng
open Go.Proofs Go.Eng.Gall
section
variable (n:Nat) (O:Int) (U:Nat) (Z:Nat→Int) (V:Nat) (J:Nat→Int) (H:ab)
end
end Go.Eng
end
