/- Gall: planned, with two colours: the contract. -/
import Derived.Test.YtgphpjdchnfjlaaDoorV6Gbex6
import Derived.Test.YtgphpjdchnfjlaaDoorV6Gahx19
set_option linter.unusedVariables false
set_option linter.unusedSimpArgs false
set_option maxRecDepth 100000
section
namespace Go.Eng
open Int (ofNat)
open Go.Proofs Go.Eng.Gall
noncomputable def EN (O:Int) (U:Nat) (Z:Nat→Int) (V:Nat) (J:Nat→Int):Option (Int×Int):=jg (qB (gK U (fun c=>cZ J c V) (c9 O U Z))) U U
noncomputable def Jb (O:Int) (U:Nat) (Z:Nat→Int) (V:Nat) (J:Nat→Int):AV:=if EN O U Z V J=none then .tup [HD O U Z V J,.int .i64 (ofNat 0)] else .tup [.nilp,.int .i64 (ofNat 13)]
section
variable (n:Nat) (O:Int) (U:Nat) (Z:Nat→Int) (V:Nat) (J:Nat→Int) (H:ab) (r r2:Row) (a b:Int)
theorem Qm (hl:U≤1000) (ha:0≤a∧a<U) (hb:0≤b∧b<U):cd (n+4) (.fn 67) [nb 2,jr 0] (dz O U Z V J::⟨false,[(0,.row r2)]⟩::df r a b::H)=some (.bool false,dz O U Z V J::⟨false,[(0,.row r2)]⟩::df r a b::H):=by
 have hlp:exec (bQ (n+2) 89 19) (.block 0 (.loop (part Tryd.f89 [1,0,1,0,0]))) (kd (ofNat 0)) (av::av::dz O U Z V J::⟨false,[(0,.row r2)]⟩::df r a b::H)=some (.normal,kd (ofNat 2)++[(9,.bool false)],av::av::dz O U Z V J::⟨false,[(0,.row r2)]⟩::df r a b::H):=by
  refine ig (n:=n+2) (f:=89) (nt:=19) (c:=part Tryd.f89 [1,0,1,0,0]) 0 (fun j=>kd (j:Int)) (fun _=>av::av::dz O U Z V J::⟨false,[(0,.row r2)]⟩::df r a b::H) 2 (kd (ofNat 2)++[(9,.bool false)],av::av::dz O U Z V J::⟨false,[(0,.row r2)]⟩::df r a b::H) wO (fun j hj=>?_) ?_
  · have T:=JE (n+1) O U Z V J r r2 H a b (j:Int);rw[yf,eX wO] at T;refine aB T (ff (n+1) 1) (aj _ _) (ak _ _) ?_;have hx:0≤aI [a,b] j∧aI [a,b] j<U:=by
     rw[Bg];match j,hj with
     | 0,_=>exact ha
     | 1,_=>exact hb
    refine Tr.af (fun h0=>?_) wJ;refine Tr.aa wG (Tr.aa wG (Tr.aa (by simp (disch:=omega) only[nV,nW];rw[ru];show j<2;omega) (Tr.af (fun q=>?_) (fun _=>Tr.af (fun q=>?_) (fun _=>Tr.ag ⟨rfl,rfl⟩)))))
    · exfalso;rw[bx,decide_eq_true_iff] at q;have q:aI [a,b] j<0:=q;omega
    · exfalso;rw[bh,decide_eq_true_iff] at q;have q:(U:Int)≤aI [a,b] j:=q;omega
  · obtain ⟨x,h1,rfl⟩:=aB (Q:=fun x=>x=(.exit 0,kd (ofNat 2)++[(9,.bool false)],av::av::dz O U Z V J::⟨false,[(0,.row r2)]⟩::df r a b::H)) (JE (n+1) O U Z V J r r2 H a b (ofNat 2)) (ff (n+1) 1) (aj _ _) (ak _ _) (by
     refine Tr.af wJ (fun h0=>Tr.ag rfl))
    exact h1
 have h89:cd (n+3) (.fn 89) [nb 3,jr 1] (av::dz O U Z V J::⟨false,[(0,.row r2)]⟩::df r a b::H)=some (.int .i64 (Int.negSucc 0),av::dz O U Z V J::⟨false,[(0,.row r2)]⟩::df r a b::H):=by
  refine bj (n:=n+2) Tryd.func89 rfl rfl rfl (Tn (n+2) (av::dz O U Z V J::⟨false,[(0,.row r2)]⟩::df r a b::H)) (ay _) (aZ (aj _ _) P8 (fun x h=>dL h (by simp only[eB.st,aL];exact hlp))) (ak _ _) ?_;exact Tr.ai ⟨rfl,rfl⟩ (Tr.ag ⟨rfl,rfl⟩)
 refine bj (n:=n+3) Tryd.func67 rfl rfl rfl (PI (n+3) (Int.negSucc 0) (dz O U Z V J::⟨false,[(0,.row r2)]⟩::df r a b::H)) (bo _ _ (cj (aN _) (fun x hy=>by rw[← Tr.ae hy];exact h89))) (aj _ _) (ak _ _) ?_;refine Tr.ai ⟨rfl,rfl⟩ (Tr.ag ⟨?_,rfl⟩);rw[bh];rfl
theorem Qh (hlb:V≤1000) (h0:cu O U Z V J=0) (ha:0≤a∧a<U) (hb:0≤b∧b<U):cd (n+12) (.fn 49) [a8 O U Z V J,nb 1] (⟨false,[(0,.row r2)]⟩::df r a b::H)=some (.tup [HD O U Z V J,.int .i64 (ofNat 0)],⟨false,[(0,.row r2)]⟩::df r a b::H):=by
 obtain ⟨h1,h2,h3,h4,h5,_⟩:=jM h0;have h22:=fun H=>NG n O U Z V J H wO hlb;rw[h0] at h22;have h67:cd (n+11) (.fn 67) [nb 2,jr 0] (dz O U Z V J::⟨false,[(0,.row r2)]⟩::df r a b::H)=_:=Qm (n+7) O U Z V J H r r2 a b wO ha hb;refine bj (n:=n+11) Tryd.func49 rfl rfl rfl (S7 (n+11) O U Z V J (c9 O U Z) (ia V J) (⟨false,[(0,.row r2)]⟩::df r a b::H) false (fun x=>x=[a8 O U Z V J])) (bo _ _ (cj (oR (bO (aN _) h22) (fun A H hA=>by
  subst hA;exact PS (n+4) O U Z V J H h1.2 hlb h3 h4 h5)) (fun x hy=>by rw[← Tr.ae hy];exact h67))) (aj _ _) (ak _ _) ?_
 exact Tr.ai rfl (Tr.af (fun q=>by simp[ar,aE] at q) (fun q=>Tr.ai ⟨rfl,rfl⟩ (Tr.af (fun q=>by cases q) (fun _=>Tr.ai rfl (Tr.ag ⟨rfl,rfl⟩)))))
theorem Qo (hlb:V≤1000) (h0:cu O U Z V J=0) (ha:0≤a∧a<U) (hb:0≤b∧b<U):cd (n+13) (.fn 69) [a8 O U Z V J,nb 0] (df r a b::H)=some (Jb O U Z V J,df r a b::H):=by
 obtain ⟨h1,h2,h3,h4,h5,h6⟩:=jM h0;have hS:=zn O U Z V J h1.2 h3 h4 h5 h6;have h49:cd (n+12) (.fn 49) [a8 O U Z V J,nb 1] (dz O U Z V J::df r a b::H)=_:=Qh n O U Z V J H r (.G [.int .i64 O,slA 4 U Z,slA 2 V J]) a b hlb h0 ha hb;have h65:=fun H=>PT (n+9) O U Z V J (c9 O U Z) H (fun c=>cZ J c V) hS;unfold Jb EN;generalize qB (gK U (fun c=>cZ J c V) (c9 O U Z))=q at *;generalize jg q U U=c at *;cases c with
 | none =>
   rw[if_pos rfl];refine bj (n:=n+12) Tryd.func69 rfl rfl rfl (Tg (n+12) O U Z V J (c9 O U Z) (ia V J) (df r a b::H) (ofNat 0) (ofNat 0)) (bo _ _ (cj (bO (aN _) h65) (fun x hy=>by rw[← Tr.ae hy];exact h49))) (aj _ _) (ak _ _) ?_;exact Tr.ai ⟨rfl,rfl⟩ (Tr.af (fun q=>by simp[ar,aE] at q) (fun _=>Tr.ai rfl (Tr.af (fun q=>by cases q) (fun _=>Tr.ag ⟨rfl,rfl⟩))))
 | some v =>
   obtain ⟨f,t⟩:=v;rw[if_neg (by intro h;cases h)];refine bj (n:=n+12) Tryd.func69 rfl rfl rfl (Tl (n+12) O U Z V J (c9 O U Z) (ia V J) (df r a b::H) f t (dN q f t U).length (aI (dN q f t U))) (bo _ _ (cj (bO (aN _) h65) (fun x hy=>by rw[← Tr.ae hy];exact h49))) (aj _ _) (ak _ _) ?_;exact Tr.ai ⟨rfl,rfl⟩ (Tr.af (fun q=>by simp[ar,aE] at q) (fun _=>Tr.ai rfl (Tr.af (fun _=>Tr.ag ⟨rfl,rfl⟩) (fun q=>by cases q))))
end
end Go.Eng
end
section
namespace Go.Eng
open Int (ofNat)
open Go.Proofs Go.Eng.Gall
noncomputable def sS (O:Int) (U:Nat) (Z:Nat→Int) (V:Nat) (J:Nat→Int) (W B:Nat→Int) (a b:Int):bG:=⟨false,[(0,.row (.G [.int .i64 O,slA 4 U Z,slA 2 V J])),(0,.row (.I .i64 [a,b])),(0,.row (shR O U Z V J W B))]⟩
theorem u32 (n:Nat) (O:Int) (U:Nat) (Z:Nat→Int) (V:Nat) (J:Nat→Int) (W B:Nat→Int) (H:ab) (a b:Int) (k x:Bool) (f t:Int) (A:AV):bg Tryd.prog (cd n) 100000 32 Tryd.f32 (KtG.kt 32) (il (oo (oo (oo aF 69 [a8 O U Z V J,nb 0] (df (.G [.int .i64 O,slA 4 U Z,slA 2 V J]) a b::H) (.ok (.tup [shV O U Z V J W B,.int .i64 (ofNat 0)],df (.G [.int .i64 O,slA 4 U Z,slA 2 V J]) a b::H))) 63 [.ptr 0 2 0 0] (sS O U Z V J W (dc B (cq (aw 23 a 1) 23) (qd .u64 (B (cq (aw 23 a 1) 23)) (cI .u64 (ofNat 1) b))) a b::H) (.ok (.bool k,sS O U Z V J W (dc B (cq (aw 23 a 1) 23) (qd .u64 (B (cq (aw 23 a 1) 23)) (cI .u64 (ofNat 1) b))) a b::H))) 65 [.ptr 0 2 0 0] (sS O U Z V J W (dc B (cq (aw 23 a 1) 23) (qd .u64 (B (cq (aw 23 a 1) 23)) (cI .u64 (ofNat 1) b))) a b::H) (.ok (.tup [.agg (.G [.int .i64 f,.int .i64 t,.undef]),.bool x],sS O U Z V J W (dc B (cq (aw 23 a 1) 23) (qd .u64 (B (cq (aw 23 a 1) 23)) (cI .u64 (ofNat 1) b))) a b::H))) n 0) aR aQ [(a8 O U Z V J,none),(.int .i64 a,none),(.int .i64 b,none)] H =
 (fun (Z0:bG)=>Tr.reqP ([a8 O U Z V J,AV.slc 0 1 0 0 1 2 (some 2)]=[a8 O U Z V J,AV.slc 0 1 0 0 1 2 (some 2)]∧(bz [(0,dk O U Z V J),(0,an.row (Row.I .i64 [a,b]))])::H=(bz [(0,dk O U Z V J),(0,an.row (Row.I .i64 [a,b]))])::H) (Tr.ite (bF (b9 (ofNat 0) (ofNat 0))) (Tr.ok ((AV.tup [AV.bool false,iI 0],none),H)) (Tr.ite (b9 a b) (Tr.ok ((AV.tup [AV.bool false,iI 0],none),H)) (Tr.req (c6 a 10) (Tr.req (cg 0 0) (Tr.req (eD (aw 23 a 1) 1 23 10) (Tr.req (dp (ofNat 0) b) (Tr.req (c6 a 10) (Tr.req (cg 0 0) (Tr.req (eD (aw 23 a 1) 1 23 10) (Tr.req (bV (fp 0 0) (fp 0 1)) (Tr.reqP ([AV.ptr 0 2 0 0]=[AV.ptr 0 2 0 0]∧Z0::H=Z0::H) (Tr.ite k (Tr.ok ((AV.tup [AV.bool true,iI 0],none),H)) (Tr.reqP ([AV.ptr 0 2 0 0]=[AV.ptr 0 2 0 0]∧Z0::H=Z0::H) (Tr.ok ((AV.tup [AV.bool x,iI 0],none),H)))))))))))))))) (bz [(0,dk O U Z V J),(0,an.row (Row.I .i64 [a,b])),(0,an.row (shR O U Z V J W (dc B (cq (aw 23 a 1) 23) (qd IntKind.u64 (B (cq (aw 23 a 1) 23)) (cI IntKind.u64 (ofNat 1) b)))))]):=by kernel_rfl
theorem S0 (n:Nat) (O:Int) (U:Nat) (Z:Nat→Int) (V:Nat) (J:Nat→Int) (W B:Nat→Int) (H:ab) (a b:Int):bg Tryd.prog (cd n) 100000 32 Tryd.f32 (KtG.kt 32) (il (tN (tN (oo aF 69 [a8 O U Z V J,nb 0] (df (.G [.int .i64 O,slA 4 U Z,slA 2 V J]) a b::H) (.ok (.tup [.nilp,.int .i64 (ofNat 13)],df (.G [.int .i64 O,slA 4 U Z,slA 2 V J]) a b::H))) 63) 65) n 0) aR aQ [(a8 O U Z V J,none),(.int .i64 a,none),(.int .i64 b,none)] H =
 Tr.reqP ([a8 O U Z V J,AV.slc 0 1 0 0 1 2 (some 2)]=[a8 O U Z V J,AV.slc 0 1 0 0 1 2 (some 2)]∧(bz [(0,dk O U Z V J),(0,an.row (Row.I .i64 [a,b]))])::H=(bz [(0,dk O U Z V J),(0,an.row (Row.I .i64 [a,b]))])::H) (Tr.ite (bF (b9 (ofNat 13) (ofNat 0))) (Tr.ok ((AV.tup [AV.bool false,iI 13],none),H)) (Tr.ite (b9 a b) (Tr.ok ((AV.tup [AV.bool false,iI 13],none),H)) Tr.bad)):=by kernel_rfl
theorem SY (n:Nat) (O:Int) (U:Nat) (Z:Nat→Int) (V:Nat) (J:Nat→Int) (W B:Nat→Int) (H:ab) (a b:Int) (k:Bool):bg Tryd.prog (cd n) 100000 32 Tryd.f32 (KtG.kt 32) (il (tN (oo (oo aF 69 [a8 O U Z V J,nb 0] (df (.G [.int .i64 O,slA 4 U Z,slA 2 V J]) a b::H) (.ok (.tup [shV O U Z V J W B,.int .i64 (ofNat 0)],df (.G [.int .i64 O,slA 4 U Z,slA 2 V J]) a b::H))) 63 [.ptr 0 2 0 0] (sS O U Z V J W (dc B (cq (aw 23 a 1) 23) (qd .u64 (B (cq (aw 23 a 1) 23)) (cI .u64 (ofNat 1) b))) a b::H) (.ok (.bool k,sS O U Z V J W (dc B (cq (aw 23 a 1) 23) (qd .u64 (B (cq (aw 23 a 1) 23)) (cI .u64 (ofNat 1) b))) a b::H))) 65) n 0) aR aQ [(a8 O U Z V J,none),(.int .i64 a,none),(.int .i64 b,none)] H =
 (fun (Z0:bG)=>Tr.reqP ([a8 O U Z V J,AV.slc 0 1 0 0 1 2 (some 2)]=[a8 O U Z V J,AV.slc 0 1 0 0 1 2 (some 2)]∧(bz [(0,dk O U Z V J),(0,an.row (Row.I .i64 [a,b]))])::H=(bz [(0,dk O U Z V J),(0,an.row (Row.I .i64 [a,b]))])::H) (Tr.ite (bF (b9 (ofNat 0) (ofNat 0))) (Tr.ok ((AV.tup [AV.bool false,iI 0],none),H)) (Tr.ite (b9 a b) (Tr.ok ((AV.tup [AV.bool false,iI 0],none),H)) (Tr.req (c6 a 10) (Tr.req (cg 0 0) (Tr.req (eD (aw 23 a 1) 1 23 10) (Tr.req (dp (ofNat 0) b) (Tr.req (c6 a 10) (Tr.req (cg 0 0) (Tr.req (eD (aw 23 a 1) 1 23 10) (Tr.req (bV (fp 0 0) (fp 0 1)) (Tr.reqP ([AV.ptr 0 2 0 0]=[AV.ptr 0 2 0 0]∧Z0::H=Z0::H) (Tr.ite k (Tr.ok ((AV.tup [AV.bool true,iI 0],none),H)) Tr.bad))))))))))))) (bz [(0,dk O U Z V J),(0,an.row (Row.I .i64 [a,b])),(0,an.row (shR O U Z V J W (dc B (cq (aw 23 a 1) 23) (qd IntKind.u64 (B (cq (aw 23 a 1) 23)) (cI IntKind.u64 (ofNat 1) b)))))]):=by kernel_rfl
end Go.Eng
end
section
namespace Go.Eng
open Go.Proofs Go.Eng.Gall
def oC (g:Nat→Nat) (a b:Nat) (c:Nat):Nat:=if c=a then g a ||| 2 ^ b else g c
section
variable (n:Nat) (O:Int) (U:Nat) (Z:Nat→Int) (V:Nat) (J:Nat→Int) (H:ab) (a b:Nat)
noncomputable def OK:AV:=if EN O U Z V J=none then .tup [.bool (!decide (a=b) && (iK U (oC (fun c=>cZ J c V) a b) || (jg (qB (gK U (oC (fun c=>cZ J c V) a b) (c9 O U Z))) U U).isSome)),.int .i64 0] else .tup [.bool false,.int .i64 13]
theorem Lt (hl:U≤10) (hp:gI U V J) (hb:b<U):dc (ia V J) a (qd .u64 (ia V J a) (cI .u64 (Int.ofNat 1) (b:Int)))=bI (oC (fun c=>cZ J c V) a b):=by
 have h1:∀ c,cZ J c V<2 ^ U:=fun c=>nu J c U V fun i hi=>(hp i hi).1;have h2:cZ J a V<2 ^ 63:=Nat.lt_of_lt_of_le (h1 a) (Nat.pow_le_pow_right wO wO);have h3:2 ^ b<2 ^ 63:=Nat.pow_lt_pow_right wO wO;rw[gh,BF wO,show ia V J a=(cZ J a V:Int) from rfl,PX h2 h3];funext c;unfold bI oC;by_cases e:c=a
 · rw[if_pos e,if_pos e]
 · rw[if_neg e,if_neg e];rfl
theorem B9 (hp:gI U V J) (hb:b<U) (c:Nat):oC (fun c=>cZ J c V) a b c<2 ^ U:=by
 have h1:∀ c,cZ J c V<2 ^ U:=fun c=>nu J c U V fun i hi=>(hp i hi).1;unfold oC;split
 · exact Nat.or_lt_two_pow (h1 a) (Nat.pow_lt_pow_right wO hb)
 · exact h1 c
theorem Bv {c f i:Nat} {H:ab} {r:Row} {v:AV} {H':ab} (hf:f=63∨f=65) (hr:da H 0 i 0=some r) (hh:G5 r=true) (h:cd c (.fn f) [.ptrT none r 0] [⟨true,[]⟩]=some (v,H')):jf (cd c) f [.ptr 0 i 0 0] H=some (LN v,H):=by
 have e:O3 (cd c) f [.ptr 0 i 0 0] H=some (LN v,H):=by
  show (match da H 0 i 0 with
   | some r=>if (G5 r && [].all (tc 9))=true then (match cd c (.fn f) (.ptrT none r 0::[]) [⟨true,[]⟩] with
     | some (v,_)=>some (LN v,H)
     | none=>none) else none
   | none=>none)=_
  rw[hr];dsimp only;rw[hh,h];rfl
 have e2:jf (cd c) f [.ptr 0 i 0 0] H=(match O3 (cd c) f [.ptr 0 i 0 0] H with
  | some x=>some x
  | none=>wV [⟨15,[],.bool true⟩] (cd c) f [.ptr 0 i 0 0] H):=by rcases hf with rfl | rfl<;>rfl
 rw[e2,e]
theorem RF (W:Nat→Int) (g:Nat→Nat) (x y:Int) (hl:U≤10) (hg:∀ c,c<U→g c<2 ^ 62):cd (n+3) (.fn 63) [.ptr 0 2 0 0] (sS O U Z V J W (bI g) x y::H)=some (.bool (iK U g),sS O U Z V J W (bI g) x y::H):=by
 have h:=Um n O U Z V J W g [⟨true,[]⟩] hl hg;refine nh ?_;rw[Bv (.inl rfl) (r:=shR O U Z V J W (bI g)) rfl rfl h];rfl
theorem RG (W:Nat→Int) (g:Nat→Nat) (x y:Int) (hS:gH U W g):∃ f t,cd (n+4) (.fn 65) [.ptr 0 2 0 0] (sS O U Z V J W (bI g) x y::H)=some (.tup [.agg (.G [.int .i64 f,.int .i64 t,.undef]),.bool (jg (qB (gK U g W)) U U).isSome],sS O U Z V J W (bI g) x y::H):=by
 have h:=PT n O U Z V J W [⟨true,[]⟩] g hS;have e:=Bv (.inr rfl) (H:=sS O U Z V J W (bI g) x y::H) (i:=2) (r:=shR O U Z V J W (bI g)) rfl rfl h;cases hc:jg (qB (gK U g W)) U U with
 | none =>
   rw[hc] at e;exact ⟨Int.ofNat 0,Int.ofNat 0,nh e⟩
 | some v =>
   obtain ⟨f,t⟩:=v;rw[hc] at e;exact ⟨f,t,nh e⟩
theorem UR (hlb:V≤1000) (h0:cu           O U Z V J=0) (ha:a<U) (hb:b<U):cd (n+14) (.fn 32) [a8 O U Z V J,.int .i64 (a:Int),.int .i64 (b:Int)] H=some (OK O U Z V J a b,H):=by
 obtain ⟨h1,h2,h3,h4,h5,h6⟩:=jM h0;have h69:cd (n+13) (.fn 69) [a8 O U Z V J,nb 0] (df (.G [.int .i64 O,slA 4 U Z,slA 2 V J]) (a:Int) (b:Int)::H)=_:=Qo n O U Z V J H (.G [.int .i64 O,slA 4 U Z,slA 2 V J]) a b hlb h0 wO wO;have ea:cq (aw 23 (a:Int) 1) 23=a:=by rw[bJ,dD];omega
 have eu:=Lt U V J a b h1.2 h5 hb;have hlt:=B9 U V J a b h5 hb;unfold OK;by_cases hp:EN O U Z V J=none
 · rw[if_pos hp];have e9:Jb O U Z V J=.tup [HD O U Z V J,.int .i64 (Int.ofNat 0)]:=by unfold Jb;rw[if_pos hp]
   rw[e9] at h69;have h63:=RF (n+10) O U Z V J H (c9 O U Z) (oC (fun c=>cZ J c V) a b) (a:Int) (b:Int) h1.2 (fun c _=>Nat.lt_of_lt_of_le (hlt c) (Nat.pow_le_pow_right wO wO));by_cases hk:iK U (oC (fun c=>cZ J c V) a b)=true
   · have T:=SY (n+13) O U Z V           J (c9 O U Z) (ia V J) H a b (iK U (oC (fun c=>cZ J c V) a b));rw[ea,eu] at T;refine bj (n:=n+13) Tryd.func32 rfl rfl rfl T (bo _ _ (eA (cj (cj (aN _) (fun x hy=>by rw[← Tr.ae hy];exact h69)) (fun x hy=>by rw[← Tr.ae hy];exact h63)))) (aj _ _) (ak _ _) ?_;rw[hk,Bool.true_or,Bool.and_true];refine Tr.ai ⟨rfl,rfl⟩ (Tr.af (fun q=>by simp[ar,aE] at q) (fun _=>Tr.af (fun q=>Tr.ag ⟨?_,rfl⟩) (fun q=>?_)));all_goals rw[aE] at q
     · rw[decide_eq_true (show a=b by    have:(a:Int)=b:=by simpa using q
                                         omega)];rfl
     · have hne:¬ a=b:=by intro e;subst e;simp at q
       rw[decide_eq_false hne];exact Tr.aa wG (Tr.aa wG (Tr.aa wG (Tr.aa wG (Tr.aa wG (Tr.aa wG (Tr.aa wG (Tr.aa wG (Tr.ai ⟨rfl,rfl⟩ (Tr.af (fun _=>Tr.ag ⟨rfl,rfl⟩) (fun q=>by cases q))))))))))
   · have hk:iK U (oC (fun c=>cZ         J c V) a b)=false:=by simpa using hk
     have hS0:=zn O U Z V J h1.2 h3 h4 h5 h6;have hS:gH U (c9 O U Z) (oC (fun c=>cZ J c V) a b):=⟨h1.2,hS0.win,hS0.zer,fun c _=>hlt c,fun c hc=>by unfold oC;rw[if_neg wO];exact hS0.off c hc,hk⟩
     obtain ⟨f,t,h65⟩:=RG (n+9) O U Z V J H (c9 O U Z) (oC (fun c=>cZ J c V) a b) (a:Int) (b:Int) hS;have T:=u32 (n+13) O U Z V J (c9 O U Z) (ia V J) H a b (iK U (oC (fun c=>cZ J c V) a b)) (jg (qB (gK U (oC (fun c=>cZ J c V) a b) (c9 O U Z))) U U).isSome f t .undef;rw[ea,eu] at T;refine bj (n:=n+13) Tryd.func32 rfl rfl rfl T (bo _ _ (cj (cj (cj (aN _) (fun x hy=>by rw[← Tr.ae hy];exact h69)) (fun x hy=>by rw[← Tr.ae hy];exact h63)) (fun x hy=>by rw[← Tr.ae hy];exact h65))) (aj _ _) (ak _ _) ?_;rw[hk,Bool.false_or];refine Tr.ai ⟨rfl,rfl⟩ (Tr.af (fun q=>by simp[ar,aE] at q) (fun _=>Tr.af (fun q=>Tr.ag ⟨?_,rfl⟩) (fun q=>?_)));all_goals rw[aE] at q
     · rw[decide_eq_true (show a=b by    have:(a:Int)=b:=by simpa using q
                                         omega)];rfl
     · have hne:¬ a=b:=by intro e;subst e;simp at q
       rw[decide_eq_false hne,Bool.not_false,Bool.true_and];exact Tr.aa wG (Tr.aa wG (Tr.aa wG (Tr.aa wG (Tr.aa wG (Tr.aa wG (Tr.aa wG (Tr.aa wG (Tr.ai ⟨rfl,rfl⟩ (Tr.af (fun q=>by cases q) (fun _=>Tr.ai ⟨rfl,rfl⟩ (Tr.ag ⟨rfl,rfl⟩)))))))))))
 · rw[if_neg hp];have e9:Jb O U Z V J=.tup [.nilp,.int .i64 (Int.ofNat 13)]:=by unfold Jb;rw[if_neg hp]
   rw[e9] at h69;refine bj (n:=n+13) Tryd.func32 rfl rfl rfl (S0 (n+13) O U Z V J (c9 O U Z) (ia V J) H a b) (bo _ _ (eA (eA (cj (aN _) (fun x hy=>by rw[← Tr.ae hy];exact h69))))) (aj _ _) (ak _ _) ?_;exact Tr.ai ⟨rfl,rfl⟩ (Tr.af (fun _=>Tr.ag ⟨rfl,rfl⟩) (fun q=>by simp[ar,aE] at q))
end
end Go.Eng
end
section
namespace Go.Eng
open Go.Proofs Go.Eng.Gall Go.Eng.Q
theorem mB (n:Nat) (ok:Nat→Nat→Nat→Bool):∀ k,(ro n ok k).Nodup
 | 0=>by show [[]].Nodup;simp
 | k + 1=>by
   have ih:=mB n ok k;show ((ro n ok k).flatMap fun L=>(nx ok n k (mask L)).map fun c=>L++[c]).Nodup;rw[List.Nodup,List.flatMap,List.pairwise_flatten];refine ⟨fun l hl=>?_,?_⟩
   · obtain ⟨L,hL,rfl⟩:=List.mem_map.1 hl;rw[List.pairwise_map];have hn:(nx ok n k (mask L)).Nodup:=List.Pairwise.filter _ List.nodup_range;exact hn.imp (fun h e=>h (by simpa using e))
   · rw[List.pairwise_map];refine ih.imp (fun h x hx y hy e=>?_);obtain ⟨c,_,rfl⟩:=List.mem_map.1 hx;obtain ⟨d,_,rfl⟩:=List.mem_map.1 hy;have:=congrArg List.dropLast e;simp only[List.dropLast_concat] at this;exact h this
section
variable {n:Nat} {g:Nat→Nat} {W:Nat→Int}
theorem H3 (hn:n≤10) (hg:∀ c,c<n→g c<2 ^ n) (hk:iK n g=true):ro n (okW W (bI g)) n=[]:=by
 refine List.eq_nil_iff_forall_not_mem.2 fun L hL=>?_;obtain ⟨h1,h2,h3,h4⟩:=(kA hn hg).1 hL;have key:∀ t c,bL n g t c=true→c<n∧t≤L.idxOf c:=by
  intro t;induction t with
  | zero=>intro c h;exact ⟨mr h,Nat.zero_le _⟩
  | succ t ih =>
    intro c h;obtain ⟨hc,a,ha,hab⟩:=ga.1 h;have hcL:c ∈ L:=fk h2 h1 h3 hc;obtain ⟨hi,he⟩:=gm hcL;have hm:=(h4 _ hi).1 a (by rw[he];exact hab);have:=xo hm;have:=(ih a ha).2;exact ⟨hc,by omega⟩
 unfold iK at hk;obtain ⟨c,hc,hon⟩:=List.any_eq_true.1 hk;obtain ⟨hcn,hle⟩:=key n c hon;obtain ⟨hi,_⟩:=gm (fk h2 h1 h3 hcn);omega
theorem Fg {a b c x:Nat}:(oC g a b c).testBit x=((g c).testBit x || (decide (c=a) && decide (x=b))):=by
 unfold oC;by_cases e:c=a
 · rw[if_pos e,decide_eq_true e,Bool.true_and,Nat.testBit_or,Nat.testBit_two_pow];subst e;congr 1;rw[decide_eq_decide];exact eq_comm
 · rw[if_neg e,decide_eq_false e,Bool.false_and,Bool.or_false]
theorem Ga {L:List Nat} (hn:L.Nodup) {i:Nat} (hi:i<L.length):L.idxOf L[i]=i:=by
 obtain ⟨hj,he⟩:=gm (List.getElem_mem hi);rcases Nat.lt_trichotomy (L.idxOf L[i]) i with q | q | q
 · exact absurd he ((List.pairwise_iff_getElem.1 hn) _ _ hj hi q)
 · exact q
 · exact absurd he.symm ((List.pairwise_iff_getElem.1 hn) _ _ hi hj q)
theorem Gi {α:Type} [DecidableEq α] {l m:List α} (h1:l.Nodup) (h2:m.Nodup) (h:∀ x,x ∈ l↔x ∈ m):l.length=m.length :=
 ((List.perm_ext_iff_of_nodup h1 h2).2 h).length_eq
end
end Go.Eng
end
section
namespace Go.Eng
open Go.Proofs Go.Eng.Gall Go.Eng.Q
section
variable {O:Int} {U:Nat} {Z:Nat→Int} {V:Nat} {J zb2:Nat→Int} {a b:Nat}
end
end Go.Eng
end
section
namespace Go.Eng
open Go.Proofs Go.Eng.Gall Go.Eng.Q
section
variable {O:Int} {U:Nat} {Z:Nat→Int} {V:Nat} {J:Nat→Int} {a b:Nat}
theorem uh (c:Nat) (hc:c<U):0≤c9 O U Z (2*c)∧c9 O U Z (2*c+1)<U:=by
 unfold c9;rw[if_pos wO,if_pos wO,if_pos wO,if_neg wO];omega
noncomputable def Nr (O:Int) (U:Nat) (Z:Nat→Int) (V:Nat) (J:Nat→Int) (a b:Nat):Int:=cntF U (c9 O U Z) (bI (oC (fun c=>cZ J c V) b a))
theorem JQ (h0:cu O U Z V J=0) (ha:a<U) (hb:b<U) (h:iK U (oC (fun c=>cZ J c V) b a)=true):Nr O U Z V J a b=0:=by
 obtain ⟨h1,h2,h3,h4,h5,h6⟩:=jM h0;unfold Nr cntF;rw[H3 h1.2 (fun c _=>B9 U V J b a h5 ha c) h];rfl
theorem Mk (h0:cu O U Z V J=0) (ha:a<U) (hb:b<U):(iK U (oC (fun c=>cZ J c V) a b) || (jg (qB (gK U (oC (fun c=>cZ J c V) a b) (c9 O U Z))) U U).isSome)=decide (Nr O U Z V J b a=0):=by
 obtain ⟨h1,h2,h3,h4,h5,h6⟩:=jM h0;by_cases hk:iK U (oC (fun c=>cZ J c V) a b)=true
 · rw[hk,Bool.true_or,JQ h0 hb ha hk];rfl
 · have hk:iK U (oC (fun c=>cZ J c V) a b)=false:=by simpa using hk
   have hS0:=zn O U Z V J h1.2 h3 h4 h5 h6;have hS:gH U (c9 O U Z) (oC (fun c=>cZ J c V) a b):=⟨h1.2,hS0.win,hS0.zer,fun c _=>B9 U V J a b h5 hb c,fun c hc=>by unfold oC;rw[if_neg wO];exact hS0.off c hc,hk⟩
   have hi:=r4 hS uh;rw[hk,Bool.false_or,Bool.eq_iff_iff,decide_eq_true_iff];unfold Nr cntF;constructor
   · intro h;have hn:ro U (okW (c9 O U Z) (bI (oC (fun c=>cZ J c V) a b))) U=[]:=by
      refine List.eq_nil_iff_forall_not_mem.2 fun L hL=>?_;rw[hi.2 ⟨L,hL⟩] at h;cases h
     rw[hn];rfl
   · intro h;cases e:jg (qB (gK U (oC (fun c=>cZ J c V) a b) (c9 O U Z))) U U with
     | some v=>rfl
     | none =>
       obtain ⟨L,hL⟩:=hi.1 e;rw[List.eq_nil_of_length_eq_zero (show (ro U (okW (c9 O U Z) (bI (oC (fun c=>cZ J c V) a b))) U).length=0 by omega)] at hL;cases hL
theorem tl (h0:cu O U Z V J=0):EN O U Z V J=none↔¬ cntF U (c9 O U Z) (ia V J)=0:=by
 obtain ⟨h1,h2,h3,h4,h5,h6⟩:=jM h0;have hi:=r4 (zn O U Z V J h1.2 h3 h4 h5 h6) uh;unfold EN;rw[hi];unfold cntF;constructor
 · rintro ⟨L,hL⟩ h;rw[show ia V J=bI (fun c=>cZ J c V) from rfl] at h;rw[List.eq_nil_of_length_eq_zero (show (ro U (okW (c9 O U Z) (bI (fun c=>cZ J c V))) U).length=0 by omega)] at hL;cases hL
 · intro h;rw[show ia V J=bI (fun c=>cZ J c V) from rfl] at h;cases e:ro U (okW (c9 O U Z) (bI (fun c=>cZ J c V))) U with
   | nil=>rw[e] at h;exact absurd rfl h
   | cons L l=>exact ⟨L,by simp⟩
end
end Go.Eng
end
section
namespace Go.Eng
open Go.Proofs Go.Eng.Gall Go.Eng.Q
section
variable {n:Nat} {g:Nat→Nat} {W:Nat→Int}
variable (n g W)
noncomputable def IZ (W:Nat→Int):Bool:=(jg (qB (gK n g W)) n n).isNone
variable {n g W}
end
end Go.Eng
end
section
namespace Go.Eng
open Go.Proofs Go.Eng.Gall
noncomputable def Le (s:Nat) (R:Row):AV:=.fn (.func 90) [] [.ptrT (some s) (.G [.ptrT none R 0]) 0]
noncomputable def sr (U:Nat) (j:Int):aC:=[(0,.yld 1 5),(9,.int .i64 (Int.ofNat U)),(10,.int .i64 j)]
theorem Uy (n:Nat) (O:Int) (U:Nat) (Z:Nat→Int) (V:Nat) (J:Nat→Int) (W B:Nat→Int) (H:ab):bg Tryd.prog (cd n) 100000 70 Tryd.f70 (KtG.kt 70) (il aF n 0) aR aQ [(shV O U Z V J W B,none)] H =
 Tr.ok ((AV.fn (Fn.func 90) [] [AV.ptrT (some 0) (Row.G [shV O U Z V J W B]) 0],none),H):=by kernel_rfl
end Go.Eng
end
section
namespace Go.Eng
open Go.Proofs Go.Eng.Gall
section
variable (n:Nat) (O:Int) (U:Nat) (Z:Nat→Int) (V:Nat) (J:Nat→Int)
theorem Kn (W:Nat→Int) (g:Nat→Nat) (HH:ab) (i:Nat) (hr:da HH 0 i 0=some (shR O U Z V J W (bI g))) (hS:gH U W g):∃ f t,cd (n+4) (.fn 65) [.ptr 0 i 0 0] HH=some (.tup [.agg (.G [.int .i64 f,.int .i64 t,.undef]),.bool (!IZ U g W)],HH):=by
 have h:=PT n O U Z V J W [⟨true,[]⟩] g hS;have e:=Bv (.inr rfl) hr rfl h;unfold IZ;cases hc:jg (qB (gK U g W)) U U with
 | none =>
   rw[hc] at e;exact ⟨Int.ofNat 0,Int.ofNat 0,nh e⟩
 | some v =>
   obtain ⟨f,t⟩:=v;rw[hc] at e;exact ⟨f,t,nh e⟩
variable (W:Nat→Int) (g:Nat→Nat) (H:ab)
theorem O7 (k:Nat) (c:Nat):vR W (c:Int) (k:Int)=(dp (W (2*c)) (k:Int) && dp (k:Int) (W (2*c+1))):=by
 unfold vR;rw[bh,bh];rfl
end
end Go.Eng
end
section
namespace Go.Eng
open Go.Proofs Go.Eng.Gall
def pA (L:List Nat):List Int:=L.map fun x:Nat=>(x:Int)
section
variable (n:Nat) (O:Int) (U:Nat) (Z:Nat→Int) (V:Nat) (J:Nat→Int) (W:Nat→Int) (g:Nat→Nat) (H:ab)
end
end Go.Eng
end
section
namespace Go.Eng
open Go.Proofs Go.Eng.Gall
end Go.Eng
end
section
namespace Go.Eng
open Go.Proofs Go.Eng.Gall
section
variable (n:Nat) (O:Int) (U:Nat) (Z:Nat→Int) (V:Nat) (J:Nat→Int) (H:ab)
variable (f t:Int) (m:Nat) (z:Nat→Int)
end
end Go.Eng
end
section
namespace Go.Eng
open Go.Proofs Go.Eng.Gall
section
variable (n:Nat) (O:Int) (U:Nat) (Z:Nat→Int) (V:Nat) (J:Nat→Int) (H:ab) (f t:Int) (m:Nat) (z:Nat→Int)
end
end Go.Eng
end
section
namespace Go.Eng
open Go.Proofs Go.Eng.Gall Go.Eng.Q
section
variable {O:Int} {U:Nat} {Z:Nat→Int} {V:Nat} {J:Nat→Int}
end
end Go.Eng
end
section
namespace Go.Eng
open Go.Proofs Go.Eng.Gall Go.Eng.Q
section
variable {O:Int} {U:Nat} {Z zx:Nat→Int}
end
end Go.Eng
end
section
namespace Go.Eng
open Go.Proofs Go.Eng.Gall Go.Eng.Q
def uy (W:Nat→Int) (c k:Nat) (i:Nat):Int:=if i / 2=c then (k:Int) else W i
theorem AR (W:Nat→Int) (c k:Nat):dc (dc W (2*c) (k:Int)) (2*c+1) (k:Int)=uy W c k:=by
 rw[gh,gh];funext i;dsimp only;unfold uy;by_cases e1:i=2*c+1
 · rw[if_pos e1,if_pos wO]
 · rw[if_neg e1];by_cases e2:i=2*c
   · rw[if_pos e2,if_pos wO]
   · rw[if_neg e2,if_neg wO]
section
variable {n:Nat} {g:Nat→Nat} {W:Nat→Int} {c k:Nat}
theorem FN (hS:gH n W g) (hc:c<n) (hk:k<n):gH n (uy W c k) g:=by
 have hl:=hS.len;refine ⟨hS.len,fun j=>?_,fun j hj=>?_,hS.bef,hS.off,hS.nob⟩
 · unfold uy;split
   · omega
   · exact hS.win j
 · unfold uy;rw[if_neg wO];exact hS.zer j hj
theorem N5 (hW:∀ c,c<n→0≤W (2*c)∧W (2*c+1)<n) (hk:k<n) (d:Nat) (hd:d<n):0≤uy W c k (2*d)∧uy W c k (2*d+1)<n:=by
 unfold uy;rw[show 2*d / 2=d by omega,show (2*d+1) / 2=d by omega];split
 · omega
 · exact hW d hd
theorem J3 (hn:n≤10) (hg:∀ c,c<n→g c<2 ^ n) (hc:c<n) (hs:W (2*c)≤(k:Int)∧(k:Int)≤W (2*c+1)) (R:List Nat):R ∈ ro n (okW (uy W c k) (bI g)) n↔R ∈ ro n (okW W (bI g)) n∧R.idxOf c=k:=by
 rw[kA hn hg,kA hn hg];have hw:∀ d b,b<2→uy W c k (2*d+b)=if d=c then (k:Int) else W (2*d+b):=fun d b hb=>by
  unfold uy;rw[show (2*d+b) / 2=d by omega]
 constructor
 · rintro ⟨h1,h2,h3,h4⟩;have hk:R.idxOf c=k:=by
    obtain ⟨hi,he⟩:=gm (fk h2 h1 h3 hc);have h5:=(h4 _ hi).2;rw[he] at h5;have e0:=hw c 0 wO;rw[Nat.add_zero] at e0;rw[e0,hw c 1 wO,if_pos rfl,if_pos rfl] at h5;omega
   refine ⟨⟨h1,h2,h3,fun i hi=>⟨(h4 i hi).1,?_⟩⟩,hk⟩;have h5:=(h4 i hi).2;have e0:=hw R[i] 0 wO;rw[Nat.add_zero] at e0;rw[e0,hw R[i] 1 wO] at h5;by_cases hm:R[i]=c
   · rw[if_pos hm,if_pos hm] at h5;rw[hm];have:i=k:=by omega
     rw[this];exact hs
   · rw[if_neg hm,if_neg hm] at h5;exact h5
 · rintro ⟨⟨h1,h2,h3,h4⟩,h5⟩;refine ⟨h1,h2,h3,fun i hi=>⟨(h4 i hi).1,?_⟩⟩;have e0:=hw R[i] 0 wO;rw[Nat.add_zero] at e0;rw[e0,hw R[i] 1 wO];by_cases hm:R[i]=c
   · rw[if_pos hm,if_pos hm];have:=Ga h2 hi;rw[hm,h5] at this;omega
   · rw[if_neg hm,if_neg hm];exact (h4 i hi).2
variable (n g W) in
noncomputable def qI (c k:Nat):Bool:=vR W (c:Int) (k:Int) && IZ n g (uy W c k)
variable (n g W) in
noncomputable def Np (c:Nat):List Nat:=(List.range n).filter fun k=>qI n g W c k
theorem zu (W:Nat→Int) (c k:Nat):vR W (c:Int) (k:Int)=true↔W (2*c)≤(k:Int)∧(k:Int)≤W (2*c+1):=by
 unfold vR;rw[Bool.and_eq_true,decide_eq_true_iff,decide_eq_true_iff];exact Iff.rfl
theorem Bx (hS:gH n W g) (hW:∀ c,c<n→0≤W (2*c)∧W (2*c+1)<n) (hc:c<n) (hk:k<n):qI n g W c k=true↔∃ R ∈ ro n (okW W (bI g)) n,R.idxOf c=k:=by
 unfold qI;rw[Bool.and_eq_true,zu];unfold IZ;rw[Option.isNone_iff_eq_none,r4 (FN hS hc hk) (N5 hW hk)];constructor
 · rintro ⟨hs,R,hR⟩;exact ⟨R,(J3 hS.len hS.bef hc hs R).1 hR⟩
 · rintro ⟨R,hR,he⟩;have hs:W (2*c)≤(k:Int)∧(k:Int)≤W (2*c+1):=by
    obtain ⟨h1,h2,h3,h4⟩:=(kA hS.len hS.bef).1 hR;obtain ⟨hi,hx⟩:=gm (fk h2 h1 h3 hc);have:=(h4 _ hi).2;rw[hx,he] at this;exact this
   exact ⟨hs,R,(J3 hS.len hS.bef hc hs R).2 ⟨hR,he⟩⟩
theorem GM (hS:gH n W g) (hW:∀ c,c<n→0≤W (2*c)∧W (2*c+1)<n) (hc:c<n):k ∈ Np n g W c↔∃ R ∈ ro n (okW W (bI g)) n,R.idxOf c=k:=by
 unfold Np;rw[List.mem_filter,List.mem_range];constructor
 · rintro ⟨h1,h2⟩;exact (Bx hS hW hc h1).1 h2
 · rintro ⟨R,hR,he⟩;obtain ⟨h1,h2,h3⟩:=ln hR;have hk:k<n:=by
    have:=List.idxOf_lt_length_iff.2 (fk h2 h1 h3 hc);omega
   exact ⟨hk,(Bx hS hW hc hk).2 ⟨R,hR,he⟩⟩
theorem My (h:IZ n g W=true) (hk:k<n) (h1:W (2*c)=(k:Int)) (h2:W (2*c+1)=(k:Int)):Np n g W c=[k]:=by
 have e:uy W c k=W:=by
  funext i;unfold uy;by_cases q:i / 2=c
  · rw[if_pos q];rcases Nat.mod_two_eq_zero_or_one i with r | r
    · rw[show i=2*c by omega,h1]
    · rw[show i=2*c+1 by omega,h2]
  · rw[if_neg q]
 have hp:∀ j,qI n g W c j=decide (j=k):=fun j=>by
  unfold qI;by_cases q:j=k
  · subst q;rw[e,h,Bool.and_true,decide_eq_true rfl];exact (zu W c j).2 ⟨by omega,by omega⟩
  · rw[decide_eq_false q];cases hs:vR W (c:Int) (j:Int) with
    | false=>rfl
    | true=>have:=(zu W c j).1 hs;omega
 unfold Np;rw[List.filter_congr (fun j _=>hp j)];refine (List.perm_singleton).1 ?_;refine (List.perm_ext_iff_of_nodup (List.Pairwise.filter _ List.nodup_range) (by simp)).2 fun a=>?_;rw[List.mem_filter,List.mem_range,decide_eq_true_iff,List.mem_singleton];exact ⟨fun h=>h.2,fun h=>⟨by omega,h⟩⟩
end
end Go.Eng
end
section
namespace Go.Eng
open Int (ofNat)
open Go.Proofs Go.Eng.Gall
noncomputable def sc (d:Nat):AV:=.slc d 4 0 0 1 1 (some 1)
noncomputable def gr (b0 b1 b2 b3:Nat×an) (c:Int):bG:=⟨false,[b0,b1,b2,b3,(0,.row (.I .i64 [c]))]⟩
noncomputable def qt (j:Int):aC:=[(0,sc 4),(1,jr 2),(7,.int .i64 (ofNat 1)),(8,.int .i64 j)]
theorem Ps (n:Nat) (O:Int) (U:Nat) (Z:Nat→Int) (V:Nat) (J:Nat→Int) (H:ab) (r2:Row) (b0 b1 b2 b3:Nat×an) (c:Int) (j:Int):aS (bQ (n+1) 89 19) (il aF n 1) aR aQ (part Tryd.f89 [1,0,1,0,0]) (hints (qt j)) (av::av::dz O U Z V J::⟨false,[(0,.row r2)]⟩::gr b0 b1 b2 b3 c::H) =
 (fun (Z0:bG)=>((fun (Z1:bG)=>Tr.ite (bM j (ofNat 1)) (Tr.req (c6 j 1) (Tr.req (cg 0 0) (Tr.req (cK (aw 0 j 1) (Gh [c])) (Tr.ite (bM (aI [c] (aw 0 j 1)) (ofNat 0)) (Tr.ok (Ex.ret,[(4,AV.int .i64 j,none)],av::av::Z1::(bz [(0,an.row r2)])::Z0::H)) (Tr.ite (dp (ofNat U) (aI [c] (aw 0 j 1))) (Tr.ok (Ex.ret,[(4,AV.int .i64 j,none)],av::av::Z1::(bz [(0,an.row r2)])::Z0::H)) (Tr.ok (Ex.normal,[(0,AV.slc 4 4 0 0 1 1 (some 1),none),(1,AV.fn (Fn.func 80) [] [AV.ptr 2 0 0 0],none),(7,iI 1,none),(8,AV.int .i64 (bm .i64 j (ofNat 1)),none)],av::av::Z1::(bz [(0,an.row r2)])::Z0::H))))))) (Tr.ok (Ex.exit 0,[(0,AV.slc 4 4 0 0 1 1 (some 1),none),(1,AV.fn (Fn.func 80) [] [AV.ptr 2 0 0 0],none),(7,iI 1,none),(8,AV.int .i64 j,none),(9,AV.bool false,some 1)],av::av::Z1::(bz [(0,an.row r2)])::Z0::H))) (bz [(0,dk O U Z V J)]))) (bz [b0,b1,b2,b3,(0,an.row (Row.I .i64 [c]))]):=by kernel_rfl
theorem Tp (n:Nat) (e:Bool) (G:ab):bg Tryd.prog (cd n) 100000 89 Tryd.f89 (KtG.kt 89) (il aF n 0) (cV aR 0 (qt (ofNat 0)) (av::G) (.ite e (.ok (.ret,[(4,.int .i64 (ofNat 0),none)],av::G)) (.ok (.normal,hints (qt (ofNat 1)++[(9,.bool false)]),av::G)))) aQ [(sc 3,none),(jr 1,none)] G =
 (fun (Z0:aC)=>Tr.reqP (Z0=Z0∧av::G=av::G) (Tr.ite e (Tr.ok ((iI 0,none),G)) (Tr.ok ((AV.int .i64 (Int.negSucc 0),some 1),G)))) [(0,AV.slc 4 4 0 0 1 1 (some 1)),(1,AV.fn (Fn.func 80) [] [AV.ptr 2 0 0 0]),(7,iI 1),(8,iI 0)]:=by kernel_rfl
theorem Tf (n:Nat) (i:Int) (G:ab):bg Tryd.prog (cd n) 100000 67 Tryd.f67 (KtG.kt 67) (il (oo aF 89 [sc 3,jr 1] (av::G) (.ok (.int .i64 i,av::G))) n 0) aR aQ [(sc 2,none),(jr 0,none)] G =
 Tr.reqP ([AV.slc 3 4 0 0 1 1 (some 1),AV.fn (Fn.func 80) [] [AV.ptr 1 0 0 0]]=[AV.slc 3 4 0 0 1 1 (some 1),AV.fn (Fn.func 80) [] [AV.ptr 1 0 0 0]]∧av::G=av::G) (Tr.ok ((AV.bool (dp (ofNat 0) i),none),G)):=by kernel_rfl
theorem Ta (n:Nat) (O:Int) (U:Nat) (Z:Nat→Int) (V:Nat) (J:Nat→Int) (W B:Nat→Int) (G:ab) (e:Int) (q:Bool) (C:List AV→Prop):bg Tryd.prog (cd n) 100000 49 Tryd.f49 (KtG.kt 49) (il (oo (lW (tX aF 22 [a8 O U Z V J] (.int .i64 e)) 62 (fun x=>some (C x,shV O U Z V J W B))) 67 [sc 2,jr 0] (dz O U Z V J::G) (.ok (.bool q,dz O U Z V J::G))) n 0) aR aQ [(a8 O U Z V J,none),(sc 1,none)] G =
 Tr.reqP ([a8 O U Z V J]=[a8 O U Z V J]) (Tr.ite (bF (b9 e (ofNat 0))) (Tr.ok ((AV.tup [AV.nilp,AV.int .i64 e],none),G)) (Tr.reqP ([AV.slc 2 4 0 0 1 1 (some 1),AV.fn (Fn.func 80) [] [AV.ptr 0 0 0 0]]=[AV.slc 2 4 0 0 1 1 (some 1),AV.fn (Fn.func 80) [] [AV.ptr 0 0 0 0]]∧(bz [(0,dk O U Z V J)])::G=(bz [(0,dk O U Z V J)])::G) (Tr.ite q (Tr.ok ((AV.tup [AV.nilp,iI 2],none),G)) (Tr.reqP (C [a8 O U Z V J]) (Tr.ok ((AV.tup [shV O U Z V J W B,iI 0],none),G)))))):=by kernel_rfl
theorem Ti (n:Nat) (O:Int) (U:Nat) (Z:Nat→Int) (V:Nat) (J:Nat→Int) (W B:Nat→Int) (G:ab) (f t:Int):bg Tryd.prog (cd n) 100000 69 Tryd.f69 (KtG.kt 69) (il (oo (tX aF 65 [shV O U Z V J W B] (.tup [.agg (.G [.int .i64 f,.int .i64 t,.nils]),.bool false])) 49 [a8 O U Z V J,sc 1] (dz O U Z V J::G) (.ok (.tup [shV O U Z V J W B,.int .i64 (ofNat 0)],dz O U Z V J::G))) n 0) aR aQ [(a8 O U Z V J,none),(sc 0,none)] G =
 Tr.reqP ([a8 O U Z V J,AV.slc 1 4 0 0 1 1 (some 1)]=[a8 O U Z V J,AV.slc 1 4 0 0 1 1 (some 1)]∧(bz [(0,dk O U Z V J)])::G=(bz [(0,dk O U Z V J)])::G) (Tr.ite (bF (b9 (ofNat 0) (ofNat 0))) (Tr.ok ((AV.tup [AV.nilp,iI 0],none),G)) (Tr.reqP ([shV O U Z V J W B]=[shV O U Z V J W B]) (Tr.ite false (Tr.ok ((AV.tup [AV.nilp,iI 13],none),G)) (Tr.ok ((AV.tup [shV O U Z V J W B,iI 0],none),G))))):=by kernel_rfl
theorem Tj (n:Nat) (O:Int) (U:Nat) (Z:Nat→Int) (V:Nat) (J:Nat→Int) (W B:Nat→Int) (G:ab) (f t:Int) (m:Nat) (y:Nat→Int):bg Tryd.prog (cd n) 100000 69 Tryd.f69 (KtG.kt 69) (il (oo (tX aF 65 [shV O U Z V J W B] (.tup [.agg (.G [.int .i64 f,.int .i64 t,cw m y false]),.bool true])) 49 [a8 O U Z V J,sc 1] (dz O U Z V J::G) (.ok (.tup [shV O U Z V J W B,.int .i64 (ofNat 0)],dz O U Z V J::G))) n 0) aR aQ [(a8 O U Z V J,none),(sc 0,none)] G =
 Tr.reqP ([a8 O U Z V J,AV.slc 1 4 0 0 1 1 (some 1)]=[a8 O U Z V J,AV.slc 1 4 0 0 1 1 (some 1)]∧(bz [(0,dk O U Z V J)])::G=(bz [(0,dk O U Z V J)])::G) (Tr.ite (bF (b9 (ofNat 0) (ofNat 0))) (Tr.ok ((AV.tup [AV.nilp,iI 0],none),G)) (Tr.reqP ([shV O U Z V J W B]=[shV O U Z V J W B]) (Tr.ite true (Tr.ok ((AV.tup [AV.nilp,iI 13],none),G)) (Tr.ok ((AV.tup [shV O U Z V J W B,iI 0],none),G))))):=by kernel_rfl
theorem Tk (n:Nat) (O:Int) (U:Nat) (Z:Nat→Int) (V:Nat) (J:Nat→Int) (G:ab) (e:Int):bg Tryd.prog (cd n) 100000 69 Tryd.f69 (KtG.kt 69) (il (tN (oo aF 49 [a8 O U Z V J,sc 1] (dz O U Z V J::G) (.ok (.tup [.nilp,.int .i64 e],dz O U Z V J::G))) 65) n 0) aR aQ [(a8 O U Z V J,none),(sc 0,none)] G =
 Tr.reqP ([a8 O U Z V J,AV.slc 1 4 0 0 1 1 (some 1)]=[a8 O U Z V J,AV.slc 1 4 0 0 1 1 (some 1)]∧(bz [(0,dk O U Z V J)])::G=(bz [(0,dk O U Z V J)])::G) (Tr.ite (bF (b9 e (ofNat 0))) (Tr.ok ((AV.tup [AV.nilp,AV.int .i64 e],none),G)) Tr.bad):=by kernel_rfl
end Go.Eng
end
section
namespace Go.Eng
open Int (ofNat)
open Go.Proofs Go.Eng.Gall
section
variable (n:Nat) (O:Int) (U:Nat) (Z:Nat→Int) (V:Nat) (J:Nat→Int) (H:ab)
theorem Ql (r2:Row) (b0 b1 b2 b3:Nat×an) (c:Int) (hl:U≤1000):cd (n+3) (.fn 67) [sc 2,jr 0] (dz O U Z V J::⟨false,[(0,.row r2)]⟩::gr b0 b1 b2 b3 c::H)=some (.bool (decide (c<0) || decide ((U:Int)≤c)),dz O U Z V J::⟨false,[(0,.row r2)]⟩::gr b0 b1 b2 b3 c::H):=by
 have i0:aw 0 (ofNat 0) 1=0:=by rw[bJ];rfl
 have l0:aI [c] 0=c:=by rw[fq];rfl
 have s1:bm .i64 (ofNat 0) (ofNat 1)=ofNat 1:=eX (j:=0) wO;have hp:∀ e,(decide (c<0) || decide ((U:Int)≤c))=e→exec (bQ (n+1) 89 19) (.block 0 (.loop (part Tryd.f89 [1,0,1,0,0]))) (qt (ofNat 0)) (av::av::dz O U Z V J::⟨false,[(0,.row r2)]⟩::gr b0 b1 b2 b3 c::H)=some (cond e (.ret,[(4,.int .i64 (ofNat 0))],av::av::dz O U Z V J::⟨false,[(0,.row r2)]⟩::gr b0 b1 b2 b3 c::H) (.normal,qt (ofNat 1)++[(9,.bool false)],av::av::dz O U Z V J::⟨false,[(0,.row r2)]⟩::gr b0 b1 b2 b3 c::H)):=by
  intro e he;have hx:=kb (n:=n+1) (f:=89) (nt:=19) (c:=part Tryd.f89 [1,0,1,0,0]) 0 (fun j=>qt (j:Int)) (fun _=>av::av::dz O U Z V J::⟨false,[(0,.row r2)]⟩::gr b0 b1 b2 b3 c::H) 1 (fun _=>e) (fun _=>([(4,.int .i64 (ofNat 0))],av::av::dz O U Z V J::⟨false,[(0,.row r2)]⟩::gr b0 b1 b2 b3 c::H)) (qt (ofNat 1)++[(9,.bool false)],av::av::dz O U Z V J::⟨false,[(0,.row r2)]⟩::gr b0 b1 b2 b3 c::H) wO (fun j hj=>?_) ?_
  · have ee:eH (fun _=>e) 1=e:=by
     cases e with
     | true=>exact (dJ _ _).2 ⟨0,by omega,rfl⟩
     | false=>exact FM (fun _ _=>rfl)
    rw[ee] at hx;cases e with
    | true=>exact hx
    | false=>exact hx
  · have:j=0:=by omega
    subst this;have T:=Ps n O U Z V J H r2 b0 b1 b2 b3 c (ofNat 0);rw[i0,l0,s1] at T;refine aB T (ff n 1) (aj _ _) (ak _ _) ?_;refine Tr.af (fun h0=>?_) wJ;refine Tr.aa wG (Tr.aa wG (Tr.aa (by simp (disch:=omega) only[nV,nW];rw[ru];exact Nat.zero_lt_one) (Tr.af (fun q=>Tr.ag ?_) (fun q=>Tr.af (fun r=>Tr.ag ?_) (fun r=>Tr.ag ?_)))))
    · rw[bx] at q;have q:decide (c<0)=true:=q;rw[if_pos (by rw[← he,q];rfl)];rfl
    · rw[bh] at r;have r:decide ((U:Int)≤c)=true:=r;rw[if_pos (by rw[← he,r];simp)];rfl
    · rw[bx] at q;rw[bh] at r;have q:decide (c<0)=false:=q;have r:decide ((U:Int)≤c)=false:=r;rw[if_neg (by rw[← he,q,r];decide)];exact ⟨rfl,rfl⟩
  · obtain ⟨x,h1,rfl⟩:=aB (Q:=fun x=>x=(.exit 0,qt (ofNat 1)++[(9,.bool false)],av::av::dz O U Z V J::⟨false,[(0,.row r2)]⟩::gr b0 b1 b2 b3 c::H)) (Ps n O U Z V J H r2 b0 b1 b2 b3 c (ofNat 1)) (ff n 1) (aj _ _) (ak _ _) (by
     refine Tr.af wJ (fun h0=>Tr.ag rfl))
    exact h1
 have h89:cd (n+2) (.fn 89) [sc 3,jr 1] (av::dz O U Z V J::⟨false,[(0,.row r2)]⟩::gr b0 b1 b2 b3 c::H)=some (.int .i64 (cond (decide (c<0) || decide ((U:Int)≤c)) 0 (-1)),av::dz O U Z V J::⟨false,[(0,.row r2)]⟩::gr b0 b1 b2 b3 c::H):=by
  refine bj (n:=n+1) Tryd.func89 rfl rfl rfl (Tp (n+1) (decide (c<0) || decide ((U:Int)≤c)) (av::dz O U Z V J::⟨false,[(0,.row r2)]⟩::gr b0 b1 b2 b3 c::H)) (ay _) (aZ (aj _ _) P8 (fun x h=>eO h (hp _ rfl))) (ak _ _) ?_;refine Tr.ai ⟨rfl,rfl⟩ (Tr.af (fun q=>Tr.ag ⟨?_,rfl⟩) (fun q=>Tr.ag ⟨?_,rfl⟩))
  · rw[q];rfl
  · rw[q];rfl
 refine bj (n:=n+2) Tryd.func67 rfl rfl rfl (Tf (n+2) (cond (decide (c<0) || decide ((U:Int)≤c)) 0 (-1)) (dz O U Z V J::⟨false,[(0,.row r2)]⟩::gr b0 b1 b2 b3 c::H)) (bo _ _ (cj (aN _) (fun x hy=>by rw[← Tr.ae hy];exact h89))) (aj _ _) (ak _ _) ?_;refine Tr.ai ⟨rfl,rfl⟩ (Tr.ag ⟨?_,rfl⟩);rw[bh];cases (decide (c<0) || decide ((U:Int)≤c))<;>rfl
theorem Qf (r2:Row) (b0 b1 b2 b3:Nat×an) (c:Int) (hl:U≤1000) (hb:V≤1000):cd (n+12) (.fn 49) [a8 O U Z V J,sc 1] (⟨false,[(0,.row r2)]⟩::gr b0 b1 b2 b3 c::H)=some (OV O U Z V J c,⟨false,[(0,.row r2)]⟩::gr b0 b1 b2 b3 c::H):=by
 have h22:=fun H=>NG n O U Z V J H hl hb;have h67:cd (n+11) (.fn 67) [sc 2,jr 0] (dz O U Z V J::⟨false,[(0,.row r2)]⟩::gr b0 b1 b2 b3 c::H)=_:=Ql (n+8) O U Z V J H r2 b0 b1 b2 b3 c hl;have ht:(oo (lW (tX aF 22 [a8 O U Z V J] (.int .i64 (cu O U Z V J))) 62 (fun x=>some (x=[a8 O U Z V J]∧cu O U Z V J=0,shV O U Z V J (c9 O U Z) (ia V J)))) 67 [sc 2,jr 0] (dz O U Z V J::⟨false,[(0,.row r2)]⟩::gr b0 b1 b2 b3 c::H) (.ok (.bool (decide (c<0) || decide ((U:Int)≤c)),dz O U Z V J::⟨false,[(0,.row r2)]⟩::gr b0 b1 b2 b3 c::H))).Ok (cd (n+11)) :=
  cj (oR (bO (aN _) h22) (fun A H hA=>by
   obtain ⟨rfl,h0⟩:=hA;obtain ⟨h1,h2,h3,h4,h5,_⟩:=jM h0;exact PS (n+4) O U Z V J H h1.2 hb h3 h4 h5)) (fun x hy=>by rw[← Tr.ae hy];exact h67)
 refine bj (n:=n+11) Tryd.func49 rfl rfl rfl (Ta (n+11) O U Z V J (c9 O U Z) (ia V J) (⟨false,[(0,.row r2)]⟩::gr b0 b1 b2 b3 c::H) (cu O U Z V J) (decide (c<0) || decide ((U:Int)≤c)) (fun x=>x=[a8 O U Z V J]∧cu O U Z V J=0)) (bo _ _ ht) (aj _ _) (ak _ _) ?_;refine Tr.ai rfl (Tr.af (fun q=>Tr.ag ⟨?_,rfl⟩) (fun q=>Tr.ai ⟨rfl,rfl⟩ (Tr.af (fun r=>Tr.ag ⟨?_,rfl⟩) (fun r=>Tr.ai ⟨rfl,?_⟩ (Tr.ag ⟨?_,rfl⟩)))))
 · rw[ar,aE] at q;have h:¬ cu O U Z V J=0:=by simpa using q
   have e:nz O U Z V J c=cu O U Z V J:=by unfold nz;rw[if_neg h]
   unfold OV;rw[e,if_neg h]
 all_goals rw[ar,aE] at q
 all_goals have h:cu O U Z V J=0:=by simpa using q
 · rw[Bool.or_eq_true,decide_eq_true_iff,decide_eq_true_iff] at r;have e:nz O U Z V J c=2:=by unfold nz;rw[if_pos h,if_pos r]
   unfold OV;rw[e];rfl
 · exact h
 · rw[Bool.or_eq_false_iff,decide_eq_false_iff_not,decide_eq_false_iff_not] at r;have e:nz O U Z V J c=0:=by unfold nz;rw[if_pos h,if_neg wO]
   unfold OV;rw[e,if_pos rfl];rfl
noncomputable def Sv (c:Int):AV:=if nz O U Z V J c=0 then Jb O U Z V J else .tup [.nilp,.int .i64 (nz O U Z V J c)]
theorem Qq (b0 b1 b2 b3:Nat×an) (c:Int) (hl:U≤1000) (hb:V≤1000):cd (n+13) (.fn 69) [a8 O U Z V J,sc 0] (gr b0 b1 b2 b3 c::H)=some (Sv O U Z V J c,gr b0 b1 b2 b3 c::H):=by
 have h49:cd (n+12) (.fn 49) [a8 O U Z V J,sc 1] (dz O U Z V J::gr b0 b1 b2 b3 c::H)=_:=Qf n O U Z V J H (.G [.int .i64 O,slA 4 U Z,slA 2 V J]) b0 b1 b2 b3 c hl hb;unfold Sv;unfold OV at h49;by_cases he:nz O U Z V J c=0
 · rw[if_pos he] at h49 ⊢;obtain ⟨h0,_⟩:=Iq he;obtain ⟨h1,h2,h3,h4,h5,h6⟩:=jM h0;have hS:=zn O U Z V J h1.2 h3 h4 h5 h6;have h65:=fun H=>PT (n+9) O U Z V J (c9 O U Z) H (fun c=>cZ J c V) hS;unfold Jb EN;generalize qB (gK U (fun c=>cZ J c V) (c9 O U Z))=q at *;generalize jg q U U=d at *;cases d with
   | none =>
     rw[if_pos rfl];refine bj (n:=n+12) Tryd.func69 rfl rfl rfl (Ti (n+12) O U Z V J (c9 O U Z) (ia V J) (gr b0 b1 b2 b3 c::H) (ofNat 0) (ofNat 0)) (bo _ _ (cj (bO (aN _) h65) (fun x hy=>by rw[← Tr.ae hy];exact h49))) (aj _ _) (ak _ _) ?_;exact Tr.ai ⟨rfl,rfl⟩ (Tr.af (fun q=>by simp[ar,aE] at q) (fun _=>Tr.ai rfl (Tr.af (fun q=>by cases q) (fun _=>Tr.ag ⟨rfl,rfl⟩))))
   | some v =>
     obtain ⟨f,t⟩:=v;rw[if_neg (by intro h;cases h)];refine bj (n:=n+12) Tryd.func69 rfl rfl rfl (Tj (n+12) O U Z V J (c9 O U Z) (ia V J) (gr b0 b1 b2 b3 c::H) f t (dN q f t U).length (aI (dN q f t U))) (bo _ _ (cj (bO (aN _) h65) (fun x hy=>by rw[← Tr.ae hy];exact h49))) (aj _ _) (ak _ _) ?_;exact Tr.ai ⟨rfl,rfl⟩ (Tr.af (fun q=>by simp[ar,aE] at q) (fun _=>Tr.ai rfl (Tr.af (fun _=>Tr.ag ⟨rfl,rfl⟩) (fun q=>by cases q))))
 · rw[if_neg he] at h49 ⊢;refine bj (n:=n+12) Tryd.func69 rfl rfl rfl (Tk (n+12) O U Z V J (gr b0 b1 b2 b3 c::H) (nz O U Z V J c)) (bo _ _ (eA (cj (aN _) (fun x hy=>by rw[← Tr.ae hy];exact h49)))) (aj _ _) (ak _ _) ?_;refine Tr.ai ⟨rfl,rfl⟩ (Tr.af (fun _=>Tr.ag ⟨rfl,rfl⟩) (fun q=>?_));rw[ar,aE] at q;exact absurd (by simpa using q) he
end
end Go.Eng
end
