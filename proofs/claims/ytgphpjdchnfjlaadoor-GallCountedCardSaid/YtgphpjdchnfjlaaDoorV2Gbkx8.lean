/- Gall: Must: trees. -/
import Derived.Test.YtgphpjdchnfjlaaDoorV2Gbfx6
set_option linter.unusedVariables false
set_option linter.unusedSimpArgs false
set_option maxRecDepth 100000
section
namespace Go.Eng
open Go.Proofs Go.Eng.Gall
noncomputable def sA (dr:Int) (lc:Nat) (zc:Nat→Int) (lb:Nat) (zb:Nat→Int) (W B:Nat→Int) (a b:Int):bA:=⟨false,[(0,.row (.G [.int .i64 dr,slA 4 lc zc,slA 2 lb zb])),(0,.row (.I .i64 [a,b])),(0,.row (shR dr lc zc lb zb W B))]⟩
theorem u32 (n:Nat) (dr:Int) (lc:Nat) (zc:Nat→Int) (lb:Nat) (zb:Nat→Int) (W B:Nat→Int) (H:aa) (a b:Int) (k x:Bool) (f t:Int) (A:AV):bE Tryd.prog (cd n) 100000 32 Tryd.f32 (KtG.kt 32) (il (Bq (Bq (Bq a6 69 [di dr lc zc lb zb,vv 0] (dF (.G [.int .i64 dr,slA 4 lc zc,slA 2 lb zb]) a b::H) (.ok (.tup [shV dr lc zc lb zb W B,.int .i64 (Int.ofNat 0)],dF (.G [.int .i64 dr,slA 4 lc zc,slA 2 lb zb]) a b::H))) 63 [.ptr 0 2 0 0] (sA dr lc zc lb zb W (eW B (dD (aC 23 a 1) 23) (pU .u64 (B (dD (aC 23 a 1) 23)) (dO .u64 (Int.ofNat 1) b))) a b::H) (.ok (.bool k,sA dr lc zc lb zb W (eW B (dD (aC 23 a 1) 23) (pU .u64 (B (dD (aC 23 a 1) 23)) (dO .u64 (Int.ofNat 1) b))) a b::H))) 65 [.ptr 0 2 0 0] (sA dr lc zc lb zb W (eW B (dD (aC 23 a 1) 23) (pU .u64 (B (dD (aC 23 a 1) 23)) (dO .u64 (Int.ofNat 1) b))) a b::H) (.ok (.tup [.agg (.G [.int .i64 f,.int .i64 t,.undef]),.bool x],sA dr lc zc lb zb W (eW B (dD (aC 23 a 1) 23) (pU .u64 (B (dD (aC 23 a 1) 23)) (dO .u64 (Int.ofNat 1) b))) a b::H))) n 0) bp br [(di dr lc zc lb zb,none),(.int .i64 a,none),(.int .i64 b,none)] H =
 (fun (Z0:bA)=>((fun (Z1:Row)=>Tr.reqP ([AV.agg Z1,AV.slc 0 1 0 0 1 2 (some 2)]=[AV.agg Z1,AV.slc 0 1 0 0 1 2 (some 2)]∧{ lock:=false,bs:=[(0,aq.row Z1),(0,aq.row (Row.I .i64 [a,b]))] } :: H={ lock:=false,bs:=[(0,aq.row Z1),(0,aq.row (Row.I .i64 [a,b]))] } :: H) (Tr.ite (bL (cJ (Int.ofNat 0) (Int.ofNat 0))) (Tr.ok ((AV.tup [AV.bool false,AV.int .i64 (Int.ofNat 0)],none),H)) (Tr.ite (cJ a b) (Tr.ok ((AV.tup [AV.bool false,AV.int .i64 (Int.ofNat 0)],none),H)) (Tr.req (dj a 10) (Tr.req (cG 0 0) (Tr.req (fC (aC 23 a 1) 1 23 10) (Tr.req (dN (Int.ofNat 0) b) (Tr.req (dj a 10) (Tr.req (cG 0 0) (Tr.req (fC (aC 23 a 1) 1 23 10) (Tr.req (b7 (gm 0 0) (gm 0 1)) (Tr.reqP ([AV.ptr 0 2 0 0]=[AV.ptr 0 2 0 0]∧Z0::H=Z0::H) (Tr.ite k (Tr.ok ((AV.tup [AV.bool true,AV.int .i64 (Int.ofNat 0)],none),H)) (Tr.reqP ([AV.ptr 0 2 0 0]=[AV.ptr 0 2 0 0]∧Z0::H=Z0::H) (Tr.ok ((AV.tup [AV.bool x,AV.int .i64 (Int.ofNat 0)],none),H)))))))))))))))) (Row.G [AV.int .i64 dr,AV.slcT none (Row.M [an.arr .i64 zc (ar lc 4)]) 4 lc false,AV.slcT none (Row.M [an.arr .i64 zb (ar lb 2)]) 2 lb false]))) { lock:=false,bs:=[(0,aq.row (Row.G [AV.int .i64 dr,AV.slcT none (Row.M [an.arr .i64 zc (ar lc 4)]) 4 lc false,AV.slcT none (Row.M [an.arr .i64 zb (ar lb 2)]) 2 lb false])),(0,aq.row (Row.I .i64 [a,b])),(0,aq.row (Row.M [an.one (AV.int .i64 dr),an.one (AV.slcT none (Row.M [an.arr .i64 zc (ar lc 4)]) 4 lc false),an.one (AV.slcT none (Row.M [an.arr .i64 zb (ar lb 2)]) 2 lb false),an.arr .i64 W 20,an.arr IntKind.u64 (eW B (dD (aC 23 a 1) 23) (pU IntKind.u64 (B (dD (aC 23 a 1) 23)) (dO IntKind.u64 (Int.ofNat 1) b))) 10]))] }:=by kernel_rfl
theorem Qz (n:Nat) (dr:Int) (lc:Nat) (zc:Nat→Int) (lb:Nat) (zb:Nat→Int) (W B:Nat→Int) (H:aa) (a b:Int):bE Tryd.prog (cd n) 100000 32 Tryd.f32 (KtG.kt 32) (il (tN (tN (Bq a6 69 [di dr lc zc lb zb,vv 0] (dF (.G [.int .i64 dr,slA 4 lc zc,slA 2 lb zb]) a b::H) (.ok (.tup [.nilp,.int .i64 (Int.ofNat 13)],dF (.G [.int .i64 dr,slA 4 lc zc,slA 2 lb zb]) a b::H))) 63) 65) n 0) bp br [(di dr lc zc lb zb,none),(.int .i64 a,none),(.int .i64 b,none)] H =
 (fun (Z0:Row)=>Tr.reqP ([AV.agg Z0,AV.slc 0 1 0 0 1 2 (some 2)]=[AV.agg Z0,AV.slc 0 1 0 0 1 2 (some 2)]∧{ lock:=false,bs:=[(0,aq.row Z0),(0,aq.row (Row.I .i64 [a,b]))] } :: H={ lock:=false,bs:=[(0,aq.row Z0),(0,aq.row (Row.I .i64 [a,b]))] } :: H) (Tr.ite (bL (cJ (Int.ofNat 13) (Int.ofNat 0))) (Tr.ok ((AV.tup [AV.bool false,AV.int .i64 (Int.ofNat 13)],none),H)) (Tr.ite (cJ a b) (Tr.ok ((AV.tup [AV.bool false,AV.int .i64 (Int.ofNat 13)],none),H)) Tr.bad))) (Row.G [AV.int .i64 dr,AV.slcT none (Row.M [an.arr .i64 zc (ar lc 4)]) 4 lc false,AV.slcT none (Row.M [an.arr .i64 zb (ar lb 2)]) 2 lb false]):=by kernel_rfl
theorem Qy (n:Nat) (dr:Int) (lc:Nat) (zc:Nat→Int) (lb:Nat) (zb:Nat→Int) (W B:Nat→Int) (H:aa) (a b:Int) (k:Bool):bE Tryd.prog (cd n) 100000 32 Tryd.f32 (KtG.kt 32) (il (tN (Bq (Bq a6 69 [di dr lc zc lb zb,vv 0] (dF (.G [.int .i64 dr,slA 4 lc zc,slA 2 lb zb]) a b::H) (.ok (.tup [shV dr lc zc lb zb W B,.int .i64 (Int.ofNat 0)],dF (.G [.int .i64 dr,slA 4 lc zc,slA 2 lb zb]) a b::H))) 63 [.ptr 0 2 0 0] (sA dr lc zc lb zb W (eW B (dD (aC 23 a 1) 23) (pU .u64 (B (dD (aC 23 a 1) 23)) (dO .u64 (Int.ofNat 1) b))) a b::H) (.ok (.bool k,sA dr lc zc lb zb W (eW B (dD (aC 23 a 1) 23) (pU .u64 (B (dD (aC 23 a 1) 23)) (dO .u64 (Int.ofNat 1) b))) a b::H))) 65) n 0) bp br [(di dr lc zc lb zb,none),(.int .i64 a,none),(.int .i64 b,none)] H =
 (fun (Z0:Row)=>((fun (Z1:bA)=>Tr.reqP ([AV.agg Z0,AV.slc 0 1 0 0 1 2 (some 2)]=[AV.agg Z0,AV.slc 0 1 0 0 1 2 (some 2)]∧{ lock:=false,bs:=[(0,aq.row Z0),(0,aq.row (Row.I .i64 [a,b]))] } :: H={ lock:=false,bs:=[(0,aq.row Z0),(0,aq.row (Row.I .i64 [a,b]))] } :: H) (Tr.ite (bL (cJ (Int.ofNat 0) (Int.ofNat 0))) (Tr.ok ((AV.tup [AV.bool false,AV.int .i64 (Int.ofNat 0)],none),H)) (Tr.ite (cJ a b) (Tr.ok ((AV.tup [AV.bool false,AV.int .i64 (Int.ofNat 0)],none),H)) (Tr.req (dj a 10) (Tr.req (cG 0 0) (Tr.req (fC (aC 23 a 1) 1 23 10) (Tr.req (dN (Int.ofNat 0) b) (Tr.req (dj a 10) (Tr.req (cG 0 0) (Tr.req (fC (aC 23 a 1) 1 23 10) (Tr.req (b7 (gm 0 0) (gm 0 1)) (Tr.reqP ([AV.ptr 0 2 0 0]=[AV.ptr 0 2 0 0]∧Z1::H=Z1::H) (Tr.ite k (Tr.ok ((AV.tup [AV.bool true,AV.int .i64 (Int.ofNat 0)],none),H)) Tr.bad))))))))))))) { lock:=false,bs:=[(0,aq.row Z0),(0,aq.row (Row.I .i64 [a,b])),(0,aq.row (Row.M [an.one (AV.int .i64 dr),an.one (AV.slcT none (Row.M [an.arr .i64 zc (ar lc 4)]) 4 lc false),an.one (AV.slcT none (Row.M [an.arr .i64 zb (ar lb 2)]) 2 lb false),an.arr .i64 W 20,an.arr IntKind.u64 (eW B (dD (aC 23 a 1) 23) (pU IntKind.u64 (B (dD (aC 23 a 1) 23)) (dO IntKind.u64 (Int.ofNat 1) b))) 10]))] })) (Row.G [AV.int .i64 dr,AV.slcT none (Row.M [an.arr .i64 zc (ar lc 4)]) 4 lc false,AV.slcT none (Row.M [an.arr .i64 zb (ar lb 2)]) 2 lb false]):=by kernel_rfl
end Go.Eng
end
section
namespace Go.Eng
open Go.Proofs Go.Eng.Gall
def gH (g:Nat→Nat) (a b:Nat) (c:Nat):Nat:=if c=a then g a ||| 2 ^ b else g c
section
variable (n:Nat) (dr:Int) (lc:Nat) (zc:Nat→Int) (lb:Nat) (zb:Nat→Int) (H:aa) (a b:Nat)
noncomputable def Py:AV:=if yi dr lc zc lb zb=none then .tup [.bool (!decide (a=b) && (fB lc (gH (fun c=>cI zb c lb) a b) || (jq (qB (hJ lc (gH (fun c=>cI zb c lb) a b) (fc dr lc zc))) lc lc).isSome)),.int .i64 0] else .tup [.bool false,.int .i64 13]
theorem J0 (hl:lc≤10) (hp:fH lc lb zb) (hb:b<lc):eW (jl lb zb) a (pU .u64 (jl lb zb a) (dO .u64 (Int.ofNat 1) (b:Int)))=bI (gH (fun c=>cI zb c lb) a b):=by
 have h1:∀ c,cI zb c lb<2 ^ lc:=fun c=>pq zb c lc lb fun i hi=>(hp i hi).1
 have h2:cI zb a lb<2 ^ 63:=Nat.lt_of_lt_of_le (h1 a) (Nat.pow_le_pow_right (by omega) (by omega))
 have h3:2 ^ b<2 ^ 63:=Nat.pow_lt_pow_right (by omega) (by omega)
 rw[lg,AO (by omega),show jl lb zb a=(cI zb a lb:Int) from rfl,N1 h2 h3]
 funext c
 unfold bI gH
 by_cases e:c=a
 · rw[if_pos e,if_pos e]
 · rw[if_neg e,if_neg e];rfl
theorem D0 (hp:fH lc lb zb) (hb:b<lc) (c:Nat):gH (fun c=>cI zb c lb) a b c<2 ^ lc:=by
 have h1:∀ c,cI zb c lb<2 ^ lc:=fun c=>pq zb c lc lb fun i hi=>(hp i hi).1
 unfold gH
 split
 · exact Nat.or_lt_two_pow (h1 a) (Nat.pow_lt_pow_right (by omega) hb)
 · exact h1 c
theorem FA {c f i:Nat} {H:aa} {r:Row} {v:AV} {H':aa} (hf:f=63∨f=65) (hr:cK H 0 i 0=some r) (hh:FN r=true) (h:cd c (.fn f) [.ptrT none r 0] [⟨true,[]⟩]=some (v,H')):ka (cd c) f [.ptr 0 i 0 0] H=some (Kj v,H):=by
 have e:Ni (cd c) f [.ptr 0 i 0 0] H=some (Kj v,H):=by
  show (match cK H 0 i 0 with
   | some r=>if (FN r && [].all (sN 9))=true then (match cd c (.fn f) (.ptrT none r 0::[]) [⟨true,[]⟩] with
     | some (v,_)=>some (Kj v,H)
     | none=>none) else none
   | none=>none)=_
  rw[hr];dsimp only
  rw[hh,h];rfl
 have e2:ka (cd c) f [.ptr 0 i 0 0] H=(match Ni (cd c) f [.ptr 0 i 0 0] H with
  | some x=>some x
  | none=>wv [⟨15,[],.bool true⟩] (cd c) f [.ptr 0 i 0 0] H):=by rcases hf with rfl | rfl<;>rfl
 rw[e2,e]
theorem Pv (W:Nat→Int) (g:Nat→Nat) (x y:Int) (hl:lc≤10) (hg:∀ c,c<lc→g c<2 ^ 62):cd (n+3) (.fn 63) [.ptr 0 2 0 0] (sA dr lc zc lb zb W (bI g) x y::H)=some (.bool (fB lc g),sA dr lc zc lb zb W (bI g) x y::H):=by
 have h:=RC n dr lc zc lb zb W g [⟨true,[]⟩] hl hg
 refine rP ?_
 rw[FA (.inl rfl) (r:=shR dr lc zc lb zb W (bI g)) rfl rfl h];rfl
theorem Px (W:Nat→Int) (g:Nat→Nat) (x y:Int) (hS:lz lc W g):∃ f t,cd (n+4) (.fn 65) [.ptr 0 2 0 0] (sA dr lc zc lb zb W (bI g) x y::H)=some (.tup [.agg (.G [.int .i64 f,.int .i64 t,.undef]),.bool (jq (qB (hJ lc g W)) lc lc).isSome],sA dr lc zc lb zb W (bI g) x y::H):=by
 have h:=RD n dr lc zc lb zb W [⟨true,[]⟩] g hS
 have e:=FA (.inr rfl) (H:=sA dr lc zc lb zb W (bI g) x y::H) (i:=2) (r:=shR dr lc zc lb zb W (bI g)) rfl rfl h
 cases hc:jq (qB (hJ lc g W)) lc lc with
 | none =>
   rw[hc] at e
   exact ⟨Int.ofNat 0,Int.ofNat 0,rP e⟩
 | some v =>
   obtain ⟨f,t⟩:=v
   rw[hc] at e
   exact ⟨f,t,rP e⟩
theorem R5 (hlb:lb≤1000) (h0:dX          dr lc zc lb zb=0) (ha:a<lc) (hb:b<lc):cd (n+14) (.fn 32) [di dr lc zc lb zb,.int .i64 (a:Int),.int .i64 (b:Int)] H=some (Py dr lc zc lb zb a b,H):=by
 obtain ⟨h1,h2,h3,h4,h5,h6⟩:=qL h0
 have h69:cd (n+13) (.fn 69) [di dr lc zc lb zb,vv 0] (dF (.G [.int .i64 dr,slA 4 lc zc,slA 2 lb zb]) (a:Int) (b:Int)::H)=_:=Oj n dr lc zc lb zb H (.G [.int .i64 dr,slA 4 lc zc,slA 2 lb zb]) a b hlb h0 (by omega) (by omega)
 have ea:dD (aC 23 (a:Int) 1) 23=a:=by rw[bY,gf];omega
 have eu:=J0 lc lb zb a b h1.2 h5 hb
 have hlt:=D0 lc lb zb a b h5 hb
 unfold Py
 by_cases hp:yi dr lc zc lb zb=none
 · rw[if_pos hp]
   have e9:LF dr lc zc lb zb=.tup [H4 dr lc zc lb zb,.int .i64 (Int.ofNat 0)]:=by unfold LF;rw[if_pos hp]
   rw[e9] at h69
   have h63:=Pv (n+10) dr lc zc lb zb H (fc dr lc zc) (gH (fun c=>cI zb c lb) a b) (a:Int) (b:Int) h1.2 (fun c _=>Nat.lt_of_lt_of_le (hlt c) (Nat.pow_le_pow_right (by omega) (by omega)))
   by_cases hk:fB lc (gH (fun c=>cI zb c lb) a b)=true
   · have T:=Qy (n+13) dr lc zc lb       zb (fc dr lc zc) (jl lb zb) H a b (fB lc (gH (fun c=>cI zb c lb) a b))
     rw[ea,eu] at T
     refine bV (n:=n+13) Tryd.func32 rfl rfl rfl T (bZ _ _ (qI (ia (ia (bx _) (fun x hy=>by rw[← Tr.ae hy];exact h69)) (fun x hy=>by rw[← Tr.ae hy];exact h63)))) (ak _ _) (al _ _) ?_
     rw[hk,Bool.true_or,Bool.and_true]
     refine Tr.aj ⟨rfl,rfl⟩ (Tr.af (fun q=>by simp[aY,aT] at q) (fun _=>Tr.af (fun q=>Tr.ah ⟨?_,rfl⟩) (fun q=>?_)))
     all_goals rw[aT] at q
     · rw[decide_eq_true (show a=b by    have:(a:Int)=b:=by simpa using q
                                         omega)];rfl
     · have hne:¬ a=b:=by intro e;subst e;simp at q
       rw[decide_eq_false hne]
       exact Tr.ab (by simp (disch:=omega) only[nV,nW];omega) (Tr.ab (by simp (disch:=omega) only[nV,nW]) (Tr.ab (by simp (disch:=omega) only[nV,nW];omega) (Tr.ab (by simp (disch:=omega) only[nV,nW];omega) (Tr.ab (by simp (disch:=omega) only[nV,nW];omega) (Tr.ab (by simp (disch:=omega) only[nV,nW]) (Tr.ab (by simp (disch:=omega) only[nV,nW];omega) (Tr.ab (by simp (disch:=omega) only[nV,nW];try omega) (Tr.aj ⟨rfl,rfl⟩ (Tr.af (fun _=>Tr.ah ⟨rfl,rfl⟩) (fun q=>by cases q))))))))))
   · have hk:fB lc (gH (fun c=>cI        zb c lb) a b)=false:=by simpa using hk
     have hS0:=H7 dr lc zc lb zb h1.2 h3 h4 h5 h6
     have hS:lz lc (fc dr lc zc) (gH (fun c=>cI zb c lb) a b):=⟨h1.2,hS0.win,hS0.zer,fun c _=>hlt c,fun c hc=>by unfold gH;rw[if_neg (by omega)];exact hS0.off c hc,hk⟩
     obtain ⟨f,t,h65⟩:=Px (n+9) dr lc zc lb zb H (fc dr lc zc) (gH (fun c=>cI zb c lb) a b) (a:Int) (b:Int) hS
     have T:=u32 (n+13) dr lc zc lb zb (fc dr lc zc) (jl lb zb) H a b (fB lc (gH (fun c=>cI zb c lb) a b)) (jq (qB (hJ lc (gH (fun c=>cI zb c lb) a b) (fc dr lc zc))) lc lc).isSome f t .undef
     rw[ea,eu] at T
     refine bV (n:=n+13) Tryd.func32 rfl rfl rfl T (bZ _ _ (ia (ia (ia (bx _) (fun x hy=>by rw[← Tr.ae hy];exact h69)) (fun x hy=>by rw[← Tr.ae hy];exact h63)) (fun x hy=>by rw[← Tr.ae hy];exact h65))) (ak _ _) (al _ _) ?_
     rw[hk,Bool.false_or]
     refine Tr.aj ⟨rfl,rfl⟩ (Tr.af (fun q=>by simp[aY,aT] at q) (fun _=>Tr.af (fun q=>Tr.ah ⟨?_,rfl⟩) (fun q=>?_)))
     all_goals rw[aT] at q
     · rw[decide_eq_true (show a=b by    have:(a:Int)=b:=by simpa using q
                                         omega)];rfl
     · have hne:¬ a=b:=by intro e;subst e;simp at q
       rw[decide_eq_false hne,Bool.not_false,Bool.true_and]
       exact Tr.ab (by simp (disch:=omega) only[nV,nW];omega) (Tr.ab (by simp (disch:=omega) only[nV,nW]) (Tr.ab (by simp (disch:=omega) only[nV,nW];omega) (Tr.ab (by simp (disch:=omega) only[nV,nW];omega) (Tr.ab (by simp (disch:=omega) only[nV,nW];omega) (Tr.ab (by simp (disch:=omega) only[nV,nW]) (Tr.ab (by simp (disch:=omega) only[nV,nW];omega) (Tr.ab (by simp (disch:=omega) only[nV,nW];try omega) (Tr.aj ⟨rfl,rfl⟩ (Tr.af (fun q=>by cases q) (fun _=>Tr.aj ⟨rfl,rfl⟩ (Tr.ah ⟨rfl,rfl⟩)))))))))))
 · rw[if_neg hp]
   have e9:LF dr lc zc lb zb=.tup [.nilp,.int .i64 (Int.ofNat 13)]:=by unfold LF;rw[if_neg hp]
   rw[e9] at h69
   refine bV (n:=n+13) Tryd.func32 rfl rfl rfl (Qz (n+13) dr lc zc lb zb (fc dr lc zc) (jl lb zb) H a b) (bZ _ _ (qI (qI (ia (bx _) (fun x hy=>by rw[← Tr.ae hy];exact h69))))) (ak _ _) (al _ _) ?_
   exact Tr.aj ⟨rfl,rfl⟩ (Tr.af (fun _=>Tr.ah ⟨rfl,rfl⟩) (fun q=>by simp[aY,aT] at q))
end
end Go.Eng
end
section
namespace Go.Eng
open Go.Proofs Go.Eng.Gall Go.Eng.Q
theorem mh (n:Nat) (ok:Nat→Nat→Nat→Bool):∀ k,(ro n ok k).Nodup
 | 0=>by show [[]].Nodup;simp
 | k + 1=>by
   have ih:=mh n ok k
   show ((ro n ok k).flatMap fun L=>(nx ok n k (mask L)).map fun c=>L++[c]).Nodup
   rw[List.Nodup,List.flatMap,List.pairwise_flatten]
   refine ⟨fun l hl=>?_,?_⟩
   · obtain ⟨L,hL,rfl⟩:=List.mem_map.1 hl
     rw[List.pairwise_map]
     have hn:(nx ok n k (mask L)).Nodup:=List.Pairwise.filter _ List.nodup_range
     exact hn.imp (fun h e=>h (by simpa using e))
   · rw[List.pairwise_map]
     refine ih.imp (fun h x hx y hy e=>?_)
     obtain ⟨c,_,rfl⟩:=List.mem_map.1 hx
     obtain ⟨d,_,rfl⟩:=List.mem_map.1 hy
     have:=congrArg List.dropLast e
     simp only[List.dropLast_concat] at this
     exact h this
section
variable {n:Nat} {g:Nat→Nat} {W:Nat→Int}
theorem GF (hn:n≤10) (hg:∀ c,c<n→g c<2 ^ n) (hk:fB n g=true):ro n (okW W (bI g)) n=[]:=by
 refine List.eq_nil_iff_forall_not_mem.2 fun L hL=>?_
 obtain ⟨h1,h2,h3,h4⟩:=(mi hn hg).1 hL
 have key:∀ t c,bD n g t c=true→c<n∧t≤L.idxOf c:=by
  intro t
  induction t with
  | zero=>intro c h;exact ⟨mc h,Nat.zero_le _⟩
  | succ t ih =>
    intro c h
    obtain ⟨hc,a,ha,hab⟩:=ga.1 h
    have hcL:c ∈ L:=fa h2 h1 h3 hc
    obtain ⟨hi,he⟩:=fK hcL
    have hm:=(h4 _ hi).1 a (by rw[he];exact hab)
    have:=rz hm
    have:=(ih a ha).2
    exact ⟨hc,by omega⟩
 unfold fB at hk
 obtain ⟨c,hc,hon⟩:=List.any_eq_true.1 hk
 obtain ⟨hcn,hle⟩:=key n c hon
 obtain ⟨hi,_⟩:=fK (fa h2 h1 h3 hcn)
 omega
theorem vI {a b c x:Nat}:(gH g a b c).testBit x=((g c).testBit x || (decide (c=a) && decide (x=b))):=by
 unfold gH
 by_cases e:c=a
 · rw[if_pos e,decide_eq_true e,Bool.true_and,Nat.testBit_or,Nat.testBit_two_pow]
   subst e
   congr 1
   rw[decide_eq_decide];exact eq_comm
 · rw[if_neg e,decide_eq_false e,Bool.false_and,Bool.or_false]
theorem EN {L:List Nat} (hn:L.Nodup) {i x:Nat} (hx:x ∈ L) (h:L.idxOf x<i):x ∈ L.take i:=by
 obtain ⟨hi,he⟩:=fK hx
 refine List.mem_iff_getElem.2 ⟨L.idxOf x,by rw[List.length_take];omega,?_⟩
 rw[List.getElem_take];exact he
theorem Ky {L:List Nat} (hn:L.Nodup) {i:Nat} (hi:i<L.length):L.idxOf L[i]=i:=by
 obtain ⟨hj,he⟩:=fK (List.getElem_mem hi)
 rcases Nat.lt_trichotomy (L.idxOf L[i]) i with q | q | q
 · exact absurd he ((List.pairwise_iff_getElem.1 hn) _ _ hj hi q)
 · exact q
 · exact absurd he.symm ((List.pairwise_iff_getElem.1 hn) _ _ hi hj q)
theorem IY (hn:n≤10) (hg:∀ c,c<n→g c<2 ^ n) {a b:Nat} (ha:a<n) (hb:b<n) (L:List Nat):L ∈ ro n (okW W (bI (gH g a b))) n↔L ∈ ro n (okW W (bI g)) n∧L.idxOf b<L.idxOf a:=by
 have hg':∀ c,c<n→gH g a b c<2 ^ n:=fun c hc=>by
  unfold gH
  split
  · exact Nat.or_lt_two_pow (hg _ (by omega)) (Nat.pow_lt_pow_right (by omega) hb)
  · exact hg c hc
 rw[mi hn hg',mi hn hg]
 constructor
 · rintro ⟨h1,h2,h3,h4⟩
   refine ⟨⟨h1,h2,h3,fun i hi=>⟨fun x hx=>(h4 i hi).1 x (by rw[vI,hx];rfl),(h4 i hi).2⟩⟩,?_⟩
   obtain ⟨hi,he⟩:=fK (fa h2 h1 h3 ha)
   exact rz ((h4 _ hi).1 b (by rw[vI,he];simp))
 · rintro ⟨⟨h1,h2,h3,h4⟩,h5⟩
   refine ⟨h1,h2,h3,fun i hi=>⟨fun x hx=>?_,(h4 i hi).2⟩⟩
   rw[vI,Bool.or_eq_true,Bool.and_eq_true,decide_eq_true_iff,decide_eq_true_iff] at hx
   rcases hx with hx | ⟨e1,rfl⟩
   · exact (h4 i hi).1 x hx
   · refine EN h2 (fa h2 h1 h3 hb) ?_
     rw[← e1,Ky h2 hi] at h5;exact h5
theorem EV {α:Type} [DecidableEq α] {l m:List α} (h1:l.Nodup) (h2:m.Nodup) (h:∀ x,x ∈ l↔x ∈ m):l.length=m.length :=
 ((List.perm_ext_iff_of_nodup h1 h2).2 h).length_eq
theorem HN (hn:n≤10) (hg:∀ c,c<n→g c<2 ^ n) {a b:Nat} (ha:a<n) (hb:b<n) (hab:a≠b):(ro n (okW W (bI g)) n).length=(ro n (okW W (bI (gH g b a))) n).length+(ro n (okW W (bI (gH g a b))) n).length:=by
 have e1:(ro n (okW W (bI (gH g b a))) n).length=((ro n (okW W (bI g)) n).filter fun L=>decide (L.idxOf a<L.idxOf b)).length :=
  EV (mh _ _ _) (List.Pairwise.filter _ (mh _ _ _)) (fun L=>by rw[IY hn hg hb ha,List.mem_filter,decide_eq_true_iff])
 have e2:(ro n (okW W (bI (gH g a b))) n).length=((ro n (okW W (bI g)) n).filter fun L=>!decide (L.idxOf a<L.idxOf b)).length :=
  EV (mh _ _ _) (List.Pairwise.filter _ (mh _ _ _)) (fun L=>by
   rw[IY hn hg ha hb,List.mem_filter,Bool.not_eq_true',decide_eq_false_iff_not]
   constructor
   · rintro ⟨h,h2⟩;exact ⟨h,by omega⟩
   · rintro ⟨h,h2⟩
     refine ⟨h,?_⟩
     obtain ⟨h1,h4,h3⟩:=pY h
     obtain ⟨i1,e1⟩:=fK (fa h4 h1 h3 ha)
     obtain ⟨i2,e2⟩:=fK (fa h4 h1 h3 hb)
     have:L.idxOf a≠L.idxOf b:=fun e=>hab (by rw[← e1,← e2];congr 1)
     omega)
 rw[e1,e2]
 generalize ro n (okW W (bI g)) n=l
 induction l with
 | nil=>rfl
 | cons x l ih =>
   by_cases h:x.idxOf a<x.idxOf b
   · rw[List.filter_cons_of_pos (by simpa using h),List.filter_cons_of_neg (by simpa using h)]
     simp only[List.length_cons];omega
   · rw[List.filter_cons_of_neg (by simpa using h),List.filter_cons_of_pos (by simpa using h)]
     simp only[List.length_cons];omega
end
end Go.Eng
end
section
namespace Go.Eng
open Go.Proofs Go.Eng.Gall Go.Eng.Q
section
variable {dr:Int} {lc:Nat} {zc:Nat→Int} {lb:Nat} {zb zb2:Nat→Int} {a b:Nat}
theorem xa (h:∀ i,i<lb*2→zb2 i=zb i) (c:Nat):∀ j,j≤lb→cI zb2 c j=cI zb c j
 | 0,_=>rfl
 | j+1,hj=>by
   unfold cI
   rw[h (j*2) (by omega),h (j*2+1) (by omega),xa h c j (by omega)]
theorem Bg (h:∀ i,i<lb*2→zb2 i=zb i) (h1:zb2 (lb*2)=(a:Int)) (h2:zb2 (lb*2+1)=(b:Int)) (c:Nat):cI zb2 c (lb+1)=gH (fun c=>cI zb c lb) b a c:=by
 show (if zb2 (lb*2+1)=(c:Int) then cI zb2 c lb ||| 2 ^ (zb2 (lb*2)).toNat else cI zb2 c lb)=_
 unfold gH
 rw[h1,h2,xa h c lb (Nat.le_refl _),Int.toNat_natCast]
 by_cases e:c=b
 · subst e;simp
 · rw[if_neg e]
   first
    | rw[if_neg (by omega)]
    | (simp;omega)
theorem xk (h:∀ i,i<lb*2→zb2 i=zb i) (x y:Int) {j:Nat} (hj:j<lb):eB zb2 x y j=eB zb x y j:=by
 unfold eB;rw[h _ (by omega),h _ (by omega)]
theorem xe (h0:dX dr lc zc lb zb=0) (hlb:lb<40) (ha:a<lc) (hb:b<lc) (hab:a≠b) (hno:rq lb zb a b=false) (h:∀ i,i<lb*2→zb2 i=zb i) (h1:zb2 (lb*2)=(a:Int)) (h2:zb2 (lb*2+1)=(b:Int)):dX dr lc zc (lb+1) zb2=if fB lc (gH (fun c=>cI zb c lb) b a)=true then 16 else 0:=by
 have e:(fun c=>cI zb2 c (lb+1))=gH (fun c=>cI zb c lb) b a:=funext fun c=>Bg h h1 h2 c
 unfold dX at h0 ⊢
 split at h0
 · cases h0
 · rename_i p1
   split at h0
   · cases h0
   · rename_i p2
     split at h0
     · cases h0
     · rename_i p3
       have p3:eK (fZ lc zb) lb=false:=by simpa using p3
       have hod:eK (fZ lc zb2) (lb+1)=false:=by
        refine Kh fun j hj=>?_
        unfold fZ
        by_cases ej:j=lb
        · subst ej
          rw[h1,h2,uM (q:=eB zb a b) (fun i hi=>xk h _ _ hi)]
          rw[show eK (eB zb a b) j=false from hno,decide_eq_false (show ¬ (a:Int)=b by omega),decide_eq_true (show 0≤(a:Int)∧(a:Int)<lc by omega),decide_eq_true (show 0≤(b:Int)∧(b:Int)<lc by omega)]
          rfl
        · have:=q8 p3 j (by omega)
          unfold fZ at this
          rw[h (j*2) (by omega),h (j*2+1) (by omega),uM (q:=eB zb (zb (j*2)) (zb (j*2+1))) (fun i hi=>xk h _ _ (by omega))]
          exact this
       rw[if_neg (by omega),if_neg p2,if_neg (by rw[hod];decide),e]
end
end Go.Eng
end
section
namespace Go.Eng
open Go.Proofs Go.Eng.Gall Go.Eng.Q
section
variable {dr:Int} {lc:Nat} {zc:Nat→Int} {lb:Nat} {zb:Nat→Int} {a b:Nat}
theorem JM (c:Nat) (hc:c<lc):0≤fc dr lc zc (2*c)∧fc dr lc zc (2*c+1)<lc:=by
 unfold fc
 rw[if_pos (by omega),if_pos (by omega),if_pos (by omega),if_neg (by omega)]
 omega
noncomputable def qJ (dr:Int) (lc:Nat) (zc:Nat→Int) (lb:Nat) (zb:Nat→Int) (a b:Nat):Int:=cntF lc (fc dr lc zc) (bI (gH (fun c=>cI zb c lb) b a))
theorem D1 (hp:fH lc lb zb) (h:rq lb zb a b=true):gH (fun c=>cI zb c lb) b a=fun c=>cI zb c lb:=by
 rw[HG hp] at h
 funext c
 apply Nat.eq_of_testBit_eq
 intro x
 rw[vI]
 by_cases e:c=b∧x=a
 · obtain ⟨rfl,rfl⟩:=e
   rw[h];rfl
 · rcases Decidable.not_and_iff_or_not.1 e with e | e
   · rw[decide_eq_false e,Bool.false_and,Bool.or_false]
   · rw[decide_eq_false e,Bool.and_false,Bool.or_false]
theorem Gf (hp:fH lc lb zb) (h:rq lb zb a b=true):qJ dr lc zc lb zb a b=cntF lc (fc dr lc zc) (jl lb zb):=by
 unfold qJ;rw[D1 hp h];rfl
theorem zW (hl:lc≤10) (W B:Nat→Int):0≤cntF lc W B∧cntF lc W B≤10000000000:=by
 have h1:=FL (n:=lc) (ok:=okW W B) lc
 have h2:lc ^ lc≤10 ^ 10:=Nat.le_trans (Nat.pow_le_pow_left hl lc) (Nat.pow_le_pow_right (by decide) hl)
 unfold cntF
 have h3:(10:Nat) ^ 10=10000000000:=by decide
 omega
theorem wT (h0:dX dr lc zc lb zb=0) (ha:a<lc) (hb:b<lc) (h:fB lc (gH (fun c=>cI zb c lb) b a)=true):qJ dr lc zc lb zb a b=0:=by
 obtain ⟨h1,h2,h3,h4,h5,h6⟩:=qL h0
 unfold qJ cntF
 rw[GF h1.2 (fun c _=>D0 lc lb zb b a h5 ha c) h];rfl
theorem Ir (h0:dX dr lc zc lb zb=0) (ha:a<lc) (hb:b<lc) (hab:a≠b):cntF lc (fc dr lc zc) (jl lb zb)=qJ dr lc zc lb zb a b+qJ dr lc zc lb zb b a:=by
 obtain ⟨h1,h2,h3,h4,h5,h6⟩:=qL h0
 have:=HN (W:=fc dr lc zc) (g:=fun c=>cI zb c lb) h1.2 (fun c _=>pq zb c lc lb fun i hi=>(h5 i hi).1) ha hb hab
 unfold qJ cntF
 rw[show jl lb zb=bI (fun c=>cI zb c lb) from rfl,this];simp
theorem Fi (h0:dX dr lc zc lb zb=0) (ha:a<lc) (hb:b<lc):(fB lc (gH (fun c=>cI zb c lb) a b) || (jq (qB (hJ lc (gH (fun c=>cI zb c lb) a b) (fc dr lc zc))) lc lc).isSome)=decide (qJ dr lc zc lb zb b a=0):=by
 obtain ⟨h1,h2,h3,h4,h5,h6⟩:=qL h0
 by_cases hk:fB lc (gH (fun c=>cI zb c lb) a b)=true
 · rw[hk,Bool.true_or,wT h0 hb ha hk];rfl
 · have hk:fB lc (gH (fun c=>cI zb c lb) a b)=false:=by simpa using hk
   have hS0:=H7 dr lc zc lb zb h1.2 h3 h4 h5 h6
   have hS:lz lc (fc dr lc zc) (gH (fun c=>cI zb c lb) a b):=⟨h1.2,hS0.win,hS0.zer,fun c _=>D0 lc lb zb a b h5 hb c,fun c hc=>by unfold gH;rw[if_neg (by omega)];exact hS0.off c hc,hk⟩
   have hi:=D7 hS JM
   rw[hk,Bool.false_or,Bool.eq_iff_iff,decide_eq_true_iff]
   unfold qJ cntF
   constructor
   · intro h
     have hn:ro lc (okW (fc dr lc zc) (bI (gH (fun c=>cI zb c lb) a b))) lc=[]:=by
      refine List.eq_nil_iff_forall_not_mem.2 fun L hL=>?_
      rw[hi.2 ⟨L,hL⟩] at h;cases h
     rw[hn];rfl
   · intro h
     cases e:jq (qB (hJ lc (gH (fun c=>cI zb c lb) a b) (fc dr lc zc))) lc lc with
     | some v=>rfl
     | none =>
       obtain ⟨L,hL⟩:=hi.1 e
       rw[List.eq_nil_of_length_eq_zero (show (ro lc (okW (fc dr lc zc) (bI (gH (fun c=>cI zb c lb) a b))) lc).length=0 by omega)] at hL
       cases hL
theorem KW (h0:dX dr lc zc lb zb=0):yi dr lc zc lb zb=none↔¬ cntF lc (fc dr lc zc) (jl lb zb)=0:=by
 obtain ⟨h1,h2,h3,h4,h5,h6⟩:=qL h0
 have hi:=D7 (H7 dr lc zc lb zb h1.2 h3 h4 h5 h6) JM
 unfold yi
 rw[hi]
 unfold cntF
 constructor
 · rintro ⟨L,hL⟩ h
   rw[show jl lb zb=bI (fun c=>cI zb c lb) from rfl] at h
   rw[List.eq_nil_of_length_eq_zero (show (ro lc (okW (fc dr lc zc) (bI (fun c=>cI zb c lb))) lc).length=0 by omega)] at hL
   cases hL
 · intro h
   rw[show jl lb zb=bI (fun c=>cI zb c lb) from rfl] at h
   cases e:ro lc (okW (fc dr lc zc) (bI (fun c=>cI zb c lb))) lc with
   | nil=>rw[e] at h;exact absurd rfl h
   | cons L l=>exact ⟨L,by simp⟩
end
end Go.Eng
end
section
namespace Go.Eng
open Go.Proofs Go.Eng.Gall
noncomputable def C0 (a b j:Int):az:=[(1,.int .i64 a),(2,.int .i64 b),(3,.ptr 0 0 0 0),(8,.int .i64 j)]
theorem t43 (n:Nat) (dr:Int) (lc:Nat) (zc:Nat→Int) (lb:Nat) (zb:Nat→Int) (H:aa) (a b j k e:Int):aW (cj n 43 64) (il (tX a6 34 [di dr lc zc lb zb] (.tup [.int .i64 k,.int .i64 e])) n 0) bp br (part Tryd.f43 [1,0,1,0,0]) (hints (C0 a b j)) (ik dr lc zc lb zb::H) =
 (fun (Z0:Row)=>Tr.ite (bO j (Int.ofNat lb)) (Tr.req (dj j lb) (Tr.req (cZ (aC 0 j 2) (ar lb 2)) (Tr.req (cZ (av (aC 0 j 2) 1) (ar lb 2)) (Tr.ite (b7 (cJ (zb (aC 0 j 2)) a) (cJ (zb (av (aC 0 j 2) 1)) b)) (Tr.reqP ([AV.agg Z0]=[AV.agg Z0]) (Tr.ok (Ex.ret,[(6,AV.int .i64 k,none),(7,AV.bool (cJ e (Int.ofNat 0)),none)],{ lock:=false,bs:=[(0,aq.row Z0)] } :: H))) (Tr.ok (Ex.normal,[(1,AV.int .i64 a,none),(2,AV.int .i64 b,none),(3,AV.ptr 0 0 0 0,none),(8,AV.int .i64 (bg .i64 j (Int.ofNat 1)),none)],{ lock:=false,bs:=[(0,aq.row Z0)] } :: H)))))) (Tr.ok (Ex.exit 0,[(1,AV.int .i64 a,none),(2,AV.int .i64 b,none),(3,AV.ptr 0 0 0 0,none),(8,AV.int .i64 j,none),(17,AV.bool false,some 1)],{ lock:=false,bs:=[(0,aq.row Z0)] } :: H))) (Row.G [AV.int .i64 dr,AV.slcT none (Row.M [an.arr .i64 zc (ar lc 4)]) 4 lc false,AV.slcT none (Row.M [an.arr .i64 zb (ar lb 2)]) 2 lb false]):=by kernel_rfl
theorem RR (n:Nat) (dr:Int) (lc:Nat) (zc:Nat→Int) (lb:Nat) (zb:Nat→Int) (H:aa) (a b k e m e2 e3:Int) (q:Bool) (C C2:List AV→Prop):bE Tryd.prog (cd n) 100000 43 Tryd.f43 (KtG.kt 43) (il (oa (oa a6 34 (fun x=>some (C x,.tup [.int .i64 m,.int .i64 e2]))) 23 (fun x=>some (C2 x,.int .i64 e3))) n 0) (dc bp 0 (C0 a b (Int.ofNat 0)) (ik dr lc zc lb zb::H) (.ite q (.ok (.ret,[(6,.int .i64 k,none),(7,.bool (cJ e (Int.ofNat 0)),none)],ik dr lc zc lb zb::H)) (.ok (.normal,hints (C0 a b (Int.ofNat lb)++[(17,.bool false)]),ik dr lc zc lb zb::H)))) br [(di dr lc zc lb zb,none),(.int .i64 a,none),(.int .i64 b,none)] H =
 (fun (Z0:List AV)=>((fun (Z1:bA)=>((fun (Z2:List AV)=>((fun (Z3:az)=>Tr.reqP (Z3=Z3∧Z1::H=Z1::H) (Tr.ite q (Tr.ok ((AV.tup [AV.int .i64 k,AV.bool (cJ e (Int.ofNat 0))],none),H)) (Tr.ite (cG lb 0) (Tr.req (jA 0 1 16) (Tr.req (cG 0 0) (Tr.req (gm 1 1) (Tr.ite (cZ 0 (av 0 1)) (Tr.req (cG 0 0) (Tr.req (gm 0 0) (Tr.req (cG 0 0) (Tr.req (fC 0 (ar (av 0 1) 2) 0 2) (Tr.reqP (C Z2) (Tr.ite (cJ e2 (Int.ofNat 16)) (Tr.ite (cJ m (Int.ofNat 0)) (Tr.reqP (C2 Z2) (Tr.ok ((AV.tup [AV.int .i64 (Int.ofNat 0),AV.bool (cJ e3 (Int.ofNat 16))],none),H))) (Tr.ok ((AV.tup [AV.int .i64 (Int.ofNat 0),AV.bool false],none),H))) (Tr.ok ((AV.tup [AV.int .i64 m,AV.bool (cJ e2 (Int.ofNat 0))],none),H)))))))) (Tr.req (cG 0 0) Tr.bad))))) (Tr.req (jA 0 lb 16) (Tr.req (gm lb lb) (Tr.req (gm (av (ar 0 2) (ar lb 2)) (ar lb 2)) (Tr.ite (cZ 0 (av 0 lb)) (Tr.req (cG 0 0) (Tr.req (gm 0 0) (Tr.req (jA (av 0 lb) 1 16) (Tr.req (cG 0 0) (Tr.req (gm 1 1) (Tr.req (cG 0 0) (Tr.req (cG (av 0 (ar (av 0 lb) 2)) (av 0 (ar lb 2))) (Tr.req (cG 1 1) (Tr.req (fC 0 (ar (av (av 0 lb) 1) 2) 0 (av (ar (av 0 lb) 2) 2)) (Tr.reqP (C Z0) (Tr.ite (cJ e2 (Int.ofNat 16)) (Tr.ite (cJ m (Int.ofNat 0)) (Tr.reqP (C2 Z0) (Tr.ok ((AV.tup [AV.int .i64 (Int.ofNat 0),AV.bool (cJ e3 (Int.ofNat 16))],none),H))) (Tr.ok ((AV.tup [AV.int .i64 (Int.ofNat 0),AV.bool false],none),H))) (Tr.ok ((AV.tup [AV.int .i64 m,AV.bool (cJ e2 (Int.ofNat 0))],none),H))))))))))))) (Tr.req (cG 0 0) Tr.bad)))))))) [(1,AV.int .i64 a),(2,AV.int .i64 b),(3,AV.ptr 0 0 0 0),(8,AV.int .i64 (Int.ofNat 0))])) [AV.agg (Row.G [AV.int .i64 dr,AV.slcT none (Row.M [an.arr .i64 zc (ar lc 4)]) 4 lc false,AV.slcT none (Row.M [an.arr .i64 (rv (aS [a,b]) 0) (ar (av 0 1) 2)]) 2 (av 0 1) false])])) { lock:=false,bs:=[(0,aq.row (Row.G [AV.int .i64 dr,AV.slcT none (Row.M [an.arr .i64 zc (ar lc 4)]) 4 lc false,AV.slcT none (Row.M [an.arr .i64 zb (ar lb 2)]) 2 lb false]))] })) [AV.agg (Row.G [AV.int .i64 dr,AV.slcT none (Row.M [an.arr .i64 zc (ar lc 4)]) 4 lc false,AV.slcT none (Row.M [an.arr .i64 (rv (po (rv (po (aS []) 0 zb) 0) (ar (av 0 lb) 2) (aS [a,b])) 0) (ar (av (av 0 lb) 1) 2)]) 2 (av (av 0 lb) 1) false])]:=by kernel_rfl
end Go.Eng
end
section
namespace Go.Eng
open Go.Proofs Go.Eng.Gall
theorem RA:∀ b,(0,b) ∈ aO (bz Tryd.f43)→b=.loop (part Tryd.f43 [1,0,1,0,0]):=gk (by kernel_rfl)
theorem IE (z:Nat→Int) (a b:Int) (j:Nat):eB z a b j=(z (j*2) == a && z (j*2+1) == b):=by
 unfold eB;rw[Bool.eq_iff_iff];simp only[Bool.and_eq_true,decide_eq_true_iff,beq_iff_eq];exact ⟨fun h=>⟨h.1.symm,h.2.symm⟩,fun h=>⟨h.1.symm,h.2.symm⟩⟩
section
variable (n:Nat) (dr:Int) (lc:Nat) (zc:Nat→Int) (lb:Nat) (zb:Nat→Int) (H:aa) (a b:Nat)
def Mo (a b:Int) (x:List AV):Prop:=∃ L Z,x=[di dr lc zc L Z]∧L=lb+1∧(∀ i,i<lb*2→Z i=zb i)∧Z (lb*2)=a∧Z (lb*2+1)=b
theorem R6 (hlb:lb<40) (h0:dX dr lc zc lb zb=0) (ha:a<lc) (hb:b<lc) (hab:a≠b):cd (n+16) (.fn 43) [di dr lc zc lb zb,.int .i64 (a:Int),.int .i64 (b:Int)] H=some (.tup [.int .i64 (qJ dr lc zc lb zb a b),.bool true],H):=by
 obtain ⟨h1,h2,h3,h4,h5,h6⟩:=qL h0
 have h34:=fun H=>Od n dr lc zc lb zb H (by omega) (by omega)
 unfold Ma at h34
 rw[if_pos h0] at h34
 have lp:=lK (n:=n+15) (f:=43) (nt:=64) (c:=part Tryd.f43 [1,0,1,0,0]) 0 (fun j=>C0 a b (j:Int)) (fun _=>ik dr lc zc lb zb::H) lb (eB zb a b) (fun _=>([(6,.int .i64 (Q.cntF lc (fc dr lc zc) (jl lb zb))),(7,.bool (cJ 0 (Int.ofNat 0)))],ik dr lc zc lb zb::H)) (C0 a b (Int.ofNat lb)++[(17,.bool false)],ik dr lc zc lb zb::H) (by omega) (fun j hj=>?_) ?_
 · have hx:∀ (hno:rq lb zb a b=false) A H,Mo dr lc zc lb zb a b A→cd (n+15) (.fn 34) A H=some (.tup [.int .i64 (qJ dr lc zc lb zb a b),.int .i64 (if fB lc (gH (fun c=>cI zb c lb) b a)=true then 16 else 0)],H):=fun hno A H hA=>by
    obtain ⟨L,Z,rfl,rfl,q1,q2,q3⟩:=hA
    rw[Od n dr lc zc (lb+1) Z H (by omega) (by omega)]
    have e:=xe h0 hlb ha hb hab hno q1 q2 q3
    unfold Ma
    by_cases hk:fB lc (gH (fun c=>cI zb c lb) b a)=true
    · rw[if_pos hk] at e
      rw[e,if_neg (by decide),if_pos hk,wT h0 ha hb hk]
    · rw[if_neg hk] at e
      rw[e,if_pos rfl,if_neg hk]
      have:jl (lb+1) Z=bI (gH (fun c=>cI zb c lb) b a):=funext fun c=>by
       show ((cI Z c (lb+1):Nat):Int)=_
       rw[Bg q1 q2 q3];rfl
      rw[this];rfl
   have hx2:∀ (hno:rq lb zb a b=false) A H,Mo dr lc zc lb zb a b A→cd (n+15) (.fn 23) A H=some (.int .i64 (if fB lc (gH (fun c=>cI zb c lb) b a)=true then 16 else 0),H):=fun hno A H hA=>by
    obtain ⟨L,Z,rfl,rfl,q1,q2,q3⟩:=hA
    have:=Oc (n+12) dr lc zc (lb+1) Z H (by omega) (by omega)
    rw[xe h0 hlb ha hb hab hno q1 q2 q3] at this
    exact this
   cases hno:eK (eB zb a b) lb with
   | true =>
     rw[Gf h5 hno]
     rw[hno] at lp
     refine bV (n:=n+15) Tryd.func43 rfl rfl rfl (RR (n+15) dr lc zc lb zb H a b (Q.cntF lc (fc dr lc zc) (jl lb zb)) 0 0 0 0 true (fun _=>False) (fun _=>False)) (bZ _ _ (qj (qj (bx _) (fun A H hA=>hA.elim)) (fun A H hA=>hA.elim))) (a8 (ak _ _) RA (fun x hx=>eX hx lp)) (al _ _) ?_
     exact Tr.aj ⟨rfl,rfl⟩ (Tr.af (fun _=>Tr.ah ⟨by rw[aT];rfl,rfl⟩) (fun q=>by cases q))
   | false =>
     rw[hno] at lp
     have hno:rq lb zb a b=false:=hno
     have T:=RR (n+15) dr lc zc lb zb H a b (Q.cntF lc (fc dr lc zc) (jl lb zb)) 0 (qJ dr lc zc lb zb a b) (if fB lc (gH (fun c=>cI zb c lb) b a)=true then 16 else 0) (if fB lc (gH (fun c=>cI zb c lb) b a)=true then 16 else 0) false (Mo dr lc zc lb zb a b) (Mo dr lc zc lb zb a b)
     refine bV (n:=n+15) Tryd.func43 rfl rfl rfl T (bZ _ _ (qj (qj (bx _) (hx hno)) (hx2 hno))) (a8 (ak _ _) RA (fun x hx=>eX hx lp)) (al _ _) ?_
     clear T hx hx2 h34 lp
     have hw:fB lc (gH (fun c=>cI zb c lb) b a)=true→qJ dr lc zc lb zb a b=0:=fun h=>wT h0 ha hb h
     have fin:∀ {P:Prop},P→((Tr.ite (cJ (if fB lc (gH (fun c=>cI zb c lb) b a)=true then 16 else 0) (Int.ofNat 16)) (Tr.ite (cJ (qJ dr lc zc lb zb a b) (Int.ofNat 0)) (Tr.reqP P (Tr.ok ((AV.tup [.int .i64 (Int.ofNat 0),.bool (cJ (if fB lc (gH (fun c=>cI zb c lb) b a)=true then 16 else 0) (Int.ofNat 16))],(none:Option Nat)),H))) (Tr.ok ((AV.tup [.int .i64 (Int.ofNat 0),.bool false],none),H))) (Tr.ok ((AV.tup [.int .i64 (qJ dr lc zc lb zb a b),.bool (cJ (if fB lc (gH (fun c=>cI zb c lb) b a)=true then 16 else 0) (Int.ofNat 0))],none),H)))).all fun y=>y.1.1=AV.tup [.int .i64 (qJ dr lc zc lb zb a b),.bool true]∧y.2=H:=fun hP=>by
      by_cases hk:fB lc (gH (fun c=>cI zb c lb) b a)=true
      · rw[if_pos hk,hw hk]
        refine Tr.af (fun _=>Tr.af (fun _=>Tr.aj hP (Tr.ah ⟨?_,rfl⟩)) (fun q=>by simp[aT] at q)) (fun q=>by simp[aT] at q)
        rw[aT];rfl
      · rw[if_neg hk]
        refine Tr.af (fun q=>by simp[aT] at q) (fun q=>Tr.ah ⟨?_,rfl⟩)
        rw[aT];rfl
     generalize qJ dr lc zc lb zb a b=X at *
     generalize (if fB lc (gH (fun c=>cI zb c lb) b a)=true then (16:Int) else 0)=E at *
     refine Tr.aj ⟨rfl,rfl⟩ (Tr.af (fun q=>by cases q) (fun _=>?_))
     repeat' first | (refine Tr.af (fun hc=>?_) (fun hc=>?_)<;>(try simp (disch:=omega) only[nV,nW] at hc)<;>(try (exfalso;omega))) | (refine Tr.ab ?_ ?_;· ((try simp (disch:=omega) only[nV,nW]);try omega)) | (refine Tr.aj ?_ ?_;· first | exact trivial | rfl | exact ⟨rfl,rfl⟩ | exact ⟨trivial,rfl⟩ | exact ⟨rfl,by assumption⟩ | exact ⟨trivial,by assumption⟩ | exact ⟨rfl,rfl,rfl⟩ | (simp (disch:=omega) only[nV,nW];done) | ((try simp (disch:=omega) only[nV,nW]);omega)) | fail
     · rename_i hz
       have hm:∀ A,A=[di dr lc zc (av 0 1) (rv (aS [(a:Int),(b:Int)]) 0)]→Mo dr lc zc lb zb a b A:=fun A e=>by
        subst hz
        refine ⟨_,_,e,by rw[aH],fun i hi=>by omega,?_,?_⟩<;>rw[jj,we]<;>rfl
       exact Tr.aj (hm _ rfl) (fin (hm _ rfl))
     · have hm:∀ A,A=[di dr lc zc (av (av 0 lb) 1) (rv (po (rv (po (aS []) 0 zb) 0) (ar (av 0 lb) 2) (aS [(a:Int),(b:Int)])) 0)]→Mo dr lc zc lb zb a b A:=fun A e=>by
        refine ⟨_,_,e,by rw[aH,aH];omega,fun i hi=>?_,?_,?_⟩<;>rw[jj,jj,Gx,my,aH,oS,Nat.zero_add]
        · dsimp only;rw[if_pos hi]
        · dsimp only;rw[if_neg (by omega),Nat.sub_self,we];rfl
        · dsimp only;rw[if_neg (by omega),show lb*2+1-lb*2=1 by omega,we];rfl
       exact Tr.aj (hm _ rfl) (fin (hm _ rfl))
 · have T:=t43 (n+15) dr lc zc lb zb H a b (j:Int) (Q.cntF lc (fc dr lc zc) (jl lb zb)) 0
   rw[gr (by omega)] at T
   refine aK T (bZ _ _ (iz (bx _) h34)) (ak _ _) (al _ _) ?_
   have e1:aC 0 (j:Int) 2=j*2:=by rw[bY];omega
   rw[e1,aH]
   refine Tr.af (fun _=>?_) (fun h0=>by simp (disch:=omega) only[nV,nW] at h0;omega)
   refine Tr.ab (by simp (disch:=omega) only[nV,nW];omega) (Tr.ab (by simp (disch:=omega) only[nV,nW];omega) (Tr.ab (by simp (disch:=omega) only[nV,nW];omega) (Tr.af (fun q=>Tr.aj rfl (Tr.ah ?_)) (fun q=>Tr.ah ?_))))
   all_goals rw[bS,aT,aT] at q
   · rw[if_pos (by rw[IE];exact q)];rfl
   · rw[if_neg (by rw[IE,q];decide)];exact ⟨rfl,rfl⟩
 · obtain ⟨x,h1,rfl⟩:=aK (Q:=fun x=>x=(.exit 0,C0 a b (Int.ofNat lb)++[(17,.bool false)],ik dr lc zc lb zb::H)) (t43 (n+15) dr lc zc lb zb H a b (Int.ofNat lb) (Q.cntF lc (fc dr lc zc) (jl lb zb)) 0) (bZ _ _ (iz (bx _) h34)) (ak _ _) (al _ _) (by
    refine Tr.af (fun h0=>by simp (disch:=omega) only[nV,nW] at h0;omega) (fun h0=>Tr.ah rfl))
   exact h1
end
end Go.Eng
end
section
namespace Go.Eng
open Go.Proofs Go.Eng.Gall
theorem u9 (n:Nat) (dr:Int) (lc:Nat) (zc:Nat→Int) (lb:Nat) (zb:Nat→Int) (H:aa) (w0 w1:Int) (k e:Int) (X:List AV→Int) (M:List AV→Bool) (C1 C2:List AV→Prop):bE Tryd.prog (cd (n+2)) 100000 9 Tryd.f9 (KtG.kt 9) (il (tV (tV (tX (tX (oa a6 15 Mp) 23 [di dr lc zc lb zb] (.int .i64 (Int.ofNat 0))) 34 [di dr lc zc lb zb] (.tup [.int .i64 k,.int .i64 (Int.ofNat 0)])) 43 C1 (fun x=>.tup [.int .i64 (X x),.bool true])) 32 C2 (fun x=>.tup [.bool (M x),.int .i64 e])) n 2) bp br [(di dr lc zc lb zb,none),(.agg (.I .u8 [w0,w1]),none)] H =
 (fun (Z0:Row)=>((fun (Z1:List AV)=>((fun (Z2:List AV)=>((fun (Z3:List AV)=>Tr.ite (bO (Int.ofNat 15) (Int.ofNat lc)) (Tr.reqP True (Tr.ok ((AV.bool true,none),H))) (Tr.ite (bL (bO (Int.ofNat 60) (Int.ofNat lb))) (Tr.reqP ([AV.agg Z0]=[AV.agg Z0]) (Tr.ite (bL (cJ (Int.ofNat 0) (Int.ofNat 0))) (Tr.reqP True (Tr.ok ((AV.bool true,none),H))) (Tr.ite (bO (Int.ofNat lc) (Int.ofNat 2)) (Tr.reqP True (Tr.ok ((AV.bool true,none),H))) (Tr.ite (dN (Int.ofNat 40) (Int.ofNat lb)) (Tr.reqP True (Tr.ok ((AV.bool true,none),H))) (Tr.req (dj (Int.ofNat 0) 2) (Tr.req (bL (cJ (Int.ofNat lc) (Int.ofNat 0))) (Tr.req (dj (Int.ofNat 1) 2) (Tr.req (bL (cJ (bX .i64 (Int.ofNat lc) (Int.ofNat 1)) (Int.ofNat 0))) (Tr.req (bL (cJ (Int.ofNat lc) (Int.ofNat 0))) (Tr.reqP ([AV.agg Z0]=[AV.agg Z0]) (Tr.reqP (C1 Z1) (Tr.reqP (C1 Z2) (Tr.reqP (C2 Z1) (Tr.reqP (C2 Z2) (Tr.reqP (C2 Z3) (Tr.ite (bL (cJ (Int.ofNat 0) (Int.ofNat 0))) (Tr.ok ((AV.bool false,some 1),H)) (Tr.ite (bL true) (Tr.ok ((AV.bool false,some 1),H)) (Tr.ite (bL true) (Tr.ok ((AV.bool false,some 1),H)) (Tr.ite (bL (cJ k (bg .i64 (X Z1) (X Z2)))) (Tr.ok ((AV.bool false,some 1),H)) (Tr.ite (cJ k (Int.ofNat 0)) (Tr.ite (cJ e (Int.ofNat 13)) (Tr.ite (cJ e (Int.ofNat 13)) (Tr.ite (cJ e (Int.ofNat 13)) (Tr.reqP True (Tr.ok ((AV.bool true,none),H))) (Tr.ok ((AV.bool false,some 1),H))) (Tr.ok ((AV.bool false,some 1),H))) (Tr.ok ((AV.bool false,some 1),H))) (Tr.ite (cJ e (Int.ofNat 0)) (Tr.ite (cJ e (Int.ofNat 0)) (Tr.ite (cJ e (Int.ofNat 0)) (Tr.ite (Kd (M Z1) (cJ (X Z2) (Int.ofNat 0))) (Tr.ite (Kd (M Z2) (cJ (X Z1) (Int.ofNat 0))) (Tr.ite (bL (M Z3)) (Tr.reqP True (Tr.ok ((AV.bool true,none),H))) (Tr.ok ((AV.bool false,some 1),H))) (Tr.ok ((AV.bool false,some 1),H))) (Tr.ok ((AV.bool false,some 1),H))) (Tr.ok ((AV.bool false,some 1),H))) (Tr.ok ((AV.bool false,some 1),H))) (Tr.ok ((AV.bool false,some 1),H))))))))))))))))))))))) (Tr.reqP True (Tr.ok ((AV.bool true,none),H))))) [AV.agg Z0,AV.int .i64 (jf IntKind.i64 (CI IntKind.i64 w0) (Int.ofNat lc)),AV.int .i64 (jf IntKind.i64 (CI IntKind.i64 w0) (Int.ofNat lc))])) [AV.agg Z0,AV.int .i64 (jf IntKind.i64 (bg .i64 (bg .i64 (jf IntKind.i64 (CI IntKind.i64 w0) (Int.ofNat lc)) (Int.ofNat 1)) (jf IntKind.i64 (CI IntKind.i64 w1) (bX .i64 (Int.ofNat lc) (Int.ofNat 1)))) (Int.ofNat lc)),AV.int .i64 (jf IntKind.i64 (CI IntKind.i64 w0) (Int.ofNat lc))])) [AV.agg Z0,AV.int .i64 (jf IntKind.i64 (CI IntKind.i64 w0) (Int.ofNat lc)),AV.int .i64 (jf IntKind.i64 (bg .i64 (bg .i64 (jf IntKind.i64 (CI IntKind.i64 w0) (Int.ofNat lc)) (Int.ofNat 1)) (jf IntKind.i64 (CI IntKind.i64 w1) (bX .i64 (Int.ofNat lc) (Int.ofNat 1)))) (Int.ofNat lc))])) (Row.G [AV.int .i64 dr,AV.slcT none (Row.M [an.arr .i64 zc (ar lc 4)]) 4 lc false,AV.slcT none (Row.M [an.arr .i64 zb (ar lb 2)]) 2 lb false]):=by kernel_rfl
theorem UE (n:Nat) (dr:Int) (lc:Nat) (zc:Nat→Int) (lb:Nat) (zb:Nat→Int) (H:aa) (w0 w1:Int) (e:Int) (C:List AV→Prop):bE Tryd.prog (cd (n+2)) 100000 9 Tryd.f9 (KtG.kt 9) (il (tN (tN (tN (oa (oa a6 15 Mp) 23 (fun x=>some (C x,.int .i64 e))) 34) 43) 32) n 2) bp br [(di dr lc zc lb zb,none),(.agg (.I .u8 [w0,w1]),none)] H =
 Tr.ite (bO (Int.ofNat 15) (Int.ofNat lc)) (Tr.reqP True (Tr.ok ((AV.bool true,none),H))) (Tr.ite (bL (bO (Int.ofNat 60) (Int.ofNat lb))) (Tr.reqP (C [AV.agg (Row.G [AV.int .i64 dr,AV.slcT none (Row.M [an.arr .i64 zc (ar lc 4)]) 4 lc false,AV.slcT none (Row.M [an.arr .i64 zb (ar lb 2)]) 2 lb false])]) (Tr.ite (bL (cJ e (Int.ofNat 0))) (Tr.reqP True (Tr.ok ((AV.bool true,none),H))) (Tr.ite (bO (Int.ofNat lc) (Int.ofNat 2)) (Tr.reqP True (Tr.ok ((AV.bool true,none),H))) (Tr.ite (dN (Int.ofNat 40) (Int.ofNat lb)) (Tr.reqP True (Tr.ok ((AV.bool true,none),H))) (Tr.req (dj (Int.ofNat 0) 2) (Tr.req (bL (cJ (Int.ofNat lc) (Int.ofNat 0))) (Tr.req (dj (Int.ofNat 1) 2) (Tr.req (bL (cJ (bX .i64 (Int.ofNat lc) (Int.ofNat 1)) (Int.ofNat 0))) (Tr.req (bL (cJ (Int.ofNat lc) (Int.ofNat 0))) Tr.bad))))))))) (Tr.reqP True (Tr.ok ((AV.bool true,none),H)))):=by kernel_rfl
end Go.Eng
end
