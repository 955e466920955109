/- Bath: many, Most. -/
import Derived.Test.YtigmfpmabgekoaaGreatV6Bqfx7
import Derived.Test.YtigmfpmabgekoaaGreatV6Be1x17
import Derived.Test.YtigmfpmabgekoaaGreatV6EngArgx7
set_option linter.unusedVariables false
set_option linter.unusedSimpArgs false
set_option maxRecDepth 100000
section
namespace Go.Eng
open Go.Proofs
def jT (l:Nat) (z:Nat→Int) (q:Int):Int:=if bY l z≠0 then bY l z else if q<0∨14<q then 2 else 0
noncomputable def zw (l:Nat) (z:Nat→Int) (q:Int):AV:=if jT l z q=0 then .tup [GZ l (oY z l),.int .i64 0] else .tup [.nilp,.int .i64 (jT l z q)]
theorem DE {l:Nat} {z:Nat→Int} {q:Int} (h:jT l z q=0):bY l z=0∧0≤q∧q≤14:=by
 unfold jT at h
 split at h
 · rename_i h1;exact absurd h h1
 · rename_i h1
   split at h
   · cases h
   · exact ⟨Classical.byContradiction h1,by omega,by omega⟩
theorem OC (n l:Nat) (z:Nat→Int) (q:Int) (H:aa):cd (n+11) (.fn 78) [aO 5 l z,.int .i64 q] H=some (zw l z q,H):=by
 have hc:∀ H,cd (n+10) (.fn 52) [aO 5 l z] H=some (zG l z,H):=fun H=>OA _ l z H
 unfold zw
 by_cases h:bY l z=0
 · have ho:zG l z=.tup [GZ l (oY z l),.int .i64 0]:=by unfold zG;rw[if_pos h];rfl
   rw[ho] at hc
   refine bw (n:=n+10) Tryz.func78 rfl rfl rfl (QR (n+10) l z (oY z l) q H) (cY _ _ (dz (bp _) hc)) (af _ _) (ag _ _) ?_
   by_cases hq:q<0∨14<q
   · rw[show jT l z q=2 by unfold jT;rw[if_neg (fun x=>x h),if_pos hq],if_neg (by decide)]
     repeat' first | (refine Tr.aj (fun hc=>?_) (fun hc=>?_)<;>(try simp (disch:=omega) only[nV,nW] at hc)<;>(try (exfalso;omega))) | (refine Tr.bm ?_ ?_;· ((try simp (disch:=omega) only[nV,nW]);try omega)) | (refine Tr.aF ?_ ?_;· first | exact trivial | rfl | exact ⟨rfl,rfl⟩ | exact ⟨trivial,rfl⟩ | exact ⟨rfl,by assumption⟩ | exact ⟨trivial,by assumption⟩ | exact ⟨rfl,rfl,rfl⟩ | (simp (disch:=omega) only[nV,nW];done) | ((try simp (disch:=omega) only[nV,nW]);omega)) | fail
     all_goals first
      | exact Tr.ar ⟨rfl,rfl⟩
      | omega
      | fail
   · rw[show jT l z q=0 by unfold jT;rw[if_neg (fun x=>x h),if_neg hq],if_pos rfl]
     repeat' first | (refine Tr.aj (fun hc=>?_) (fun hc=>?_)<;>(try simp (disch:=omega) only[nV,nW] at hc)<;>(try (exfalso;omega))) | (refine Tr.bm ?_ ?_;· ((try simp (disch:=omega) only[nV,nW]);try omega)) | (refine Tr.aF ?_ ?_;· first | exact trivial | rfl | exact ⟨rfl,rfl⟩ | exact ⟨trivial,rfl⟩ | exact ⟨rfl,by assumption⟩ | exact ⟨trivial,by assumption⟩ | exact ⟨rfl,rfl,rfl⟩ | (simp (disch:=omega) only[nV,nW];done) | ((try simp (disch:=omega) only[nV,nW]);omega)) | fail
     all_goals first
      | exact Tr.ar ⟨rfl,rfl⟩
      | omega
      | fail
 · have ho:zG l z=.tup [.nilp,.int .i64 (bY l z)]:=by unfold zG;rw[if_neg h]
   rw[ho] at hc
   rw[show jT l z q=bY l z by unfold jT;rw[if_pos h],if_neg h]
   refine bw (n:=n+10) Tryz.func78 rfl rfl rfl (NL (n+10) l z q (bY l z) H) (cY _ _ (dz (bp _) hc)) (af _ _) (ag _ _) ?_
   exact wF
noncomputable def mX (l:Nat) (z:Nat→Int) (K:Nat):Int×List Int:=@dite _ (bY l z=0∧K≤15) (Classical.propDecidable _) (fun hh=>Classical.choose (N9 (K:=K) hh.1 hh.2)) (fun _=>(0,[]))
theorem DD {l K:Nat} {z:Nat→Int} (h:bY l z=0) (hK:K≤15):Mo l z K (mX l z K).1 (mX l z K).2∧∀ (n s:Nat) (k1 k2 k3:Bool) (b1 b2 b3:List (Nat×al)),cd (n+9) (.fn 79) [gY s l (oY z l),.int .i64 (K:Int)] [⟨k1,b1⟩,⟨k2,b2⟩,⟨k3,b3⟩]=some (.tup [.int .i64 (mX l z K).1,dA (mX l z K).2],[⟨k1,b1⟩,⟨k2,b2⟩,⟨k3,b3⟩]):=by
 unfold mX
 rw[dif_pos ⟨h,hK⟩]
 exact Classical.choose_spec (N9 (K:=K) h hK)
noncomputable def MU (l:Nat) (z:Nat→Int) (q:Int):AV:=if jT l z q=0 then .tup [.int .i64 (mX l z q.toNat).1,dA (mX l z q.toNat).2,.int .i64 0] else .tup [.int .i64 0,.nils,.int .i64 (jT l z q)]
theorem Dq {c:Nat} {t:nI} {B W:AV} {q M:Int} (ht:t.Ok (cd c)) (h:∀ k1 k2 k3 b1 b2 b3,cd c (.fn 79) [B,.int .i64 q] [⟨k1,b1⟩,⟨k2,b2⟩,⟨k3,b3⟩]=some (.tup [.int .i64 M,W],[⟨k1,b1⟩,⟨k2,b2⟩,⟨k3,b3⟩])):(iU t 79 (K7 B W q M)).Ok (cd c):=by
 refine ll ht (fun args H x hx=>?_)
 unfold K7 at hx
 split at hx
 · obtain ⟨rfl,h2⟩:=Tr.dO hx
   rw[← Tr.ab h2]
   exact h _ _ _ _ _ _
 · exact (Tr.ae hx).elim
theorem Ow (n l:Nat) (z:Nat→Int) (q:Int) (k1 k2:Bool) (b1 b2:List (Nat×al)):cd (n+12) (.fn 36) [aO 5 l z,.int .i64 q] [⟨k1,b1⟩,⟨k2,b2⟩]=some (MU l z q,[⟨k1,b1⟩,⟨k2,b2⟩]):=by
 have hc:∀ H,cd (n+11) (.fn 78) [aO 5 l z,.int .i64 q] H=some (zw l z q,H):=fun H=>OC n l z q H
 unfold MU
 by_cases h:jT l z q=0
 · obtain ⟨h1,h2,h3⟩:=DE h
   obtain ⟨hm,h79⟩:=DD (K:=q.toNat) h1 (by omega)
   have ho:zw l z q=.tup [GZ l (oY z l),.int .i64 0]:=by unfold zw;rw[if_pos h]
   rw[ho] at hc
   rw[if_pos h]
   rw[show ((q.toNat:Nat):Int)=q by omega] at h79
   generalize (mX l z q.toNat).1=M at *
   generalize (mX l z q.toNat).2=B at *
   cases B with
   | nil =>
     refine bw (n:=n+11) Tryz.func36 rfl rfl rfl (NC (n+11) l z (oY z l) q M k1 k2 b1 b2) (cY _ _ (Dq (dz (bp _) hc) (fun k1 k2 k3 b1 b2 b3=>h79 (n+2) 0 k1 k2 k3 b1 b2 b3))) (af _ _) (ag _ _) ?_
     exact wF
   | cons a r =>
     refine bw (n:=n+11) Tryz.func36 rfl rfl rfl (NA (n+11) l (r.length+1) z (oY z l) (aL (a::r)) q M k1 k2 b1 b2) (cY _ _ (Dq (dz (bp _) hc) (fun k1 k2 k3 b1 b2 b3=>h79 (n+2) 0 k1 k2 k3 b1 b2 b3))) (af _ _) (ag _ _) ?_
     exact wF
 · have ho:zw l z q=.tup [.nilp,.int .i64 (jT l z q)]:=by unfold zw;rw[if_neg h]
   rw[ho] at hc
   rw[if_neg h]
   refine bw (n:=n+11) Tryz.func36 rfl rfl rfl (NB (n+11) l z q (jT l z q) [⟨k1,b1⟩,⟨k2,b2⟩]) (cY _ _ (dz (bp _) hc)) (af _ _) (ag _ _) ?_
   exact wF
end Go.Eng
end
section
namespace Go.Eng
open Go.Proofs
end Go.Eng
end
section
namespace Go.Eng
open Go.Proofs
end Go.Eng
end
section
namespace Go.Eng
open Go.Proofs
def chain:List Code→Code
 | []=>.skip
 | [c]=>c
 | c::r=>.seq c (chain r)
noncomputable def Jj (fn:Func) (H:aa) (fr:au) (l:bo):Option (AV×aa) :=
 match dZ Tryz.prog fr (l::H) fn.results.toList with
 | some vs=>some (cG l.bs 5 (one vs),H)
 | none=>none
theorem Fm {cx:Cx} {a b:Code} {r:List Code} {fr fr2:au} {H H2:aa} (h:exec cx a fr H=some (.normal,fr2,H2)):exec cx (chain (a::b::r)) fr H=exec cx (chain (b::r)) fr2 H2:=by
 show exec cx (.seq a (chain (b::r))) fr H=_
 simp only[exec,h]
theorem HJ {cx:Cx} {a b:Code} {r:List Code} {fr:au} {H:aa} {x:au×aa} (h:exec cx a fr H=some (.ret,x)):exec cx (chain (a::b::r)) fr H=some (.ret,x):=by
 show exec cx (.seq a (chain (b::r))) fr H=_
 simp only[exec,h]
theorem vm {cx:Cx} {c:Code} {r:List Code}:∀ (a:List Code) {fr fr2:au} {H H2:aa},a≠[]→exec cx (chain a) fr H=some (.normal,fr2,H2)→exec cx (chain (a++c::r)) fr H=exec cx (chain (c::r)) fr2 H2
 | [],_,_,_,_,h,_=>absurd rfl h
 | [a],_,_,_,_,_,h=>Fm h
 | a :: b::l,fr,fr2,H,H2,_,h=>by
   have h:exec cx (.seq a (chain (b::l))) fr H=some (.normal,fr2,H2):=h
   show exec cx (.seq a (chain (b::l++c::r))) fr H=_
   simp only[exec] at h ⊢
   cases e:exec cx a fr H with
   | none=>rw[e] at h;cases h
   | some x =>
     obtain ⟨x,f3,H3⟩:=x
     rw[e] at h
     cases x with
     | normal=>exact vm (b::l) (by simp) h
     | _=>cases h
theorem vn {cx:Cx} {c:Code} {r:List Code}:∀ (a:List Code) {fr:au} {H:aa} {y:au×aa},a≠[]→exec cx (chain a) fr H=some (.ret,y)→exec cx (chain (a++c::r)) fr H=some (.ret,y)
 | [],_,_,_,h,_=>absurd rfl h
 | [a],_,_,_,_,h=>HJ h
 | a :: b::l,fr,H,y,_,h=>by
   have h:exec cx (.seq a (chain (b::l))) fr H=some (.ret,y):=h
   show exec cx (.seq a (chain (b::l++c::r))) fr H=_
   simp only[exec] at h ⊢
   cases e:exec cx a fr H with
   | none=>rw[e] at h;cases h
   | some x =>
     obtain ⟨x,f3,H3⟩:=x
     rw[e] at h
     cases x with
     | normal=>exact vn (b::l) (by simp) h
     | ret=>exact h
     | _=>cases h
theorem Fk {f:FuncId} {fn:Func} {c:Code} {n:Nat} (hf:Tryz.prog.funcs[f]?=some fn) (hb:fn.body=some c) (hn:Iy f=false) {args:List AV} (hle:Nat.ble args.length fn.ntmps=true) {H:aa} {fr:au} {l:bo} {v:AV} (h:exec (bt n f fn.ntmps) c (dC 0 args) (aH::H)=some (.ret,fr,l::H)) (hv:Jj fn H fr l=some (v,H)):cd (n+1) (.fn f) args H=some (v,H):=by
 have ho:=zA f hn (cd n) args H
 unfold cd at ho ⊢
 have h:exec ⟨Tryz.prog,cC Tryz.prog nv KtB.kt 100000 n,100000,f,fn.ntmps,KtB.kt f,none⟩ c (dC 0 args) (⟨false,[]⟩::H)=some (.ret,fr,l::H):=h
 simp only[cC,ho,hf,hb,hle,if_true,h]
 exact hv
end Go.Eng
end
section
namespace Go.Eng
open Go.Proofs
end Go.Eng
end
section
namespace Go.Eng
open Go.Proofs
end Go.Eng
end
section
namespace Go.Eng
open Go.Proofs
noncomputable def JA (lo hi:Int→Int) (z:Nat→Int) (l:Nat):List AV→Option (Prop×AV)
 | [.slcT none (.M [.arr .i64 z' N]) 5 l' false,.int .i64 q]=>some (z'=z∧N=bg l 5∧l'=l∧(0≤q∧q<l),.agg (.I .i64 [lo q,hi q]))
 | _=>none
noncomputable def oS (N:Nat):AV:=.slc 0 0 0 0 1 N (some N)
noncomputable def qR (N l:Nat) (z:Nat→Int) (L:AV) (i:Int):au:=[(0,aO 5 l z),(3,oS N),(4,L),(5,.int .i64 i)]
noncomputable def gT (N l:Nat) (z:Nat→Int) (L:AV) (i:Int) (tw:Bool) (k:Int):au:=[(0,aO 5 l z),(3,oS N),(4,L),(5,.int .i64 i),(6,.bool tw),(7,.int .i64 k)]
noncomputable def fV (N:Nat) (o:Nat→Int):Nat×al:=(0,.row (.M [.arr .i64 o N]))
noncomputable def kK (v m:Nat) (a:Nat→Int):Nat×al:=(v,.row (.M [.arr .i64 a m]))
noncomputable def mI (N l m:Nat) (z a:Nat→Int) (b:Int):au:=[(0,aO 5 l z),(3,oS N),(4,cQ m a false),(8,.int .i64 b)]
noncomputable def jJ (N l m:Nat) (z a:Nat→Int) (b:Int) (B:AV) (i:Int):au:=[(0,aO 5 l z),(3,oS N),(4,cQ m a false),(8,.int .i64 b),(9,B),(10,.int .i64 i)]
noncomputable def qk (N:Nat) (n:Int):au:=[(3,oS N),(12,.int .i64 n)]
theorem Kr (n N l v m:Nat) (z a o:Nat→Int) (lo hi:Int→Int) (i k:Int) (tw:Bool) (H:aa):aP (bt n 40 105) (il (ly aT 55 (JA lo hi z l)) n 0) a6 a7 (part Tryz.f40 [1,1,1,0,1,0,0,1,0,0,1,0,1,0,0]) (hints (gT N l z (.slc 0 1 v 0 1 m none) i tw k)) (⟨false,[fV N o,kK v m a]⟩::H) =
 (fun (Z0:bo)=>Tr.ite (cP k (Int.ofNat m)) (Tr.ite tw (Tr.ok (Ex.normal,[(0,aO 5 l z,none),(3,AV.slc 0 0 0 0 1 N (some N),none),(4,AV.slc 0 1 v 0 1 m none,none),(5,AV.int .i64 i,none),(6,AV.bool true,some 1),(7,AV.int .i64 (bk .i64 k (Int.ofNat 1)),none)],Z0::H)) (Tr.req (dY k m) (Tr.req (dJ v v) (Tr.req (bX (aD 0 k 1) m) (Tr.reqP (z=z∧bg l 5=bg l 5∧l=l∧Int.NonNeg (i-0)∧Int.NonNeg (↑l-(i+1))) (Tr.ok (Ex.normal,[(0,aO 5 l z,none),(3,AV.slc 0 0 0 0 1 N (some N),none),(4,AV.slc 0 1 v 0 1 m none,none),(5,AV.int .i64 i,none),(6,AV.bool (eU (a (aD 0 k 1)) (hi i)),none),(7,AV.int .i64 (bk .i64 k (Int.ofNat 1)),none)],Z0::H))))))) (Tr.ok (Ex.exit 2,[(0,aO 5 l z,none),(3,AV.slc 0 0 0 0 1 N (some N),none),(4,AV.slc 0 1 v 0 1 m none,none),(5,AV.int .i64 i,none),(6,AV.bool tw,none),(7,AV.int .i64 k,none),(23,AV.bool false,some 1)],Z0::H))) { lock:=false,bs:=[(0,al.row (Row.M [aW.arr .i64 o N])),(v,al.row (Row.M [aW.arr .i64 a m]))] }:=by kernel_rfl
theorem Ks (n N l:Nat) (z o:Nat→Int) (i k:Int) (tw:Bool) (H:aa):aP (bt n 40 105) (il aT n 0) a6 a7 (part Tryz.f40 [1,1,1,0,1,0,0,1,0,0,1,0,1,0,0]) (hints (gT N l z .nils i tw k)) (⟨false,[fV N o]⟩::H) =
 Tr.ite (cP k (Int.ofNat 0)) (Tr.ite tw (Tr.ok (Ex.normal,[(0,aO 5 l z,none),(3,AV.slc 0 0 0 0 1 N (some N),none),(4,AV.nils,none),(5,AV.int .i64 i,none),(6,AV.bool true,some 1),(7,AV.int .i64 (bk .i64 k (Int.ofNat 1)),none)],{ lock:=false,bs:=[(0,al.row (Row.M [aW.arr .i64 o N]))] } :: H)) Tr.bad) (Tr.ok (Ex.exit 2,[(0,aO 5 l z,none),(3,AV.slc 0 0 0 0 1 N (some N),none),(4,AV.nils,none),(5,AV.int .i64 i,none),(6,AV.bool tw,none),(7,AV.int .i64 k,none),(23,AV.bool false,some 1)],{ lock:=false,bs:=[(0,al.row (Row.M [aW.arr .i64 o N]))] } :: H)):=by kernel_rfl
theorem Kt (n N l v m:Nat) (z a o:Nat→Int) (lo hi:Int→Int) (i:Int) (tw:Bool) (H:aa):aP (bt n 40 105) (il (ly aT 55 (JA lo hi z l)) n 0) (eT a6 2 (gT N l z (.slc 0 1 v 0 1 m none) i false (Int.ofNat 0)) (⟨false,[fV N o,kK v m a]⟩::H) (.ok (.normal,hints (gT N l z (.slc 0 1 v 0 1 m none) i tw (Int.ofNat m)++[(23,.bool false)]),⟨false,[fV N o,kK v m a]⟩::H))) a7 (part Tryz.f40 [1,1,1,0,1,0,0]) (hints (qR N l z (.slc 0 1 v 0 1 m none) i)) (⟨false,[fV N o,kK v m a]⟩::H) =
 (fun (Z0:bo)=>((fun (Z1:au)=>Tr.ite (cP i (Int.ofNat l)) (Tr.reqP (Z1=Z1∧Z0::H=Z0::H) (Tr.ite (dQ tw) (Tr.reqP (z=z∧bg l 5=bg l 5∧l=l∧Int.NonNeg (i-0)∧Int.NonNeg (↑l-(i+1))) (Tr.req (fO m 1 8) (Tr.req (dJ 0 0) (Tr.req (gi 1 1) (Tr.req (dJ v v) (Tr.req (dJ (aq 0 m) m) (Tr.ok (Ex.normal,[(0,aO 5 l z,none),(3,AV.slc 0 0 0 0 1 N (some N),none),(4,AV.slc 0 1 (Nat.succ v) 0 1 (aq m 1) none,none),(5,AV.int .i64 (bk .i64 i (Int.ofNat 1)),none)],{ lock:=false,bs:=[(0,al.row (Row.M [aW.arr .i64 o N])),(Nat.succ v,al.row (Row.M [aW.arr .i64 (qN (qL a 0) m (aL [hi i])) (aq m 1)])),(0,al.row (Row.I .i64 [hi i]))] } :: H)))))))) (Tr.ok (Ex.normal,[(0,aO 5 l z,none),(3,AV.slc 0 0 0 0 1 N (some N),none),(4,AV.slc 0 1 v 0 1 m none,none),(5,AV.int .i64 (bk .i64 i (Int.ofNat 1)),none)],Z0::H)))) (Tr.ok (Ex.exit 0,[(0,aO 5 l z,none),(3,AV.slc 0 0 0 0 1 N (some N),none),(4,AV.slc 0 1 v 0 1 m none,none),(5,AV.int .i64 i,none),(17,AV.bool false,some 1)],Z0::H))) [(0,aO 5 l z),(3,AV.slc 0 0 0 0 1 N (some N)),(4,AV.slc 0 1 v 0 1 m none),(5,AV.int .i64 i),(6,AV.bool false),(7,AV.int .i64 (Int.ofNat 0))])) { lock:=false,bs:=[(0,al.row (Row.M [aW.arr .i64 o N])),(v,al.row (Row.M [aW.arr .i64 a m]))] }:=by kernel_rfl
theorem Hh (n N l:Nat) (z o:Nat→Int) (lo hi:Int→Int) (i:Int) (H:aa):aP (bt n 40 105) (il (ly aT 55 (JA lo hi z l)) n 0) (eT a6 2 (gT N l z .nils i false (Int.ofNat 0)) (⟨false,[fV N o]⟩::H) (.ok (.normal,hints (gT N l z .nils i false (Int.ofNat 0)++[(23,.bool false)]),⟨false,[fV N o]⟩::H))) a7 (part Tryz.f40 [1,1,1,0,1,0,0]) (hints (qR N l z .nils i)) (⟨false,[fV N o]⟩::H) =
 (fun (Z0:bo)=>((fun (Z1:au)=>Tr.ite (cP i (Int.ofNat l)) (Tr.reqP (Z1=Z1∧Z0::H=Z0::H) (Tr.ite (dQ false) (Tr.reqP (z=z∧bg l 5=bg l 5∧l=l∧Int.NonNeg (i-0)∧Int.NonNeg (↑l-(i+1))) (Tr.req (fO 0 1 8) (Tr.req (dJ 0 0) (Tr.req (gi 1 1) (Tr.ok (Ex.normal,[(0,aO 5 l z,none),(3,AV.slc 0 0 0 0 1 N (some N),none),(4,AV.slc 0 2 0 0 1 1 none,none),(5,AV.int .i64 (bk .i64 i (Int.ofNat 1)),none)],{ lock:=false,bs:=[(0,al.row (Row.M [aW.arr .i64 o N])),(0,al.row (Row.I .i64 [hi i])),(0,al.row (Row.M [aW.arr .i64 (aL [hi i]) 1]))] } :: H)))))) (Tr.ok (Ex.normal,[(0,aO 5 l z,none),(3,AV.slc 0 0 0 0 1 N (some N),none),(4,AV.nils,none),(5,AV.int .i64 (bk .i64 i (Int.ofNat 1)),none)],Z0::H)))) (Tr.ok (Ex.exit 0,[(0,aO 5 l z,none),(3,AV.slc 0 0 0 0 1 N (some N),none),(4,AV.nils,none),(5,AV.int .i64 i,none),(17,AV.bool false,some 1)],Z0::H))) [(0,aO 5 l z),(3,AV.slc 0 0 0 0 1 N (some N)),(4,AV.nils),(5,AV.int .i64 i),(6,AV.bool false),(7,AV.int .i64 (Int.ofNat 0))])) { lock:=false,bs:=[(0,al.row (Row.M [aW.arr .i64 o N]))] }:=by kernel_rfl
theorem Kp (n N l m w v k:Nat) (z a o b:Nat→Int) (x i:Int) (H:aa):aP (bt n 40 105) (il aT n 0) a6 a7 (part Tryz.f40 [1,1,1,1,0,1,0,0,1,0,0,1,0,1,0,0]) (hints (jJ N l m z a x (.slc 0 2 v 0 1 k none) i)) (⟨false,[fV N o,(w,.dead),kK v k b]⟩::H) =
 (fun (Z0:bo)=>((fun (Z1:Nat×AV×Option Nat)=>Tr.ite (cP i (Int.ofNat m)) (Tr.req (mK (Int.ofNat 0) i) (Tr.ite (eU (yV IntKind.i64 (zQ IntKind.i64 x i) (Int.ofNat 1)) (Int.ofNat 1)) (Tr.req (dY i m) (Tr.req (bX (aD 0 i 1) m) (Tr.req (fO k 1 8) (Tr.req (dJ 0 0) (Tr.req (gi 1 1) (Tr.req (dJ v v) (Tr.req (dJ (aq 0 k) k) (Tr.ok (Ex.normal,[(0,aO 5 l z,none),(3,AV.slc 0 0 0 0 1 N (some N),none),Z1,(8,AV.int .i64 x,none),(9,AV.slc 0 2 (Nat.succ v) 0 1 (aq k 1) none,none),(10,AV.int .i64 (bk .i64 i (Int.ofNat 1)),none)],{ lock:=false,bs:=[(0,al.row (Row.M [aW.arr .i64 o N])),(w,al.dead),(Nat.succ v,al.row (Row.M [aW.arr .i64 (qN (qL b 0) k (aL [a (aD 0 i 1)])) (aq k 1)])),(0,al.row (Row.I .i64 [a (aD 0 i 1)]))] } :: H))))))))) (Tr.ok (Ex.normal,[(0,aO 5 l z,none),(3,AV.slc 0 0 0 0 1 N (some N),none),Z1,(8,AV.int .i64 x,none),(9,AV.slc 0 2 v 0 1 k none,none),(10,AV.int .i64 (bk .i64 i (Int.ofNat 1)),none)],Z0::H)))) (Tr.ok (Ex.exit 6,[(0,aO 5 l z,none),(3,AV.slc 0 0 0 0 1 N (some N),none),Z1,(8,AV.int .i64 x,none),(9,AV.slc 0 2 v 0 1 k none,none),(10,AV.int .i64 i,none),(57,AV.bool false,some 1)],Z0::H))) (4,AV.slcT none (Row.M [aW.arr .i64 a m]) 1 m false,none))) { lock:=false,bs:=[(0,al.row (Row.M [aW.arr .i64 o N])),(w,al.dead),(v,al.row (Row.M [aW.arr .i64 b k]))] }:=by kernel_rfl
theorem Hg (n N l m w:Nat) (z a o:Nat→Int) (x i:Int) (H:aa):aP (bt n 40 105) (il aT n 0) a6 a7 (part Tryz.f40 [1,1,1,1,0,1,0,0,1,0,0,1,0,1,0,0]) (hints (jJ N l m z a x .nils i)) (⟨false,[fV N o,(w,.dead)]⟩::H) =
 (fun (Z0:Nat×AV×Option Nat)=>Tr.ite (cP i (Int.ofNat m)) (Tr.req (mK (Int.ofNat 0) i) (Tr.ite (eU (yV IntKind.i64 (zQ IntKind.i64 x i) (Int.ofNat 1)) (Int.ofNat 1)) (Tr.req (dY i m) (Tr.req (bX (aD 0 i 1) m) (Tr.req (fO 0 1 8) (Tr.req (dJ 0 0) (Tr.req (gi 1 1) (Tr.ok (Ex.normal,[(0,aO 5 l z,none),(3,AV.slc 0 0 0 0 1 N (some N),none),Z0,(8,AV.int .i64 x,none),(9,AV.slc 0 3 0 0 1 1 none,none),(10,AV.int .i64 (bk .i64 i (Int.ofNat 1)),none)],{ lock:=false,bs:=[(0,al.row (Row.M [aW.arr .i64 o N])),(w,al.dead),(0,al.row (Row.I .i64 [a (aD 0 i 1)])),(0,al.row (Row.M [aW.arr .i64 (aL [a (aD 0 i 1)]) 1]))] } :: H))))))) (Tr.ok (Ex.normal,[(0,aO 5 l z,none),(3,AV.slc 0 0 0 0 1 N (some N),none),Z0,(8,AV.int .i64 x,none),(9,AV.nils,none),(10,AV.int .i64 (bk .i64 i (Int.ofNat 1)),none)],{ lock:=false,bs:=[(0,al.row (Row.M [aW.arr .i64 o N])),(w,al.dead)] } :: H)))) (Tr.ok (Ex.exit 6,[(0,aO 5 l z,none),(3,AV.slc 0 0 0 0 1 N (some N),none),Z0,(8,AV.int .i64 x,none),(9,AV.nils,none),(10,AV.int .i64 i,none),(57,AV.bool false,some 1)],{ lock:=false,bs:=[(0,al.row (Row.M [aW.arr .i64 o N])),(w,al.dead)] } :: H))) (4,AV.slcT none (Row.M [aW.arr .i64 a m]) 1 m false,none):=by kernel_rfl
theorem Nr (n N l m w v k:Nat) (z a o b:Nat→Int) (x wo:Int) (H:aa):aP (bt n 40 105) (il (tX aT 39 [aO 5 l z,cQ k b false] (.int .i64 wo)) n 0) (eT a6 6 (jJ N l m z a x .nils (Int.ofNat 0)) (⟨false,[fV N o,(w,.dead)]⟩::H) (.ok (.normal,hints (jJ N l m z a x (.slc 0 2 v 0 1 k none) (Int.ofNat m)++[(57,.bool false)]),⟨false,[fV N o,(w,.dead),kK v k b]⟩::H))) a7 (part Tryz.f40 [1,1,1,1,0,1,0,0]) (hints (mI N l m z a x)) (⟨false,[fV N o,(w,.dead)]⟩::H) =
 (fun (Z0:au)=>((fun (Z1:bo)=>Tr.req (mK (Int.ofNat 0) (Int.ofNat m)) (Tr.ite (cP x (yE IntKind.i64 (Int.ofNat 1) (Int.ofNat m))) (Tr.reqP (Z0=Z0∧Z1::H=Z1::H) (Tr.req (dJ v v) (Tr.req (qu 0 k 0 k) (Tr.req (dY (Int.ofNat k) N) (Tr.req (dJ 0 0) (Tr.req (bX (aD 0 (Int.ofNat k) 1) N) (Tr.reqP ([aO 5 l z,AV.slcT none (Row.M [aW.arr .i64 (qL b 0) k]) 1 k false]=[aO 5 l z,AV.slcT none (Row.M [aW.arr .i64 b k]) 1 k false]) (Tr.req (dY (Int.ofNat k) N) (Tr.req (dJ 0 0) (Tr.req (bX (aD 0 (Int.ofNat k) 1) N) (Tr.req (fB (gi 0 0) (gi 0 1)) (Tr.ok (Ex.normal,[(0,aO 5 l z,none),(3,AV.slc 0 0 0 0 1 N (some N),none),(4,AV.slcT none (Row.M [aW.arr .i64 a m]) 1 m false,none),(8,AV.int .i64 (bk .i64 x (Int.ofNat 1)),none)],{ lock:=false,bs:=[(0,al.row (Row.M [aW.arr .i64 (fS o (aD 0 (Int.ofNat k) 1) (vP (o (aD 0 (Int.ofNat k) 1)) wo)) N])),(w,al.dead),(v,al.dead)] } :: H))))))))))))) (Tr.ok (Ex.exit 4,[(0,aO 5 l z,none),(3,AV.slc 0 0 0 0 1 N (some N),none),(4,AV.slcT none (Row.M [aW.arr .i64 a m]) 1 m false,none),(8,AV.int .i64 x,none),(51,AV.bool false,some 1)],Z1::H)))) { lock:=false,bs:=[(0,al.row (Row.M [aW.arr .i64 o N])),(w,al.dead)] })) [(0,aO 5 l z),(3,AV.slc 0 0 0 0 1 N (some N)),(4,AV.slcT none (Row.M [aW.arr .i64 a m]) 1 m false),(8,AV.int .i64 x),(9,AV.nils),(10,AV.int .i64 (Int.ofNat 0))]:=by kernel_rfl
theorem Kn (n N l m w:Nat) (z a o:Nat→Int) (x wo:Int) (H:aa):aP (bt n 40 105) (il (tX aT 39 [aO 5 l z,.nils] (.int .i64 wo)) n 0) (eT a6 6 (jJ N l m z a x .nils (Int.ofNat 0)) (⟨false,[fV N o,(w,.dead)]⟩::H) (.ok (.normal,hints (jJ N l m z a x .nils (Int.ofNat m)++[(57,.bool false)]),⟨false,[fV N o,(w,.dead)]⟩::H))) a7 (part Tryz.f40 [1,1,1,1,0,1,0,0]) (hints (mI N l m z a x)) (⟨false,[fV N o,(w,.dead)]⟩::H) =
 (fun (Z0:au)=>((fun (Z1:bo)=>Tr.req (mK (Int.ofNat 0) (Int.ofNat m)) (Tr.ite (cP x (yE IntKind.i64 (Int.ofNat 1) (Int.ofNat m))) (Tr.reqP (Z0=Z0∧Z1::H=Z1::H) (Tr.req (dY (Int.ofNat 0) N) (Tr.req (bX 0 N) (Tr.reqP ([aO 5 l z,AV.nils]=[aO 5 l z,AV.nils]) (Tr.req (dY (Int.ofNat 0) N) (Tr.req (bX 0 N) (Tr.req (fB (gi 0 0) (gi 0 1)) (Tr.ok (Ex.normal,[(0,aO 5 l z,none),(3,AV.slc 0 0 0 0 1 N (some N),none),(4,AV.slcT none (Row.M [aW.arr .i64 a m]) 1 m false,none),(8,AV.int .i64 (bk .i64 x (Int.ofNat 1)),none)],{ lock:=false,bs:=[(0,al.row (Row.M [aW.arr .i64 (fS o 0 (vP (o 0) wo)) N])),(w,al.dead)] } :: H))))))))) (Tr.ok (Ex.exit 4,[(0,aO 5 l z,none),(3,AV.slc 0 0 0 0 1 N (some N),none),(4,AV.slcT none (Row.M [aW.arr .i64 a m]) 1 m false,none),(8,AV.int .i64 x,none),(51,AV.bool false,some 1)],Z1::H)))) { lock:=false,bs:=[(0,al.row (Row.M [aW.arr .i64 o N])),(w,al.dead)] })) [(0,aO 5 l z),(3,AV.slc 0 0 0 0 1 N (some N)),(4,AV.slcT none (Row.M [aW.arr .i64 a m]) 1 m false),(8,AV.int .i64 x),(9,AV.nils),(10,AV.int .i64 (Int.ofNat 0))]:=by kernel_rfl
theorem Kq (n N w:Nat) (o:Nat→Int) (i:Int) (H:aa):aP (bt n 40 105) (il aT n 0) a6 a7 (part Tryz.f40 [1,1,1,1,1,0,1,0,0]) (hints (qk N i)) (⟨false,[fV N o,(w,.dead)]⟩::H) =
 Tr.ite (cP i (Int.ofNat N)) (Tr.req (dY i N) (Tr.req (dJ 0 0) (Tr.req (bX (aD 0 i 1) N) (Tr.req (dY (cD .i64 i (Int.ofNat 1)) N) (Tr.req (dJ 0 0) (Tr.req (bX (aD 0 (cD .i64 i (Int.ofNat 1)) 1) N) (Tr.req (dY i N) (Tr.req (dJ 0 0) (Tr.req (bX (aD 0 i 1) N) (Tr.req (fB (gi 0 0) (gi 0 1)) (Tr.ok (Ex.normal,[(3,AV.slc 0 0 0 0 1 N (some N),none),(12,AV.int .i64 (bk .i64 i (Int.ofNat 1)),none)],{ lock:=false,bs:=[(0,al.row (Row.M [aW.arr .i64 (fS o (aD 0 i 1) (vP (o (aD 0 i 1)) (o (aD 0 (cD .i64 i (Int.ofNat 1)) 1)))) N])),(w,al.dead)] } :: H)))))))))))) (Tr.ok (Ex.exit 8,[(3,AV.slc 0 0 0 0 1 N (some N),none),(12,AV.int .i64 i,none),(88,AV.bool false,some 1)],{ lock:=false,bs:=[(0,al.row (Row.M [aW.arr .i64 o N])),(w,al.dead)] } :: H)):=by kernel_rfl
end Go.Eng
end
section
namespace Go.Eng
open Go.Proofs
section
variable (n l:Nat) (z:Nat→Int) (a b c d e w b0 b1 b2 b3 q:Int) (H:aa)
theorem DT (x y:Int):vP x y=max x y:=by rw[vQ];split<;>omega
end
end Go.Eng
end
section
namespace Go.Eng
open Go.Proofs
theorem NH (n l:Nat) (z:Nat→Int) (q:Int) (H:aa):bK Tryz.prog (cd n) 100000 55 Tryz.f55 (KtB.kt 55) (il aT n 0) a6 a7 [(aO 5 l z,none),(.int .i64 q,none)] H =
 Tr.req (dY q l) (Tr.req (bX (aD 0 q 5) (bg l 5)) (Tr.req (bX (aq (aD 0 q 5) 1) (bg l 5)) (Tr.req (bX (aq (aD 0 q 5) 2) (bg l 5)) (Tr.req (bX (aq (aD 0 q 5) 3) (bg l 5)) (Tr.req (bX (aq (aD 0 q 5) 4) (bg l 5)) (Tr.ok ((AV.agg (Row.I .i64 [cD .i64 (z (aq (aD 0 q 5) 1)) (z (aq (aD 0 q 5) 3)),cD .i64 (z (aD 0 q 5)) (z (aq (aD 0 q 5) 2))]),none),H))))))):=by kernel_rfl
theorem Ku (n N l v m:Nat) (z a o:Nat→Int) (i:Int) (H:aa):aP (bt n 40 105) (il aT n 0) (mT a6 2) a7 (part Tryz.f40 [1,1,1,0,1,0,0]) (hints (qR N l z (.slc 0 1 v 0 1 m none) i)) (⟨false,[fV N o,kK v m a]⟩::H) =
 Tr.ite (cP i (Int.ofNat l)) Tr.bad (Tr.ok (Ex.exit 0,[(0,aO 5 l z,none),(3,AV.slc 0 0 0 0 1 N (some N),none),(4,AV.slc 0 1 v 0 1 m none,none),(5,AV.int .i64 i,none),(17,AV.bool false,some 1)],{ lock:=false,bs:=[(0,al.row (Row.M [aW.arr .i64 o N])),(v,al.row (Row.M [aW.arr .i64 a m]))] } :: H)):=by kernel_rfl
theorem Lh:∀ b,(0,b) ∈ aV (bQ Tryz.f40)→b=.loop (part Tryz.f40 [1,1,1,0,1,0,0]):=gM (by kernel_rfl)
theorem Li:∀ b,(4,b) ∈ aV (bQ Tryz.f40)→b=.loop (part Tryz.f40 [1,1,1,1,0,1,0,0]):=gM (by kernel_rfl)
theorem Lj:∀ b,(8,b) ∈ aV (bQ Tryz.f40)→b=.loop (part Tryz.f40 [1,1,1,1,1,0,1,0,0]):=gM (by kernel_rfl)
theorem Fb:∀ b,(2,b) ∈ aV (part Tryz.f40 [1,1,1,0,1,0,0])→b=.loop (part Tryz.f40 [1,1,1,0,1,0,0,1,0,0,1,0,1,0,0]):=gM (by kernel_rfl)
theorem Jd:∀ b,(6,b) ∈ aV (part Tryz.f40 [1,1,1,1,0,1,0,0])→b=.loop (part Tryz.f40 [1,1,1,1,0,1,0,0,1,0,0,1,0,1,0,0]):=gM (by kernel_rfl)
theorem CV (x:Nat):BitVec.ofInt 64 (x:Int)=BitVec.ofNat 64 x:=by
 apply BitVec.eq_of_toNat_eq
 simp[BitVec.toNat_ofInt,BitVec.toNat_ofNat]
theorem EZ {x y:Nat} (hx:x<2 ^ 63) (hy:y<2 ^ 63):yV .i64 (x:Int) (y:Int)=((x &&& y:Nat):Int):=by
 rw[qU]
 show IntKind.i64.wrap ((BitVec.ofInt 64 (x:Int) &&& BitVec.ofInt 64 (y:Int)).toNat:Nat)=_
 have h1:x &&& y<2 ^ 63:=Nat.and_lt_two_pow x hy
 rw[CV,CV,BitVec.toNat_and,BitVec.toNat_ofNat,BitVec.toNat_ofNat,Nat.mod_eq_of_lt (by omega),Nat.mod_eq_of_lt (by omega),dv (by omega) (by omega)]
theorem GI {x i:Nat} (hi:i<64):zQ .i64 (x:Int) (i:Int)=((x / 2 ^ i:Nat):Int):=by
 rw[Ba]
 show (x:Int).fdiv (2 ^ min i 64)=_
 rw[Nat.min_eq_left (by omega),Int.fdiv_eq_ediv_of_nonneg _ (Int.le_of_lt (Int.pow_pos (by decide)))]
 rw[show (2:Int) ^ i=((2 ^ i:Nat):Int) from by rw[Int.natCast_pow];rfl]
 rfl
theorem GG {i:Nat} (hi:i<62):yE .i64 (Int.ofNat 1) (i:Int)=((2 ^ i:Nat):Int):=by
 rw[A9]
 show IntKind.i64.wrap (1*2 ^ min i 64)=_
 have:(2:Nat) ^ i≤2 ^ 62:=Nat.pow_le_pow_right (by decide) (by omega)
 rw[Nat.min_eq_left (by omega),Int.one_mul,show (2:Int) ^ i=((2 ^ i:Nat):Int) from by rw[Int.natCast_pow];rfl]
 generalize (2:Nat) ^ i=P at *
 exact dv (by omega) (by omega)
theorem Fg {S i:Nat} (hS:S<2 ^ 62) (hi:i<64):eU (yV .i64 (zQ .i64 (S:Int) (i:Int)) (Int.ofNat 1)) (Int.ofNat 1)=decide (S / 2 ^ i % 2=1):=by
 have h1:S / 2 ^ i≤S:=Nat.div_le_self _ _
 rw[GI hi,show (Int.ofNat 1:Int)=((1:Nat):Int) from rfl,EZ (by omega) (by decide),Nat.and_one_is_mod,bR]
 rw[Bool.eq_iff_iff,beq_iff_eq,decide_eq_true_eq]
 omega
def wv (a:Nat→Int) (h:Int):Nat→Bool
 | 0=>false
 | k+1=>wv a h k || (a k == h)
noncomputable def gw (z:Nat→Int):Nat→List Int
 | 0=>[]
 | i+1=>if wv (aL (gw z i)) (cB z i) (gw z i).length=true then gw z i else gw z i++[cB z i]
theorem vL (z:Nat→Int):∀ i,(gw z i).length≤i
 | 0=>Nat.le_refl _
 | i+1=>by
   have:=vL z i
   unfold gw
   split
   · omega
   · rw[List.length_append,List.length_singleton];omega
noncomputable def IT:List Int→AV
 | []=>.nils
 | _::r=>.slc 0 1 r.length 0 1 (r.length+1) none
noncomputable def Iq (N:Nat) (o:Nat→Int):List Int→bo
 | []=>⟨false,[fV N o]⟩
 | a::r=>⟨false,[fV N o,kK r.length (r.length+1) (aL (a::r))]⟩
noncomputable def IU:List Int→AV
 | []=>.nils
 | _::r=>.slc 0 2 r.length 0 1 (r.length+1) none
noncomputable def Ir (N w:Nat) (o:Nat→Int):List Int→bo
 | []=>⟨false,[fV N o,(w,.dead)]⟩
 | a::r=>⟨false,[fV N o,(w,.dead),kK r.length (r.length+1) (aL (a::r))]⟩
def EL (z:Nat→Int) (q:Int):Int:=c5 z q.toNat
def CB (z:Nat→Int) (q:Int):Int:=cB z q.toNat
theorem Ls (n l:Nat) (z:Nat→Int) (q:Int) (H:aa) (h:bY l z=0) (h0:0≤q) (h1:q<l):cd (n+1) (.fn 55) [aO 5 l z,.int .i64 q] H=some (.agg (.I .i64 [EL z q,CB z q]),H):=by
 obtain ⟨hl,hz⟩:=cM h
 have hk:=hz q.toNat (by omega)
 have ei:aD 0 q 5=q.toNat*5:=by rw[bS];omega
 refine bw (n:=n) Tryz.func55 rfl rfl rfl (NH n l z q H) (aB _) (af _ _) (ag _ _) ?_
 have v1:cD .i64 (z (q.toNat*5+1)) (z (q.toNat*5+3))=EL z q:=by
  unfold EL c5;rw[db,dv (by omega) (by omega)]
 have v2:cD .i64 (z (q.toNat*5)) (z (q.toNat*5+2))=CB z q:=by
  unfold CB cB;rw[db,dv (by omega) (by omega)]
 simp only[ei,ba,Nat.add_assoc]
 simp only[Nat.reduceAdd,v1,v2]
 exact wF
theorem pt (n l:Nat) (z:Nat→Int) (h:bY l z=0):(ly aT 55 (JA (EL z) (CB z) z l)).Ok (cd (n+1)):=by
 refine fD (bp _) (fun args p v hg hp H=>?_)
 unfold JA at hg
 split at hg
 · simp only[nP] at hg
   obtain ⟨rfl,rfl⟩:=hg
   obtain ⟨rfl,rfl,rfl,h0,h1⟩:=hp
   have:=Ls n _ _ _ H h h0 h1
   unfold aO at this
   rw[b7,← g8] at this
   exact this
 · cases hg
section
variable (n N l:Nat) (z o:Nat→Int) (H:aa)
theorem MJ (v m i:Nat) (a:Nat→Int) (h:bY l z=0) (hi:i<l) (hm:m≤1000):exec (bt (n+1) 40 105) (.block 2 (.loop (part Tryz.f40 [1,1,1,0,1,0,0,1,0,0,1,0,1,0,0]))) (gT N l z (.slc 0 1 v 0 1 m none) (i:Nat) false (Int.ofNat 0)) (⟨false,[fV N o,kK v m a]⟩::H)=some (.normal,gT N l z (.slc 0 1 v 0 1 m none) (i:Nat) (wv a (cB z i) m) (Int.ofNat m)++[(23,.bool false)],⟨false,[fV N o,kK v m a]⟩::H):=by
 refine iR 2 (fun k=>gT N l z (.slc 0 1 v 0 1 m none) (i:Nat) (wv a (cB z i) k) (k:Nat)) (fun _=>⟨false,[fV N o,kK v m a]⟩::H) m (gT N l z (.slc 0 1 v 0 1 m none) (i:Nat) (wv a (cB z i) m) (Int.ofNat m)++[(23,.bool false)],⟨false,[fV N o,kK v m a]⟩::H) (by omega) (fun k hk=>?_) ?_
 · have e1:bk .i64 (k:Int) (Int.ofNat 1)=((k+1:Nat):Int):=lx (by omega)
   have ek:aD 0 (k:Int) 1=k:=by rw[bS];omega
   have hh:CB z (i:Int)=cB z i:=rfl
   have ht:wv a (cB z i) (k+1)=(wv a (cB z i) k || (a k == cB z i)):=rfl
   refine az (Kr (n+1) N l v m z a o (EL z) (CB z) (i:Nat) (k:Nat) (wv a (cB z i) k) H) (cY _ _ (pt n l z h)) (af _ _) (ag _ _) ?_
   have hp:z=z∧bg l 5=bg l 5∧l=l∧0≤(i:Int)∧(i:Int)<(l:Int):=⟨rfl,rfl,rfl,by omega,by omega⟩
   rw[e1,ek,hh,ht,bR]
   cases wv a (cB z i) k with
   | true =>
     exact wF
   | false =>
     generalize (a k == cB z i)=c
     refine Tr.aj (fun hc=>Tr.aj (fun hc=>by cases hc) (fun _=>?_)) (fun hc=>by
      simp (disch:=omega) only[nV,nW] at hc;omega)
     repeat' first | (refine Tr.aj (fun hc=>?_) (fun hc=>?_)<;>(try simp (disch:=omega) only[nV,nW] at hc)<;>(try (exfalso;omega))) | (refine Tr.bm ?_ ?_;· ((try simp (disch:=omega) only[nV,nW]);try omega)) | (refine Tr.aF ?_ ?_;· first | exact trivial | rfl | exact ⟨rfl,rfl⟩ | exact ⟨trivial,rfl⟩ | exact ⟨rfl,by assumption⟩ | exact ⟨trivial,by assumption⟩ | exact ⟨rfl,rfl,rfl⟩ | (simp (disch:=omega) only[nV,nW];done) | ((try simp (disch:=omega) only[nV,nW]);omega)) | fail
     all_goals first
      | (refine Tr.aF hp (Tr.ar ⟨rfl,?_⟩)
         cases c<;>rfl)
      | fail
 · obtain ⟨q,q1,rfl⟩:=az (Q:=fun q=>q=(.exit 2,gT N l z (.slc 0 1 v 0 1 m none) (i:Nat) (wv a (cB z i) m) (Int.ofNat m)++[(23,.bool false)],⟨false,[fV N o,kK v m a]⟩::H)) (Kr (n+1) N l v m z a o (EL z) (CB z) (i:Nat) (Int.ofNat m) (wv a (cB z i) m) H) (cY _ _ (pt n l z h)) (af _ _) (ag _ _) (by
    refine Tr.aj (fun hc=>?_) (fun hc=>Tr.ar rfl)
    simp (disch:=omega) only[nV,nW] at hc;omega)
   exact q1
theorem G8 (i:Int):exec (bt n 40 105) (.block 2 (.loop (part Tryz.f40 [1,1,1,0,1,0,0,1,0,0,1,0,1,0,0]))) (gT N l z .nils i false (Int.ofNat 0)) (⟨false,[fV N o]⟩::H)=some (.normal,gT N l z .nils i false (Int.ofNat 0)++[(23,.bool false)],⟨false,[fV N o]⟩::H):=by
 refine iR 2 (fun k=>gT N l z .nils i false (k:Nat)) (fun _=>⟨false,[fV N o]⟩::H) 0 (gT N l z .nils i false (Int.ofNat 0)++[(23,.bool false)],⟨false,[fV N o]⟩::H) (by omega) (fun k hk=>absurd hk (Nat.not_lt_zero _)) ?_
 obtain ⟨q,q1,rfl⟩:=az (Q:=fun q=>q=(.exit 2,gT N l z .nils i false (Int.ofNat 0)++[(23,.bool false)],⟨false,[fV N o]⟩::H)) (Ks n N l z o i (Int.ofNat 0) false H) (aB _) (af _ _) (ag _ _) (by
  refine Tr.aj (fun hc=>?_) (fun hc=>Tr.ar rfl)
  simp (disch:=omega) only[nV,nW] at hc;omega)
 exact q1
end
end Go.Eng
end
section
namespace Go.Eng
open Go.Proofs
section
variable (n N l:Nat) (z o:Nat→Int) (H:aa)
theorem MF (h:bY l z=0):exec (bt (n+1) 40 105) (.block 0 (.loop (part Tryz.f40 [1,1,1,0,1,0,0]))) (qR N l z .nils (Int.ofNat 0)) (⟨false,[fV N o]⟩::H)=some (.normal,qR N l z (IT (gw z l)) (Int.ofNat l)++[(17,.bool false)],Iq N o (gw z l)::H):=by
 obtain ⟨hl,_⟩:=cM h
 refine iR 0 (fun i=>qR N l z (IT (gw z i)) (i:Nat)) (fun i=>Iq N o (gw z i)::H) l (qR N l z (IT (gw z l)) (Int.ofNat l)++[(17,.bool false)],Iq N o (gw z l)::H) (by omega) (fun i hi=>?_) ?_
 · have e1 : bk .i64 (i:Int) (Int.ofNat 1)=((i+1:Nat):Int):=lx (by omega)
   have hh:CB z (i:Int)=cB z i:=rfl
   have hs:gw z (i+1)=if wv (aL (gw z i)) (cB z i) (gw z i).length=true then gw z i else gw z i++[cB z i]:=rfl
   have hlen:=vL z i
   have hp:z=z∧bg l 5=bg l 5∧l=l∧0≤(i:Int)∧(i:Int)<(l:Int):=⟨rfl,rfl,rfl,by omega,by omega⟩
   rw[hs]
   cases e:gw z i with
   | nil =>
     have hx:=G8 (n+1) N l z o H (i:Nat)
     rw[if_neg (by simp[wv])]
     refine az (Hh (n+1) N l z o (EL z) (CB z) (i:Nat) H) (cY _ _ (pt n l z h)) (bu (af _ _) Fb (fun x h=>by rw[← Tr.ab h];simp only[fz.st,aN];exact hx)) (ag _ _) ?_
     rw[e1,hh]
     repeat' first | (refine Tr.aj (fun hc=>?_) (fun hc=>?_)<;>(try simp (disch:=omega) only[nV,nW] at hc)<;>(try (exfalso;omega))) | (refine Tr.bm ?_ ?_;· ((try simp (disch:=omega) only[nV,nW]);try omega)) | (refine Tr.aF ?_ ?_;· first | exact trivial | rfl | exact ⟨rfl,rfl⟩ | exact ⟨trivial,rfl⟩ | exact ⟨rfl,by assumption⟩ | exact ⟨trivial,by assumption⟩ | exact ⟨rfl,rfl,rfl⟩ | (simp (disch:=omega) only[nV,nW];done) | ((try simp (disch:=omega) only[nV,nW]);omega)) | fail
     refine Tr.aF hp ?_
     exact wF
   | cons a r =>
     rw[e] at hlen
     simp only[List.length_cons] at hlen
     have hx:=MJ n N l z o H r.length (r.length+1) i (aL (a::r)) h hi (by omega)
     have e2:=mi (a::r) (cB z i)
     simp only[List.length_cons] at e2 ⊢
     have e3:aq (r.length+1) 1=r.length+1+1:=by rw[ba]
     have e4:(r++[cB z i]).length=r.length+1:=by simp
     cases ht:wv (aL (a::r)) (cB z i) (r.length+1) with
     | true =>
       rw[ht] at hx
       rw[if_pos rfl]
       refine az (Kt (n+1) N l r.length (r.length+1) z (aL (a::r)) o (EL z) (CB z) (i:Nat) true H) (cY _ _ (pt n l z h)) (bu (af _ _) Fb (fun x h=>by rw[← Tr.ab h];simp only[fz.st,aN];exact hx)) (ag _ _) ?_
       rw[e1,hh]
       exact wF
     | false =>
       rw[ht] at hx
       rw[if_neg (by simp)]
       refine az (Kt (n+1) N l r.length (r.length+1) z (aL (a::r)) o (EL z) (CB z) (i:Nat) false H) (cY _ _ (pt n l z h)) (bu (af _ _) Fb (fun x h=>by rw[← Tr.ab h];simp only[fz.st,aN];exact hx)) (ag _ _) ?_
       rw[e1,hh]
       repeat' first | (refine Tr.aj (fun hc=>?_) (fun hc=>?_)<;>(try simp (disch:=omega) only[nV,nW] at hc)<;>(try (exfalso;omega))) | (refine Tr.bm ?_ ?_;· ((try simp (disch:=omega) only[nV,nW]);try omega)) | (refine Tr.aF ?_ ?_;· first | exact trivial | rfl | exact ⟨rfl,rfl⟩ | exact ⟨trivial,rfl⟩ | exact ⟨rfl,by assumption⟩ | exact ⟨trivial,by assumption⟩ | exact ⟨rfl,rfl,rfl⟩ | (simp (disch:=omega) only[nV,nW];done) | ((try simp (disch:=omega) only[nV,nW]);omega)) | fail
       refine Tr.aF hp ?_
       rw[e2,e3]
       repeat' first | (refine Tr.aj (fun hc=>?_) (fun hc=>?_)<;>(try simp (disch:=omega) only[nV,nW] at hc)<;>(try (exfalso;omega))) | (refine Tr.bm ?_ ?_;· ((try simp (disch:=omega) only[nV,nW]);try omega)) | (refine Tr.aF ?_ ?_;· first | exact trivial | rfl | exact ⟨rfl,rfl⟩ | exact ⟨trivial,rfl⟩ | exact ⟨rfl,by assumption⟩ | exact ⟨trivial,by assumption⟩ | exact ⟨rfl,rfl,rfl⟩ | (simp (disch:=omega) only[nV,nW];done) | ((try simp (disch:=omega) only[nV,nW]);omega)) | fail
       all_goals first
        | (refine Tr.ar ⟨rfl,?_⟩
           show _=(qR N l z (.slc 0 1 (r++[cB z i]).length 0 1 ((r++[cB z i]).length+1) none) ((i+1:Nat):Int),(⟨false,[fV N o,kK (r++[cB z i]).length ((r++[cB z i]).length+1) (aL (a::(r++[cB z i])))]⟩:bo)::H)
           rw[e4];kernel_rfl)
        | fail
 · cases e:gw z l with
   | nil =>
     obtain ⟨q,q1,rfl⟩:=az (Q:=fun q=>q=(.exit 0,qR N l z .nils (Int.ofNat l)++[(17,.bool false)],(⟨false,[fV N o]⟩:bo)::H)) (Hh (n+1) N l z o (EL z) (CB z) (Int.ofNat l) H) (cY _ _ (pt n l z h)) (bu (af _ _) Fb (fun x h=>by rw[← Tr.ab h];simp only[fz.st,aN];exact G8 (n+1) N l z o H (Int.ofNat l))) (ag _ _) (by
      refine Tr.aj (fun hc=>?_) (fun hc=>Tr.ar rfl)
      simp (disch:=omega) only[nV,nW] at hc;omega)
     exact q1
   | cons a r =>
     obtain ⟨q,q1,rfl⟩:=az (Q:=fun q=>q=(.exit 0,qR N l z (.slc 0 1 r.length 0 1 (r.length+1) none) (Int.ofNat l)++[(17,.bool false)],(⟨false,[fV N o,kK r.length (r.length+1) (aL (a::r))]⟩:bo)::H)) (Ku (n+1) N l r.length (r.length+1) z (aL (a::r)) o (Int.ofNat l) H) (aB _) (fP (af _ _) 2) (ag _ _) (by
      refine Tr.aj (fun hc=>?_) (fun hc=>Tr.ar rfl)
      simp (disch:=omega) only[nV,nW] at hc;omega)
     exact q1
end
end Go.Eng
end
