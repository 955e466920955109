/- Lay: hands, crowds. -/
import Derived.Test.YtoomemfhcbajoaaV7Lb10x3
set_option linter.unusedVariables false
set_option linter.unusedSimpArgs false
set_option maxRecDepth 100000
section
namespace Go.Eng
open Go.Proofs
noncomputable def AP (l:Nat) (z:Nat→Int) (h T c j:Int):ao:=[(1,.int .i64 h),(2,.int .i64 T),(7,cA l z false),(8,.int .i64 c),(9,.int .i64 j)]
theorem QN (n l k:Nat) (t d g:Nat→Int) (W:Int→Int→Nat→(Nat→Int)→Bool) (h:Int) (H:aa):aX Try.prog (cd n) 100000 66 Try.f66 (KtL.kt 66) (il (jb (tX aD 51 [bR l t k d] (.tup [eA 0 l t k d g,.int .i64 0])) 56 (K6 W)) n 0) aK aL [(bR l t k d,none),(.int .i64 h,none)] H =
 (fun (Z0:AV×Option Nat)=>((fun (Z1:List AV)=>((fun (Z2:AV×Option Nat)=>Tr.reqP (Z1=Z1) (Tr.ite (aY (cI (Int.ofNat 0) (Int.ofNat 0))) (Tr.ok ((AV.tup [AV.nilp,AV.int .i64 (Int.ofNat 0)],none),H)) (Tr.ite (bQ h (Int.ofNat 1)) (Tr.ite (aY false) (Tr.ok (Z2,H)) (Tr.ok (Z0,H))) (Tr.ite (bQ (Int.ofNat 10) h) (Tr.ite (aY false) (Tr.ok (Z2,H)) (Tr.ok (Z0,H))) (Tr.ite (aY true) (Tr.ok (Z2,H)) (Tr.ok (Z0,H))))))) (AV.tup [AV.nilp,AV.int .i64 (Int.ofNat 2)],none))) [AV.agg (Row.G [AV.slcT none (Row.M [ah.arr .i64 t l]) 1 l false,AV.slcT none (Row.M [ah.arr .i64 d k]) 1 k false])])) (AV.tup [AV.ptrT (some 0) (Row.M [ah.one (AV.slcT none (Row.M [ah.arr .i64 t l]) 1 l false),ah.one (AV.slcT none (Row.M [ah.arr .i64 d k]) 1 k false),ah.arr .i64 g 30]) 0,AV.int .i64 (Int.ofNat 0)],none):=by kernel_rfl
theorem Qb (n l k:Nat) (t d:Nat→Int) (e h:Int) (H:aa):aX Try.prog (cd n) 100000 66 Try.f66 (KtL.kt 66) (il (tX aD 51 [bR l t k d] (.tup [.nilp,.int .i64 e])) n 0) aK aL [(bR l t k d,none),(.int .i64 h,none)] H =
 (fun (Z0:List AV)=>Tr.reqP (Z0=Z0) (Tr.ite (aY (cI e (Int.ofNat 0))) (Tr.ok ((AV.tup [AV.nilp,AV.int .i64 e],none),H)) Tr.bad)) [AV.agg (Row.G [AV.slcT none (Row.M [ah.arr .i64 t l]) 1 l false,AV.slcT none (Row.M [ah.arr .i64 d k]) 1 k false])]:=by kernel_rfl
theorem u64 (n l k:Nat) (t d:Nat→Int) (e h:Int) (H:aa):aX Try.prog (cd n) 100000 64 Try.f64 (KtL.kt 64) (il (tX aD 22 [bR l t k d] (.int .i64 e)) n 0) aK aL [(bR l t k d,none),(.int .i64 h,none)] H =
 (fun (Z0:List AV)=>Tr.reqP (Z0=Z0) (Tr.ite (aY (cI e (Int.ofNat 0))) (Tr.reqP (Z0=Z0) (Tr.ok ((AV.int .i64 e,none),H))) (Tr.ite (bQ h (Int.ofNat 1)) (Tr.ok ((AV.int .i64 (Int.ofNat 2),some 1),H)) (Tr.ite (bQ (Int.ofNat 10) h) (Tr.ok ((AV.int .i64 (Int.ofNat 2),some 1),H)) (Tr.ok ((AV.int .i64 (Int.ofNat 0),some 1),H)))))) [AV.agg (Row.G [AV.slcT none (Row.M [ah.arr .i64 t l]) 1 l false,AV.slcT none (Row.M [ah.arr .i64 d k]) 1 k false])]:=by kernel_rfl
theorem t70 (n l k:Nat) (z:Nat→Int) (t d:Nat→Int) (H:aa) (h T c j:Int):aM (bp n 70 31) (il aD n 0) aK aL (part Try.f70 [1,1,1,0,1,0,0]) (hints (AP l z h T c j)) (mn l t k d::H) =
 (fun (Z0:aV)=>((fun (Z1:Nat×AV×Option Nat)=>Tr.ite (bQ j (Int.ofNat l)) (Tr.req (cN j l) (Tr.req (cw (au 0 j 1) l) (Tr.ite (lM (z (au 0 j 1)) T) (Tr.ok (Ex.normal,[(1,AV.int .i64 h,none),(2,AV.int .i64 T,none),Z1,(8,AV.int .i64 (bG .i64 c (Int.ofNat 1)),none),(9,AV.int .i64 (bG .i64 j (Int.ofNat 1)),none)],Z0::H)) (Tr.ok (Ex.normal,[(1,AV.int .i64 h,none),(2,AV.int .i64 T,none),Z1,(8,AV.int .i64 c,none),(9,AV.int .i64 (bG .i64 j (Int.ofNat 1)),none)],Z0::H))))) (Tr.ok (Ex.exit 0,[(1,AV.int .i64 h,none),(2,AV.int .i64 T,none),Z1,(8,AV.int .i64 c,none),(9,AV.int .i64 j,none),(15,AV.bool false,some 1)],Z0::H))) (7,AV.slcT none (Row.M [ah.arr .i64 z l]) 1 l false,none))) { lock:=false,bs:=[(0,aj.row (Row.G [AV.slcT none (Row.M [ah.arr .i64 t l]) 1 l false,AV.slcT none (Row.M [ah.arr .i64 d k]) 1 k false]))] }:=by kernel_rfl
theorem T4 (n l k:Nat) (z:Nat→Int) (t d:Nat→Int) (H:aa) (h T c:Int):aX Try.prog (cd n) 100000 70 Try.f70 (KtL.kt 70) (il (tX aD 55 [bR l t k d] (cA l z false)) n 0) (bX aK 0 (AP l z h T 0 0) (mn l t k d::H) (.ok (.normal,hints (AP l z h T c (Int.ofNat l)++[(15,.bool false)]),mn l t k d::H))) aL [(bR l t k d,none),(.int .i64 h,none),(.int .i64 T,none)] H =
 (fun (Z0:Row)=>((fun (Z1:ao)=>Tr.reqP ([AV.agg Z0]=[AV.agg Z0]) (Tr.reqP (Z1=Z1∧{ lock:=false,bs:=[(0,aj.row Z0)] } :: H={ lock:=false,bs:=[(0,aj.row Z0)] } :: H) (Tr.ok ((AV.bool (bQ (rE .i64 h T) c),none),H)))) [(1,AV.int .i64 h),(2,AV.int .i64 T),(7,AV.slcT none (Row.M [ah.arr .i64 z l]) 1 l false),(8,AV.int .i64 (Int.ofNat 0)),(9,AV.int .i64 (Int.ofNat 0))])) (Row.G [AV.slcT none (Row.M [ah.arr .i64 t l]) 1 l false,AV.slcT none (Row.M [ah.arr .i64 d k]) 1 k false]):=by kernel_rfl
theorem TX (n l k:Nat) (t d g:Nat→Int) (H:aa) (h a c:Int):aX Try.prog (cd n) 100000 61 Try.f61 (KtL.kt 61) (il (tX (tX aD 66 [bR l t k d,.int .i64 h] (.tup [eA 0 l t k d g,.int .i64 0])) 69 [eA 0 l t k d g,cA k d false,.int .i64 h] (.int .i64 c)) n 0) aK aL [(bR l t k d,none),(.int .i64 h,none),(.int .i64 a,none)] H =
 (fun (Z0:Row)=>((fun (Z1:List AV)=>((fun (Z2:List AV)=>Tr.reqP (Z1=Z1) (Tr.ite (aY (cI (Int.ofNat 0) (Int.ofNat 0))) (Tr.ok ((AV.tup [AV.nilp,AV.int .i64 (Int.ofNat 0)],none),H)) (Tr.ite (aY (cI a (Int.ofNat 0))) (Tr.ok ((AV.tup [AV.nilp,AV.int .i64 a],none),H)) (Tr.reqP (Z2=Z2) (Tr.ite (lM (Int.ofNat 0) c) (Tr.ok ((AV.tup [AV.nilp,AV.int .i64 (Int.ofNat 13)],none),H)) (Tr.ok ((AV.tup [AV.ptrT (some 0) Z0 0,AV.int .i64 (Int.ofNat 0)],none),H))))))) [AV.ptrT (some 0) Z0 0,AV.slcT none (Row.M [ah.arr .i64 d k]) 1 k false,AV.int .i64 h])) [AV.agg (Row.G [AV.slcT none (Row.M [ah.arr .i64 t l]) 1 l false,AV.slcT none (Row.M [ah.arr .i64 d k]) 1 k false]),AV.int .i64 h])) (Row.M [ah.one (AV.slcT none (Row.M [ah.arr .i64 t l]) 1 l false),ah.one (AV.slcT none (Row.M [ah.arr .i64 d k]) 1 k false),ah.arr .i64 g 30]):=by kernel_rfl
theorem Qa (n l k:Nat) (t d:Nat→Int) (H:aa) (h a e:Int):aX Try.prog (cd n) 100000 61 Try.f61 (KtL.kt 61) (il (tX aD 66 [bR l t k d,.int .i64 h] (.tup [.nilp,.int .i64 e])) n 0) aK aL [(bR l t k d,none),(.int .i64 h,none),(.int .i64 a,none)] H =
 (fun (Z0:List AV)=>Tr.reqP (Z0=Z0) (Tr.ite (aY (cI e (Int.ofNat 0))) (Tr.ok ((AV.tup [AV.nilp,AV.int .i64 e],none),H)) (Tr.ite (aY (cI a (Int.ofNat 0))) (Tr.ok ((AV.tup [AV.nilp,AV.int .i64 a],none),H)) Tr.bad))) [AV.agg (Row.G [AV.slcT none (Row.M [ah.arr .i64 t l]) 1 l false,AV.slcT none (Row.M [ah.arr .i64 d k]) 1 k false]),AV.int .i64 h]:=by kernel_rfl
theorem u32 (n l k:Nat) (t d g:Nat→Int) (H:aa) (h c:Int):aX Try.prog (cd n) 100000 32 Try.f32 (KtL.kt 32) (il (tX (tX aD 66 [bR l t k d,.int .i64 h] (.tup [eA 0 l t k d g,.int .i64 0])) 69 [eA 0 l t k d g,cA k d false,.int .i64 h] (.int .i64 c)) n 0) aK aL [(bR l t k d,none),(.int .i64 h,none)] H =
 (fun (Z0:List AV)=>((fun (Z1:List AV)=>Tr.reqP (Z1=Z1) (Tr.ite (aY (cI (Int.ofNat 0) (Int.ofNat 0))) (Tr.ok ((AV.tup [AV.int .i64 (Int.ofNat 0),AV.int .i64 (Int.ofNat 0)],none),H)) (Tr.reqP (Z0=Z0) (Tr.ite (bQ c (Int.ofNat 0)) (Tr.ok ((AV.tup [AV.int .i64 (Int.ofNat 0),AV.int .i64 (Int.ofNat 5)],none),H)) (Tr.ok ((AV.tup [AV.int .i64 c,AV.int .i64 (Int.ofNat 0)],none),H)))))) [AV.agg (Row.G [AV.slcT none (Row.M [ah.arr .i64 t l]) 1 l false,AV.slcT none (Row.M [ah.arr .i64 d k]) 1 k false]),AV.int .i64 h])) [AV.ptrT (some 0) (Row.M [ah.one (AV.slcT none (Row.M [ah.arr .i64 t l]) 1 l false),ah.one (AV.slcT none (Row.M [ah.arr .i64 d k]) 1 k false),ah.arr .i64 g 30]) 0,AV.slcT none (Row.M [ah.arr .i64 d k]) 1 k false,AV.int .i64 h]:=by kernel_rfl
theorem P2 (n l k:Nat) (t d:Nat→Int) (H:aa) (h e:Int):aX Try.prog (cd n) 100000 32 Try.f32 (KtL.kt 32) (il (tX aD 66 [bR l t k d,.int .i64 h] (.tup [.nilp,.int .i64 e])) n 0) aK aL [(bR l t k d,none),(.int .i64 h,none)] H =
 (fun (Z0:List AV)=>Tr.reqP (Z0=Z0) (Tr.ite (aY (cI e (Int.ofNat 0))) (Tr.ok ((AV.tup [AV.int .i64 (Int.ofNat 0),AV.int .i64 e],none),H)) Tr.bad)) [AV.agg (Row.G [AV.slcT none (Row.M [ah.arr .i64 t l]) 1 l false,AV.slcT none (Row.M [ah.arr .i64 d k]) 1 k false]),AV.int .i64 h]:=by kernel_rfl
theorem TL (n l k:Nat) (t d g:Nat→Int) (W:Int→Int→Nat→(Nat→Int)→Bool) (H:aa) (h T c:Int):aX Try.prog (cd n) 100000 37 Try.f37 (KtL.kt 37) (il (jb (tX (tX aD 66 [bR l t k d,.int .i64 h] (.tup [eA 0 l t k d g,.int .i64 0])) 71 [eA 0 l t k d g,cA k d false,.int .i64 T] (.int .i64 c)) 56 (K6 W)) n 0) aK aL [(bR l t k d,none),(.int .i64 h,none),(.int .i64 T,none)] H =
 (fun (Z0:List AV)=>((fun (Z1:List AV)=>Tr.reqP (Z1=Z1) (Tr.ite (aY (cI (Int.ofNat 0) (Int.ofNat 0))) (Tr.ok ((AV.int .i64 (Int.ofNat 0),none),H)) (Tr.ite (bQ T (Int.ofNat 0)) (Tr.ite (aY false) (Tr.ok ((AV.int .i64 (Int.ofNat 3),some 1),H)) (Tr.reqP (Z0=Z0) (Tr.ite (lM c (rE .i64 h T)) (Tr.ok ((AV.int .i64 (Int.ofNat 14),some 1),H)) (Tr.ok ((AV.int .i64 (Int.ofNat 0),some 1),H))))) (Tr.ite (bQ (Int.ofNat 40) T) (Tr.ite (aY false) (Tr.ok ((AV.int .i64 (Int.ofNat 3),some 1),H)) (Tr.reqP (Z0=Z0) (Tr.ite (lM c (rE .i64 h T)) (Tr.ok ((AV.int .i64 (Int.ofNat 14),some 1),H)) (Tr.ok ((AV.int .i64 (Int.ofNat 0),some 1),H))))) (Tr.ite (aY true) (Tr.ok ((AV.int .i64 (Int.ofNat 3),some 1),H)) (Tr.reqP (Z0=Z0) (Tr.ite (lM c (rE .i64 h T)) (Tr.ok ((AV.int .i64 (Int.ofNat 14),some 1),H)) (Tr.ok ((AV.int .i64 (Int.ofNat 0),some 1),H))))))))) [AV.agg (Row.G [AV.slcT none (Row.M [ah.arr .i64 t l]) 1 l false,AV.slcT none (Row.M [ah.arr .i64 d k]) 1 k false]),AV.int .i64 h])) [AV.ptrT (some 0) (Row.M [ah.one (AV.slcT none (Row.M [ah.arr .i64 t l]) 1 l false),ah.one (AV.slcT none (Row.M [ah.arr .i64 d k]) 1 k false),ah.arr .i64 g 30]) 0,AV.slcT none (Row.M [ah.arr .i64 d k]) 1 k false,AV.int .i64 T]:=by kernel_rfl
theorem P3 (n l k:Nat) (t d:Nat→Int) (H:aa) (h T e:Int):aX Try.prog (cd n) 100000 37 Try.f37 (KtL.kt 37) (il (tX aD 66 [bR l t k d,.int .i64 h] (.tup [.nilp,.int .i64 e])) n 0) aK aL [(bR l t k d,none),(.int .i64 h,none),(.int .i64 T,none)] H =
 (fun (Z0:List AV)=>Tr.reqP (Z0=Z0) (Tr.ite (aY (cI e (Int.ofNat 0))) (Tr.ok ((AV.int .i64 e,none),H)) Tr.bad)) [AV.agg (Row.G [AV.slcT none (Row.M [ah.arr .i64 t l]) 1 l false,AV.slcT none (Row.M [ah.arr .i64 d k]) 1 k false]),AV.int .i64 h]:=by kernel_rfl
theorem TM (n l k:Nat) (t d:Nat→Int) (H:aa) (h T e:Int) (b:Bool):aX Try.prog (cd n) 100000 38 Try.f38 (KtL.kt 38) (il (tX (tX aD 64 [bR l t k d,.int .i64 h] (.int .i64 e)) 70 [bR l t k d,.int .i64 h,.int .i64 T] (.bool b)) n 0) aK aL [(bR l t k d,none),(.int .i64 h,none),(.int .i64 T,none)] H =
 (fun (Z0:Row)=>Tr.reqP ([AV.agg Z0,AV.int .i64 h]=[AV.agg Z0,AV.int .i64 h]) (Tr.ite (aY (cI e (Int.ofNat 0))) (Tr.reqP ([AV.agg Z0,AV.int .i64 h]=[AV.agg Z0,AV.int .i64 h]) (Tr.ok ((AV.int .i64 e,none),H))) (Tr.ite (bQ T (Int.ofNat 0)) (Tr.ok ((AV.int .i64 (Int.ofNat 3),some 1),H)) (Tr.ite (bQ (Int.ofNat 40) T) (Tr.ok ((AV.int .i64 (Int.ofNat 3),some 1),H)) (Tr.reqP ([AV.agg Z0,AV.int .i64 h,AV.int .i64 T]=[AV.agg Z0,AV.int .i64 h,AV.int .i64 T]) (Tr.ite (aY b) (Tr.ok ((AV.int .i64 (Int.ofNat 14),some 1),H)) (Tr.ok ((AV.int .i64 (Int.ofNat 0),some 1),H)))))))) (Row.G [AV.slcT none (Row.M [ah.arr .i64 t l]) 1 l false,AV.slcT none (Row.M [ah.arr .i64 d k]) 1 k false]):=by kernel_rfl
theorem Np (n l k:Nat) (t d:Nat→Int) (H:aa) (h T e:Int):aX Try.prog (cd n) 100000 38 Try.f38 (KtL.kt 38) (il (tX aD 64 [bR l t k d,.int .i64 h] (.int .i64 e)) n 0) aK aL [(bR l t k d,none),(.int .i64 h,none),(.int .i64 T,none)] H =
 (fun (Z0:List AV)=>Tr.reqP (Z0=Z0) (Tr.ite (aY (cI e (Int.ofNat 0))) (Tr.reqP (Z0=Z0) (Tr.ok ((AV.int .i64 e,none),H))) (Tr.ite (bQ T (Int.ofNat 0)) (Tr.ok ((AV.int .i64 (Int.ofNat 3),some 1),H)) (Tr.ite (bQ (Int.ofNat 40) T) (Tr.ok ((AV.int .i64 (Int.ofNat 3),some 1),H)) Tr.bad)))) [AV.agg (Row.G [AV.slcT none (Row.M [ah.arr .i64 t l]) 1 l false,AV.slcT none (Row.M [ah.arr .i64 d k]) 1 k false]),AV.int .i64 h]:=by kernel_rfl
theorem QV:∀ b,(0,b) ∈ aJ (bn Try.f70)→b=.loop (part Try.f70 [1,1,1,0,1,0,0]):=eJ (by kernel_rfl)
theorem dc {n f nt:Nat} {c:Code} {callR:bD} {bl:h9} {rg:sb} {fr:ao} {H:aa} {b:Bool} {A:Tr oz} {y:oz} (e:aM (bp n f nt) callR bl rg c (hints fr) H=.ite b A (.ok y)) (hC:callR.Ok (cd n)) (hB:bl.Ok (bp n f nt) c) (hR:rg.Ok (bp n f nt) c) (hb:b=false):exec (bp n f nt) c fr H=some y.st:=by
 obtain ⟨x,h1,rfl⟩:=aH (Q:=fun x=>x=y.st) e hC hB hR (Tr.bh (fun h=>by rw[hb] at h;cases h) (fun _=>Tr.ba rfl))
 exact h1
def cX (l:Nat) (t:Nat→Int) (k:Nat) (d:Nat→Int) (h:Int):Int:=if oi l t k d=0 then (if h<1∨10<h then 2 else 0) else oi l t k d
theorem kI {l k:Nat} {t d:Nat→Int} {h:Int} (e:cX l t k d h=0):Sh l t k d∧1≤h∧h≤10:=by
 unfold cX at e
 by_cases c:oi l t k d=0
 · rw[if_pos c] at e
   refine ⟨CL c,?_⟩
   by_cases c2:h<1∨10<h
   · rw[if_pos c2] at e;omega
   · omega
 · rw[if_neg c] at e;exact absurd e c
theorem Ey {l k:Nat} {t d:Nat→Int} {h:Int} (e:Sh l t k d) (h1:1≤h) (h2:h≤10):cX l t k d h=0:=by
 unfold cX
 rw[if_pos (I8 e),if_neg (by omega)]
def ct (l:Nat) (t e:Nat→Int) (h:Int):Bool:=!bV (fun T=>rM l t e h (T:Nat)) 41
theorem wz (l:Nat) (t e:Nat→Int) (h:Int):(pW l t e h<0↔ct l t e h=true)∧(0≤pW l t e h↔ct l t e h=false):=by
 unfold pW A0 ct
 cases bV (fun T:Nat=>rM l t e h (T:Nat)) 41 with
 | true=>rw[if_pos rfl];constructor<;>simp<;>omega
 | false=>rw[if_neg (by decide)];constructor<;>simp
section
variable (n l k:Nat) (t d:Nat→Int) (H:aa) (h:Int)
theorem Ny (e:cX l t k d h=0):cd (n+10) (.fn 66) [bR l t k d,.int .i64 h] H=some (.tup [KV 0 l t k d,.int .i64 0],H):=by
 obtain ⟨hs,h1,h2⟩:=kI e
 refine aC (n:=n+9) Try.func66 rfl rfl rfl (QN (n+9) l k t d (cT t l) Bz h H) (aQ _ (n+9) (nL (c:=n+3) (bo (aB _) (fun H=>QE (n+1) l k t d H hs)))) (af _ _) (ag _ _) ?_
 unfold KV
 generalize cT t l=g at *
 exact wF
theorem G1 (e:cX l t k d h≠0):cd (n+10) (.fn 66) [bR l t k d,.int .i64 h] H=some (.tup [.nilp,.int .i64 (cX l t k d h)],H):=by
 by_cases c:oi l t k d=0
 · have hs:=CL c
   have ea:cX l t k d h=if h<1∨10<h then 2 else 0:=by unfold cX;rw[if_pos c]
   by_cases c2:h<1∨10<h
   · rw[ea,if_pos c2]
     refine aC (n:=n+9) Try.func66 rfl rfl rfl (QN (n+9) l k t d (cT t l) Bz h H) (aQ _ (n+9) (nL (c:=n+3) (bo (aB _) (fun H=>QE (n+1) l k t d H hs)))) (af _ _) (ag _ _) ?_
     generalize cT t l=g at *
     exact wF
   · rw[ea,if_neg c2] at e;exact absurd rfl e
 · have ea:cX l t k d h=oi l t k d:=by unfold cX;rw[if_neg c]
   rw[ea]
   refine aC (n:=n+9) Try.func66 rfl rfl rfl (Qb (n+9) l k t d (oi l t k d) h H) (aQ _ (n+9) (bo (aB _) (fun H=>NU (n+1) l k t d H c))) (af _ _) (ag _ _) ?_
   generalize oi l t k d=e at *
   exact wF
theorem Lo:cd (n+3) (.fn 64) [bR l t k d,.int .i64 h] H=some (.int .i64 (cX l t k d h),H):=by
 refine aC (n:=n+2) Try.func64 rfl rfl rfl (u64 (n+2) l k t d (oi l t k d) h H) (aQ _ (n+2) (bo (aB _) (fun H=>QD n l k t d H))) (af _ _) (ag _ _) ?_
 have ea:cX l t k d h=if oi l t k d=0 then (if h<1∨10<h then 2 else 0) else oi l t k d:=rfl
 rw[ea]
 generalize oi l t k d=e at *
 by_cases c:e=0
 · rw[if_pos c]
   by_cases c2:h<1∨10<h
   · rw[if_pos c2]
     exact wF
   · rw[if_neg c2]
     exact wF
 · rw[if_neg c]
   exact wF
theorem Tl (z:Nat→Int) (T:Int) (hl:l≤30):exec (bp n 70 31) (.block 0 (.loop (part Try.f70 [1,1,1,0,1,0,0]))) (AP l z h T 0 0) (mn l t k d::H)=some (.normal,AP l z h T (cn (fun i=>decide (z i≤T)) l:Nat) (Int.ofNat l)++[(15,.bool false)],mn l t k d::H):=by
 refine j8 (n:=n) (f:=70) (nt:=31) (c:=part Try.f70 [1,1,1,0,1,0,0]) 0 (fun j=>AP l z h T (cn (fun i=>decide (z i≤T)) j:Nat) (j:Nat)) (fun _=>mn l t k d::H) l _ (by omega) (fun j hj=>?_) ?_
 · refine aH (t70 n l k z t d H h T (cn (fun i=>decide (z i≤T)) j:Nat) (j:Nat)) (ar n) (af _ _) (ag _ _) ?_
   have hle:=lY (fun i=>decide (z i≤T)) j
   show Tr.all _ (fun r=>_∧tidy _ _ _=(AP l z h T ((cn (fun i=>decide (z i≤T)) j+(decide (z j≤T)).toNat:Nat):Int) ((j+1:Nat):Int),_))
   rw[db (j:=j) (by omega),db (by omega)]
   simp only[jB]
   generalize cn (fun i=>decide (z i≤T)) j=C at *
   generalize z j=q at *
   by_cases c:q≤T
   · rw[decide_eq_true c]
     exact wF
   · rw[decide_eq_false c]
     exact wF
 · exact dc (t70 n l k z t d H h T (cn (fun i=>decide (z i≤T)) l:Nat) (Int.ofNat l)) (ar n) (af _ _) (ag _ _) (by first | (simp (disch:=omega) only[nV,nW];done) | (simp (disch:=omega) only[nV,nW];omega))
theorem Rk (e:Fw l t) (h0:0<l) (hk:k=l) (hb:Bd l d) (T:Int) (hh:-1000≤h*T∧h*T≤1000000):cd (n+2) (.fn 70) [bR l t k d,.int .i64 h,.int .i64 T] H=some (.bool (rM l t d h T),H):=by
 have hx:=Tl (n+1) l k t d H h (aA (iA (fun i=>gv l t d i) l)) T e.l30
 rw[dD (q:=fun i=>decide (gv l t d i≤T)) (fun j hj=>by rw[wL _ hj])] at hx
 refine aC (n:=n+1) Try.func70 rfl rfl rfl (T4 (n+1) l k (aA (iA (fun i=>gv l t d i) l)) t d H h T (AK l t d T:Nat)) (aQ _ (n+1) (bo (aB _) (fun H=>Rd n l k t d H e h0 hk hb))) (aF (af _ _) QV (fun x hy=>bY hy hx)) (ag _ _) ?_
 have em:rE .i64 h T=h*T:=by rw[lh];exact nD (by omega) (by omega)
 rw[em,dg]
 unfold rM
 generalize aA (iA (fun i=>gv l t d i) l)=z at *
 exact wF
def gH:Int:=if cX l t k d h=0 then (if ct l t d h=true then 0 else 13) else cX l t k d h
theorem Cv {l k:Nat} {t d:Nat→Int} {h:Int} (e:gH l k t d h=0):cX l t k d h=0∧ct l t d h=true:=by
 unfold gH at e
 by_cases c:cX l t k d h=0
 · rw[if_pos c] at e
   refine ⟨c,?_⟩
   by_cases c2:ct l t d h=true
   · exact c2
   · rw[if_neg c2] at e;omega
 · rw[if_neg c] at e;exact absurd e c
theorem QI (a:Int) (e:cX l t k d h=0):cd (n+11) (.fn 61) [bR l t k d,.int .i64 h,.int .i64 a] H=some (if a=0 then (if ct l t d h=true then .tup [KV 0 l t k d,.int .i64 0] else .tup [.nilp,.int .i64 13]) else .tup [.nilp,.int .i64 a],H):=by
 obtain ⟨hs,h1,h2⟩:=kI e
 refine aC (n:=n+10) Try.func61 rfl rfl rfl (TX (n+10) l k t d (cT t l) H h a (pW l t d h)) (aQ _ (n+10) (bo (bo (aB _) (fun H=>Ny n l k t d H h e)) (fun H=>NZ (n+6) 0 l k k t d _ d false H h hs.l30 hs.kl hs.tl hs.cyc hs.bd (by omega)))) (af _ _) (ag _ _) ?_
 obtain ⟨q1,q2⟩:=wz l t d h
 unfold KV
 generalize cT t l=g at *
 generalize pW l t d h=C at *
 by_cases c:a=0
 · rw[if_pos c]
   cases hB:ct l t d h with
   | true =>
     have:=q1.2 hB
     simp only[if_true]
     exact wF
   | false =>
     have:=q2.2 hB
     simp only[Bool.false_eq_true,if_false]
     exact wF
 · rw[if_neg c]
   exact wF
theorem NW (a:Int) (e:cX l t k d h≠0):cd (n+11) (.fn 61) [bR l t k d,.int .i64 h,.int .i64 a] H=some (.tup [.nilp,.int .i64 (cX l t k d h)],H):=by
 refine aC (n:=n+10) Try.func61 rfl rfl rfl (Qa (n+10) l k t d H h a (cX l t k d h)) (aQ _ (n+10) (bo (aB _) (fun H=>G1 n l k t d H h e))) (af _ _) (ag _ _) ?_
 generalize cX l t k d h=e at *
 exact wF
noncomputable def JO:AV:=if cX l t k d h=0 then (if ct l t d h=true then .tup [.int .i64 0,.int .i64 5] else .tup [.int .i64 (pW l t d h),.int .i64 0]) else .tup [.int .i64 0,.int .i64 (cX l t k d h)]
theorem Q8:cd (n+11) (.fn 32) [bR l t k d,.int .i64 h] H=some (JO l k t d h,H):=by
 unfold JO
 by_cases e:cX l t k d h=0
 · obtain ⟨hs,h1,h2⟩:=kI e
   rw[if_pos e]
   refine aC (n:=n+10) Try.func32 rfl rfl rfl (u32 (n+10) l k t d (cT t l) H h (pW l t d h)) (aQ _ (n+10) (bo (bo (aB _) (fun H=>Ny n l k t d H h e)) (fun H=>NZ (n+6) 0 l k k t d _ d false H h hs.l30 hs.kl hs.tl hs.cyc hs.bd (by omega)))) (af _ _) (ag _ _) ?_
   obtain ⟨q1,q2⟩:=wz l t d h
   generalize cT t l=g at *
   generalize pW l t d h=C at *
   cases hB:ct l t d h with
   | true =>
     have:=q1.2 hB
     simp only[if_true]
     exact wF
   | false =>
     have:=q2.2 hB
     simp only[Bool.false_eq_true,if_false]
     exact wF
 · rw[if_neg e]
   refine aC (n:=n+10) Try.func32 rfl rfl rfl (P2 (n+10) l k t d H h (cX l t k d h)) (aQ _ (n+10) (bo (aB _) (fun H=>G1 n l k t d H h e))) (af _ _) (ag _ _) ?_
   generalize cX l t k d h=e at *
   exact wF
def Dk (T:Int):Int:=if cX l t k d h=0 then (if T<0∨40<T then 3 else if rM l t d h T=true then 0 else 14) else cX l t k d h
theorem Q9 (T:Int):cd (n+11) (.fn 37) [bR l t k d,.int .i64 h,.int .i64 T] H=some (.int .i64 (Dk l k t d h T),H):=by
 unfold Dk
 by_cases e:cX l t k d h=0
 · obtain ⟨hs,h1,h2⟩:=kI e
   rw[if_pos e]
   refine aC (n:=n+10) Try.func37 rfl rfl rfl (TL (n+10) l k t d (cT t l) Bz H h T (AK l t d T:Nat)) (aQ _ (n+10) (nL (c:=n+4) (bo (bo (aB _) (fun H=>Ny n l k t d H h e)) (fun H=>Rl (n+6) 0 l k k t d _ d false H T hs.l30 hs.kl hs.tl hs.cyc hs.bd)))) (af _ _) (ag _ _) ?_
   generalize cT t l=g at *
   by_cases c:T<0∨40<T
   · rw[if_pos c]
     exact wF
   · rw[if_neg c]
     have hm:0≤h*T:=Int.mul_nonneg (by omega) (by omega)
     have hm2:h*T≤1000*1000:=Int.mul_le_mul (by omega) (by omega) (by omega) (by omega)
     have em:rE .i64 h T=h*T:=by rw[lh];exact nD (by omega) (by omega)
     unfold rM
     rw[em]
     generalize h*T=P at *
     generalize AK l t d T=C at *
     by_cases c2:P<(C:Nat)
     · rw[decide_eq_true c2,if_pos rfl]
       exact wF
     · rw[decide_eq_false c2,if_neg (by decide)]
       exact wF
 · rw[if_neg e]
   refine aC (n:=n+10) Try.func37 rfl rfl rfl (P3 (n+10) l k t d H h T (cX l t k d h)) (aQ _ (n+10) (bo (aB _) (fun H=>G1 n l k t d H h e))) (af _ _) (ag _ _) ?_
   generalize cX l t k d h=e at *
   exact wF
theorem Ra (T:Int):cd (n+4) (.fn 38) [bR l t k d,.int .i64 h,.int .i64 T] H=some (.int .i64 (Dk l k t d h T),H):=by
 unfold Dk
 by_cases e:cX l t k d h=0
 · obtain ⟨hs,h1,h2⟩:=kI e
   have hl1:=hs.l1
   rw[if_pos e]
   by_cases c:T<0∨40<T
   · rw[if_pos c]
     refine aC (n:=n+3) Try.func38 rfl rfl rfl (Np (n+3) l k t d H h T 0) (aQ _ (n+3) (bo (aB _) (fun H=>by rw[Lo,e]))) (af _ _) (ag _ _) ?_
     exact wF
   · rw[if_neg c]
     have hm:0≤h*T:=Int.mul_nonneg (by omega) (by omega)
     have hm2:h*T≤1000*1000:=Int.mul_le_mul (by omega) (by omega) (by omega) (by omega)
     refine aC (n:=n+3) Try.func38 rfl rfl rfl (TM (n+3) l k t d H h T 0 (rM l t d h T)) (aQ _ (n+3) (bo (bo (aB _) (fun H=>by rw[Lo,e])) (fun H=>Rk (n+1) l k t d H h hs.fw (by omega) hs.kl hs.bd T (by omega)))) (af _ _) (ag _ _) ?_
     generalize rM l t d h T=B at *
     cases B
     all_goals
      exact wF
 · rw[if_neg e]
   refine aC (n:=n+3) Try.func38 rfl rfl rfl (Np (n+3) l k t d H h T (cX l t k d h)) (aQ _ (n+3) (bo (aB _) (fun H=>Lo n l k t d H h))) (af _ _) (ag _ _) ?_
   generalize cX l t k d h=e at *
   exact wF
end
end Go.Eng
end
section
namespace Go.Eng
open Go.Proofs
noncomputable def gD (P:Int→Int→Int) (Q:List AV→aa→Prop) (args:List AV) (H:aa):Tr (AV×aa) :=
 match args with
 | .int .i64 i::.int .i64 e::C=>.reqP (Q C H) (.ok (.int .i64 (P i e),H))
 | _=>.bad
noncomputable def JM (f:FuncId) (P:Int→Int→Int) (Q:List AV→aa→Prop):ov:=jb aD f (gD P Q)
noncomputable def lR (F:AV) (o:AV) (k:Nat) (d:Nat→Int) (j:Int):ao:=[(1,F),(5,o),(12,cA k d false),(13,.int .i64 (Int.ofNat k)),(14,.int .i64 j)]
theorem MS (n k:Nat) (d:Nat→Int) (P:Int→Int→Int) (Q:List AV→aa→Prop) (H:aa) (j:Int):aM (bp n 74 28) (il (JM 87 P Q) n 0) aK aL (part Try.f74 [1,1,0,1,0,0]) (hints (lR (.fn (.func 87) [] [.ptr 1 0 0 0]) .nils k d j)) (aw::H) =
 Tr.ite (bQ j (Int.ofNat k)) (Tr.req (cN j k) (Tr.req (cw (au 0 j 1) k) (Tr.reqP (Q [AV.ptr 1 0 0 0] (aw::H)) (Tr.req (iv 0 1 8) (Tr.req (cL 0 0) (Tr.req (iO 1 1) (Tr.ok (Ex.normal,[(1,AV.fn (Fn.func 87) [] [AV.ptr 1 0 0 0],none),(5,AV.slc 0 1 0 0 1 1 none,none),(12,AV.slcT none (Row.M [ah.arr .i64 d k]) 1 k false,none),(13,AV.int .i64 (Int.ofNat k),none),(14,AV.int .i64 (bG .i64 j (Int.ofNat 1)),none)],{ lock:=false,bs:=[(0,aj.row (Row.I .i64 [P j (d (au 0 j 1))])),(0,aj.row (Row.M [ah.arr .i64 (aA [P j (d (au 0 j 1))]) 1]))] } :: H)))))))) (Tr.ok (Ex.exit 0,[(1,AV.fn (Fn.func 87) [] [AV.ptr 1 0 0 0],none),(5,AV.nils,none),(12,AV.slcT none (Row.M [ah.arr .i64 d k]) 1 k false,none),(13,AV.int .i64 (Int.ofNat k),none),(14,AV.int .i64 j,none),(15,AV.bool false,some 1)],aw::H)):=by kernel_rfl
theorem Jb (n k:Nat) (d:Nat→Int) (v m:Nat) (y:Nat→Int) (P:Int→Int→Int) (Q:List AV→aa→Prop) (H:aa) (j:Int):aM (bp n 74 28) (il (JM 87 P Q) n 0) aK aL (part Try.f74 [1,1,0,1,0,0]) (hints (lR (.fn (.func 87) [] [.ptr 1 0 0 0]) (.slc 0 0 v 0 1 m none) k d j)) (ze v m y::H) =
 Tr.ite (bQ j (Int.ofNat k)) (Tr.req (cN j k) (Tr.req (cw (au 0 j 1) k) (Tr.reqP (Q [AV.ptr 1 0 0 0] ({ lock:=false,bs:=[(v,aj.row (Row.M [ah.arr .i64 y m]))] } :: H)) (Tr.req (iv m 1 8) (Tr.req (cL 0 0) (Tr.req (iO 1 1) (Tr.req (cL v v) (Tr.req (cL (b9 0 m) m) (Tr.ok (Ex.normal,[(1,AV.fn (Fn.func 87) [] [AV.ptr 1 0 0 0],none),(5,AV.slc 0 0 (Nat.succ v) 0 1 (b9 m 1) none,none),(12,AV.slcT none (Row.M [ah.arr .i64 d k]) 1 k false,none),(13,AV.int .i64 (Int.ofNat k),none),(14,AV.int .i64 (bG .i64 j (Int.ofNat 1)),none)],{ lock:=false,bs:=[(Nat.succ v,aj.row (Row.M [ah.arr .i64 (oD (dW y 0) m (aA [P j (d (au 0 j 1))])) (b9 m 1)])),(0,aj.row (Row.I .i64 [P j (d (au 0 j 1))]))] } :: H)))))))))) (Tr.ok (Ex.exit 0,[(1,AV.fn (Fn.func 87) [] [AV.ptr 1 0 0 0],none),(5,AV.slc 0 0 v 0 1 m none,none),(12,AV.slcT none (Row.M [ah.arr .i64 d k]) 1 k false,none),(13,AV.int .i64 (Int.ofNat k),none),(14,AV.int .i64 j,none),(15,AV.bool false,some 1)],{ lock:=false,bs:=[(v,aj.row (Row.M [ah.arr .i64 y m]))] } :: H)):=by kernel_rfl
theorem Qe (n s l k q:Nat) (t d e y:Nat→Int) (H:aa):aX Try.prog (cd n) 100000 74 Try.f74 (KtL.kt 74) (il aD n 0) (bX aK 0 (lR (.fn (.func 87) [] [.ptr 1 0 0 0]) .nils k d 0) (aw::H) (.ok (.normal,hints (lR (.fn (.func 87) [] [.ptr 1 0 0 0]) (.slc 0 0 q 0 1 (q+1) none) k d (Int.ofNat k)++[(15,.bool false)]),ze q (q+1) y::H))) aL [(eA s l t k d e,none),((.fn (.func 87) [] [.ptr 0 0 0 0]),none)] H =
 (fun (Z0:ao)=>Tr.reqP (Z0=Z0∧aw::H=aw::H) (Tr.req (cL q q) (Tr.req (gF 0 (Nat.succ q) 0 (Nat.succ q)) (Tr.ok ((AV.slcT none (Row.M [ah.arr .i64 (dW y 0) (Nat.succ q)]) 1 (Nat.succ q) false,none),H))))) [(1,AV.fn (Fn.func 87) [] [AV.ptr 1 0 0 0]),(5,AV.nils),(12,AV.slcT none (Row.M [ah.arr .i64 d k]) 1 k false),(13,AV.int .i64 (Int.ofNat k)),(14,AV.int .i64 (Int.ofNat 0))]:=by kernel_rfl
theorem MT (n k:Nat) (c:Nat) (d:Nat→Int) (P:Int→Int→Int) (Q:List AV→aa→Prop) (H:aa) (j:Int):aM (bp n 74 28) (il (JM 88 P Q) n 0) aK aL (part Try.f74 [1,1,0,1,0,0]) (hints (lR (.fn (.func 88) [] [.ptr 1 c 0 0]) .nils k d j)) (aw::H) =
 Tr.ite (bQ j (Int.ofNat k)) (Tr.req (cN j k) (Tr.req (cw (au 0 j 1) k) (Tr.reqP (Q [AV.ptr 1 c 0 0] (aw::H)) (Tr.req (iv 0 1 8) (Tr.req (cL 0 0) (Tr.req (iO 1 1) (Tr.ok (Ex.normal,[(1,AV.fn (Fn.func 88) [] [AV.ptr 1 c 0 0],none),(5,AV.slc 0 1 0 0 1 1 none,none),(12,AV.slcT none (Row.M [ah.arr .i64 d k]) 1 k false,none),(13,AV.int .i64 (Int.ofNat k),none),(14,AV.int .i64 (bG .i64 j (Int.ofNat 1)),none)],{ lock:=false,bs:=[(0,aj.row (Row.I .i64 [P j (d (au 0 j 1))])),(0,aj.row (Row.M [ah.arr .i64 (aA [P j (d (au 0 j 1))]) 1]))] } :: H)))))))) (Tr.ok (Ex.exit 0,[(1,AV.fn (Fn.func 88) [] [AV.ptr 1 c 0 0],none),(5,AV.nils,none),(12,AV.slcT none (Row.M [ah.arr .i64 d k]) 1 k false,none),(13,AV.int .i64 (Int.ofNat k),none),(14,AV.int .i64 j,none),(15,AV.bool false,some 1)],aw::H)):=by kernel_rfl
theorem Jc (n k:Nat) (c:Nat) (d:Nat→Int) (v m:Nat) (y:Nat→Int) (P:Int→Int→Int) (Q:List AV→aa→Prop) (H:aa) (j:Int):aM (bp n 74 28) (il (JM 88 P Q) n 0) aK aL (part Try.f74 [1,1,0,1,0,0]) (hints (lR (.fn (.func 88) [] [.ptr 1 c 0 0]) (.slc 0 0 v 0 1 m none) k d j)) (ze v m y::H) =
 Tr.ite (bQ j (Int.ofNat k)) (Tr.req (cN j k) (Tr.req (cw (au 0 j 1) k) (Tr.reqP (Q [AV.ptr 1 c 0 0] ({ lock:=false,bs:=[(v,aj.row (Row.M [ah.arr .i64 y m]))] } :: H)) (Tr.req (iv m 1 8) (Tr.req (cL 0 0) (Tr.req (iO 1 1) (Tr.req (cL v v) (Tr.req (cL (b9 0 m) m) (Tr.ok (Ex.normal,[(1,AV.fn (Fn.func 88) [] [AV.ptr 1 c 0 0],none),(5,AV.slc 0 0 (Nat.succ v) 0 1 (b9 m 1) none,none),(12,AV.slcT none (Row.M [ah.arr .i64 d k]) 1 k false,none),(13,AV.int .i64 (Int.ofNat k),none),(14,AV.int .i64 (bG .i64 j (Int.ofNat 1)),none)],{ lock:=false,bs:=[(Nat.succ v,aj.row (Row.M [ah.arr .i64 (oD (dW y 0) m (aA [P j (d (au 0 j 1))])) (b9 m 1)])),(0,aj.row (Row.I .i64 [P j (d (au 0 j 1))]))] } :: H)))))))))) (Tr.ok (Ex.exit 0,[(1,AV.fn (Fn.func 88) [] [AV.ptr 1 c 0 0],none),(5,AV.slc 0 0 v 0 1 m none,none),(12,AV.slcT none (Row.M [ah.arr .i64 d k]) 1 k false,none),(13,AV.int .i64 (Int.ofNat k),none),(14,AV.int .i64 j,none),(15,AV.bool false,some 1)],{ lock:=false,bs:=[(v,aj.row (Row.M [ah.arr .i64 y m]))] } :: H)):=by kernel_rfl
theorem Qf (n s l k q:Nat) (c:Nat) (t d e y:Nat→Int) (H:aa):aX Try.prog (cd n) 100000 74 Try.f74 (KtL.kt 74) (il aD n 0) (bX aK 0 (lR (.fn (.func 88) [] [.ptr 1 c 0 0]) .nils k d 0) (aw::H) (.ok (.normal,hints (lR (.fn (.func 88) [] [.ptr 1 c 0 0]) (.slc 0 0 q 0 1 (q+1) none) k d (Int.ofNat k)++[(15,.bool false)]),ze q (q+1) y::H))) aL [(eA s l t k d e,none),((.fn (.func 88) [] [.ptr 0 c 0 0]),none)] H =
 (fun (Z0:ao)=>Tr.reqP (Z0=Z0∧aw::H=aw::H) (Tr.req (cL q q) (Tr.req (gF 0 (Nat.succ q) 0 (Nat.succ q)) (Tr.ok ((AV.slcT none (Row.M [ah.arr .i64 (dW y 0) (Nat.succ q)]) 1 (Nat.succ q) false,none),H))))) [(1,AV.fn (Fn.func 88) [] [AV.ptr 1 c 0 0]),(5,AV.nils),(12,AV.slcT none (Row.M [ah.arr .i64 d k]) 1 k false),(13,AV.int .i64 (Int.ofNat k)),(14,AV.int .i64 (Int.ofNat 0))]:=by kernel_rfl
theorem QB:∀ b,(0,b) ∈ aJ (bn Try.f74)→b=.loop (part Try.f74 [1,1,0,1,0,0]):=eJ (by kernel_rfl)
theorem EV {k:Nat} {f:FuncId} {P:Int→Int→Int} {Q:List AV→aa→Prop} (h:∀ i e C H,Q C H→cd k (.fn f) (.int .i64 i::.int .i64 e::C) H=some (.int .i64 (P i e),H)):(JM f P Q).Ok (cd k):=by
 refine jU (aB _) (fun args H x hx=>?_)
 unfold gD at hx
 split at hx
 · obtain ⟨h1,h2⟩:=Tr.di hx
   rw[h _ _ _ _ h1,← Tr.ab h2]
 · exact (Tr.ae hx).elim
noncomputable def NB:Nat→AV
 | 0=>.nils
 | q+1=>.slc 0 0 q 0 1 (q+1) none
noncomputable def HG (z:Nat→Int):Nat→aV
 | 0=>aw
 | q+1=>ze q (q+1) (aA (iA z (q+1)))
section
variable (n s l k:Nat) (t d e:Nat→Int) (P:Int→Int→Int) (H:aa)
end
section
variable (n s l k:Nat) (c:Nat) (t d e:Nat→Int) (P:Int→Int→Int) (H:aa)
end
section
variable (n s l k:Nat) (c:Nat) (t d e:Nat→Int) (P:Int→Int→Int) (H:aa)
end
section
variable (n s l k:Nat) (t d e:Nat→Int) (P:Int→Int→Int) (H:aa)
theorem OY (h0:0<k) (hk:k≤1000) (hP:∀ i e L,cd n (.fn 87) (.int .i64 i::.int .i64 e::[.ptr 1 0 0 0]) (L::H)=some (.int .i64 (P i e),L::H)):exec (bp n 74 28) (.block 0 (.loop (part Try.f74 [1,1,0,1,0,0]))) (lR (.fn (.func 87) [] [.ptr 1 0 0 0]) .nils k d 0) (aw::H)=some (.normal,lR (.fn (.func 87) [] [.ptr 1 0 0 0]) (NB k) k d (Int.ofNat k)++[(15,.bool false)],HG (fun i=>P (i:Nat) (d i)) k::H):=by
 have hC:(JM 87 P (fun C G=>C=[.ptr 1 0 0 0]∧∃ L,G=L::H)).Ok (cd n):=EV (fun i e C G hq=>by
  obtain ⟨rfl,L,rfl⟩:=hq
  exact hP i e L)
 refine j8 (n:=n) (f:=74) (nt:=28) (c:=part Try.f74 [1,1,0,1,0,0]) 0 (fun j=>lR (.fn (.func 87) [] [.ptr 1 0 0 0]) (NB j) k d (j:Nat)) (fun j=>HG (fun i=>P (i:Nat) (d i)) j::H) k _ (by omega) (fun j hj=>?_) ?_
 · cases j with
   | zero =>
     refine aH (MS n k d P (fun C G=>C=[.ptr 1 0 0 0]∧∃ L,G=L::H) H (0:Nat)) (aQ _ n hC) (af _ _) (ag _ _) ?_
     show Tr.all _ (fun x=>_∧tidy _ _ _=(lR (.fn (.func 87) [] [.ptr 1 0 0 0]) (.slc 0 0 0 0 1 1 none) k d ((0+1:Nat):Int),ze 0 1 (aA [P (0:Nat) (d 0)])::H))
     rw[db (j:=0) (by omega)]
     simp only[jB]
     generalize P (0:Nat) (d 0)=W at *
     repeat' first | (refine Tr.bh (fun hc=>?_) (fun hc=>?_)<;>(try simp (disch:=omega) only[nV,nW] at hc)<;>try omega) | (refine Tr.cj ?_ ?_;· (try simp (disch:=omega) only[nV,nW]);try omega) | (refine Tr.bf ?_ ?_;· first | exact trivial | rfl | exact ⟨rfl,rfl⟩ | exact ⟨rfl,rfl,rfl⟩ | (simp (disch:=omega) only[nV,nW];done) | ((try simp (disch:=omega) only[nV,nW]);omega)) | fail
     all_goals first
      | exact ⟨rfl,_,rfl⟩
      | (refine Tr.bf ⟨(by first | rfl | trivial),_,rfl⟩ ?_
         exact wF)
      | fail
   | succ j =>
     refine aH (Jb n k d j (j+1) (aA (iA (fun i=>P (i:Nat) (d i)) (j+1))) P (fun C G=>C=[.ptr 1 0 0 0]∧∃ L,G=L::H) H (j+1:Nat)) (aQ _ n hC) (af _ _) (ag _ _) ?_
     show Tr.all _ (fun x=>_∧tidy _ _ _=(lR (.fn (.func 87) [] [.ptr 1 0 0 0]) (.slc 0 0 (j+1) 0 1 (j+1+1) none) k d ((j+1+1:Nat):Int),ze (j+1) (j+1+1) (aA (iA (fun i=>P (i:Nat) (d i)) (j+1+1)))::H))
     have hap:=wK (fun i=>P (i:Nat) (d i)) (j+1)
     have ea:b9 (j+1) 1=j+1+1:=bJ _ _
     rw[db (j:=j+1) (by omega)]
     simp only[jB,hap,ea]
     generalize aA (iA (fun i=>P (i:Nat) (d i)) (j+1+1))=Y2 at *
     generalize aA (iA (fun i=>P (i:Nat) (d i)) (j+1))=Y at *
     repeat' first | (refine Tr.bh (fun hc=>?_) (fun hc=>?_)<;>(try simp (disch:=omega) only[nV,nW] at hc)<;>try omega) | (refine Tr.cj ?_ ?_;· (try simp (disch:=omega) only[nV,nW]);try omega) | (refine Tr.bf ?_ ?_;· first | exact trivial | rfl | exact ⟨rfl,rfl⟩ | exact ⟨rfl,rfl,rfl⟩ | (simp (disch:=omega) only[nV,nW];done) | ((try simp (disch:=omega) only[nV,nW]);omega)) | fail
     all_goals first
      | exact ⟨rfl,_,rfl⟩
      | (refine Tr.bf ⟨(by first | rfl | trivial),_,rfl⟩ ?_
         exact wF)
      | fail
 · obtain ⟨q,rfl⟩:∃ q,k=q+1:=⟨k-1,by omega⟩
   exact dc (Jb n (q+1) d q (q+1) (aA (iA (fun i=>P (i:Nat) (d i)) (q+1))) P (fun C G=>C=[.ptr 1 0 0 0]∧∃ L,G=L::H) H (Int.ofNat (q+1))) (aQ _ n hC) (af _ _) (ag _ _) (by first | (simp (disch:=omega) only[nV,nW];done) | (simp (disch:=omega) only[nV,nW];omega))
theorem N1 (h0:0<k) (hk:k≤1000) (hP:∀ i e L,cd n (.fn 87) (.int .i64 i::.int .i64 e::[.ptr 1 0 0 0]) (L::H)=some (.int .i64 (P i e),L::H)):cd (n+1) (.fn 74) [eA s l t k d e,(.fn (.func 87) [] [.ptr 0 0 0 0])] H=some (cA k (aA (iA (fun i=>P (i:Nat) (d i)) k)) false,H):=by
 have hx:=OY n k d P H h0 hk hP
 obtain ⟨q,rfl⟩:∃ q,k=q+1:=⟨k-1,by omega⟩
 refine aC (n:=n) Try.func74 rfl rfl rfl (Qe n s l (q+1) q t d e (aA (iA (fun i=>P (i:Nat) (d i)) (q+1))) H) (ar _) (aF (af _ _) QB (fun x hy=>bY hy hx)) (ag _ _) ?_
 rw[dF]
 generalize aA (iA (fun i=>P (i:Nat) (d i)) (q+1))=Y at *
 exact wF
end
section
variable (n s l k:Nat) (c:Nat) (t d e:Nat→Int) (P:Int→Int→Int) (H:aa)
theorem OZ (h0:0<k) (hk:k≤1000) (hP:∀ i e L,cd n (.fn 88) (.int .i64 i::.int .i64 e::[.ptr 1 c 0 0]) (L::H)=some (.int .i64 (P i e),L::H)):exec (bp n 74 28) (.block 0 (.loop (part Try.f74 [1,1,0,1,0,0]))) (lR (.fn (.func 88) [] [.ptr 1 c 0 0]) .nils k d 0) (aw::H)=some (.normal,lR (.fn (.func 88) [] [.ptr 1 c 0 0]) (NB k) k d (Int.ofNat k)++[(15,.bool false)],HG (fun i=>P (i:Nat) (d i)) k::H):=by
 have hC:(JM 88 P (fun C G=>C=[.ptr 1 c 0 0]∧∃ L,G=L::H)).Ok (cd n):=EV (fun i e C G hq=>by
  obtain ⟨rfl,L,rfl⟩:=hq
  exact hP i e L)
 refine j8 (n:=n) (f:=74) (nt:=28) (c:=part Try.f74 [1,1,0,1,0,0]) 0 (fun j=>lR (.fn (.func 88) [] [.ptr 1 c 0 0]) (NB j) k d (j:Nat)) (fun j=>HG (fun i=>P (i:Nat) (d i)) j::H) k _ (by omega) (fun j hj=>?_) ?_
 · cases j with
   | zero =>
     refine aH (MT n k c d P (fun C G=>C=[.ptr 1 c 0 0]∧∃ L,G=L::H) H (0:Nat)) (aQ _ n hC) (af _ _) (ag _ _) ?_
     show Tr.all _ (fun x=>_∧tidy _ _ _=(lR (.fn (.func 88) [] [.ptr 1 c 0 0]) (.slc 0 0 0 0 1 1 none) k d ((0+1:Nat):Int),ze 0 1 (aA [P (0:Nat) (d 0)])::H))
     rw[db (j:=0) (by omega)]
     simp only[jB]
     generalize P (0:Nat) (d 0)=W at *
     repeat' first | (refine Tr.bh (fun hc=>?_) (fun hc=>?_)<;>(try simp (disch:=omega) only[nV,nW] at hc)<;>try omega) | (refine Tr.cj ?_ ?_;· (try simp (disch:=omega) only[nV,nW]);try omega) | (refine Tr.bf ?_ ?_;· first | exact trivial | rfl | exact ⟨rfl,rfl⟩ | exact ⟨rfl,rfl,rfl⟩ | (simp (disch:=omega) only[nV,nW];done) | ((try simp (disch:=omega) only[nV,nW]);omega)) | fail
     all_goals first
      | exact ⟨rfl,_,rfl⟩
      | (refine Tr.bf ⟨(by first | rfl | trivial),_,rfl⟩ ?_
         exact wF)
      | fail
   | succ j =>
     refine aH (Jc n k c d j (j+1) (aA (iA (fun i=>P (i:Nat) (d i)) (j+1))) P (fun C G=>C=[.ptr 1 c 0 0]∧∃ L,G=L::H) H (j+1:Nat)) (aQ _ n hC) (af _ _) (ag _ _) ?_
     show Tr.all _ (fun x=>_∧tidy _ _ _=(lR (.fn (.func 88) [] [.ptr 1 c 0 0]) (.slc 0 0 (j+1) 0 1 (j+1+1) none) k d ((j+1+1:Nat):Int),ze (j+1) (j+1+1) (aA (iA (fun i=>P (i:Nat) (d i)) (j+1+1)))::H))
     have hap:=wK (fun i=>P (i:Nat) (d i)) (j+1)
     have ea:b9 (j+1) 1=j+1+1:=bJ _ _
     rw[db (j:=j+1) (by omega)]
     simp only[jB,hap,ea]
     generalize aA (iA (fun i=>P (i:Nat) (d i)) (j+1+1))=Y2 at *
     generalize aA (iA (fun i=>P (i:Nat) (d i)) (j+1))=Y at *
     repeat' first | (refine Tr.bh (fun hc=>?_) (fun hc=>?_)<;>(try simp (disch:=omega) only[nV,nW] at hc)<;>try omega) | (refine Tr.cj ?_ ?_;· (try simp (disch:=omega) only[nV,nW]);try omega) | (refine Tr.bf ?_ ?_;· first | exact trivial | rfl | exact ⟨rfl,rfl⟩ | exact ⟨rfl,rfl,rfl⟩ | (simp (disch:=omega) only[nV,nW];done) | ((try simp (disch:=omega) only[nV,nW]);omega)) | fail
     all_goals first
      | exact ⟨rfl,_,rfl⟩
      | (refine Tr.bf ⟨(by first | rfl | trivial),_,rfl⟩ ?_
         exact wF)
      | fail
 · obtain ⟨q,rfl⟩:∃ q,k=q+1:=⟨k-1,by omega⟩
   exact dc (Jc n (q+1) c d q (q+1) (aA (iA (fun i=>P (i:Nat) (d i)) (q+1))) P (fun C G=>C=[.ptr 1 c 0 0]∧∃ L,G=L::H) H (Int.ofNat (q+1))) (aQ _ n hC) (af _ _) (ag _ _) (by first | (simp (disch:=omega) only[nV,nW];done) | (simp (disch:=omega) only[nV,nW];omega))
theorem N2 (h0:0<k) (hk:k≤1000) (hP:∀ i e L,cd n (.fn 88) (.int .i64 i::.int .i64 e::[.ptr 1 c 0 0]) (L::H)=some (.int .i64 (P i e),L::H)):cd (n+1) (.fn 74) [eA s l t k d e,(.fn (.func 88) [] [.ptr 0 c 0 0])] H=some (cA k (aA (iA (fun i=>P (i:Nat) (d i)) k)) false,H):=by
 have hx:=OZ n k c d P H h0 hk hP
 obtain ⟨q,rfl⟩:∃ q,k=q+1:=⟨k-1,by omega⟩
 refine aC (n:=n) Try.func74 rfl rfl rfl (Qf n s l (q+1) q c t d e (aA (iA (fun i=>P (i:Nat) (d i)) (q+1))) H) (ar _) (aF (af _ _) QB (fun x hy=>bY hy hx)) (ag _ _) ?_
 rw[dF]
 generalize aA (iA (fun i=>P (i:Nat) (d i)) (q+1))=Y at *
 exact wF
end
end Go.Eng
end
section
namespace Go.Eng
open Go.Proofs
noncomputable def DC (s l:Nat) (t:Nat→Int) (k:Nat) (d g:Nat→Int) (h:Int) (F:AV) (j:Int):ao:=[(0,eA (s+1) l t k d g),(1,.int .i64 h),(2,F),(7,.int .i64 j)]
noncomputable def Mg (T:Int):aV:=⟨false,[(0,.row (.I .i64 [T]))]⟩
theorem Ub (n:Nat) (i e T:Int) (L:aV) (H:aa):aX Try.prog (cd n) 100000 87 Try.f87 (KtL.kt 87) (il aD n 0) aK aL [(.int .i64 i,none),(.int .i64 e,none),(.ptr 1 0 0 0,none)] (L::Mg T::H) =
 Tr.ok ((AV.int .i64 (uO e T),none),L::{ lock:=false,bs:=[(0,aj.row (Row.I .i64 [T]))] } :: H):=by kernel_rfl
theorem PQ (n s l k:Nat) (c1:Nat) (t d g y:Nat→Int) (H:aa) (h j c:Int):aM (bp n 72 20) (il (tX (ye aD 86 (.int .i64 j::[.ptr 1 c1 0 0]) (aw::H) (.ok (cA k y false,aw::H))) 69 [eA (s+1) l t k d g,cA k y false,.int .i64 h] (.int .i64 c)) n 0) aK aL (part Try.f72 [1,0,1,0,0]) (hints (DC s l t k d g h (.fn (.func 86) [] [.ptr 1 c1 0 0]) j)) (aw::H) =
 (fun (Z0:Row)=>((fun (Z1:List AV)=>Tr.ite (bQ j (Int.ofNat 40)) (Tr.reqP ([AV.int .i64 j,AV.ptr 1 c1 0 0]=[AV.int .i64 j,AV.ptr 1 c1 0 0]∧aw::H=aw::H) (Tr.reqP (Z1=Z1) (Tr.ite (bQ c (Int.ofNat 0)) (Tr.ok (Ex.ret,[(6,AV.int .i64 j,none)],aw::H)) (Tr.ok (Ex.normal,[(0,AV.ptrT (some (Nat.succ s)) Z0 0,none),(1,AV.int .i64 h,none),(2,AV.fn (Fn.func 86) [] [AV.ptr 1 c1 0 0],none),(7,AV.int .i64 (bG .i64 j (Int.ofNat 1)),none)],aw::H))))) (Tr.ok (Ex.exit 0,[(0,AV.ptrT (some (Nat.succ s)) Z0 0,none),(1,AV.int .i64 h,none),(2,AV.fn (Fn.func 86) [] [AV.ptr 1 c1 0 0],none),(7,AV.int .i64 j,none),(9,AV.bool false,some 1)],aw::H))) [AV.ptrT (some (Nat.succ s)) Z0 0,AV.slcT none (Row.M [ah.arr .i64 y k]) 1 k false,AV.int .i64 h])) (Row.M [ah.one (AV.slcT none (Row.M [ah.arr .i64 t l]) 1 l false),ah.one (AV.slcT none (Row.M [ah.arr .i64 d k]) 1 k false),ah.arr .i64 g 30]):=by kernel_rfl
theorem MR (n s l k:Nat) (c1:Nat) (t d g:Nat→Int) (H:aa) (h j:Int):aM (bp n 72 20) (il (tN aD 86) n 0) aK aL (part Try.f72 [1,0,1,0,0]) (hints (DC s l t k d g h (.fn (.func 86) [] [.ptr 1 c1 0 0]) j)) (aw::H) =
 Tr.ite (bQ j (Int.ofNat 40)) Tr.bad (Tr.ok (Ex.exit 0,[(0,AV.ptrT (some (Nat.succ s)) (Row.M [ah.one (AV.slcT none (Row.M [ah.arr .i64 t l]) 1 l false),ah.one (AV.slcT none (Row.M [ah.arr .i64 d k]) 1 k false),ah.arr .i64 g 30]) 0,none),(1,AV.int .i64 h,none),(2,AV.fn (Fn.func 86) [] [AV.ptr 1 c1 0 0],none),(7,AV.int .i64 j,none),(9,AV.bool false,some 1)],aw::H)):=by kernel_rfl
theorem Qd (n s l k:Nat) (c1:Nat) (t d g:Nat→Int) (H:aa) (h r:Int) (B:Bool):aX Try.prog (cd n) 100000 72 Try.f72 (KtL.kt 72) (il aD n 0) (bX aK 0 (DC s l t k d g h (.fn (.func 86) [] [.ptr 1 c1 0 0]) 1) (aw::H) (.ite B (.ok (.ret,[(6,.int .i64 r,none)],aw::H)) (.ok (.normal,hints (DC s l t k d g h (.fn (.func 86) [] [.ptr 1 c1 0 0]) 40++[(9,.bool false)]),aw::H)))) aL [(eA s l t k d g,none),(.int .i64 h,none),(.fn (.func 86) [] [.ptr 0 c1 0 0],none)] H =
 (fun (Z0:ao)=>Tr.reqP (Z0=Z0∧aw::H=aw::H) (Tr.ite B (Tr.ok ((AV.int .i64 r,none),H)) (Tr.ok ((AV.int .i64 (Int.ofNat 40),some 1),H)))) [(0,AV.ptrT (some (Nat.succ s)) (Row.M [ah.one (AV.slcT none (Row.M [ah.arr .i64 t l]) 1 l false),ah.one (AV.slcT none (Row.M [ah.arr .i64 d k]) 1 k false),ah.arr .i64 g 30]) 0),(1,AV.int .i64 h),(2,AV.fn (Fn.func 86) [] [AV.ptr 1 c1 0 0]),(7,AV.int .i64 (Int.ofNat 1))]:=by kernel_rfl
theorem QX:∀ b,(0,b) ∈ aJ (bn Try.f72)→b=.loop (part Try.f72 [1,0,1,0,0]):=eJ (by kernel_rfl)
def pb (p:Nat→Bool):Nat:=if bV (fun j=>p (j+1)) 39=true then fN (fun j=>p (j+1)) 39 0+1 else 40
theorem Ce (p:Nat→Bool):1≤pb p∧pb p≤40:=by
 unfold pb
 by_cases c:bV (fun j=>p (j+1)) 39=true
 · rw[if_pos c]
   have:=ig c
   omega
 · rw[if_neg c];omega
section
variable (n:Nat) (H:aa)
theorem Rs (i e T:Int) (L:aV):cd (n+1) (.fn 87) [.int .i64 i,.int .i64 e,.ptr 1 0 0 0] (L::Mg T::H)=some (.int .i64 (min e T),L::Mg T::H):=by
 refine aC (n:=n) Try.func87 rfl rfl rfl (Ub n i e T L H) (ar _) (af _ _) (ag _ _) ?_
 rw[ki]
 exact wF
variable (l k:Nat) (t d g:Nat→Int)
end
section
variable (n s l k:Nat) (c1:Nat) (t d g:Nat→Int) (H:aa) (h:Int) (W:Nat→Nat→Int)
end
section
variable (n s l k:Nat) (c1 c2:Nat) (t d g:Nat→Int) (H:aa) (h:Int) (W:Nat→Nat→Int)
end
section
variable (n s l k:Nat) (c1:Nat) (t d g:Nat→Int) (H:aa) (h:Int) (W:Nat→Nat→Int)
theorem N0 (hl:l≤30) (hk:k=l) (ht:∀ j,j<l→t j<l) (hc:iB l t=false) (hW:∀ T,1≤T→T<40→Bd l (W T)) (hh:0≤h∧h≤1000)
 (hF:∀ T,1≤T→T<40→cd (n+4) (.fn 86) (.int .i64 (T:Nat)::[.ptr 1 c1 0 0]) (aw::H)=some (cA k (W T) false,aw::H)) :
 cd (n+5) (.fn 72) [eA s l t k d g,.int .i64 h,.fn (.func 86) [] [.ptr 0 c1 0 0]] H=some (.int .i64 (pb (fun T=>ct l t (W T) h):Nat),H):=by
 have hC:∀ j,j<39→(tX (ye aD 86 (.int .i64 ((j+1:Nat):Int)::[.ptr 1 c1 0 0]) (aw::H) (.ok (cA k (W (j+1)) false,aw::H))) 69 [eA (s+1) l t k d g,cA k (W (j+1)) false,.int .i64 h] (.int .i64 (pW l t (W (j+1)) h))).Ok (cd (n+4)):=fun j hj =>
  bo (fG (aB _) (fun x hy=>by rw[← Tr.ab hy];exact hF (j+1) (by omega) (by omega))) (fun H=>NZ n (s+1) l k k t d g (W (j+1)) false H h hl hk ht hc (hW (j+1) (by omega) (by omega)) hh)
 have hx:=iG (n:=n+4) (f:=72) (nt:=20) (c:=part Try.f72 [1,0,1,0,0]) 0 (fun j=>DC s l t k d g h (.fn (.func 86) [] [.ptr 1 c1 0 0]) ((j+1:Nat):Int)) (fun _=>aw::H) 39 (fun j=>ct l t (W (j+1)) h) (fun j=>([(6,.int .i64 ((j+1:Nat):Int))],aw::H)) (DC s l t k d g h (.fn (.func 86) [] [.ptr 1 c1 0 0]) 40++[(9,.bool false)],aw::H) (by omega) (fun j hj=>?_) ?_
 · have hr:cond (bV (fun j=>ct l t (W (j+1)) h) 39) ((fN (fun j=>ct l t (W (j+1)) h) 39 0+1:Nat):Int) 40=(pb (fun T=>ct l t (W T) h):Nat):=by
    unfold pb
    cases bV (fun j=>ct l t (W (j+1)) h) 39 with
    | true=>rw[if_pos rfl];rfl
    | false=>rw[if_neg (by decide)];rfl
   refine aC (n:=n+4) Try.func72 rfl rfl rfl (Qd (n+4) s l k c1 t d g H h ((fN (fun j=>ct l t (W (j+1)) h) 39 0+1:Nat):Int) (bV (fun j=>ct l t (W (j+1)) h) 39)) (ar _) (aF (af _ _) QX (fun x hy=>dz hy hx)) (ag _ _) ?_
   rw[← hr]
   generalize ((fN (fun j=>ct l t (W (j+1)) h) 39 0+1:Nat):Int)=R at *
   generalize bV (fun j=>ct l t (W (j+1)) h) 39=B at *
   cases B
   all_goals
    simp only[cond_true,cond_false]
    exact wF
 · refine aH (PQ (n+4) s l k c1 t d g (W (j+1)) H h ((j+1:Nat):Int) (pW l t (W (j+1)) h)) (aQ _ (n+4) (hC j hj)) (af _ _) (ag _ _) ?_
   show Tr.all _ (fun r=>if ct l t (W (j+1)) h=true then _ else _)
   obtain ⟨q1,q2⟩:=wz l t (W (j+1)) h
   rw[db (j:=j+1) (by omega)]
   generalize pW l t (W (j+1)) h=C at *
   cases hB:ct l t (W (j+1)) h with
   | true =>
     have:=q1.2 hB
     simp only[if_true]
     exact wF
   | false =>
     have:=q2.2 hB
     simp only[Bool.false_eq_true,if_false]
     exact wF
 · exact dc (MR (n+4) s l k c1 t d g H h 40) (aQ _ (n+4) (M7 (aB _))) (af _ _) (ag _ _) (by first | (simp (disch:=omega) only[nV,nW];done) | (simp (disch:=omega) only[nV,nW];omega))
end
end Go.Eng
end
