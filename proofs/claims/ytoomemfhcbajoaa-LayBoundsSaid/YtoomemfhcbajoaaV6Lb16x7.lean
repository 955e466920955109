/- Lay: turns, hands, early cells. -/
import Derived.Test.YtoomemfhcbajoaaV6Lb14x3
set_option linter.unusedVariables false
set_option linter.unusedSimpArgs false
set_option maxRecDepth 100000
section
namespace Go.Eng
open Go.Proofs
noncomputable def w7 (T c o j:Int):aq:=[(1,.int .i64 T),(2,.int .i64 c),(3,.int .i64 o),(4,.ptr 0 0 0 0),(8,.ptr 0 1 0 0),(9,.ptr 0 2 0 0),(10,.int .i64 j)]
noncomputable def CE (l:Nat) (t:Nat→Int) (k:Nat) (d:Nat→Int):aT:=⟨false,[DB l t k d,(0,.row (.G [.nils,.nils])),(0,.row (.G [b6 l t false,.nils]))]⟩
noncomputable def zy (l:Nat) (t:Nat→Int) (k:Nat) (d:Nat→Int) (v m:Nat) (y:Nat→Int):aT:=⟨false,[DB l t k d,(0,.row (.G [.nils,.nils])),(0,.row (.G [b6 l t false,.slc 0 3 v 0 1 m none])),(v,.row (.M [.arr .i64 y m]))]⟩
noncomputable def HS (args:List AV) (H:aa):Tr (AV×aa) :=
 match args with
 | [.int .i64 lo,.int .i64 hi,.slc 0 2 0 0 1 1 (some 1)]=>match H with
   | ⟨false,[b0,b1,(0,.row (.I .i64 [x]))]⟩::r=>.ite (bK x lo) (.ok (.bool false,H)) (.ite (bK hi x) (.ok (.bool false,H)) (.ok (.bool true,H)))
   | _=>.bad
 | _=>.bad
noncomputable def Ge (l:Nat) (t:Nat→Int) (k:Nat) (d g:Nat→Int) (c:Int) (b2:Nat×ai):aT:=⟨false,[DB l t k d,yg c,b2,(0,.row (.G [dy 0 l t k d g]))]⟩
theorem Rb (n:Nat) (b0 b1:Nat×ai) (x lo hi:Int) (H:aa):aX Try.prog (cd (n+5)) 100000 56 Try.f56 (KtL.kt 56) (il aE n 5) aG aH [(.int .i64 lo,none),(.int .i64 hi,none),(.slc 0 2 0 0 1 1 (some 1),none)] (⟨false,[b0,b1,(0,.row (.I .i64 [x]))]⟩::H) =
 (fun (Z0:aT)=>Tr.ite (bK (Int.ofNat 0) (Int.ofNat 1)) (Tr.req (cE (Int.ofNat 0) 1) (Tr.ite (bK x lo) (Tr.ok ((AV.bool false,some 1),Z0::H)) (Tr.ite (bK hi x) (Tr.ok ((AV.bool false,some 1),Z0::H)) (Tr.ite (bK (Int.ofNat 1) (Int.ofNat 1)) (Tr.req (cE (Int.ofNat 1) 1) Tr.bad) (Tr.ok ((AV.bool true,some 1),Z0::H)))))) (Tr.ok ((AV.bool true,some 1),Z0::H))) { lock:=false,bs:=[b0,b1,(0,ai.row (Row.I .i64 [x]))] }:=by kernel_rfl
theorem QM (n l k:Nat) (t d:Nat→Int) (T c o j:Int) (H:aa):aJ (bn n 48 42) (il aE n 0) aG aH (part Try.f48 [1,1,0,1,0,0]) (hints (w7 T c o j)) (CE l t k d::H) =
 (fun (Z0:Nat×ai)=>((fun (Z1:aN)=>((fun (Z2:Nat×ai)=>Tr.ite (bK j (Int.ofNat k)) (Tr.req (cE j k) (Tr.req (cr (au 0 j 1) k) (Tr.ite (b7 j c) (Tr.req (eO 0 1 8) (Tr.req (b9 0 0) (Tr.req (gM 1 1) (Tr.ok (Ex.normal,Z1,{ lock:=false,bs:=[Z0,(0,ai.row (Row.G [AV.nils,AV.nils])),Z2,(0,ai.row (Row.I .i64 [jV (jV (d (au 0 j 1)) T) o])),(0,ai.row (Row.M [ah.arr .i64 (ay [jV (jV (d (au 0 j 1)) T) o]) 1]))] } :: H))))) (Tr.req (eO 0 1 8) (Tr.req (b9 0 0) (Tr.req (gM 1 1) (Tr.ok (Ex.normal,Z1,{ lock:=false,bs:=[Z0,(0,ai.row (Row.G [AV.nils,AV.nils])),Z2,(0,ai.row (Row.I .i64 [jV (d (au 0 j 1)) T])),(0,ai.row (Row.M [ah.arr .i64 (ay [jV (d (au 0 j 1)) T]) 1]))] } :: H)))))))) (Tr.ok (Ex.exit 0,[(1,AV.int .i64 T,none),(2,AV.int .i64 c,none),(3,AV.int .i64 o,none),(4,AV.ptr 0 0 0 0,none),(8,AV.ptr 0 1 0 0,none),(9,AV.ptr 0 2 0 0,none),(10,AV.int .i64 j,none),(19,AV.bool false,some 1)],{ lock:=false,bs:=[Z0,(0,ai.row (Row.G [AV.nils,AV.nils])),(0,ai.row (Row.G [AV.slcT none (Row.M [ah.arr .i64 t l]) 1 l false,AV.nils]))] } :: H))) (0,ai.row (Row.G [AV.slcT none (Row.M [ah.arr .i64 t l]) 1 l false,AV.slc 0 4 0 0 1 1 none])))) [(1,AV.int .i64 T,none),(2,AV.int .i64 c,none),(3,AV.int .i64 o,none),(4,AV.ptr 0 0 0 0,none),(8,AV.ptr 0 1 0 0,none),(9,AV.ptr 0 2 0 0,none),(10,AV.int .i64 (bA .i64 j (Int.ofNat 1)),none)])) (0,ai.row (Row.G [AV.slcT none (Row.M [ah.arr .i64 t l]) 1 l false,AV.slcT none (Row.M [ah.arr .i64 d k]) 1 k false])):=by kernel_rfl
theorem NK (n l k v m:Nat) (t d y:Nat→Int) (T c o j:Int) (H:aa):aJ (bn n 48 42) (il aE n 0) aG aH (part Try.f48 [1,1,0,1,0,0]) (hints (w7 T c o j)) (zy l t k d v m y::H) =
 (fun (Z0:Nat×ai)=>((fun (Z1:aN)=>((fun (Z2:Nat×ai)=>Tr.ite (bK j (Int.ofNat k)) (Tr.req (cE j k) (Tr.req (cr (au 0 j 1) k) (Tr.ite (b7 j c) (Tr.req (eO m 1 8) (Tr.req (b9 0 0) (Tr.req (gM 1 1) (Tr.req (b9 v v) (Tr.req (b9 (bO 0 m) m) (Tr.ok (Ex.normal,Z1,{ lock:=false,bs:=[Z0,(0,ai.row (Row.G [AV.nils,AV.nils])),Z2,(Nat.succ v,ai.row (Row.M [ah.arr .i64 (kO (dD y 0) m (ay [jV (jV (d (au 0 j 1)) T) o])) (bO m 1)])),(0,ai.row (Row.I .i64 [jV (jV (d (au 0 j 1)) T) o]))] } :: H))))))) (Tr.req (eO m 1 8) (Tr.req (b9 0 0) (Tr.req (gM 1 1) (Tr.req (b9 v v) (Tr.req (b9 (bO 0 m) m) (Tr.ok (Ex.normal,Z1,{ lock:=false,bs:=[Z0,(0,ai.row (Row.G [AV.nils,AV.nils])),Z2,(Nat.succ v,ai.row (Row.M [ah.arr .i64 (kO (dD y 0) m (ay [jV (d (au 0 j 1)) T])) (bO m 1)])),(0,ai.row (Row.I .i64 [jV (d (au 0 j 1)) T]))] } :: H)))))))))) (Tr.ok (Ex.exit 0,[(1,AV.int .i64 T,none),(2,AV.int .i64 c,none),(3,AV.int .i64 o,none),(4,AV.ptr 0 0 0 0,none),(8,AV.ptr 0 1 0 0,none),(9,AV.ptr 0 2 0 0,none),(10,AV.int .i64 j,none),(19,AV.bool false,some 1)],{ lock:=false,bs:=[Z0,(0,ai.row (Row.G [AV.nils,AV.nils])),(0,ai.row (Row.G [AV.slcT none (Row.M [ah.arr .i64 t l]) 1 l false,AV.slc 0 3 v 0 1 m none])),(v,ai.row (Row.M [ah.arr .i64 y m]))] } :: H))) (0,ai.row (Row.G [AV.slcT none (Row.M [ah.arr .i64 t l]) 1 l false,AV.slc 0 3 (Nat.succ v) 0 1 (bO m 1) none])))) [(1,AV.int .i64 T,none),(2,AV.int .i64 c,none),(3,AV.int .i64 o,none),(4,AV.ptr 0 0 0 0,none),(8,AV.ptr 0 1 0 0,none),(9,AV.ptr 0 2 0 0,none),(10,AV.int .i64 (bA .i64 j (Int.ofNat 1)),none)])) (0,ai.row (Row.G [AV.slcT none (Row.M [ah.arr .i64 t l]) 1 l false,AV.slcT none (Row.M [ah.arr .i64 d k]) 1 k false])):=by kernel_rfl
theorem U1 (n l k q:Nat) (t d y:Nat→Int) (T c o:Int) (H:aa):aX Try.prog (cd n) 100000 48 Try.f48 (KtL.kt 48) (il aE n 0) (bS aG 0 (w7 T c o 0) (CE l t k d::H) (.ok (.normal,hints (w7 T c o (Int.ofNat k)++[(19,.bool false)]),zy l t k d q (q+1) y::H))) aH [(b5 l t k d,none),(.int .i64 T,none),(.int .i64 c,none),(.int .i64 o,none)] H =
 (fun (Z0:aT)=>((fun (Z1:aq)=>Tr.reqP (Z1=Z1∧Z0::H=Z0::H) (Tr.req (b9 q q) (Tr.req (gq 0 (Nat.succ q) 0 (Nat.succ q)) (Tr.ok ((AV.agg (Row.G [AV.slcT none (Row.M [ah.arr .i64 t l]) 1 l false,AV.slcT none (Row.M [ah.arr .i64 (dD y 0) (Nat.succ q)]) 1 (Nat.succ q) false]),none),H))))) [(1,AV.int .i64 T),(2,AV.int .i64 c),(3,AV.int .i64 o),(4,AV.ptr 0 0 0 0),(8,AV.ptr 0 1 0 0),(9,AV.ptr 0 2 0 0),(10,AV.int .i64 (Int.ofNat 0))])) { lock:=false,bs:=[(0,ai.row (Row.G [AV.slcT none (Row.M [ah.arr .i64 t l]) 1 l false,AV.slcT none (Row.M [ah.arr .i64 d k]) 1 k false])),(0,ai.row (Row.G [AV.nils,AV.nils])),(0,ai.row (Row.G [AV.slcT none (Row.M [ah.arr .i64 t l]) 1 l false,AV.nils]))] }:=by kernel_rfl
theorem UX (n l k:Nat) (t d g:Nat→Int) (H:aa) (h c a r:Int):aX Try.prog (cd n) 100000 39 Try.f39 (KtL.kt 39) (il (gu (uG (tX aE 61 [b5 l t k d,.int .i64 h,.int .i64 a] (.tup [dy 0 l t k d g,.int .i64 0])) 72 [dy 0 l t k d g,.int .i64 h,.fn (.func 76) [] [.ptr 0 3 0 0,.ptr 0 1 0 0]] (Ge l t k d g c (0,.row (.I .i64 [c]))::H) (.ok (.int .i64 r,Ge l t k d g c (0,.row (.I .i64 [c]))::H))) 56 HS) n 0) aG aH [(b5 l t k d,none),(.int .i64 h,none),(.int .i64 c,none)] H =
 (fun (Z0:aT)=>((fun (Z1:List AV)=>((fun (Z2:Row)=>((fun (Z3:AV×Option Nat)=>((fun (Z4:AV×Option Nat)=>((fun (Z5:List AV)=>((fun (Z6:List AV)=>((fun (Z7:List AV)=>Tr.ite (bK c (Int.ofNat 0)) (Tr.ite (aP false) (Tr.reqP (Z6=Z5) (Tr.ite (aP (b7 (Int.ofNat 0) (Int.ofNat 0))) (Tr.ok (Z3,H)) (Tr.reqP (Z1=Z1∧Z0::H=Z0::H) (Tr.ok (Z4,H))))) (Tr.reqP (Z7=Z5) (Tr.ite (aP (b7 (Int.ofNat 0) (Int.ofNat 0))) (Tr.ok (Z3,H)) (Tr.reqP (Z1=Z1∧Z0::H=Z0::H) (Tr.ok (Z4,H)))))) (Tr.ite (bK (br .i64 (Int.ofNat l) (Int.ofNat 1)) c) (Tr.ite (aP false) (Tr.reqP (Z6=Z5) (Tr.ite (aP (b7 (Int.ofNat 0) (Int.ofNat 0))) (Tr.ok (Z3,H)) (Tr.reqP (Z1=Z1∧Z0::H=Z0::H) (Tr.ok (Z4,H))))) (Tr.reqP (Z7=Z5) (Tr.ite (aP (b7 (Int.ofNat 0) (Int.ofNat 0))) (Tr.ok (Z3,H)) (Tr.reqP (Z1=Z1∧Z0::H=Z0::H) (Tr.ok (Z4,H)))))) (Tr.ite (aP true) (Tr.reqP (Z6=Z5) (Tr.ite (aP (b7 (Int.ofNat 0) (Int.ofNat 0))) (Tr.ok (Z3,H)) (Tr.reqP (Z1=Z1∧Z0::H=Z0::H) (Tr.ok (Z4,H))))) (Tr.reqP (Z7=Z5) (Tr.ite (aP (b7 (Int.ofNat 0) (Int.ofNat 0))) (Tr.ok (Z3,H)) (Tr.reqP (Z1=Z1∧Z0::H=Z0::H) (Tr.ok (Z4,H)))))))) [AV.agg Z2,AV.int .i64 h,AV.int .i64 (Int.ofNat 0)])) [AV.agg Z2,AV.int .i64 h,AV.int .i64 (Int.ofNat 3)])) [AV.agg Z2,AV.int .i64 h,AV.int .i64 a])) (AV.tup [AV.int .i64 r,AV.int .i64 (Int.ofNat 0)],none))) (AV.tup [AV.int .i64 (Int.ofNat 0),AV.int .i64 (Int.ofNat 0)],none))) (Row.G [AV.slcT none (Row.M [ah.arr .i64 t l]) 1 l false,AV.slcT none (Row.M [ah.arr .i64 d k]) 1 k false]))) [AV.ptrT (some 0) (Row.M [ah.one (AV.slcT none (Row.M [ah.arr .i64 t l]) 1 l false),ah.one (AV.slcT none (Row.M [ah.arr .i64 d k]) 1 k false),ah.arr .i64 g 30]) 0,AV.int .i64 h,AV.fn (Fn.func 76) [] [AV.ptr 0 3 0 0,AV.ptr 0 1 0 0]])) { lock:=false,bs:=[(0,ai.row (Row.G [AV.slcT none (Row.M [ah.arr .i64 t l]) 1 l false,AV.slcT none (Row.M [ah.arr .i64 d k]) 1 k false])),(0,ai.row (Row.I .i64 [c])),(0,ai.row (Row.I .i64 [c])),(0,ai.row (Row.G [AV.ptrT (some 0) (Row.M [ah.one (AV.slcT none (Row.M [ah.arr .i64 t l]) 1 l false),ah.one (AV.slcT none (Row.M [ah.arr .i64 d k]) 1 k false),ah.arr .i64 g 30]) 0]))] }:=by kernel_rfl
theorem I4 (n l k:Nat) (t d:Nat→Int) (H:aa) (h c a e:Int):aX Try.prog (cd n) 100000 39 Try.f39 (KtL.kt 39) (il (gu (tX aE 61 [b5 l t k d,.int .i64 h,.int .i64 a] (.tup [.nilp,.int .i64 e])) 56 HS) n 0) aG aH [(b5 l t k d,none),(.int .i64 h,none),(.int .i64 c,none)] H =
 (fun (Z0:Row)=>((fun (Z1:AV×Option Nat)=>((fun (Z2:List AV)=>((fun (Z3:List AV)=>((fun (Z4:List AV)=>Tr.ite (bK c (Int.ofNat 0)) (Tr.ite (aP false) (Tr.reqP (Z3=Z2) (Tr.ite (aP (b7 e (Int.ofNat 0))) (Tr.ok (Z1,H)) Tr.bad)) (Tr.reqP (Z4=Z2) (Tr.ite (aP (b7 e (Int.ofNat 0))) (Tr.ok (Z1,H)) Tr.bad))) (Tr.ite (bK (br .i64 (Int.ofNat l) (Int.ofNat 1)) c) (Tr.ite (aP false) (Tr.reqP (Z3=Z2) (Tr.ite (aP (b7 e (Int.ofNat 0))) (Tr.ok (Z1,H)) Tr.bad)) (Tr.reqP (Z4=Z2) (Tr.ite (aP (b7 e (Int.ofNat 0))) (Tr.ok (Z1,H)) Tr.bad))) (Tr.ite (aP true) (Tr.reqP (Z3=Z2) (Tr.ite (aP (b7 e (Int.ofNat 0))) (Tr.ok (Z1,H)) Tr.bad)) (Tr.reqP (Z4=Z2) (Tr.ite (aP (b7 e (Int.ofNat 0))) (Tr.ok (Z1,H)) Tr.bad))))) [AV.agg Z0,AV.int .i64 h,AV.int .i64 (Int.ofNat 0)])) [AV.agg Z0,AV.int .i64 h,AV.int .i64 (Int.ofNat 3)])) [AV.agg Z0,AV.int .i64 h,AV.int .i64 a])) (AV.tup [AV.int .i64 (Int.ofNat 0),AV.int .i64 e],none))) (Row.G [AV.slcT none (Row.M [ah.arr .i64 t l]) 1 l false,AV.slcT none (Row.M [ah.arr .i64 d k]) 1 k false]):=by kernel_rfl
theorem U7 (n l k:Nat) (t d:Nat→Int) (H:aa) (c:Int):aX Try.prog (cd n) 100000 59 Try.f59 (KtL.kt 59) (il aE n 0) aG aH [(b5 l t k d,none),(.int .i64 c,none)] H =
 Tr.ite (lV (Int.ofNat 0) c) (Tr.ok ((AV.bool (bK c (Int.ofNat l)),none),H)) (Tr.ok ((AV.bool false,some 1),H)):=by kernel_rfl
theorem Sa:∀ b,(0,b) ∈ aI (bj Try.f48)→b=.loop (part Try.f48 [1,1,0,1,0,0]):=ep (by kernel_rfl)
theorem pd {c:Nat} {t:nw} (ht:t.Ok (cd (c+6))):(gu t 56 HS).Ok (cd (c+6)):=by
 refine im ht (fun args H x hx=>?_)
 unfold HS at hx
 split at hx
 · split at hx
   · rename_i lo hi _ b0 b1 y r
     have hv:cd (c+6) (.fn 56) [.int .i64 lo,.int .i64 hi,.slc 0 2 0 0 1 1 (some 1)] ((⟨false,[b0,b1,(0,.row (.I .i64 [y]))]⟩:aT)::r)=some (.bool (!eJ lo hi y),(⟨false,[b0,b1,(0,.row (.I .i64 [y]))]⟩:aT)::r):=by
      refine aD (n:=c+5) Try.func56 rfl rfl rfl (Rb c b0 b1 y lo hi r) (ku c 5) (af _ _) (ag _ _) ?_
      have ho:eJ lo hi y=(decide (y<lo) || decide (hi<y)):=rfl
      rw[ho]
      by_cases h1:y<lo
      · rw[decide_eq_true h1]
        exact wF
      · by_cases h2:hi<y
        · rw[decide_eq_false h1,decide_eq_true h2]
          exact wF
        · rw[decide_eq_false h1,decide_eq_false h2]
          exact wF
     rw[hv]
     have ho:eJ lo hi y=(decide (y<lo) || decide (hi<y)):=rfl
     rw[ho]
     rcases Tr.eY hx with ⟨h1,hx⟩ | ⟨h1,hx⟩
     · rw[cY] at h1;rw[← Tr.ab hx,h1];rfl
     · rw[cY] at h1
       rcases Tr.eY hx with ⟨h2,hx⟩ | ⟨h2,hx⟩
       · rw[cY] at h2;rw[← Tr.ab hx,h1,h2];rfl
       · rw[cY] at h2;rw[← Tr.ab hx,h1,h2];rfl
   · exact (Tr.ae hx).elim
 · exact (Tr.ae hx).elim
def vn (d:Nat→Int) (T c o:Int):Nat→Int:=fun i=>if (i:Int)=c then min (min (d i) T) o else min (d i) T
noncomputable def M9 (l:Nat) (t:Nat→Int) (k:Nat) (d z:Nat→Int):Nat→aT
 | 0=>CE l t k d
 | q+1=>zy l t k d q (q+1) (ay (dM z (q+1)))
def dY (l:Nat) (t:Nat→Int) (d:Nat→Int) (h:Int):Nat:=jm (fun T=>bC l t (fun i=>min (d i) (T:Nat)) h)
def iO (l:Nat) (t:Nat→Int) (d:Nat→Int) (h c:Int):Nat:=jm (fun T=>bC l t (fun i=>if (i:Int)=c then min (d i) (T:Nat) else d i) h)
def Ji (l:Nat) (t:Nat→Int) (k:Nat) (d:Nat→Int) (h c:Int):Int:=if dj l t k d h=0 then (if c<0∨(l:Int)-1<c then 3 else if bC l t d h=true then 0 else 13) else dj l t k d h
section
variable (n l k:Nat) (t d:Nat→Int) (H:aa) (h:Int)
theorem Us (T c o:Int) (h0:0<k) (hk:k≤1000):exec (bn n 48 42) (.block 0 (.loop (part Try.f48 [1,1,0,1,0,0]))) (w7 T c o 0) (CE l t k d::H)=some (.normal,w7 T c o (Int.ofNat k)++[(19,.bool false)],M9 l t k d (vn d T c o) k::H):=by
 refine jf (n:=n) (f:=48) (nt:=42) (c:=part Try.f48 [1,1,0,1,0,0]) 0 (fun j=>w7 T c o (j:Nat)) (fun j=>M9 l t k d (vn d T c o) j::H) k _ (by omega) (fun j hj=>?_) ?_
 · cases j with
   | zero =>
     refine aB (QM n l k t d T c o (0:Nat) H) (ao n) (af _ _) (ag _ _) ?_
     show Tr.all _ (fun x=>_∧tidy _ _ _=(w7 T c o ((0+1:Nat):Int),zy l t k d 0 1 (ay [vn d T c o 0])::H))
     have hw:vn d T c o 0=if ((0:Nat):Int)=c then min (min (d 0) T) o else min (d 0) T:=rfl
     rw[c7 (j:=0) (by omega)]
     simp only[iS,jq]
     by_cases e:((0:Nat):Int)=c
     · rw[hw,if_pos e]
       generalize min (min (d 0) T) o=V at *
       exact wF
     · rw[hw,if_neg e]
       generalize min (d 0) T=V at *
       exact wF
   | succ j =>
     refine aB (NK n l k j (j+1) t d (ay (dM (vn d T c o) (j+1))) T c o (j+1:Nat) H) (ao n) (af _ _) (ag _ _) ?_
     show Tr.all _ (fun x=>_∧tidy _ _ _=(w7 T c o ((j+1+1:Nat):Int),zy l t k d (j+1) (j+1+1) (ay (dM (vn d T c o) (j+1+1)))::H))
     have hap:=oZ (vn d T c o) (j+1)
     have ea:bO (j+1) 1=j+1+1:=bH _ _
     have hw:vn d T c o (j+1)=if ((j+1:Nat):Int)=c then min (min (d (j+1)) T) o else min (d (j+1)) T:=rfl
     rw[c7 (j:=j+1) (by omega)]
     simp only[iS,jq,ea]
     by_cases e:((j+1:Nat):Int)=c
     · rw[hw,if_pos e] at hap
       generalize min (min (d (j+1)) T) o=V at *
       generalize ay (dM (vn d T c o) (j+1+1))=Y2 at *
       generalize ay (dM (vn d T c o) (j+1))=Y at *
       rw[hap]
       exact wF
     · rw[hw,if_neg e] at hap
       generalize min (min (d (j+1)) T) o=V2 at *
       generalize min (d (j+1)) T=V at *
       generalize ay (dM (vn d T c o) (j+1+1))=Y2 at *
       generalize ay (dM (vn d T c o) (j+1))=Y at *
       rw[hap]
       exact wF
 · obtain ⟨q,rfl⟩:∃ q,k=q+1:=⟨k-1,by omega⟩
   exact cO (NK n l (q+1) q (q+1) t d (ay (dM (vn d T c o) (q+1))) T c o (Int.ofNat (q+1)) H) (ao n) (af _ _) (ag _ _) (by first | (simp (disch:=omega) only[nV,nW];done) | (simp (disch:=omega) only[nV,nW];omega))
theorem Su (T c o:Int) (h0:0<k) (hk:k≤1000):cd (n+1) (.fn 48) [b5 l t k d,.int .i64 T,.int .i64 c,.int .i64 o] H=some (b5 l t k (ay (dM (vn d T c o) k)),H):=by
 have hx:=Us n l k t d H T c o h0 hk
 obtain ⟨q,rfl⟩:∃ q,k=q+1:=⟨k-1,by omega⟩
 refine aD (n:=n) Try.func48 rfl rfl rfl (U1 n l (q+1) q t d (ay (dM (vn d T c o) (q+1))) T c o H) (ao _) (aA (af _ _) Sa (fun x hy=>bN hy hx)) (ag _ _) ?_
 rw[cT]
 generalize ay (dM (vn d T c o) (q+1))=Y at *
 exact wF
theorem OR (e:fE l k t d h=0):cd (n+11) (.fn 61) [b5 l t k d,.int .i64 h,.int .i64 0] H=some (.tup [J0 0 l t k d,.int .i64 0],H):=by
 obtain ⟨e1,e2⟩:=xu e
 rw[L5 n l k t d H h 0 e1,if_pos rfl,if_pos e2]
theorem OQ (e:fE l k t d h≠0):cd (n+11) (.fn 61) [b5 l t k d,.int .i64 h,.int .i64 0] H=some (.tup [.nilp,.int .i64 (fE l k t d h)],H):=by
 by_cases c:dj l t k d h=0
 · rw[L5 n l k t d H h 0 c,if_pos rfl]
   have:fE l k t d h=if bC l t d h=true then 0 else 13:=by unfold fE;rw[if_pos c]
   rw[this] at e ⊢
   by_cases c2:bC l t d h=true
   · rw[if_pos c2] at e;exact absurd rfl e
   · rw[if_neg c2,if_neg c2]
 · rw[Ke n l k t d H h 0 c]
   have:fE l k t d h=dj l t k d h:=by unfold fE;rw[if_neg c]
   rw[this]
theorem E0 {l:Nat} {d:Nat→Int} (hb:Bd l d) (T:Int) (hT:0≤T):Bd l (fun i=>min (d i) T):=fun j hj=>by
 have:=hb j hj
 show -900≤min (d j) T∧min (d j) T≤900
 omega
theorem EZ {l k:Nat} {z:Nat→Int} (hk:k=l) (hb:Bd l z):Bd l (ay (dM z k)):=fun j hj=>by
 subst hk;rw[nS _ hj];exact hb j hj
theorem Fg {l k:Nat} {t z:Nat→Int} (h:Fw l t) (hk:k=l) (hh:Int):bC l t (ay (dM z k)) hh=bC l t z hh :=
 j8 h (fun j hj=>by subst hk;exact nS z hj) hh
noncomputable def O2 (c:Int):AV:=if Ji l t k d h c=0 then .tup [.int .i64 (iO l t d h c:Nat),.int .i64 0] else .tup [.int .i64 0,.int .i64 (Ji l t k d h c)]
theorem L3 {l:Nat} {d:Nat→Int} (hb:Bd l d) (T:Int) (hT:0≤T) (c:Int):Bd l (fun i=>if (i:Int)=c then min (d i) T else d i):=fun j hj=>by
 have:=hb j hj
 show -900≤(if (j:Int)=c then min (d j) T else d j)∧(if (j:Int)=c then min (d j) T else d j)≤900
 split<;>omega
theorem Sq (c:Int) (hl:l≤1000):cd (n+12) (.fn 39) [b5 l t k d,.int .i64 h,.int .i64 c] H=some (O2 l k t d h c,H):=by
 have e1:br .i64 (Int.ofNat l) (Int.ofNat 1)=(l:Int)-1:=by rw[show Int.ofNat 1=1 from rfl];exact qM (by show _≤(l:Int)-1;omega) (by show (l:Int)-1≤_;omega)
 unfold O2
 by_cases ha:dj l t k d h=0
 · obtain ⟨hs,h1,h2⟩:=ma ha
   have hl1:=hs.l1
   have hl2:=hs.l30
   have hkl:=hs.kl
   have hE:Ji l t k d h c=if c<0∨(l:Int)-1<c then 3 else if bC l t d h=true then 0 else 13:=by unfold Ji;rw[if_pos ha]
   by_cases hc:c<0∨(l:Int)-1<c
   · rw[hE,if_pos hc,if_neg (by omega)]
     have h61:∀ H,cd (n+11) (.fn 61) [b5 l t k d,.int .i64 h,.int .i64 3] H=some (.tup [.nilp,.int .i64 3],H):=fun H=>by rw[L5 n l k t d H h 3 ha,if_neg (by omega)]
     refine aD (n:=n+11) Try.func39 rfl rfl rfl (I4 (n+11) l k t d H h c 3 3) (aO _ (n+11) (pd (c:=n+5) (bp (aF _) h61))) (af _ _) (ag _ _) ?_
     rw[e1]
     exact wF
   · by_cases hB:bC l t d h=true
     · rw[hE,if_neg hc,if_pos hB,if_pos rfl]
       have h72:cd (n+11) (.fn 72) [dy 0 l t k d (cQ t l),.int .i64 h,.fn (.func 76) [] [.ptr 0 3 0 0,.ptr 0 1 0 0]] (Ge l t k d (cQ t l) c (0,.row (.I .i64 [c]))::H)=some (.int .i64 (iO l t d h c:Nat),Ge l t k d (cQ t l) c (0,.row (.I .i64 [c]))::H):=by
        have:=OT (n+6) 0 l k 3 1 t d (cQ t l) (Ge l t k d (cQ t l) c (0,.row (.I .i64 [c]))::H) h (fun T=>ay (dM (fun i=>if (i:Int)=c then min (d i) (T:Nat) else d i) k)) hs.l30 hs.kl hs.tl hs.cyc (fun T _ _=>EZ hs.kl (L3 hs.bd _ (by omega) c)) (by omega) (fun T _ _=>SB (n+7) H l k t d (cQ t l) _ _ (T:Nat) c (by omega) (by omega))
        rw[vV (q:=fun T=>bC l t (fun i=>if (i:Int)=c then min (d i) (T:Nat) else d i) h) (fun T _ _=>Fg hs.fw hs.kl h)] at this
        exact this
       have h61:∀ H,cd (n+11) (.fn 61) [b5 l t k d,.int .i64 h,.int .i64 0] H=some (.tup [J0 0 l t k d,.int .i64 0],H):=fun H=>by rw[L5 n l k t d H h 0 ha,if_pos rfl,if_pos hB]
       refine aD (n:=n+11) Try.func39 rfl rfl rfl (UX (n+11) l k t d (cQ t l) H h c 0 (iO l t d h c:Nat)) (aO _ (n+11) (pd (c:=n+5) (dQ (bp (aF _) h61) (fun x hy=>by rw[← Tr.ab hy];exact h72)))) (af _ _) (ag _ _) ?_
       rw[e1]
       generalize cQ t l=g at *
       exact wF
     · rw[hE,if_neg hc,if_neg hB,if_neg (by omega)]
       have h61:∀ H,cd (n+11) (.fn 61) [b5 l t k d,.int .i64 h,.int .i64 0] H=some (.tup [.nilp,.int .i64 13],H):=fun H=>by rw[L5 n l k t d H h 0 ha,if_pos rfl,if_neg hB]
       refine aD (n:=n+11) Try.func39 rfl rfl rfl (I4 (n+11) l k t d H h c 0 13) (aO _ (n+11) (pd (c:=n+5) (bp (aF _) h61))) (af _ _) (ag _ _) ?_
       rw[e1]
       exact wF
 · have hE:Ji l t k d h c=dj l t k d h:=by unfold Ji;rw[if_neg ha]
   rw[hE,if_neg ha]
   by_cases hc:c<0∨(l:Int)-1<c
   · refine aD (n:=n+11) Try.func39 rfl rfl rfl (I4 (n+11) l k t d H h c 3 (dj l t k d h)) (aO _ (n+11) (pd (c:=n+5) (bp (aF _) (fun H=>Ke n l k t d H h 3 ha)))) (af _ _) (ag _ _) ?_
     rw[e1]
     generalize dj l t k d h=E at *
     exact wF
   · refine aD (n:=n+11) Try.func39 rfl rfl rfl (I4 (n+11) l k t d H h c 0 (dj l t k d h)) (aO _ (n+11) (pd (c:=n+5) (bp (aF _) (fun H=>Ke n l k t d H h 0 ha)))) (af _ _) (ag _ _) ?_
     rw[e1]
     generalize dj l t k d h=E at *
     exact wF
theorem RU (c:Int):cd (n+1) (.fn 59) [b5 l t k d,.int .i64 c] H=some (.bool (decide (0≤c) && decide (c<l)),H):=by
 refine aD (n:=n) Try.func59 rfl rfl rfl (U7 n l k t d H c) (ao _) (af _ _) (ag _ _) ?_
 rw[cY]
 by_cases e:0≤c
 · rw[decide_eq_true e,Bool.true_and]
   exact wF
 · rw[decide_eq_false e,Bool.false_and]
   exact wF
end
end Go.Eng
end
section
namespace Go.Eng
theorem kU {p q:Nat→Bool}:∀ {n:Nat},(∀ j,j<n→p j=true→q j=true)→cn p n≤cn q n
 | 0,_=>Nat.le_refl _
 | n+1,h=>by
   have ih:=kU (n:=n) (fun j hj=>h j (by omega))
   have hn:=h n (by omega)
   show cn p n+(p n).toNat≤cn q n+(q n).toNat
   cases hp:p n with
   | false=>simp;omega
   | true=>rw[hn hp];omega
end Go.Eng
end
section
namespace Go.Eng
theorem qA {l:Nat} {t:Nat→Int} (h:Fw l t) {i:Nat} (hi:i<l):1≤eP l t i∧eP l t i≤l:=by
 obtain ⟨a,b,c⟩:=jS h.cyc i hi
 refine ⟨?_,a⟩
 apply Classical.byContradiction
 intro hc
 rw[show eP l t i=0 by omega] at c
 have:bE t 0 (i:Int)=i:=rfl
 omega
theorem lx {l:Nat} {t:Nat→Int} (h:Fw l t) {i:Nat} (hi:i<l):∀ m,m<eP l t i→0≤bE t m (i:Int)∧eP l t (bE t m (i:Int)).toNat=eP l t i-m:=by
 intro m hm
 obtain ⟨a,b,c⟩:=jS h.cyc i hi
 have h0:=b m hm
 have hlt:=fz h.tl (show (i:Int)<l by omega) m
 refine ⟨h0,?_⟩
 have hx:(bE t m (i:Int)).toNat<l:=by omega
 obtain ⟨a2,b2,c2⟩:=jS h.cyc _ hx
 have comp:∀ q,bE t q ((bE t m (i:Int)).toNat:Int)=bE t (m+q) (i:Int):=by
  intro q
  induction q with
  | zero=>show (((bE t m (i:Int)).toNat:Nat):Int)=bE t m (i:Int);omega
  | succ q ih =>
    show (if 0≤bE t q ((bE t m (i:Int)).toNat:Int) then t (bE t q ((bE t m (i:Int)).toNat:Int)).toNat else bE t q ((bE t m (i:Int)).toNat:Int))=(if 0≤bE t (m+q) (i:Int) then t (bE t (m+q) (i:Int)).toNat else bE t (m+q) (i:Int))
    rw[ih]
 generalize eP l t (bE t m (i:Int)).toNat=N at *
 rcases Nat.lt_trichotomy N (eP l t i-m) with e | e | e
 · rw[comp] at c2
   have:=b (m+N) (by omega)
   omega
 · exact e
 · have:=b2 (eP l t i-m) e
   rw[comp,show m+(eP l t i-m)=eP l t i by omega] at this
   omega
end Go.Eng
end
section
namespace Go.Eng
def kK (z:Nat→Int) (w:Nat→Bool):Nat→Option Nat
 | 0=>none
 | j+1=>match kK z w j with
   | none=>if w j=true then some j else none
   | some i=>if w j=true∧z j<z i then some j else some i
theorem ky (z:Nat→Int) (w:Nat→Bool):∀ l,(match kK z w l with | none=>∀ j,j<l→w j=false | some i=>i<l∧w i=true∧∀ j,j<l→w j=true→z i<z j∨(z i=z j∧i≤j))
 | 0=>fun j hj=>by omega
 | l + 1 => by
   have ih:=ky z w l
   unfold kK
   cases hm:kK z w l with
   | none =>
     rw[hm] at ih
     dsimp only at ih ⊢
     by_cases c:w l=true
     · rw[if_pos c]
       refine ⟨by omega,c,fun j hj hw=>?_⟩
       by_cases e:j=l
       · subst e;exact .inr ⟨rfl,Nat.le_refl _⟩
       · have:=ih j (by omega);rw[this] at hw;cases hw
     · rw[if_neg c]
       intro j hj
       by_cases e:j=l
       · subst e
         cases h:w j with
         | true=>exact absurd h c
         | false=>rfl
       · exact ih j (by omega)
   | some i =>
     rw[hm] at ih
     dsimp only at ih ⊢
     obtain ⟨h1,h2,h3⟩:=ih
     by_cases c:w l=true∧z l<z i
     · rw[if_pos c]
       refine ⟨by omega,c.1,fun j hj hw=>?_⟩
       by_cases e:j=l
       · subst e;exact .inr ⟨rfl,Nat.le_refl _⟩
       · have:=h3 j (by omega) hw
         exact .inl (by omega)
     · rw[if_neg c]
       refine ⟨by omega,h2,fun j hj hw=>?_⟩
       by_cases e:j=l
       · subst e
         have:¬ z j<z i:=fun hx=>c ⟨hw,hx⟩
         by_cases e2:z i=z j
         · exact .inr ⟨e2,by omega⟩
         · exact .inl (by omega)
       · exact h3 j (by omega) hw
def nz (w:Nat→Bool) (i:Nat):Nat→Bool:=fun j=>if j=i then false else w j
def jA (w:Nat→Bool) (i:Nat):Nat→Bool:=fun j=>if j=i then true else w j
def r6 (t:Nat→Int) (s:(Nat→Int)×(Nat→Bool)) (c:Nat):(Nat→Int)×(Nat→Bool) :=
 if t c<0 then s else
  (uI s.1 (t c).toNat (s.1 (t c).toNat-1),if s.1 (t c).toNat-1=0 then jA s.2 (t c).toNat else s.2)
end Go.Eng
end
section
namespace Go.Eng
open Go.Proofs
section
variable (n l k:Nat) (t d:Nat→Int) (H:aa) (h:Int)
end
end Go.Eng
end
section
namespace Go.Eng
open Go.Proofs
section
variable (n l k:Nat) (t d:Nat→Int) (H:aa) (h c:Int)
end
end Go.Eng
end
section
namespace Go.Eng
open Go.Proofs
theorem UO (n l k:Nat) (t d:Nat→Int) (H:aa):aX Try.prog (cd n) 100000 15 Try.f15 (KtL.kt 15) (il aE n 0) aG aH [(b5 l t k d,none)] H =
 Tr.ite (bK (Int.ofNat 40) (Int.ofNat l)) (Tr.ok ((AV.bool true,some 1),H)) (Tr.ok ((AV.bool (bK (Int.ofNat 40) (Int.ofNat k)),none),H)):=by kernel_rfl
theorem UY (n l k:Nat) (t d:Nat→Int) (b:Bool) (e:Int) (H:aa):aX Try.prog (cd n) 100000 43 Try.f43 (KtL.kt 43) (il (tX (tX aE 15 [b5 l t k d] (.bool b)) 22 [b5 l t k d] (.int .i64 e)) n 0) aG aH [(b5 l t k d,none)] H =
 (fun (Z0:List AV)=>Tr.reqP (Z0=Z0) (Tr.ite (aP b) (Tr.reqP (Z0=Z0) (Tr.ok ((AV.bool (b7 e (Int.ofNat 0)),none),H))) (Tr.ok ((AV.bool false,some 1),H)))) [AV.agg (Row.G [AV.slcT none (Row.M [ah.arr .i64 t l]) 1 l false,AV.slcT none (Row.M [ah.arr .i64 d k]) 1 k false])]:=by kernel_rfl
section
variable (n l k:Nat) (t d:Nat→Int) (H:aa)
theorem Sk:cd (n+1) (.fn 15) [b5 l t k d] H=some (.bool (decide (40<l) || decide (40<k)),H):=by
 refine aD (n:=n) Try.func15 rfl rfl rfl (UO n l k t d H) (ao _) (af _ _) (ag _ _) ?_
 have e:bK (Int.ofNat 40) (Int.ofNat k)=decide (40<k):=by rw[cY,decide_eq_decide];show (40:Int)<(k:Int)↔_;omega
 rw[e]
 by_cases c:40<l
 · rw[decide_eq_true c,Bool.true_or]
   exact wF
 · rw[decide_eq_false c,Bool.false_or]
   exact wF
theorem Sr:cd (n+3) (.fn 43) [b5 l t k d] H=some (.bool (decide (l7 l t k d=0)),H):=by
 refine aD (n:=n+2) Try.func43 rfl rfl rfl (UY (n+2) l k t d (decide (40<l) || decide (40<k)) (l7 l t k d) H) (aO _ (n+2) (bp (bp (aF _) (fun H=>Sk (n+1) l k t d H)) (fun H=>RP n l k t d H))) (af _ _) (ag _ _) ?_
 by_cases c:40<l∨40<k
 · have hb:(decide (40<l) || decide (40<k))=true:=by simpa using c
   have he:l7 l t k d≠0:=fun h=>by
    have hs:=Ap h
    have:=hs.l30
    have:=hs.kl
    omega
   rw[hb,decide_eq_false he]
   exact wF
 · have hb:(decide (40<l) || decide (40<k))=false:=by simpa using c
   rw[hb,iG]
   exact wF
end
end Go.Eng
end
