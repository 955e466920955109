/- Lay: Last; levels and last turns as they are defined. -/
import Derived.Test.YtoomemfhcbajoaaV6Lb6x5
set_option linter.unusedVariables false
set_option linter.unusedSimpArgs false
set_option maxRecDepth 100000
section
namespace Go.Eng
open Go.Proofs
noncomputable def rR (o:AV) (j:Int):aq:=[(1,.ptr 0 0 0 0),(3,o),(4,.int .i64 j)]
noncomputable def iK (o:AV) (j c x:Int):aq:=[(1,.ptr 0 0 0 0),(3,o),(4,.int .i64 j),(5,.int .i64 c),(6,.int .i64 x)]
noncomputable def qz (l:Nat) (t:Nat→Int) (k:Nat) (d:Nat→Int) (v m:Nat) (y:Nat→Int):aT:=⟨false,[DB l t k d,(v,.row (.M [.arr .i64 y m]))]⟩
noncomputable def tv (l:Nat) (t:Nat→Int) (k:Nat) (d:Nat→Int):aT:=⟨false,[DB l t k d]⟩
noncomputable def Qc (l:Nat) (t:Nat→Int) (k:Nat) (d:Nat→Int) (z:Nat→Int):aT:=⟨false,[DB l t k d,(0,.row (.M [.arr .i64 z 30]))]⟩
theorem t54 (n:Nat) (H:aa) (q:Nat) (z:Nat→Int) (b0:Nat×ai):aJ (bn n 54 8) (il aE n 0) aG aH (bj Try.f54) (hints [(0,.slc 1 1 0 0 1 (Nat.succ q) (some 30))]) (av::⟨false,[b0,(0,.row (.M [.arr .i64 z 30]))]⟩::H) =
 Tr.ite false (Tr.ok (Ex.ret,[(2,AV.nils,none)],av::{ lock:=false,bs:=[b0,(0,ai.row (Row.M [ah.arr .i64 z 30]))] } :: H)) (Tr.req (eO 0 (Nat.succ q) 8) (Tr.req (b9 0 0) (Tr.req (gM (Nat.succ q) (Nat.succ q)) (Tr.req (gq 0 (Nat.succ q) 0 30) (Tr.ite (cr 0 (bO 0 (Nat.succ q))) (Tr.req (b9 0 0) (Tr.req (gM 0 0) (Tr.ok (Ex.ret,[(2,AV.slc 0 1 0 0 1 (bO 0 (Nat.succ q)) none,none)],{ lock:=false,bs:=[(0,ai.row (Row.I .i64 [])),(0,ai.row (Row.M [ah.arr .i64 (kO (ay []) 0 (dD z 0)) (bO 0 (Nat.succ q))]))] } :: { lock:=false,bs:=[b0,(0,ai.row (Row.M [ah.arr .i64 z 30]))] } :: H)))) (Tr.req (b9 0 0) Tr.bad)))))):=by kernel_rfl
theorem UP (n l k:Nat) (t d g z z2:Nat→Int) (H:aa):aX Try.prog (cd n) 100000 19 Try.f19 (KtL.kt 19) (il (uG (tX (tX aE 51 [b5 l t k d] (.tup [dy 0 l t k d g,.int .i64 0])) 53 [dy 0 l t k d g,b6 k d false] (.agg (.M [.arr .i64 z 30]))) 54 [.slc 0 1 0 0 1 l (some 30)] (Qc l t k d (bG z)::H) (.ok (.slc 0 2 0 0 1 l none,⟨false,[DB l t k d,(0,.row (.M [.arr .i64 (bG z) 30])),R3 l z2]⟩::H))) n 0) aG aH [(b5 l t k d,none)] H =
 (fun (Z0:Row)=>((fun (Z1:List AV)=>((fun (Z2:aT)=>Tr.reqP ([AV.agg Z0]=[AV.agg Z0]) (Tr.ite (aP (b7 (Int.ofNat 0) (Int.ofNat 0))) (Tr.ok ((AV.tup [AV.nils,AV.int .i64 (Int.ofNat 0)],none),H)) (Tr.reqP (Z1=Z1) (Tr.req (gq 0 30 0 30) (Tr.req (mb (Int.ofNat l) 30) (Tr.reqP ([AV.slc 0 1 0 0 1 (dr (Int.ofNat l)) (some 30)]=[AV.slc 0 1 0 0 1 l (some 30)]∧Z2::H=Z2::H) (Tr.req (b9 0 0) (Tr.req (gq 0 l 0 l) (Tr.ok ((AV.tup [AV.slcT none (Row.M [ah.arr .i64 (dD z2 0) l]) 1 l false,AV.int .i64 (Int.ofNat 0)],none),H)))))))))) { lock:=false,bs:=[(0,ai.row Z0),(0,ai.row (Row.M [ah.arr .i64 (eG (fun x=>Int.ofNat 0) 0 z 30) 30]))] })) [AV.ptrT (some 0) (Row.M [ah.one (AV.slcT none (Row.M [ah.arr .i64 t l]) 1 l false),ah.one (AV.slcT none (Row.M [ah.arr .i64 d k]) 1 k false),ah.arr .i64 g 30]) 0,AV.slcT none (Row.M [ah.arr .i64 d k]) 1 k false])) (Row.G [AV.slcT none (Row.M [ah.arr .i64 t l]) 1 l false,AV.slcT none (Row.M [ah.arr .i64 d k]) 1 k false]):=by kernel_rfl
theorem Q1 (n l k:Nat) (t d:Nat→Int) (e:Int) (H:aa):aX Try.prog (cd n) 100000 19 Try.f19 (KtL.kt 19) (il (tX aE 51 [b5 l t k d] (.tup [.nilp,.int .i64 e])) n 0) aG aH [(b5 l t k d,none)] H =
 (fun (Z0:List AV)=>Tr.reqP (Z0=Z0) (Tr.ite (aP (b7 e (Int.ofNat 0))) (Tr.ok ((AV.tup [AV.nils,AV.int .i64 e],none),H)) Tr.bad)) [AV.agg (Row.G [AV.slcT none (Row.M [ah.arr .i64 t l]) 1 l false,AV.slcT none (Row.M [ah.arr .i64 d k]) 1 k false])]:=by kernel_rfl
theorem JG (n l k:Nat) (t d:Nat→Int) (H:aa) (j c x:Int):aJ (bn n 46 29) (il aE n 0) aG aH (part Try.f46 [1,1,0,1,0,0,1,0,0,1,0,1,0,0]) (hints (iK .nils j c x)) (tv l t k d::H) =
 (fun (Z0:aT)=>Tr.ite (lV (Int.ofNat 0) x) (Tr.req (cE x l) (Tr.req (cr (au 0 x 1) l) (Tr.ok (Ex.normal,[(1,AV.ptr 0 0 0 0,none),(3,AV.nils,none),(4,AV.int .i64 j,none),(5,AV.int .i64 (bA .i64 c (Int.ofNat 1)),none),(6,AV.int .i64 (t (au 0 x 1)),none)],Z0::H)))) (Tr.ok (Ex.exit 2,[(1,AV.ptr 0 0 0 0,none),(3,AV.nils,none),(4,AV.int .i64 j,none),(5,AV.int .i64 c,none),(6,AV.int .i64 x,none),(16,AV.bool false,some 1)],Z0::H))) { lock:=false,bs:=[(0,ai.row (Row.G [AV.slcT none (Row.M [ah.arr .i64 t l]) 1 l false,AV.slcT none (Row.M [ah.arr .i64 d k]) 1 k false]))] }:=by kernel_rfl
theorem QH (n l k:Nat) (t d:Nat→Int) (H:aa) (j c x:Int):aJ (bn n 46 29) (il aE n 0) (bS aG 2 (iK .nils j 0 j) (tv l t k d::H) (.ok (.normal,hints (iK .nils j c x++[(16,.bool false)]),tv l t k d::H))) aH (part Try.f46 [1,1,0,1,0,0]) (hints (rR .nils j)) (tv l t k d::H) =
 (fun (Z0:Nat×ai)=>((fun (Z1:aq)=>Tr.ite (bK j (Int.ofNat l)) (Tr.reqP (Z1=Z1∧{ lock:=false,bs:=[Z0] } :: H={ lock:=false,bs:=[Z0] } :: H) (Tr.req (eO 0 1 8) (Tr.req (b9 0 0) (Tr.req (gM 1 1) (Tr.ok (Ex.normal,[(1,AV.ptr 0 0 0 0,none),(3,AV.slc 0 2 0 0 1 1 none,none),(4,AV.int .i64 (bA .i64 j (Int.ofNat 1)),none)],{ lock:=false,bs:=[Z0,(0,ai.row (Row.I .i64 [c])),(0,ai.row (Row.M [ah.arr .i64 (ay [c]) 1]))] } :: H)))))) (Tr.ok (Ex.exit 0,[(1,AV.ptr 0 0 0 0,none),(3,AV.nils,none),(4,AV.int .i64 j,none),(11,AV.bool false,some 1)],{ lock:=false,bs:=[Z0] } :: H))) [(1,AV.ptr 0 0 0 0),(3,AV.nils),(4,AV.int .i64 j),(5,AV.int .i64 (Int.ofNat 0)),(6,AV.int .i64 j)])) (0,ai.row (Row.G [AV.slcT none (Row.M [ah.arr .i64 t l]) 1 l false,AV.slcT none (Row.M [ah.arr .i64 d k]) 1 k false])):=by kernel_rfl
theorem JH (n l k:Nat) (t d:Nat→Int) (v m:Nat) (y:Nat→Int) (H:aa) (j c x:Int):aJ (bn n 46 29) (il aE n 0) aG aH (part Try.f46 [1,1,0,1,0,0,1,0,0,1,0,1,0,0]) (hints (iK (.slc 0 1 v 0 1 m none) j c x)) (qz l t k d v m y::H) =
 (fun (Z0:aT)=>Tr.ite (lV (Int.ofNat 0) x) (Tr.req (cE x l) (Tr.req (cr (au 0 x 1) l) (Tr.ok (Ex.normal,[(1,AV.ptr 0 0 0 0,none),(3,AV.slc 0 1 v 0 1 m none,none),(4,AV.int .i64 j,none),(5,AV.int .i64 (bA .i64 c (Int.ofNat 1)),none),(6,AV.int .i64 (t (au 0 x 1)),none)],Z0::H)))) (Tr.ok (Ex.exit 2,[(1,AV.ptr 0 0 0 0,none),(3,AV.slc 0 1 v 0 1 m none,none),(4,AV.int .i64 j,none),(5,AV.int .i64 c,none),(6,AV.int .i64 x,none),(16,AV.bool false,some 1)],Z0::H))) { lock:=false,bs:=[(0,ai.row (Row.G [AV.slcT none (Row.M [ah.arr .i64 t l]) 1 l false,AV.slcT none (Row.M [ah.arr .i64 d k]) 1 k false])),(v,ai.row (Row.M [ah.arr .i64 y m]))] }:=by kernel_rfl
theorem QI (n l k:Nat) (t d:Nat→Int) (v m:Nat) (y:Nat→Int) (H:aa) (j c x:Int):aJ (bn n 46 29) (il aE n 0) (bS aG 2 (iK (.slc 0 1 v 0 1 m none) j 0 j) (qz l t k d v m y::H) (.ok (.normal,hints (iK (.slc 0 1 v 0 1 m none) j c x++[(16,.bool false)]),qz l t k d v m y::H))) aH (part Try.f46 [1,1,0,1,0,0]) (hints (rR (.slc 0 1 v 0 1 m none) j)) (qz l t k d v m y::H) =
 (fun (Z0:aT)=>((fun (Z1:aq)=>Tr.ite (bK j (Int.ofNat l)) (Tr.reqP (Z1=Z1∧Z0::H=Z0::H) (Tr.req (eO m 1 8) (Tr.req (b9 0 0) (Tr.req (gM 1 1) (Tr.req (b9 v v) (Tr.req (b9 (bO 0 m) m) (Tr.ok (Ex.normal,[(1,AV.ptr 0 0 0 0,none),(3,AV.slc 0 1 (Nat.succ v) 0 1 (bO m 1) none,none),(4,AV.int .i64 (bA .i64 j (Int.ofNat 1)),none)],{ lock:=false,bs:=[(0,ai.row (Row.G [AV.slcT none (Row.M [ah.arr .i64 t l]) 1 l false,AV.slcT none (Row.M [ah.arr .i64 d k]) 1 k false])),(Nat.succ v,ai.row (Row.M [ah.arr .i64 (kO (dD y 0) m (ay [c])) (bO m 1)])),(0,ai.row (Row.I .i64 [c]))] } :: H)))))))) (Tr.ok (Ex.exit 0,[(1,AV.ptr 0 0 0 0,none),(3,AV.slc 0 1 v 0 1 m none,none),(4,AV.int .i64 j,none),(11,AV.bool false,some 1)],Z0::H))) [(1,AV.ptr 0 0 0 0),(3,AV.slc 0 1 v 0 1 m none),(4,AV.int .i64 j),(5,AV.int .i64 (Int.ofNat 0)),(6,AV.int .i64 j)])) { lock:=false,bs:=[(0,ai.row (Row.G [AV.slcT none (Row.M [ah.arr .i64 t l]) 1 l false,AV.slcT none (Row.M [ah.arr .i64 d k]) 1 k false])),(v,ai.row (Row.M [ah.arr .i64 y m]))] }:=by kernel_rfl
theorem QJ (n l k:Nat) (t d:Nat→Int) (v m:Nat) (y:Nat→Int) (H:aa) (j:Int):aJ (bn n 46 29) (il aE n 0) (nK aG 2) aH (part Try.f46 [1,1,0,1,0,0]) (hints (rR (.slc 0 1 v 0 1 m none) j)) (qz l t k d v m y::H) =
 Tr.ite (bK j (Int.ofNat l)) Tr.bad (Tr.ok (Ex.exit 0,[(1,AV.ptr 0 0 0 0,none),(3,AV.slc 0 1 v 0 1 m none,none),(4,AV.int .i64 j,none),(11,AV.bool false,some 1)],{ lock:=false,bs:=[(0,ai.row (Row.G [AV.slcT none (Row.M [ah.arr .i64 t l]) 1 l false,AV.slcT none (Row.M [ah.arr .i64 d k]) 1 k false])),(v,ai.row (Row.M [ah.arr .i64 y m]))] } :: H)):=by kernel_rfl
theorem UZ (n l k q:Nat) (t d y:Nat→Int) (H:aa):aX Try.prog (cd n) 100000 46 Try.f46 (KtL.kt 46) (il aE n 0) (bS aG 0 (rR .nils 0) (tv l t k d::H) (.ok (.normal,hints (rR (.slc 0 1 q 0 1 (q+1) none) (Int.ofNat l)++[(11,.bool false)]),qz l t k d q (q+1) y::H))) aH [(b5 l t k d,none)] H =
 (fun (Z0:aT)=>Tr.reqP ([(1,AV.ptr 0 0 0 0),(3,AV.nils),(4,AV.int .i64 (Int.ofNat 0))]=[(1,AV.ptr 0 0 0 0),(3,AV.nils),(4,AV.int .i64 (Int.ofNat 0))]∧Z0::H=Z0::H) (Tr.req (b9 q q) (Tr.req (gq 0 (Nat.succ q) 0 (Nat.succ q)) (Tr.ok ((AV.slcT none (Row.M [ah.arr .i64 (dD y 0) (Nat.succ q)]) 1 (Nat.succ q) false,none),H))))) { lock:=false,bs:=[(0,ai.row (Row.G [AV.slcT none (Row.M [ah.arr .i64 t l]) 1 l false,AV.slcT none (Row.M [ah.arr .i64 d k]) 1 k false]))] }:=by kernel_rfl
theorem R9:∀ b,(0,b) ∈ aI (bj Try.f46)→b=.loop (part Try.f46 [1,1,0,1,0,0]):=ep (by kernel_rfl)
theorem LU:∀ b,(2,b) ∈ aI (part Try.f46 [1,1,0,1,0,0])→b=.loop (part Try.f46 [1,1,0,1,0,0,1,0,0,1,0,1,0,0]):=ep (by kernel_rfl)
def dM (z:Nat→Int) (j:Nat):List Int:=(List.range j).map z
theorem Cd (z:Nat→Int) (j:Nat):(dM z j).length=j:=by simp[dM]
theorem HO (z:Nat→Int) (j:Nat):dM z (j+1)=dM z j++[z j]:=by simp[dM,List.range_succ]
theorem oZ (z:Nat→Int) (j:Nat):kO (dD (ay (dM z j)) 0) j (ay [z j])=ay (dM z (j+1)):=by
 have:=CD (dM z j) (z j)
 rw[Cd,← HO] at this;exact this
theorem nS (z:Nat→Int) {j i:Nat} (h:i<j):ay (dM z j) i=z i:=by
 rw[KR _ _ (by rw[Cd];exact h)];simp[dM]
theorem Hq (z:Nat→Int):kO (ay []) 0 z=z:=by rw[oI];funext i;simp
noncomputable def Ou:Nat→AV
 | 0=>.nils
 | q+1=>.slc 0 1 q 0 1 (q+1) none
noncomputable def Ig (l:Nat) (t:Nat→Int) (k:Nat) (d:Nat→Int) (z:Nat→Int):Nat→aT
 | 0=>tv l t k d
 | q+1=>qz l t k d q (q+1) (ay (dM z (q+1)))
structure Fw (l:Nat) (t:Nat→Int):Prop where
 l30:l≤30
 tl:∀ j,j<l→t j<l
 cyc:iF l t=false
theorem Sh.fw {l k:Nat} {t d:Nat→Int} (h:Sh l t k d):Fw l t:=⟨h.l30,h.tl,h.cyc⟩
def Bd (l:Nat) (e:Nat→Int):Prop:=∀ j,j<l→-900≤e j∧e j≤900
theorem Sh.bd {l k:Nat} {t d:Nat→Int} (h:Sh l t k d):Bd l d:=fun j hj=>by
 have:=h.d1 j hj
 have:=h.d40 j hj
 omega
section
variable (n l k:Nat) (t d:Nat→Int) (H:aa)
theorem Ku {n:Nat} {args:List AV} {l1:aT} {H:aa} {fn:Func} {c:Code} (hf:Try.prog.funcs[54]?=some fn) (hb:fn.body=some c) (hle:Nat.ble args.length fn.ntmps=true) {e:Ex} {fr:aq} {l:aT} {j ver off sz len:Nat} {cap:Option Nat} {q:Row}
 (h:exec (bn n 54 fn.ntmps) c (eF 0 args) (⟨false,[]⟩::l1::H)=some (e,fr,l::l1::H)) (he:e=.normal∨e=.ret) (hv:gO Try.prog fr (l::l1::H) fn.results.toList=some [.slc 0 j ver off sz len cap]) (hq:dH (l::l1::H) 0 j ver=some q) (h0:l.lock=false) (h1:l1.lock=false) :
 cd (n+1) (.fn 54) args (l1::H)=some (.slc 0 l1.bs.length 0 off sz len cap,bI (l1::H) 0 (.row (kI 1 q))):=by
 have:lF (cd n) 54 args (l1::H)=some (.slc 0 l1.bs.length 0 off sz len cap,bI (l1::H) 0 (.row (kI 1 q))):=by
  show nG Try.prog KtL.kt 100000 54 (cd n) args (l1::H)=_
  unfold nG
  rw[hf];dsimp only
  rw[hb];dsimp only
  rw[if_pos hle,cP]
  rw[show exec (⟨Try.prog,cd n,100000,54,fn.ntmps,KtL.kt 54,none⟩:Cx) c (eF 0 args) (⟨false,[]⟩::l1::H)=_ from h]
  dsimp only
  rcases he with rfl | rfl<;>(simp only[hv,hq,h0,h1,Bool.or_self,Bool.false_eq_true,if_false])
 unfold cd
 rw[show cU Try.prog lF KtL.kt 100000 (n+1) (.fn 54) args (l1::H)=(match lF (cd n) 54 args (l1::H) with
  | some r=>some r
  | none=>_) from rfl,this]
theorem Sv (q:Nat) (z:Nat→Int) (b0:Nat×ai) (hq:q<30):cd (n+1) (.fn 54) [.slc 0 1 0 0 1 (q+1) (some 30)] (⟨false,[b0,(0,.row (.M [.arr .i64 z 30]))]⟩::H)=some (.slc 0 2 0 0 1 (q+1) none,⟨false,[b0,(0,.row (.M [.arr .i64 z 30])),R3 (q+1) z]⟩::H):=by
 obtain ⟨x,hx,hy⟩:=aB (Q:=fun x=>x=(.ret,[(2,.slc 0 1 0 0 1 (q+1) none)],(⟨false,[(0,.row (.I .i64 [])),(0,.row (.M [.arr .i64 z (q+1)]))]⟩:aT)::⟨false,[b0,(0,.row (.M [.arr .i64 z 30]))]⟩::H)) (fr:=[(0,.slc 1 1 0 0 1 (q+1) (some 30))]) (t54 n H q z b0) (ao n) (af _ _) (ag _ _) (by
  rw[cT,Hq,show bO 0 (Nat.succ q)=q+1 by rw[bH,Nat.zero_add]]
  exact wF)
 subst hy
 have e8:Try.f54.ntmps=8:=by kernel_rfl
 have eb:Try.f54.body=some (bj Try.f54):=by kernel_rfl
 have er:Try.f54.results.toList=[.tmp 2]:=by kernel_rfl
 refine Ku (fn:=Try.f54) (c:=bj Try.f54) (l1:=⟨false,[b0,(0,.row (.M [.arr .i64 z 30]))]⟩) Try.func54 eb (by rw[e8];rfl) (e:=.ret) (fr:=[(2,.slc 0 1 0 0 1 (q+1) none)]) (l:=⟨false,[(0,.row (.I .i64 [])),(0,.row (.M [.arr .i64 z (q+1)]))]⟩) (j:=1) (ver:=0) (q:=.M [.arr .i64 z (q+1)]) (by rw[e8];exact hx) (.inr rfl) (by rw[er];rfl) rfl rfl rfl
noncomputable def Qb:AV:=if l7 l t k d=0 then .tup [b6 l (bG (bG (nD l t d l))) false,.int .i64 0] else .tup [.nils,.int .i64 (l7 l t k d)]
theorem Sm:cd (n+9) (.fn 19) [b5 l t k d] H=some (Qb l k t d,H):=by
 unfold Qb
 by_cases h:l7 l t k d=0
 · rw[if_pos h]
   have hs:=Ap h
   have hl1:=hs.l1
   have hl2:=hs.l30
   have hb:=hs.bd
   obtain ⟨q,rfl⟩:∃ q,l=q+1:=⟨l-1,by omega⟩
   refine aD (n:=n+8) Try.func19 rfl rfl rfl (UP (n+8) (q+1) k t d (cQ t (q+1)) (bG (nD (q+1) t d (q+1))) (bG (bG (nD (q+1) t d (q+1)))) H) (aO _ (n+8) (dQ (bp (bp (aF _) (fun H=>OO n (q+1) k t d H hs)) (fun H=>OP (n+5) 0 (q+1) k k t d _ d false H hs.l30 hs.kl hs.tl hs.cyc hb)) (fun x hy=>by rw[← Tr.ab hy];exact Sv (n+7) H q _ _ (by omega)))) (af _ _) (ag _ _) ?_
   rw[show dr (Int.ofNat (q+1))=q+1 from lP _,cT]
   generalize bG (nD (q+1) t d (q+1))=z at *
   generalize cQ t (q+1)=g at *
   exact wF
 · rw[if_neg h]
   refine aD (n:=n+8) Try.func19 rfl rfl rfl (Q1 (n+8) l k t d (l7 l t k d) H) (aO _ (n+8) (bp (aF _) (fun H=>L4 n l k t d H h))) (af _ _) (ag _ _) ?_
   generalize l7 l t k d=e at *
   exact wF
theorem MM (j:Nat) (h:Fw l t) (hj:j<l):exec (bn n 46 29) (.block 2 (.loop (part Try.f46 [1,1,0,1,0,0,1,0,0,1,0,1,0,0]))) (iK .nils (j:Nat) 0 (j:Nat)) (tv l t k d::H)=some (.normal,iK .nils (j:Nat) (eP l t j:Nat) (bE t (eP l t j) (j:Nat))++[(16,.bool false)],tv l t k d::H):=by
 obtain ⟨e1,e2,e3⟩:=jS h.cyc j hj
 have hl:=h.l30
 refine jf (n:=n) (f:=46) (nt:=29) (c:=part Try.f46 [1,1,0,1,0,0,1,0,0,1,0,1,0,0]) 2 (fun p=>iK .nils (j:Nat) (p:Nat) (bE t p (j:Nat))) (fun _=>tv l t k d::H) (eP l t j) _ (by omega) (fun p hp=>?_) ?_
 · have h1:=e2 p hp
   have h2:=fz h.tl (show (j:Int)<l by omega) p
   have h3:=pN h1
   refine aB (JG n l k t d H (j:Nat) (p:Nat) (bE t p (j:Nat))) (ao n) (af _ _) (ag _ _) ?_
   rw[c7 (j:=p) (by omega),LH h1]
   show Tr.all _ (fun r=>_∧tidy _ _ _=(iK .nils (j:Nat) ((p+1:Nat):Int) (bE t (p+1) (j:Nat)),_))
   rw[h3]
   generalize bE t p (j:Nat)=x at *
   exact wF
 · obtain ⟨r,h1,rfl⟩:=aB (Q:=fun r=>r=(.exit 2,iK .nils (j:Nat) (eP l t j:Nat) (bE t (eP l t j) (j:Nat))++[(16,.bool false)],tv l t k d::H)) (JG n l k t d H (j:Nat) (eP l t j:Nat) (bE t (eP l t j) (j:Nat))) (ao n) (af _ _) (ag _ _) (by
    refine Tr.bm (fun hc=>?_) (fun hc=>Tr.bf rfl)
    simp (disch:=omega) only[nV,nW] at hc;omega)
   exact h1
theorem MN (v m:Nat) (y:Nat→Int) (j:Nat) (h:Fw l t) (hj:j<l):exec (bn n 46 29) (.block 2 (.loop (part Try.f46 [1,1,0,1,0,0,1,0,0,1,0,1,0,0]))) (iK (.slc 0 1 v 0 1 m none) (j:Nat) 0 (j:Nat)) (qz l t k d v m y::H)=some (.normal,iK (.slc 0 1 v 0 1 m none) (j:Nat) (eP l t j:Nat) (bE t (eP l t j) (j:Nat))++[(16,.bool false)],qz l t k d v m y::H):=by
 obtain ⟨e1,e2,e3⟩:=jS h.cyc j hj
 have hl:=h.l30
 refine jf (n:=n) (f:=46) (nt:=29) (c:=part Try.f46 [1,1,0,1,0,0,1,0,0,1,0,1,0,0]) 2 (fun p=>iK (.slc 0 1 v 0 1 m none) (j:Nat) (p:Nat) (bE t p (j:Nat))) (fun _=>qz l t k d v m y::H) (eP l t j) _ (by omega) (fun p hp=>?_) ?_
 · have h1:=e2 p hp
   have h2:=fz h.tl (show (j:Int)<l by omega) p
   have h3:=pN h1
   refine aB (JH n l k t d v m y H (j:Nat) (p:Nat) (bE t p (j:Nat))) (ao n) (af _ _) (ag _ _) ?_
   rw[c7 (j:=p) (by omega),LH h1]
   show Tr.all _ (fun r=>_∧tidy _ _ _=(iK (.slc 0 1 v 0 1 m none) (j:Nat) ((p+1:Nat):Int) (bE t (p+1) (j:Nat)),_))
   rw[h3]
   generalize bE t p (j:Nat)=x at *
   exact wF
 · obtain ⟨r,h1,rfl⟩:=aB (Q:=fun r=>r=(.exit 2,iK (.slc 0 1 v 0 1 m none) (j:Nat) (eP l t j:Nat) (bE t (eP l t j) (j:Nat))++[(16,.bool false)],qz l t k d v m y::H)) (JH n l k t d v m y H (j:Nat) (eP l t j:Nat) (bE t (eP l t j) (j:Nat))) (ao n) (af _ _) (ag _ _) (by
    refine Tr.bm (fun hc=>?_) (fun hc=>Tr.bf rfl)
    simp (disch:=omega) only[nV,nW] at hc;omega)
   exact h1
theorem Ur (h:Fw l t) (h0:0<l):exec (bn n 46 29) (.block 0 (.loop (part Try.f46 [1,1,0,1,0,0]))) (rR .nils 0) (tv l t k d::H)=some (.normal,rR (Ou l) (Int.ofNat l)++[(11,.bool false)],Ig l t k d (fun i=>(eP l t i:Int)) l::H):=by
 have hl:=h.l30
 refine jf (n:=n) (f:=46) (nt:=29) (c:=part Try.f46 [1,1,0,1,0,0]) 0 (fun j=>rR (Ou j) (j:Nat)) (fun j=>Ig l t k d (fun i=>(eP l t i:Int)) j::H) l (rR (Ou l) (Int.ofNat l)++[(11,.bool false)],Ig l t k d (fun i=>(eP l t i:Int)) l::H) (by omega) (fun j hj=>?_) ?_
 · cases j with
   | zero =>
     have hx:=MM n l k t d H 0 h hj
     have he:=QH n l k t d H (0:Nat) (eP l t 0:Nat) (bE t (eP l t 0) (0:Nat))
     refine aB he (ao n) (aA (af _ _) LU (fun x hy=>bN hy hx)) (ag _ _) ?_
     show Tr.all _ (fun x=>_∧tidy _ _ _=(rR (.slc 0 1 0 0 1 1 none) ((0+1:Nat):Int),qz l t k d 0 1 (ay [(eP l t 0:Int)])::H))
     rw[c7 (j:=0) (by omega)]
     generalize eP l t 0=N at *
     exact wF
   | succ j =>
     have hx:=MN n l k t d H j (j+1) (ay (dM (fun i=>(eP l t i:Int)) (j+1))) (j+1) h hj
     have he:=QI n l k t d j (j+1) (ay (dM (fun i=>(eP l t i:Int)) (j+1))) H (j+1:Nat) (eP l t (j+1):Nat) (bE t (eP l t (j+1)) (j+1:Nat))
     refine aB he (ao n) (aA (af _ _) LU (fun x hy=>bN hy hx)) (ag _ _) ?_
     show Tr.all _ (fun x=>_∧tidy _ _ _=(rR (.slc 0 1 (j+1) 0 1 (j+1+1) none) ((j+1+1:Nat):Int),qz l t k d (j+1) (j+1+1) (ay (dM (fun i=>(eP l t i:Int)) (j+1+1)))::H))
     have hap:=oZ (fun i=>(eP l t i:Int)) (j+1)
     have ea:bO (j+1) 1=j+1+1:=bH _ _
     try dsimp only at hap
     rw[c7 (j:=j+1) (by omega),hap,ea]
     generalize ay (dM (fun i=>(eP l t i:Int)) (j+1+1))=Y2 at *
     generalize ay (dM (fun i=>(eP l t i:Int)) (j+1))=Y at *
     generalize eP l t (j+1)=N at *
     exact wF
 · obtain ⟨q,rfl⟩:∃ q,l=q+1:=⟨l-1,by omega⟩
   obtain ⟨x,h1,rfl⟩:=aB (Q:=fun x=>x=(.exit 0,rR (Ou (q+1)) (Int.ofNat (q+1))++[(11,.bool false)],Ig (q+1) t k d (fun i=>(eP (q+1) t i:Int)) (q+1)::H)) (QJ n (q+1) k t d q (q+1) (ay (dM (fun i=>(eP (q+1) t i:Int)) (q+1))) H (Int.ofNat (q+1))) (ao n) (fc (af _ _) 2) (ag _ _) (by
    refine Tr.bm (fun hc=>?_) (fun hc=>Tr.bf rfl)
    simp (disch:=omega) only[nV,nW] at hc;omega)
   exact h1
theorem Ss (h:Fw l t) (h0:0<l):cd (n+1) (.fn 46) [b5 l t k d] H=some (b6 l (ay (dM (fun i=>(eP l t i:Int)) l)) false,H):=by
 have hx:=Ur n l k t d H h h0
 obtain ⟨q,rfl⟩:∃ q,l=q+1:=⟨l-1,by omega⟩
 refine aD (n:=n) Try.func46 rfl rfl rfl (UZ n (q+1) k q t d (ay (dM (fun i=>(eP (q+1) t i:Int)) (q+1))) H) (ao _) (aA (af _ _) R9 (fun x hy=>bN hy hx)) (ag _ _) ?_
 rw[cT]
 generalize ay (dM (fun i=>(eP (q+1) t i:Int)) (q+1))=Y at *
 exact wF
end
end Go.Eng
end
section
namespace Go.Eng
open Go.Proofs
section
variable (n:Nat) (H:aa)
variable (l k:Nat) (t d:Nat→Int)
end
end Go.Eng
end
section
namespace Go.Eng
open Go.Proofs
theorem R6 (n l k:Nat) (t d g:Nat→Int) (W:Int→Int→Nat→(Nat→Int)→Bool) (h:Int) (H:aa):aX Try.prog (cd n) 100000 66 Try.f66 (KtL.kt 66) (il (gu (tX aE 51 [b5 l t k d] (.tup [dy 0 l t k d g,.int .i64 0])) 56 (MC W)) n 0) aG aH [(b5 l t k d,none),(.int .i64 h,none)] H =
 (fun (Z0:AV×Option Nat)=>((fun (Z1:List AV)=>((fun (Z2:AV×Option Nat)=>Tr.reqP (Z1=Z1) (Tr.ite (aP (b7 (Int.ofNat 0) (Int.ofNat 0))) (Tr.ok ((AV.tup [AV.nilp,AV.int .i64 (Int.ofNat 0)],none),H)) (Tr.ite (bK h (Int.ofNat 1)) (Tr.ite (aP false) (Tr.ok (Z2,H)) (Tr.ok (Z0,H))) (Tr.ite (bK (Int.ofNat 10) h) (Tr.ite (aP false) (Tr.ok (Z2,H)) (Tr.ok (Z0,H))) (Tr.ite (aP true) (Tr.ok (Z2,H)) (Tr.ok (Z0,H))))))) (AV.tup [AV.nilp,AV.int .i64 (Int.ofNat 2)],none))) [AV.agg (Row.G [AV.slcT none (Row.M [ah.arr .i64 t l]) 1 l false,AV.slcT none (Row.M [ah.arr .i64 d k]) 1 k false])])) (AV.tup [AV.ptrT (some 0) (Row.M [ah.one (AV.slcT none (Row.M [ah.arr .i64 t l]) 1 l false),ah.one (AV.slcT none (Row.M [ah.arr .i64 d k]) 1 k false),ah.arr .i64 g 30]) 0,AV.int .i64 (Int.ofNat 0)],none):=by kernel_rfl
theorem Ri (n l k:Nat) (t d:Nat→Int) (e h:Int) (H:aa):aX Try.prog (cd n) 100000 66 Try.f66 (KtL.kt 66) (il (tX aE 51 [b5 l t k d] (.tup [.nilp,.int .i64 e])) n 0) aG aH [(b5 l t k d,none),(.int .i64 h,none)] H =
 (fun (Z0:List AV)=>Tr.reqP (Z0=Z0) (Tr.ite (aP (b7 e (Int.ofNat 0))) (Tr.ok ((AV.tup [AV.nilp,AV.int .i64 e],none),H)) Tr.bad)) [AV.agg (Row.G [AV.slcT none (Row.M [ah.arr .i64 t l]) 1 l false,AV.slcT none (Row.M [ah.arr .i64 d k]) 1 k false])]:=by kernel_rfl
theorem u64 (n l k:Nat) (t d:Nat→Int) (e h:Int) (H:aa):aX Try.prog (cd n) 100000 64 Try.f64 (KtL.kt 64) (il (tX aE 22 [b5 l t k d] (.int .i64 e)) n 0) aG aH [(b5 l t k d,none),(.int .i64 h,none)] H =
 (fun (Z0:List AV)=>Tr.reqP (Z0=Z0) (Tr.ite (aP (b7 e (Int.ofNat 0))) (Tr.reqP (Z0=Z0) (Tr.ok ((AV.int .i64 e,none),H))) (Tr.ite (bK h (Int.ofNat 1)) (Tr.ok ((AV.int .i64 (Int.ofNat 2),some 1),H)) (Tr.ite (bK (Int.ofNat 10) h) (Tr.ok ((AV.int .i64 (Int.ofNat 2),some 1),H)) (Tr.ok ((AV.int .i64 (Int.ofNat 0),some 1),H)))))) [AV.agg (Row.G [AV.slcT none (Row.M [ah.arr .i64 t l]) 1 l false,AV.slcT none (Row.M [ah.arr .i64 d k]) 1 k false])]:=by kernel_rfl
theorem U9 (n l k:Nat) (t d g:Nat→Int) (H:aa) (h a c:Int):aX Try.prog (cd n) 100000 61 Try.f61 (KtL.kt 61) (il (tX (tX aE 66 [b5 l t k d,.int .i64 h] (.tup [dy 0 l t k d g,.int .i64 0])) 69 [dy 0 l t k d g,b6 k d false,.int .i64 h] (.int .i64 c)) n 0) aG aH [(b5 l t k d,none),(.int .i64 h,none),(.int .i64 a,none)] H =
 (fun (Z0:Row)=>((fun (Z1:List AV)=>((fun (Z2:List AV)=>Tr.reqP (Z1=Z1) (Tr.ite (aP (b7 (Int.ofNat 0) (Int.ofNat 0))) (Tr.ok ((AV.tup [AV.nilp,AV.int .i64 (Int.ofNat 0)],none),H)) (Tr.ite (aP (b7 a (Int.ofNat 0))) (Tr.ok ((AV.tup [AV.nilp,AV.int .i64 a],none),H)) (Tr.reqP (Z2=Z2) (Tr.ite (lV (Int.ofNat 0) c) (Tr.ok ((AV.tup [AV.nilp,AV.int .i64 (Int.ofNat 13)],none),H)) (Tr.ok ((AV.tup [AV.ptrT (some 0) Z0 0,AV.int .i64 (Int.ofNat 0)],none),H))))))) [AV.ptrT (some 0) Z0 0,AV.slcT none (Row.M [ah.arr .i64 d k]) 1 k false,AV.int .i64 h])) [AV.agg (Row.G [AV.slcT none (Row.M [ah.arr .i64 t l]) 1 l false,AV.slcT none (Row.M [ah.arr .i64 d k]) 1 k false]),AV.int .i64 h])) (Row.M [ah.one (AV.slcT none (Row.M [ah.arr .i64 t l]) 1 l false),ah.one (AV.slcT none (Row.M [ah.arr .i64 d k]) 1 k false),ah.arr .i64 g 30]):=by kernel_rfl
theorem Rh (n l k:Nat) (t d:Nat→Int) (H:aa) (h a e:Int):aX Try.prog (cd n) 100000 61 Try.f61 (KtL.kt 61) (il (tX aE 66 [b5 l t k d,.int .i64 h] (.tup [.nilp,.int .i64 e])) n 0) aG aH [(b5 l t k d,none),(.int .i64 h,none),(.int .i64 a,none)] H =
 (fun (Z0:List AV)=>Tr.reqP (Z0=Z0) (Tr.ite (aP (b7 e (Int.ofNat 0))) (Tr.ok ((AV.tup [AV.nilp,AV.int .i64 e],none),H)) (Tr.ite (aP (b7 a (Int.ofNat 0))) (Tr.ok ((AV.tup [AV.nilp,AV.int .i64 a],none),H)) Tr.bad))) [AV.agg (Row.G [AV.slcT none (Row.M [ah.arr .i64 t l]) 1 l false,AV.slcT none (Row.M [ah.arr .i64 d k]) 1 k false]),AV.int .i64 h]:=by kernel_rfl
theorem cO {n f nt:Nat} {c:Code} {callR:bJ} {bl:ik} {rg:sl} {fr:aq} {H:aa} {b:Bool} {A:Tr oE} {y:oE} (e:aJ (bn n f nt) callR bl rg c (hints fr) H=.ite b A (.ok y)) (hC:callR.Ok (cd n)) (hB:bl.Ok (bn n f nt) c) (hR:rg.Ok (bn n f nt) c) (hb:b=false):exec (bn n f nt) c fr H=some y.st:=by
 obtain ⟨x,h1,rfl⟩:=aB (Q:=fun x=>x=y.st) e hC hB hR (Tr.bm (fun h=>by rw[hb] at h;cases h) (fun _=>Tr.bf rfl))
 exact h1
def dj (l:Nat) (t:Nat→Int) (k:Nat) (d:Nat→Int) (h:Int):Int:=if l7 l t k d=0 then (if h<1∨10<h then 2 else 0) else l7 l t k d
theorem ma {l k:Nat} {t d:Nat→Int} {h:Int} (e:dj l t k d h=0):Sh l t k d∧1≤h∧h≤10:=by
 unfold dj at e
 by_cases c:l7 l t k d=0
 · rw[if_pos c] at e
   refine ⟨Ap c,?_⟩
   by_cases c2:h<1∨10<h
   · rw[if_pos c2] at e;omega
   · omega
 · rw[if_neg c] at e;exact absurd e c
theorem AW {l k:Nat} {t d:Nat→Int} {h:Int} (e:Sh l t k d) (h1:1≤h) (h2:h≤10):dj l t k d h=0:=by
 unfold dj
 rw[if_pos (JF e),if_neg (by omega)]
def bC (l:Nat) (t e:Nat→Int) (h:Int):Bool:=!bV (fun T=>Fu l t e h (T:Nat)) 41
theorem wP (l:Nat) (t e:Nat→Int) (h:Int):(yh l t e h<0↔bC l t e h=true)∧(0≤yh l t e h↔bC l t e h=false):=by
 unfold yh Cu bC
 cases bV (fun T:Nat=>Fu l t e h (T:Nat)) 41 with
 | true=>rw[if_pos rfl];constructor<;>simp<;>omega
 | false=>rw[if_neg (by decide)];constructor<;>simp
section
variable (n l k:Nat) (t d:Nat→Int) (H:aa) (h:Int)
theorem RW (e:dj l t k d h=0):cd (n+10) (.fn 66) [b5 l t k d,.int .i64 h] H=some (.tup [J0 0 l t k d,.int .i64 0],H):=by
 obtain ⟨hs,h1,h2⟩:=ma e
 refine aD (n:=n+9) Try.func66 rfl rfl rfl (R6 (n+9) l k t d (cQ t l) Dv h H) (aO _ (n+9) (qh (c:=n+3) (bp (aF _) (fun H=>OO (n+1) l k t d H hs)))) (af _ _) (ag _ _) ?_
 unfold J0
 generalize cQ t l=g at *
 exact wF
theorem L7 (e:dj l t k d h≠0):cd (n+10) (.fn 66) [b5 l t k d,.int .i64 h] H=some (.tup [.nilp,.int .i64 (dj l t k d h)],H):=by
 by_cases c:l7 l t k d=0
 · have hs:=Ap c
   have ea:dj l t k d h=if h<1∨10<h then 2 else 0:=by unfold dj;rw[if_pos c]
   by_cases c2:h<1∨10<h
   · rw[ea,if_pos c2]
     refine aD (n:=n+9) Try.func66 rfl rfl rfl (R6 (n+9) l k t d (cQ t l) Dv h H) (aO _ (n+9) (qh (c:=n+3) (bp (aF _) (fun H=>OO (n+1) l k t d H hs)))) (af _ _) (ag _ _) ?_
     generalize cQ t l=g at *
     exact wF
   · rw[ea,if_neg c2] at e;exact absurd rfl e
 · have ea:dj l t k d h=l7 l t k d:=by unfold dj;rw[if_neg c]
   rw[ea]
   refine aD (n:=n+9) Try.func66 rfl rfl rfl (Ri (n+9) l k t d (l7 l t k d) h H) (aO _ (n+9) (bp (aF _) (fun H=>L4 (n+1) l k t d H c))) (af _ _) (ag _ _) ?_
   generalize l7 l t k d=e at *
   exact wF
theorem RV:cd (n+3) (.fn 64) [b5 l t k d,.int .i64 h] H=some (.int .i64 (dj l t k d h),H):=by
 refine aD (n:=n+2) Try.func64 rfl rfl rfl (u64 (n+2) l k t d (l7 l t k d) h H) (aO _ (n+2) (bp (aF _) (fun H=>RP n l k t d H))) (af _ _) (ag _ _) ?_
 have ea:dj l t k d h=if l7 l t k d=0 then (if h<1∨10<h then 2 else 0) else l7 l t k d:=rfl
 rw[ea]
 generalize l7 l t k d=e at *
 by_cases c:e=0
 · rw[if_pos c]
   by_cases c2:h<1∨10<h
   · rw[if_pos c2]
     exact wF
   · rw[if_neg c2]
     exact wF
 · rw[if_neg c]
   exact wF
def fE:Int:=if dj l t k d h=0 then (if bC l t d h=true then 0 else 13) else dj l t k d h
theorem xu {l k:Nat} {t d:Nat→Int} {h:Int} (e:fE l k t d h=0):dj l t k d h=0∧bC l t d h=true:=by
 unfold fE at e
 by_cases c:dj l t k d h=0
 · rw[if_pos c] at e
   refine ⟨c,?_⟩
   by_cases c2:bC l t d h=true
   · exact c2
   · rw[if_neg c2] at e;omega
 · rw[if_neg c] at e;exact absurd e c
theorem L5 (a:Int) (e:dj l t k d h=0):cd (n+11) (.fn 61) [b5 l t k d,.int .i64 h,.int .i64 a] H=some (if a=0 then (if bC l t d h=true then .tup [J0 0 l t k d,.int .i64 0] else .tup [.nilp,.int .i64 13]) else .tup [.nilp,.int .i64 a],H):=by
 obtain ⟨hs,h1,h2⟩:=ma e
 refine aD (n:=n+10) Try.func61 rfl rfl rfl (U9 (n+10) l k t d (cQ t l) H h a (yh l t d h)) (aO _ (n+10) (bp (bp (aF _) (fun H=>RW n l k t d H h e)) (fun H=>OS (n+6) 0 l k k t d _ d false H h hs.l30 hs.kl hs.tl hs.cyc hs.bd (by omega)))) (af _ _) (ag _ _) ?_
 obtain ⟨q1,q2⟩:=wP l t d h
 unfold J0
 generalize cQ t l=g at *
 generalize yh l t d h=C at *
 by_cases c:a=0
 · rw[if_pos c]
   cases hB:bC l t d h with
   | true =>
     have:=q1.2 hB
     simp only[if_true]
     exact wF
   | false =>
     have:=q2.2 hB
     simp only[Bool.false_eq_true,if_false]
     exact wF
 · rw[if_neg c]
   exact wF
theorem Ke (a:Int) (e:dj l t k d h≠0):cd (n+11) (.fn 61) [b5 l t k d,.int .i64 h,.int .i64 a] H=some (.tup [.nilp,.int .i64 (dj l t k d h)],H):=by
 refine aD (n:=n+10) Try.func61 rfl rfl rfl (Rh (n+10) l k t d H h a (dj l t k d h)) (aO _ (n+10) (bp (aF _) (fun H=>L7 n l k t d H h e))) (af _ _) (ag _ _) ?_
 generalize dj l t k d h=e at *
 exact wF
end
end Go.Eng
end
