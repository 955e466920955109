/- Drop: newTable: touch. -/
import Derived.Test.YtjmjkhpfipglcaaV8DrFx4
section
namespace Go.Eng
open Go.Proofs
set_option linter.unusedVariables false
set_option linter.unusedSimpArgs false
set_option maxRecDepth 100000
noncomputable def ctH (t:Ctr) (f:FuncId) (H0:Heap) (g:List AV→Option (Prop×AV)):Ctr:=fun x=>cond (Nat.beq x f) (some fun args H=>match g (avs args) with
 | some (p,v)=>.reqP (p∧H=H0) (.ok ((v,none),H0))
 | none=>.bad) (t x)
theorem ctH_ok {t:Ctr} {f:FuncId} {H0:Heap} {g:List AV→Option (Prop×AV)} {call:CallT} (h:t.Ok call) (k:∀ args p v,g args=some (p,v)→p→call (.fn f) args H0=some (v,H0)):(ctH t f H0 g).Ok call:=by
 intro f' g' hg args H x hx
 unfold ctH at hg
 cases hb:Nat.beq f' f with
 | true =>
   rw[hb,cond_true,Option.some.injEq] at hg
   have:=Nat.eq_of_beq_eq_true hb
   subst this;subst hg
   dsimp only at hx
   split at hx
   · rename_i p v hp
     obtain ⟨⟨e1,e2⟩,hx⟩:=Tr.reqP_some hx
     subst e2
     rw[k _ p v hp e1,← Tr.ok_some hx]
   · exact (Tr.bad_some hx).elim
 | false =>
   rw[hb,cond_false] at hg
   exact h _ _ hg _ _ _ hx
theorem run_reqT {α:Type} {a:Tr α}:(Tr.reqP True a).run=a.run:=Tr.run_reqP trivial
theorem eqI_dec (x y:Int):eqI x y=decide (x=y):=by rw[eqI_eq,Bool.eq_iff_iff];simp
def touchT (w:Int) (zs:Nat→Int) (so:Int→Int) (p q:Int):Bool :=
 if p<0∧q<0 then false
 else
  let s:=if p<0 then q else p
  let o:=if p<0 then p else q
  if so s=0 then false
  else if o=-2 then decide (IntKind.i64.wrap (IntKind.i64.wrap (w-zs (s.toNat*2))*IntKind.i64.wrap (w-zs (s.toNat*2)))≤so s)
  else if 0≤o then bothT (so s) (so o) (zs (s.toNat*2)) (zs (s.toNat*2+1)) (zs (o.toNat*2)) (zs (o.toNat*2+1))
  else decide (IntKind.i64.wrap (zs (s.toNat*2)*zs (s.toNat*2))≤so s)
theorem ct112 (n k:Nat) (t:Ctr) (ht:t.Ok (cd (n+1+k))):(ctG t 112 (g112 bothT)).Ok (cd (n+1+k)):=by
 refine ctG_ok ht (fun args p v h hp H=>?_)
 unfold g112 at h
 split at h
 · simp only[nP] at h
   obtain ⟨rfl,rfl⟩:=h
   rw[show n+1+k=n+k+1 by omega]
   exact c112 (n+k) _ _ _ _ _ _ H
 · cases h
theorem u99a (n:Nat) (w pp p q:Int) (ls ld:Nat) (zs zd sz kd:Nat→Int) (H:Heap) (L Li:ALoop) (bo:Int→Int→Int→Int→Int→Int→Bool):bodyT Try.prog (cd (n+2)) 100000 99 Try.f99 (Kt.kt 99) (il (ctG noCt 112 (g112 bo)) (n+1) 1) noBT noRT [(.ptr 4 2 0 0,none),(.int .i64 p,none),(.int .i64 q,none),(.fn (.func 100) [.ptr 4 2 0 0] [],none)] (hT pp w ls ld zs zd sz kd H L Li) =
 (fun (Z0:Lvl)=>((fun (Z1:Lvl)=>((fun (Z2:AV×Option Nat)=>((fun (Z3:AV×Option Nat)=>((fun (Z4:AV×Option Nat)=>((fun (Z5:AV×Option Nat)=>Tr.ite (ltI p (Int.ofNat 0)) (Tr.ite (ltI q (Int.ofNat 0)) (Tr.ok ((AV.bool false,some 1),lv0::lv0::Z1::lv0::Z0::H)) (Tr.ite (ltI p (Int.ofNat 0)) (Tr.req (inI q ls) (Tr.req (ltN (idO 0 q 2) (mulO ls 2)) (Tr.req (ltN (addO (idO 0 q 2) 1) (mulO ls 2)) (Tr.req (inI q ls) (Tr.req (eqN 0 0) (Tr.req (ltN (idO 0 q 2) (mulO ls 2)) (Tr.req (andB (leN 0 0) (leN 0 1)) (Tr.ite (eqI (sz (idO 0 q 2)) (Int.ofNat 0)) (Tr.ok ((AV.bool false,some 1),lv0::lv0::Z1::lv0::Z0::H)) (Tr.ite (eqI p (Int.negSucc 1)) (Tr.ok (Z4,lv0::lv0::Z1::lv0::Z0::H)) (Tr.ite (leI (Int.ofNat 0) p) (Tr.req (inI p ls) (Tr.req (eqN 0 0) (Tr.req (ltN (idO 0 p 2) (mulO ls 2)) (Tr.req (inI p ls) (Tr.req (ltN (idO 0 p 2) (mulO ls 2)) (Tr.req (ltN (addO (idO 0 p 2) 1) (mulO ls 2)) (Tr.reqP True (Tr.ok (Z2,lv0::lv0::Z1::lv0::Z0::H))))))))) (Tr.ok ((AV.bool (leI (mulI .i64 (zs (idO 0 q 2)) (zs (idO 0 q 2))) (sz (idO 0 q 2))),none),lv0::lv0::Z1::lv0::Z0::H)))))))))))) (Tr.req (inI p ls) (Tr.req (ltN (idO 0 p 2) (mulO ls 2)) (Tr.req (ltN (addO (idO 0 p 2) 1) (mulO ls 2)) (Tr.req (inI p ls) (Tr.req (eqN 0 0) (Tr.req (ltN (idO 0 p 2) (mulO ls 2)) (Tr.req (andB (leN 0 0) (leN 0 1)) (Tr.ite (eqI (sz (idO 0 p 2)) (Int.ofNat 0)) (Tr.ok ((AV.bool false,some 1),lv0::lv0::Z1::lv0::Z0::H)) (Tr.ite (eqI q (Int.negSucc 1)) (Tr.ok (Z5,lv0::lv0::Z1::lv0::Z0::H)) (Tr.ite (leI (Int.ofNat 0) q) (Tr.req (inI q ls) (Tr.req (eqN 0 0) (Tr.req (ltN (idO 0 q 2) (mulO ls 2)) (Tr.req (inI q ls) (Tr.req (ltN (idO 0 q 2) (mulO ls 2)) (Tr.req (ltN (addO (idO 0 q 2) 1) (mulO ls 2)) (Tr.reqP True (Tr.ok (Z3,lv0::lv0::Z1::lv0::Z0::H))))))))) (Tr.ok ((AV.bool (leI (mulI .i64 (zs (idO 0 p 2)) (zs (idO 0 p 2))) (sz (idO 0 p 2))),none),lv0::lv0::Z1::lv0::Z0::H)))))))))))))) (Tr.ite (ltI p (Int.ofNat 0)) (Tr.req (inI q ls) (Tr.req (ltN (idO 0 q 2) (mulO ls 2)) (Tr.req (ltN (addO (idO 0 q 2) 1) (mulO ls 2)) (Tr.req (inI q ls) (Tr.req (eqN 0 0) (Tr.req (ltN (idO 0 q 2) (mulO ls 2)) (Tr.req (andB (leN 0 0) (leN 0 1)) (Tr.ite (eqI (sz (idO 0 q 2)) (Int.ofNat 0)) (Tr.ok ((AV.bool false,some 1),lv0::lv0::Z1::lv0::Z0::H)) (Tr.ite (eqI p (Int.negSucc 1)) (Tr.ok (Z4,lv0::lv0::Z1::lv0::Z0::H)) (Tr.ite (leI (Int.ofNat 0) p) (Tr.req (inI p ls) (Tr.req (eqN 0 0) (Tr.req (ltN (idO 0 p 2) (mulO ls 2)) (Tr.req (inI p ls) (Tr.req (ltN (idO 0 p 2) (mulO ls 2)) (Tr.req (ltN (addO (idO 0 p 2) 1) (mulO ls 2)) (Tr.reqP True (Tr.ok (Z2,lv0::lv0::Z1::lv0::Z0::H))))))))) (Tr.ok ((AV.bool (leI (mulI .i64 (zs (idO 0 q 2)) (zs (idO 0 q 2))) (sz (idO 0 q 2))),none),lv0::lv0::Z1::lv0::Z0::H)))))))))))) (Tr.req (inI p ls) (Tr.req (ltN (idO 0 p 2) (mulO ls 2)) (Tr.req (ltN (addO (idO 0 p 2) 1) (mulO ls 2)) (Tr.req (inI p ls) (Tr.req (eqN 0 0) (Tr.req (ltN (idO 0 p 2) (mulO ls 2)) (Tr.req (andB (leN 0 0) (leN 0 1)) (Tr.ite (eqI (sz (idO 0 p 2)) (Int.ofNat 0)) (Tr.ok ((AV.bool false,some 1),lv0::lv0::Z1::lv0::Z0::H)) (Tr.ite (eqI q (Int.negSucc 1)) (Tr.ok (Z5,lv0::lv0::Z1::lv0::Z0::H)) (Tr.ite (leI (Int.ofNat 0) q) (Tr.req (inI q ls) (Tr.req (eqN 0 0) (Tr.req (ltN (idO 0 q 2) (mulO ls 2)) (Tr.req (inI q ls) (Tr.req (ltN (idO 0 q 2) (mulO ls 2)) (Tr.req (ltN (addO (idO 0 q 2) 1) (mulO ls 2)) (Tr.reqP True (Tr.ok (Z3,lv0::lv0::Z1::lv0::Z0::H))))))))) (Tr.ok ((AV.bool (leI (mulI .i64 (zs (idO 0 p 2)) (zs (idO 0 p 2))) (sz (idO 0 p 2))),none),lv0::lv0::Z1::lv0::Z0::H)))))))))))))) (AV.bool (leI (mulI .i64 (subI .i64 w (zs (idO 0 p 2))) (subI .i64 w (zs (idO 0 p 2)))) (sz (idO 0 p 2))),none))) (AV.bool (leI (mulI .i64 (subI .i64 w (zs (idO 0 q 2))) (subI .i64 w (zs (idO 0 q 2)))) (sz (idO 0 q 2))),none))) (AV.bool (bo (sz (idO 0 p 2)) (sz (idO 0 q 2)) (zs (idO 0 p 2)) (zs (addO (idO 0 p 2) 1)) (zs (idO 0 q 2)) (zs (addO (idO 0 q 2) 1))),none))) (AV.bool (bo (sz (idO 0 q 2)) (sz (idO 0 p 2)) (zs (idO 0 q 2)) (zs (addO (idO 0 q 2) 1)) (zs (idO 0 p 2)) (zs (addO (idO 0 p 2) 1))),none))) { lock:=false,bs:=[(0,Blk.row (Row.I .i64 [pp])),(0,Blk.loop Li)] })) { lock:=false,bs:=[(0,Blk.row (Row.G [AV.int .i64 w,slA 2 ls zs,slA 3 ld zd])),(0,Blk.row (Row.M [Seg.arr .i64 sz (mulO ls 2)])),(0,Blk.row (Row.M [Seg.one (AV.int .i64 w),Seg.one (slA 2 ls zs),Seg.one (slA 3 ld zd),Seg.one (AV.slc 0 1 0 0 2 ls (some ls)),Seg.arr .i64 kd 144])),(0,Blk.row (Row.G [AV.ptr 0 2 0 0])),(0,Blk.loop L)] }:=by kernel_rfl
theorem u99b (n:Nat) (w pp p q:Int) (ls ld:Nat) (zs zd sz kd:Nat→Int) (H:Heap) (L Li:ALoop) (bo:Int→Int→Int→Int→Int→Int→Bool):bodyT Try.prog (cd (n+2)) 100000 99 Try.f99 (Kt.kt 99) (il (ctG noCt 112 (g112 bo)) (n+1) 1) noBT noRT [(.ptr 4 2 0 0,none),(.int .i64 p,none),(.int .i64 q,none),(.fn (.func 101) [.ptr 4 2 0 0] [],none)] (hT pp w ls ld zs zd sz kd H L Li) =
 (fun (Z0:Lvl)=>((fun (Z1:Lvl)=>((fun (Z2:AV×Option Nat)=>((fun (Z3:AV×Option Nat)=>((fun (Z4:AV×Option Nat)=>((fun (Z5:AV×Option Nat)=>Tr.ite (ltI p (Int.ofNat 0)) (Tr.ite (ltI q (Int.ofNat 0)) (Tr.ok ((AV.bool false,some 1),lv0::lv0::Z1::lv0::Z0::H)) (Tr.ite (ltI p (Int.ofNat 0)) (Tr.req (inI q ls) (Tr.req (ltN (idO 0 q 2) (mulO ls 2)) (Tr.req (ltN (addO (idO 0 q 2) 1) (mulO ls 2)) (Tr.req (inI q ls) (Tr.req (eqN 0 0) (Tr.req (ltN (addO (idO 0 q 2) 1) (mulO ls 2)) (Tr.req (andB (leN 0 0) (leN 0 1)) (Tr.ite (eqI (sz (addO (idO 0 q 2) 1)) (Int.ofNat 0)) (Tr.ok ((AV.bool false,some 1),lv0::lv0::Z1::lv0::Z0::H)) (Tr.ite (eqI p (Int.negSucc 1)) (Tr.ok (Z4,lv0::lv0::Z1::lv0::Z0::H)) (Tr.ite (leI (Int.ofNat 0) p) (Tr.req (inI p ls) (Tr.req (eqN 0 0) (Tr.req (ltN (addO (idO 0 p 2) 1) (mulO ls 2)) (Tr.req (inI p ls) (Tr.req (ltN (idO 0 p 2) (mulO ls 2)) (Tr.req (ltN (addO (idO 0 p 2) 1) (mulO ls 2)) (Tr.reqP True (Tr.ok (Z2,lv0::lv0::Z1::lv0::Z0::H))))))))) (Tr.ok ((AV.bool (leI (mulI .i64 (zs (idO 0 q 2)) (zs (idO 0 q 2))) (sz (addO (idO 0 q 2) 1))),none),lv0::lv0::Z1::lv0::Z0::H)))))))))))) (Tr.req (inI p ls) (Tr.req (ltN (idO 0 p 2) (mulO ls 2)) (Tr.req (ltN (addO (idO 0 p 2) 1) (mulO ls 2)) (Tr.req (inI p ls) (Tr.req (eqN 0 0) (Tr.req (ltN (addO (idO 0 p 2) 1) (mulO ls 2)) (Tr.req (andB (leN 0 0) (leN 0 1)) (Tr.ite (eqI (sz (addO (idO 0 p 2) 1)) (Int.ofNat 0)) (Tr.ok ((AV.bool false,some 1),lv0::lv0::Z1::lv0::Z0::H)) (Tr.ite (eqI q (Int.negSucc 1)) (Tr.ok (Z5,lv0::lv0::Z1::lv0::Z0::H)) (Tr.ite (leI (Int.ofNat 0) q) (Tr.req (inI q ls) (Tr.req (eqN 0 0) (Tr.req (ltN (addO (idO 0 q 2) 1) (mulO ls 2)) (Tr.req (inI q ls) (Tr.req (ltN (idO 0 q 2) (mulO ls 2)) (Tr.req (ltN (addO (idO 0 q 2) 1) (mulO ls 2)) (Tr.reqP True (Tr.ok (Z3,lv0::lv0::Z1::lv0::Z0::H))))))))) (Tr.ok ((AV.bool (leI (mulI .i64 (zs (idO 0 p 2)) (zs (idO 0 p 2))) (sz (addO (idO 0 p 2) 1))),none),lv0::lv0::Z1::lv0::Z0::H)))))))))))))) (Tr.ite (ltI p (Int.ofNat 0)) (Tr.req (inI q ls) (Tr.req (ltN (idO 0 q 2) (mulO ls 2)) (Tr.req (ltN (addO (idO 0 q 2) 1) (mulO ls 2)) (Tr.req (inI q ls) (Tr.req (eqN 0 0) (Tr.req (ltN (addO (idO 0 q 2) 1) (mulO ls 2)) (Tr.req (andB (leN 0 0) (leN 0 1)) (Tr.ite (eqI (sz (addO (idO 0 q 2) 1)) (Int.ofNat 0)) (Tr.ok ((AV.bool false,some 1),lv0::lv0::Z1::lv0::Z0::H)) (Tr.ite (eqI p (Int.negSucc 1)) (Tr.ok (Z4,lv0::lv0::Z1::lv0::Z0::H)) (Tr.ite (leI (Int.ofNat 0) p) (Tr.req (inI p ls) (Tr.req (eqN 0 0) (Tr.req (ltN (addO (idO 0 p 2) 1) (mulO ls 2)) (Tr.req (inI p ls) (Tr.req (ltN (idO 0 p 2) (mulO ls 2)) (Tr.req (ltN (addO (idO 0 p 2) 1) (mulO ls 2)) (Tr.reqP True (Tr.ok (Z2,lv0::lv0::Z1::lv0::Z0::H))))))))) (Tr.ok ((AV.bool (leI (mulI .i64 (zs (idO 0 q 2)) (zs (idO 0 q 2))) (sz (addO (idO 0 q 2) 1))),none),lv0::lv0::Z1::lv0::Z0::H)))))))))))) (Tr.req (inI p ls) (Tr.req (ltN (idO 0 p 2) (mulO ls 2)) (Tr.req (ltN (addO (idO 0 p 2) 1) (mulO ls 2)) (Tr.req (inI p ls) (Tr.req (eqN 0 0) (Tr.req (ltN (addO (idO 0 p 2) 1) (mulO ls 2)) (Tr.req (andB (leN 0 0) (leN 0 1)) (Tr.ite (eqI (sz (addO (idO 0 p 2) 1)) (Int.ofNat 0)) (Tr.ok ((AV.bool false,some 1),lv0::lv0::Z1::lv0::Z0::H)) (Tr.ite (eqI q (Int.negSucc 1)) (Tr.ok (Z5,lv0::lv0::Z1::lv0::Z0::H)) (Tr.ite (leI (Int.ofNat 0) q) (Tr.req (inI q ls) (Tr.req (eqN 0 0) (Tr.req (ltN (addO (idO 0 q 2) 1) (mulO ls 2)) (Tr.req (inI q ls) (Tr.req (ltN (idO 0 q 2) (mulO ls 2)) (Tr.req (ltN (addO (idO 0 q 2) 1) (mulO ls 2)) (Tr.reqP True (Tr.ok (Z3,lv0::lv0::Z1::lv0::Z0::H))))))))) (Tr.ok ((AV.bool (leI (mulI .i64 (zs (idO 0 p 2)) (zs (idO 0 p 2))) (sz (addO (idO 0 p 2) 1))),none),lv0::lv0::Z1::lv0::Z0::H)))))))))))))) (AV.bool (leI (mulI .i64 (subI .i64 w (zs (idO 0 p 2))) (subI .i64 w (zs (idO 0 p 2)))) (sz (addO (idO 0 p 2) 1))),none))) (AV.bool (leI (mulI .i64 (subI .i64 w (zs (idO 0 q 2))) (subI .i64 w (zs (idO 0 q 2)))) (sz (addO (idO 0 q 2) 1))),none))) (AV.bool (bo (sz (addO (idO 0 p 2) 1)) (sz (addO (idO 0 q 2) 1)) (zs (idO 0 p 2)) (zs (addO (idO 0 p 2) 1)) (zs (idO 0 q 2)) (zs (addO (idO 0 q 2) 1))),none))) (AV.bool (bo (sz (addO (idO 0 q 2) 1)) (sz (addO (idO 0 p 2) 1)) (zs (idO 0 q 2)) (zs (addO (idO 0 q 2) 1)) (zs (idO 0 p 2)) (zs (addO (idO 0 p 2) 1))),none))) { lock:=false,bs:=[(0,Blk.row (Row.I .i64 [pp])),(0,Blk.loop Li)] })) { lock:=false,bs:=[(0,Blk.row (Row.G [AV.int .i64 w,slA 2 ls zs,slA 3 ld zd])),(0,Blk.row (Row.M [Seg.arr .i64 sz (mulO ls 2)])),(0,Blk.row (Row.M [Seg.one (AV.int .i64 w),Seg.one (slA 2 ls zs),Seg.one (slA 3 ld zd),Seg.one (AV.slc 0 1 0 0 2 ls (some ls)),Seg.arr .i64 kd 144])),(0,Blk.row (Row.G [AV.ptr 0 2 0 0])),(0,Blk.loop L)] }:=by kernel_rfl
theorem il99 (n:Nat):(il (ctG noCt 112 (g112 bothT)) (n+1) 1).Ok (cd (n+2)):=il_ok _ (n+1) 1 (fun k=>ct112 n k _ (noCt_ok _))
section
variable (n:Nat) (w pp p q:Int) (ls ld:Nat) (zs zd sz kd:Nat→Int) (H:Heap) (L Li:ALoop)
theorem c99a (hp:p<ls) (hq:q<ls) (hls:ls≤10):cd (n+3) (.fn 99) [.ptr 4 2 0 0,.int .i64 p,.int .i64 q,.fn (.func 100) [.ptr 4 2 0 0] []] (hT pp w ls ld zs zd sz kd H L Li)=some (.bool (touchT w zs (fun s=>sz (s.toNat*2)) p q),hT pp w ls ld zs zd sz kd H L Li):=by
 obtain ⟨y, hy1,hy2⟩:∃ y,(bodyT Try.prog (cd (n+2)) 100000 99 Try.f99 (Kt.kt 99) (il (ctG noCt 112 (g112 bothT)) (n+1) 1) noBT noRT [(.ptr 4 2 0 0,none),(.int .i64 p,none),(.int .i64 q,none),(.fn (.func 100) [.ptr 4 2 0 0] [],none)] (hT pp w ls ld zs zd sz kd H L Li)).run=some y∧(y.1.1,y.2)=(AV.bool (touchT w zs (fun s=>sz (s.toNat*2)) p q),hT pp w ls ld zs zd sz kd H L Li):=by
  rw[u99a]
  have e2:Int.negSucc 1=-2:=rfl
  by_cases h1:p<0<;>by_cases h2:q<0
  · refine ⟨_,by simp (disch:=omega) only[nX,nS,eqI_dec,eqN_eq,decide_true,subI_eq,mulI_eq,e2,run_reqT];rfl,?_⟩
    simp only[touchT,h1,h2,and_self,if_true];rfl
  · by_cases h3:sz (q.toNat*2)=0
    · refine ⟨_,by simp (disch:=omega) only[nX,nS,eqI_dec,eqN_eq,decide_true,subI_eq,mulI_eq,e2,run_reqT];rfl,?_⟩
      simp only[touchT,h1,h2,and_false,if_false,if_true,h3];rfl
    · by_cases h4:p=-2
      · refine ⟨_,by simp (disch:=omega) only[nX,nS,eqI_dec,eqN_eq,decide_true,subI_eq,mulI_eq,e2,run_reqT];rfl,?_⟩
        subst h4
        simp only[touchT,h1,h2,and_false,if_false,if_true,h3];rfl
      · refine ⟨_,by simp (disch:=omega) only[nX,nS,eqI_dec,eqN_eq,decide_true,subI_eq,mulI_eq,e2,run_reqT];rfl,?_⟩
        have h5:¬ 0≤p:=by omega
        simp only[touchT,h1,h2,and_false,if_false,if_true,h3,h4,h5];rfl
  all_goals
   by_cases h3:sz (p.toNat*2)=0
   · refine ⟨_,by simp (disch:=omega) only[nX,nS,eqI_dec,eqN_eq,decide_true,subI_eq,mulI_eq,e2,run_reqT];rfl,?_⟩
     simp only[touchT,h1,h2,false_and,and_false,and_true,if_false,if_true,h3];rfl
   · by_cases h4:q=-2
     · first
       | (exfalso;omega)
       | (refine ⟨_,by simp (disch:=omega) only[nX,nS,eqI_dec,eqN_eq,decide_true,subI_eq,mulI_eq,e2,run_reqT];rfl,?_⟩
          subst h4
          simp only[touchT,h1,h2,false_and,and_false,and_true,if_false,if_true,h3];rfl)
     · by_cases h5:0≤q
       · first
         | (exfalso;omega)
         | (refine ⟨_,by simp (disch:=omega) only[nX,nS,eqI_dec,eqN_eq,decide_true,subI_eq,mulI_eq,e2,run_reqT];rfl,?_⟩
            simp only[touchT,h1,h2,false_and,and_false,and_true,if_false,if_true,h3,h4,h5];rfl)
       · first
         | (exfalso;omega)
         | (refine ⟨_,by simp (disch:=omega) only[nX,nS,eqI_dec,eqN_eq,decide_true,subI_eq,mulI_eq,e2,run_reqT];rfl,?_⟩
            simp only[touchT,h1,h2,false_and,and_false,and_true,if_false,if_true,h3,h4,h5];rfl)
 have:=fn_ok (n:=n+2) Try.func99 rfl rfl (args:=[(.ptr 4 2 0 0,none),(.int .i64 p,none),(.int .i64 q,none),(.fn (.func 100) [.ptr 4 2 0 0] [],none)]) rfl (il99 n) (noBT_ok _ _) (noRT_ok _ _) hy1
 rw[hy2] at this
 exact this
theorem c99b (hp:p<ls) (hq:q<ls) (hls:ls≤10):cd (n+3) (.fn 99) [.ptr 4 2 0 0,.int .i64 p,.int .i64 q,.fn (.func 101) [.ptr 4 2 0 0] []] (hT pp w ls ld zs zd sz kd H L Li)=some (.bool (touchT w zs (fun s=>sz (s.toNat*2+1)) p q),hT pp w ls ld zs zd sz kd H L Li):=by
 obtain ⟨y, hy1,hy2⟩:∃ y,(bodyT Try.prog (cd (n+2)) 100000 99 Try.f99 (Kt.kt 99) (il (ctG noCt 112 (g112 bothT)) (n+1) 1) noBT noRT [(.ptr 4 2 0 0,none),(.int .i64 p,none),(.int .i64 q,none),(.fn (.func 101) [.ptr 4 2 0 0] [],none)] (hT pp w ls ld zs zd sz kd H L Li)).run=some y∧(y.1.1,y.2)=(AV.bool (touchT w zs (fun s=>sz (s.toNat*2+1)) p q),hT pp w ls ld zs zd sz kd H L Li):=by
  rw[u99b]
  have e2:Int.negSucc 1=-2:=rfl
  by_cases h1:p<0<;>by_cases h2:q<0
  · refine ⟨_,by simp (disch:=omega) only[nX,nS,eqI_dec,eqN_eq,decide_true,subI_eq,mulI_eq,e2,run_reqT];rfl,?_⟩
    simp only[touchT,h1,h2,and_self,if_true];rfl
  · by_cases h3:sz (q.toNat*2+1)=0
    · refine ⟨_,by simp (disch:=omega) only[nX,nS,eqI_dec,eqN_eq,decide_true,subI_eq,mulI_eq,e2,run_reqT];rfl,?_⟩
      simp only[touchT,h1,h2,and_false,if_false,if_true,h3];rfl
    · by_cases h4:p=-2
      · refine ⟨_,by simp (disch:=omega) only[nX,nS,eqI_dec,eqN_eq,decide_true,subI_eq,mulI_eq,e2,run_reqT];rfl,?_⟩
        subst h4
        simp only[touchT,h1,h2,and_false,if_false,if_true,h3];rfl
      · refine ⟨_,by simp (disch:=omega) only[nX,nS,eqI_dec,eqN_eq,decide_true,subI_eq,mulI_eq,e2,run_reqT];rfl,?_⟩
        have h5:¬ 0≤p:=by omega
        simp only[touchT,h1,h2,and_false,if_false,if_true,h3,h4,h5];rfl
  all_goals
   by_cases h3:sz (p.toNat*2+1)=0
   · refine ⟨_,by simp (disch:=omega) only[nX,nS,eqI_dec,eqN_eq,decide_true,subI_eq,mulI_eq,e2,run_reqT];rfl,?_⟩
     simp only[touchT,h1,h2,false_and,and_false,and_true,if_false,if_true,h3];rfl
   · by_cases h4:q=-2
     · first
       | (exfalso;omega)
       | (refine ⟨_,by simp (disch:=omega) only[nX,nS,eqI_dec,eqN_eq,decide_true,subI_eq,mulI_eq,e2,run_reqT];rfl,?_⟩
          subst h4
          simp only[touchT,h1,h2,false_and,and_false,and_true,if_false,if_true,h3];rfl)
     · by_cases h5:0≤q
       · first
         | (exfalso;omega)
         | (refine ⟨_,by simp (disch:=omega) only[nX,nS,eqI_dec,eqN_eq,decide_true,subI_eq,mulI_eq,e2,run_reqT];rfl,?_⟩
            simp only[touchT,h1,h2,false_and,and_false,and_true,if_false,if_true,h3,h4,h5];rfl)
       · first
         | (exfalso;omega)
         | (refine ⟨_,by simp (disch:=omega) only[nX,nS,eqI_dec,eqN_eq,decide_true,subI_eq,mulI_eq,e2,run_reqT];rfl,?_⟩
            simp only[touchT,h1,h2,false_and,and_false,and_true,if_false,if_true,h3,h4,h5];rfl)
 have:=fn_ok (n:=n+2) Try.func99 rfl rfl (args:=[(.ptr 4 2 0 0,none),(.int .i64 p,none),(.int .i64 q,none),(.fn (.func 101) [.ptr 4 2 0 0] [],none)]) rfl (il99 n) (noBT_ok _ _) (noRT_ok _ _) hy1
 rw[hy2] at this
 exact this
end
end Go.Eng
end
section
namespace Go.Eng
open Go.Proofs
set_option linter.unusedVariables false
set_option linter.unusedSimpArgs false
set_option maxRecDepth 100000
def g99 (ls:Nat) (tb:Nat→Int→Int→Bool):List AV→Option (Prop×AV)
 | [t,.int .i64 p,.int .i64 q,.fn (.func c) a []]=>some (t=.ptr 4 2 0 0∧a=[.ptr 4 2 0 0]∧(c=100∨c=101)∧ltI p (Int.ofNat ls)=true∧ltI q (Int.ofNat ls)=true,.bool (tb c p q))
 | _=>none
noncomputable def frI (q:Int):Frm:=[(3,.ptr 4 3 0 0),(7,.ptr 2 0 0 0),(8,.int .i64 q)]
theorem t77i (n:Nat) (pp w:Int) (ls ld:Nat) (zs zd sz kd:Nat→Int) (H:Heap) (L Li:ALoop) (q:Int) (tb:Nat→Int→Int→Bool):execT (cxR (n+3) 77 94 2 1) (il (ctH noCt 99 (hT pp w ls ld zs zd sz kd H L Li) (g99 ls tb)) (n+3) 0) noBT noRT (part Try.f77 [1,1,1,0,1,0,1,0,1,0,1]) (hints (frI q)) (hT pp w ls ld zs zd sz kd H L Li) =
 (fun (Z0:Lvl)=>((fun (Z1:Lvl)=>Tr.ite (eqI pp q) (Tr.ok (Ex.normal,[(3,AV.ptr 4 3 0 0,none),(7,AV.ptr 2 0 0 0,none),(8,AV.int .i64 q,none),(57,AV.bool true,some 1)],lv0::lv0::Z1::lv0::Z0::H)) (Tr.reqP ((AV.ptr 4 2 0 0=AV.ptr 4 2 0 0∧[AV.ptr 4 2 0 0]=[AV.ptr 4 2 0 0]∧(100=100∨100=101)∧ltI pp (Int.ofNat ls)=true∧ltI q (Int.ofNat ls)=true)∧lv0::lv0::Z1::lv0::Z0::H=lv0::lv0::Z1::lv0::Z0::H) (Tr.ite (tb 100 pp q) (Tr.req (inI (addI .i64 pp (Int.ofNat 2)) 12) (Tr.req (inI (addI .i64 q (Int.ofNat 2)) 12) (Tr.req (eqN 0 0) (Tr.req (inO (idO (idO 4 (addI .i64 pp (Int.ofNat 2)) 12) (addI .i64 q (Int.ofNat 2)) 1) 1 4 144) (Tr.req (andB (leN 0 0) (leN 0 1)) (Tr.ok (Ex.normal,[],lv0::lv0::Z1::lv0::{ lock:=false,bs:=[(0,Blk.row (Row.G [AV.int .i64 w,slA 2 ls zs,slA 3 ld zd])),(0,Blk.row (Row.M [Seg.arr .i64 sz (mulO ls 2)])),(0,Blk.row (Row.M [Seg.one (AV.int .i64 w),Seg.one (slA 2 ls zs),Seg.one (slA 3 ld zd),Seg.one (AV.slc 0 1 0 0 2 ls (some ls)),Seg.arr .i64 (updO kd (subO (idO (idO 4 (addI .i64 pp (Int.ofNat 2)) 12) (addI .i64 q (Int.ofNat 2)) 1) 4) (Int.ofNat 2)) 144])),(0,Blk.row (Row.G [AV.ptr 0 2 0 0])),(0,Blk.loop L)] } :: H))))))) (Tr.reqP ((AV.ptr 4 2 0 0=AV.ptr 4 2 0 0∧[AV.ptr 4 2 0 0]=[AV.ptr 4 2 0 0]∧(101=100∨101=101)∧ltI pp (Int.ofNat ls)=true∧ltI q (Int.ofNat ls)=true)∧lv0::lv0::Z1::lv0::Z0::H=lv0::lv0::Z1::lv0::Z0::H) (Tr.ite (tb 101 pp q) (Tr.req (inI (addI .i64 pp (Int.ofNat 2)) 12) (Tr.req (inI (addI .i64 q (Int.ofNat 2)) 12) (Tr.req (eqN 0 0) (Tr.req (inO (idO (idO 4 (addI .i64 pp (Int.ofNat 2)) 12) (addI .i64 q (Int.ofNat 2)) 1) 1 4 144) (Tr.req (andB (leN 0 0) (leN 0 1)) (Tr.ok (Ex.normal,[],lv0::lv0::Z1::lv0::{ lock:=false,bs:=[(0,Blk.row (Row.G [AV.int .i64 w,slA 2 ls zs,slA 3 ld zd])),(0,Blk.row (Row.M [Seg.arr .i64 sz (mulO ls 2)])),(0,Blk.row (Row.M [Seg.one (AV.int .i64 w),Seg.one (slA 2 ls zs),Seg.one (slA 3 ld zd),Seg.one (AV.slc 0 1 0 0 2 ls (some ls)),Seg.arr .i64 (updO kd (subO (idO (idO 4 (addI .i64 pp (Int.ofNat 2)) 12) (addI .i64 q (Int.ofNat 2)) 1) 4) (Int.ofNat 1)) 144])),(0,Blk.row (Row.G [AV.ptr 0 2 0 0])),(0,Blk.loop L)] } :: H))))))) (Tr.ok (Ex.normal,[(3,AV.ptr 4 3 0 0,none),(7,AV.ptr 2 0 0 0,none),(8,AV.int .i64 q,none),(77,AV.bool false,some 1)],lv0::lv0::Z1::lv0::Z0::H))))))) { lock:=false,bs:=[(0,Blk.row (Row.I .i64 [pp])),(0,Blk.loop Li)] })) { lock:=false,bs:=[(0,Blk.row (Row.G [AV.int .i64 w,slA 2 ls zs,slA 3 ld zd])),(0,Blk.row (Row.M [Seg.arr .i64 sz (mulO ls 2)])),(0,Blk.row (Row.M [Seg.one (AV.int .i64 w),Seg.one (slA 2 ls zs),Seg.one (slA 3 ld zd),Seg.one (AV.slc 0 1 0 0 2 ls (some ls)),Seg.arr .i64 kd 144])),(0,Blk.row (Row.G [AV.ptr 0 2 0 0])),(0,Blk.loop L)] }:=by kernel_rfl
theorem t109i (n:Nat) (pp w:Int) (ls ld:Nat) (zs zd sz kd kd':Nat→Int) (H:Heap) (L Li:ALoop) (q:Int):execT (cxD n 109 18) (rdE (il noCt n 0) 1 1 [.int .i64 q] (lv0::lvP pp [(0,.loop Li)]::lv0::lvT w ls ld zs zd sz kd [(0,.loop L)]::H) (.ok (.bool true,lv0::lvP pp [(0,.loop Li)]::lv0::lvT w ls ld zs zd sz kd' [(0,.loop L)]::H))) noBT noRT (part Try.f109 [1,0,0]) (hints [(0,.yld 1 1),(1,.ptrT (some 1) (.G [.ptr 2 2 0 0]) 0),(3,.int .i64 q)]) (lv0::lvP pp [(0,.loop Li)]::lv0::lvT w ls ld zs zd sz kd [(0,.loop L)]::H) =
 (fun (Z0:Lvl)=>((fun (Z1:Lvl)=>((fun (Z2:Lvl)=>((fun (Z3:Nat×AV×Option Nat)=>Tr.ite (ltI q (Int.ofNat ls)) (Tr.reqP ([AV.int .i64 q]=[AV.int .i64 q]∧lv0::Z2::lv0::Z0::H=lv0::Z2::lv0::Z0::H) (Tr.ite (notB true) (Tr.ok (Ex.ret,[(0,AV.yld 1 1,none),Z3,(3,AV.int .i64 q,none),(17,AV.bool true,some 1)],lv0::Z2::lv0::Z1::H)) (Tr.ok (Ex.normal,[(0,AV.yld 1 1,none),Z3,(3,AV.int .i64 (addI .i64 q (Int.ofNat 1)),none)],lv0::Z2::lv0::Z1::H)))) (Tr.ok (Ex.exit 0,[(0,AV.yld 1 1,none),Z3,(3,AV.int .i64 q,none),(11,AV.bool false,some 1)],lv0::Z2::lv0::Z0::H))) (1,AV.ptrT (some 1) (Row.G [AV.ptr 2 2 0 0]) 0,none))) { lock:=false,bs:=[(0,Blk.row (Row.I .i64 [pp])),(0,Blk.loop Li)] })) { lock:=false,bs:=[(0,Blk.row (Row.G [AV.int .i64 w,slA 2 ls zs,slA 3 ld zd])),(0,Blk.row (Row.M [Seg.arr .i64 sz (mulO ls 2)])),(0,Blk.row (Row.M [Seg.one (AV.int .i64 w),Seg.one (slA 2 ls zs),Seg.one (slA 3 ld zd),Seg.one (AV.slc 0 1 0 0 2 ls (some ls)),Seg.arr .i64 kd' 144])),(0,Blk.row (Row.G [AV.ptr 0 2 0 0])),(0,Blk.loop L)] })) { lock:=false,bs:=[(0,Blk.row (Row.G [AV.int .i64 w,slA 2 ls zs,slA 3 ld zd])),(0,Blk.row (Row.M [Seg.arr .i64 sz (mulO ls 2)])),(0,Blk.row (Row.M [Seg.one (AV.int .i64 w),Seg.one (slA 2 ls zs),Seg.one (slA 3 ld zd),Seg.one (AV.slc 0 1 0 0 2 ls (some ls)),Seg.arr .i64 kd 144])),(0,Blk.row (Row.G [AV.ptr 0 2 0 0])),(0,Blk.loop L)] }:=by kernel_rfl
theorem u109i (n:Nat) (pp w:Int) (ls ld:Nat) (zs zd sz kd kd':Nat→Int) (H:Heap) (L Li:ALoop):bodyT Try.prog (cd n) 100000 109 Try.f109 (Kt.kt 109) (il noCt n 0) (blkE noBT 0 [(0,.yld 1 1),(1,.ptrT (some 1) (.G [.ptr 2 2 0 0]) 0),(3,.int .i64 (-2))] (lv0::lvP pp [(0,.loop Li)]::lv0::lvT w ls ld zs zd sz kd [(0,.loop L)]::H) (.ok (.normal,hints [(0,.yld 1 1),(1,.ptrT (some 1) (.G [.ptr 2 2 0 0]) 0),(3,.int .i64 (Int.ofNat ls)),(11,.bool false)],lv0::lvP pp [(0,.loop Li)]::lv0::lvT w ls ld zs zd sz kd' [(0,.loop L)]::H))) noRT [(.yld 0 1,none),(.ptrT (some 0) (.G [.ptr 2 2 0 0]) 0,none)] (lvP pp [(0,.loop Li)]::lv0::lvT w ls ld zs zd sz kd [(0,.loop L)]::H) =
 (fun (Z0:Lvl)=>((fun (Z1:Lvl)=>((fun (Z2:Frm)=>Tr.reqP (Z2=Z2∧lv0::Z1::lv0::Z0::H=lv0::Z1::lv0::Z0::H) (Tr.ok ((AV.tup [],none),Z1::lv0::{ lock:=false,bs:=[(0,Blk.row (Row.G [AV.int .i64 w,slA 2 ls zs,slA 3 ld zd])),(0,Blk.row (Row.M [Seg.arr .i64 sz (mulO ls 2)])),(0,Blk.row (Row.M [Seg.one (AV.int .i64 w),Seg.one (slA 2 ls zs),Seg.one (slA 3 ld zd),Seg.one (AV.slc 0 1 0 0 2 ls (some ls)),Seg.arr .i64 kd' 144])),(0,Blk.row (Row.G [AV.ptr 0 2 0 0])),(0,Blk.loop L)] } :: H))) [(0,AV.yld 1 1),(1,AV.ptrT (some 1) (Row.G [AV.ptr 2 2 0 0]) 0),(3,AV.int .i64 (Int.negSucc 1))])) { lock:=false,bs:=[(0,Blk.row (Row.I .i64 [pp])),(0,Blk.loop Li)] })) { lock:=false,bs:=[(0,Blk.row (Row.G [AV.int .i64 w,slA 2 ls zs,slA 3 ld zd])),(0,Blk.row (Row.M [Seg.arr .i64 sz (mulO ls 2)])),(0,Blk.row (Row.M [Seg.one (AV.int .i64 w),Seg.one (slA 2 ls zs),Seg.one (slA 3 ld zd),Seg.one (AV.slc 0 1 0 0 2 ls (some ls)),Seg.arr .i64 kd 144])),(0,Blk.row (Row.G [AV.ptr 0 2 0 0])),(0,Blk.loop L)] }:=by kernel_rfl
theorem t109o (n:Nat) (w:Int) (ls ld:Nat) (zs zd sz kd kd':Nat→Int) (H:Heap) (L:ALoop) (q:Int):execT (cxD n 109 18) (rdE (il noCt n 0) 1 4 [.int .i64 q] (lv0::lvT w ls ld zs zd sz kd [(0,.loop L)]::H) (.ok (.bool true,lv0::lvT w ls ld zs zd sz kd' [(0,.loop L)]::H))) noBT noRT (part Try.f109 [1,0,0]) (hints [(0,.yld 1 4),(1,cap0 1),(3,.int .i64 q)]) (lv0::lvT w ls ld zs zd sz kd [(0,.loop L)]::H) =
 (fun (Z0:Lvl)=>((fun (Z1:Lvl)=>((fun (Z2:Nat×AV×Option Nat)=>Tr.ite (ltI q (Int.ofNat ls)) (Tr.reqP ([AV.int .i64 q]=[AV.int .i64 q]∧lv0::Z0::H=lv0::Z0::H) (Tr.ite (notB true) (Tr.ok (Ex.ret,[(0,AV.yld 1 4,none),Z2,(3,AV.int .i64 q,none),(17,AV.bool true,some 1)],lv0::Z1::H)) (Tr.ok (Ex.normal,[(0,AV.yld 1 4,none),Z2,(3,AV.int .i64 (addI .i64 q (Int.ofNat 1)),none)],lv0::Z1::H)))) (Tr.ok (Ex.exit 0,[(0,AV.yld 1 4,none),Z2,(3,AV.int .i64 q,none),(11,AV.bool false,some 1)],lv0::Z0::H))) (1,AV.ptrT (some 1) (Row.G [AV.ptr 0 2 0 0]) 0,none))) { lock:=false,bs:=[(0,Blk.row (Row.G [AV.int .i64 w,slA 2 ls zs,slA 3 ld zd])),(0,Blk.row (Row.M [Seg.arr .i64 sz (mulO ls 2)])),(0,Blk.row (Row.M [Seg.one (AV.int .i64 w),Seg.one (slA 2 ls zs),Seg.one (slA 3 ld zd),Seg.one (AV.slc 0 1 0 0 2 ls (some ls)),Seg.arr .i64 kd' 144])),(0,Blk.row (Row.G [AV.ptr 0 2 0 0])),(0,Blk.loop L)] })) { lock:=false,bs:=[(0,Blk.row (Row.G [AV.int .i64 w,slA 2 ls zs,slA 3 ld zd])),(0,Blk.row (Row.M [Seg.arr .i64 sz (mulO ls 2)])),(0,Blk.row (Row.M [Seg.one (AV.int .i64 w),Seg.one (slA 2 ls zs),Seg.one (slA 3 ld zd),Seg.one (AV.slc 0 1 0 0 2 ls (some ls)),Seg.arr .i64 kd 144])),(0,Blk.row (Row.G [AV.ptr 0 2 0 0])),(0,Blk.loop L)] }:=by kernel_rfl
theorem u109o (n:Nat) (w:Int) (ls ld:Nat) (zs zd sz kd kd':Nat→Int) (H:Heap) (L:ALoop):bodyT Try.prog (cd n) 100000 109 Try.f109 (Kt.kt 109) (il noCt n 0) (blkE noBT 0 [(0,.yld 1 4),(1,cap0 1),(3,.int .i64 (-2))] (lv0::lvT w ls ld zs zd sz kd [(0,.loop L)]::H) (.ok (.normal,hints [(0,.yld 1 4),(1,cap0 1),(3,.int .i64 (Int.ofNat ls)),(11,.bool false)],lv0::lvT w ls ld zs zd sz kd' [(0,.loop L)]::H))) noRT [(.yld 0 4,none),(cap0 0,none)] (lvT w ls ld zs zd sz kd [(0,.loop L)]::H) =
 (fun (Z0:Lvl)=>((fun (Z1:Frm)=>Tr.reqP (Z1=Z1∧lv0::Z0::H=lv0::Z0::H) (Tr.ok ((AV.tup [],none),{ lock:=false,bs:=[(0,Blk.row (Row.G [AV.int .i64 w,slA 2 ls zs,slA 3 ld zd])),(0,Blk.row (Row.M [Seg.arr .i64 sz (mulO ls 2)])),(0,Blk.row (Row.M [Seg.one (AV.int .i64 w),Seg.one (slA 2 ls zs),Seg.one (slA 3 ld zd),Seg.one (AV.slc 0 1 0 0 2 ls (some ls)),Seg.arr .i64 kd' 144])),(0,Blk.row (Row.G [AV.ptr 0 2 0 0])),(0,Blk.loop L)] } :: H))) [(0,AV.yld 1 4),(1,AV.ptrT (some 1) (Row.G [AV.ptr 0 2 0 0]) 0),(3,AV.int .i64 (Int.negSucc 1))])) { lock:=false,bs:=[(0,Blk.row (Row.G [AV.int .i64 w,slA 2 ls zs,slA 3 ld zd])),(0,Blk.row (Row.M [Seg.arr .i64 sz (mulO ls 2)])),(0,Blk.row (Row.M [Seg.one (AV.int .i64 w),Seg.one (slA 2 ls zs),Seg.one (slA 3 ld zd),Seg.one (AV.slc 0 1 0 0 2 ls (some ls)),Seg.arr .i64 kd 144])),(0,Blk.row (Row.G [AV.ptr 0 2 0 0])),(0,Blk.loop L)] }:=by kernel_rfl
theorem t77a (n:Nat) (pp w:Int) (ls ld:Nat) (zs zd sz kd:Nat→Int) (H:Heap) (L Li:ALoop) (q:Int):execT (cxR n 77 94 2 1) (il noCt n 0) noBT noRT (part Try.f77 [1,1,1,0,1,0,1,0,1,0,0]) (hints [(3,.ptr 4 3 0 0),(7,.ptr 2 0 0 0),(55,AV.fn (Fn.func 109) [] [AV.ptrT (some 2) (Row.G [AV.ptr 2 2 0 0]) 0]),(56,.int .i64 q)]) (hT pp w ls ld zs zd sz kd H L Li) =
 Tr.ok (Ex.normal,[(3,AV.ptr 4 3 0 0,none),(7,AV.ptr 2 0 0 0,none),(8,AV.int .i64 q,none)],lv0::lv0::{ lock:=false,bs:=[(0,Blk.row (Row.I .i64 [pp])),(0,Blk.loop Li)] } :: lv0::{ lock:=false,bs:=[(0,Blk.row (Row.G [AV.int .i64 w,slA 2 ls zs,slA 3 ld zd])),(0,Blk.row (Row.M [Seg.arr .i64 sz (mulO ls 2)])),(0,Blk.row (Row.M [Seg.one (AV.int .i64 w),Seg.one (slA 2 ls zs),Seg.one (slA 3 ld zd),Seg.one (AV.slc 0 1 0 0 2 ls (some ls)),Seg.arr .i64 kd 144])),(0,Blk.row (Row.G [AV.ptr 0 2 0 0])),(0,Blk.loop L)] } :: H):=by kernel_rfl
theorem forE {n f nt:Nat} {c:Code} (id:Nat) (F:Nat→Frm) (G:Nat→Heap) (N:Nat) (y:Res) (hN:N<99999)
 (hs:∀ j,j<N→∃ f' g,exec (cxD n f nt) c (F j) (G j)=some (.normal,f',g)∧f'=F (j+1)∧tidy (hNext (G 0)) (F (j+1)) g=(F (j+1),G (j+1)))
 (he:exec (cxD n f nt) c (F N) (G N)=some y.st∧y.1=.exit id):exec (cxD n f nt) (.block id (.loop c)) (F 0) (G 0)=some (.normal,y.st.2):=by
 have key:=iter_for (body:=exec (cxD n f nt) c) (n:=hNext (G 0)) F G N y.st
  (fun j hj=>by
    obtain ⟨f',g,h1,h2,h3⟩:=hs j hj
    exact ⟨f',g,h1,by rw[h2];exact h3⟩)
  ⟨he.1,by rw[show y.st.1=y.1 from rfl,he.2];simp⟩ 100000 (by omega)
 have hr:=he.2
 obtain ⟨e,f1,g1⟩:=y
 dsimp only at hr
 subst hr
 exact exec_block_loop key
def kix (p q:Int):Nat:=(p+2).toNat*12+(q+2).toNat
def kdS (w:Int) (zs sz:Nat→Int) (p q:Int) (kd:Nat→Int):Nat→Int :=
 if p=q then kd
 else if touchT w zs (fun s=>sz (s.toNat*2)) p q then fun i=>if i=kix p q then 2 else kd i
 else if touchT w zs (fun s=>sz (s.toNat*2+1)) p q then fun i=>if i=kix p q then 1 else kd i
 else kd
noncomputable def recI:ALoop:={ state:=.ready,pending:=none,fn:=77,nt:=94,fr:=[(3,.ptr 2 3 0 0),(7,.ptr 0 0 0 0),(55,AV.fn (Fn.func 109) [] [AV.ptrT (some 0) (Row.G [AV.ptr 2 2 0 0]) 0])],params:=[56],assign:=part Try.f77 [1,1,1,0,1,0,1,0,1,0,0],body:=part Try.f77 [1,1,1,0,1,0,1,0,1,0,1] }
def tbF (w:Int) (zs sz:Nat→Int) (c:Nat) (p q:Int):Bool:=if c=100 then touchT w zs (fun s=>sz (s.toNat*2)) p q else touchT w zs (fun s=>sz (s.toNat*2+1)) p q
section
variable (n:Nat) (pp w:Int) (ls ld:Nat) (zs zd sz kd:Nat→Int) (H:Heap) (L Li:ALoop)
theorem il77i (hls:ls≤10):(il (ctH noCt 99 (hT pp w ls ld zs zd sz kd H L Li) (g99 ls (tbF w zs sz))) (n+3) 0).Ok (cd (n+3)):=by
 refine il_ok _ (n+3) 0 (fun k=>ctH_ok (noCt_ok _) (fun args p v h hp=>?_))
 unfold g99 at h
 split at h
 · simp only[nP] at h
   obtain ⟨rfl,rfl⟩:=h
   obtain ⟨rfl,rfl,hc,h1,h2⟩:=hp
   rw[ltI_eq,decide_eq_true_eq] at h1 h2
   rw[show n+3+k=n+k+3 by omega]
   rcases hc with rfl | rfl
   · exact c99a (n+k) w pp _ _ ls ld zs zd sz kd H L Li (by simpa using h1) (by simpa using h2) hls
   · exact c99b (n+k) w pp _ _ ls ld zs zd sz kd H L Li (by simpa using h1) (by simpa using h2) hls
 · cases h
theorem r77i (hls:ls≤10) (q:Int) (h1:-2≤pp∧pp<ls) (h2:-2≤q∧q<ls):∃ fr',exec (cxR (n+3) 77 94 2 1) (part Try.f77 [1,1,1,0,1,0,1,0,1,0,1]) (frI q) (hT pp w ls ld zs zd sz kd H L Li)=some (.normal,fr',hT pp w ls ld zs zd sz (kdS w zs sz pp q kd) H L Li):=by
 have key:∀ x:Res,(execT (cxR (n+3) 77 94 2 1) (il (ctH noCt 99 (hT pp w ls ld zs zd sz kd H L Li) (g99 ls (tbF w zs sz))) (n+3) 0) noBT noRT (part Try.f77 [1,1,1,0,1,0,1,0,1,0,1]) (hints (frI q)) (hT pp w ls ld zs zd sz kd H L Li)).run=some x→exec (cxR (n+3) 77 94 2 1) (part Try.f77 [1,1,1,0,1,0,1,0,1,0,1]) (frI q) (hT pp w ls ld zs zd sz kd H L Li)=some x.st:=by
  intro x hx
  have:=execT_ok (cx:=cxR (n+3) 77 94 2 1) (il77i n pp w ls ld zs zd sz kd H L Li hls) _ (noBT_ok _ _) (noRT_ok _ _) _ _ _ hx
  rw[hints_eq] at this
  exact this
 have e1:IntKind.i64.wrap (pp+2)=pp+2:=Go.IntWalk.i64_in _ (by omega)
 have e2:IntKind.i64.wrap (q+2)=q+2:=Go.IntWalk.i64_in _ (by omega)
 have eix:4+(pp+2).toNat*12+(q+2).toNat*1-4=kix pp q:=by unfold kix;omega
 have i2:Int.ofNat 2=2:=rfl
 have b1:ltI pp (Int.ofNat ls)=true:=by rw[ltI_eq,decide_eq_true_eq];exact h1.2
 have b2:ltI q (Int.ofNat ls)=true:=by rw[ltI_eq,decide_eq_true_eq];exact h2.2
 have b3:inI (pp+2) 12=true:=by rw[inI_eq,decide_eq_true_eq];omega
 have b4:inI (q+2) 12=true:=by rw[inI_eq,decide_eq_true_eq];omega
 have b5:inO (4+(pp+2).toNat*12+(q+2).toNat*1) 1 4 144=true:=by rw[inO_eq,decide_eq_true_eq];omega
 by_cases e:pp=q
 · refine ⟨[(3,.ptr 4 3 0 0),(7,.ptr 2 0 0 0),(8,.int .i64 q),(57,.bool true)],(key _ (by rw[t77i,Tr.run_ite,eqI_dec,decide_eq_true e,cond_true];rfl)).trans ?_⟩
   simp only[kdS,if_pos e]
   rfl
 · cases ta:touchT w zs (fun s=>sz (s.toNat*2)) pp q with
   | true =>
     refine ⟨[],(key _ (by rw[t77i,Tr.run_ite,eqI_dec,decide_eq_false e,cond_false,Tr.run_reqP ⟨⟨rfl,rfl,.inl rfl,b1,b2⟩,rfl⟩,Tr.run_ite,show tbF w zs sz 100 pp q=true from ta,cond_true,addI_eq,addI_eq,i2,e1,e2,idO_eq,idO_eq,Tr.run_req,b3,cond_true,Tr.run_req,b4,cond_true,Tr.run_req,beqN_self,cond_true,Tr.run_req,b5,cond_true,subO_eq,eix,updO_fn,Tr.run_req,ver0];rfl)).trans ?_⟩
     simp only[kdS,if_neg e,ta,if_true]
     rfl
   | false =>
     cases tb:touchT w zs (fun s=>sz (s.toNat*2+1)) pp q with
     | true =>
       refine ⟨[],(key _ (by rw[t77i,Tr.run_ite,eqI_dec,decide_eq_false e,cond_false,Tr.run_reqP ⟨⟨rfl,rfl,.inl rfl,b1,b2⟩,rfl⟩,Tr.run_ite,show tbF w zs sz 100 pp q=false from ta,cond_false,Tr.run_reqP ⟨⟨rfl,rfl,.inr rfl,b1,b2⟩,rfl⟩,Tr.run_ite,show tbF w zs sz 101 pp q=true from tb,cond_true,addI_eq,addI_eq,i2,e1,e2,idO_eq,idO_eq,Tr.run_req,b3,cond_true,Tr.run_req,b4,cond_true,Tr.run_req,beqN_self,cond_true,Tr.run_req,b5,cond_true,subO_eq,eix,updO_fn,Tr.run_req,ver0];rfl)).trans ?_⟩
       simp only[kdS,if_neg e,ta,tb,if_true,Bool.false_eq_true,if_false]
       rfl
     | false =>
       refine ⟨[(3,.ptr 4 3 0 0),(7,.ptr 2 0 0 0),(8,.int .i64 q),(77,.bool false)],(key _ (by rw[t77i,Tr.run_ite,eqI_dec,decide_eq_false e,cond_false,Tr.run_reqP ⟨⟨rfl,rfl,.inl rfl,b1,b2⟩,rfl⟩,Tr.run_ite,show tbF w zs sz 100 pp q=false from ta,cond_false,Tr.run_reqP ⟨⟨rfl,rfl,.inr rfl,b1,b2⟩,rfl⟩,Tr.run_ite,show tbF w zs sz 101 pp q=false from tb,cond_false];rfl)).trans ?_⟩
       simp only[kdS,if_neg e,ta,tb,Bool.false_eq_true,if_false]
       rfl
end
end Go.Eng
end
section
namespace Go.Eng
open Go.Proofs
set_option linter.unusedVariables false
set_option linter.unusedSimpArgs false
set_option maxRecDepth 100000
def kdI (w:Int) (zs sz:Nat→Int) (p:Int) (kd:Nat→Int):Nat→Nat→Int
 | 0=>kd
 | j+1=>kdS w zs sz p ((j:Int)-2) (kdI w zs sz p kd j)
theorem wrap_p (j:Nat) (h:j<1000):IntKind.i64.wrap (((j:Int)-2)+1)=((j+1:Nat):Int)-2:=by
 rw[show ((j:Int)-2+1)=((j+1:Nat):Int)-2 by omega]
 exact Go.IntWalk.i64_in _ (by omega)
noncomputable def gI (pp w:Int) (ls ld:Nat) (zs zd sz kd:Nat→Int) (H:Heap) (L Li:ALoop):Heap:=lv0::lvP pp [(0,.loop Li)]::lv0::lvT w ls ld zs zd sz kd [(0,.loop L)]::H
noncomputable def frL (j:Nat):Frm:=[(0,.yld 1 1),(1,.ptrT (some 1) (.G [.ptr 2 2 0 0]) 0),(3,.int .i64 ((j:Int)-2))]
theorem b109:∀ b,(0,b) ∈ blocksOf (bodyOf Try.f109)→b=.loop (part Try.f109 [1,0,0]):=by
 have:blocksOf (bodyOf Try.f109)=[(0,.loop (part Try.f109 [1,0,0])),(1,part Try.f109 [1,0,0,1,0,0])]:=by kernel_rfl
 intro b hb;rw[this] at hb;simpa using hb
theorem t109x (n:Nat) (pp w:Int) (ls ld:Nat) (zs zd sz kd:Nat→Int) (H:Heap) (L Li:ALoop) (q:Int):execT (cxD n 109 18) (il noCt n 0) noBT noRT (part Try.f109 [1,0,0]) (hints [(0,.yld 1 1),(1,.ptrT (some 1) (.G [.ptr 2 2 0 0]) 0),(3,.int .i64 q)]) (lv0::lvP pp [(0,.loop Li)]::lv0::lvT w ls ld zs zd sz kd [(0,.loop L)]::H) =
 Tr.ite (ltI q (Int.ofNat ls)) Tr.bad (Tr.ok (Ex.exit 0,[(0,AV.yld 1 1,none),(1,AV.ptrT (some 1) (Row.G [AV.ptr 2 2 0 0]) 0,none),(3,AV.int .i64 q,none),(11,AV.bool false,some 1)],lv0::{ lock:=false,bs:=[(0,Blk.row (Row.I .i64 [pp])),(0,Blk.loop Li)] } :: lv0::{ lock:=false,bs:=[(0,Blk.row (Row.G [AV.int .i64 w,slA 2 ls zs,slA 3 ld zd])),(0,Blk.row (Row.M [Seg.arr .i64 sz (mulO ls 2)])),(0,Blk.row (Row.M [Seg.one (AV.int .i64 w),Seg.one (slA 2 ls zs),Seg.one (slA 3 ld zd),Seg.one (AV.slc 0 1 0 0 2 ls (some ls)),Seg.arr .i64 kd 144])),(0,Blk.row (Row.G [AV.ptr 0 2 0 0])),(0,Blk.loop L)] } :: H)):=by kernel_rfl
theorem t109y (n:Nat) (w:Int) (ls ld:Nat) (zs zd sz kd:Nat→Int) (H:Heap) (L:ALoop) (q:Int):execT (cxD n 109 18) (il noCt n 0) noBT noRT (part Try.f109 [1,0,0]) (hints [(0,.yld 1 4),(1,cap0 1),(3,.int .i64 q)]) (lv0::lvT w ls ld zs zd sz kd [(0,.loop L)]::H) =
 Tr.ite (ltI q (Int.ofNat ls)) Tr.bad (Tr.ok (Ex.exit 0,[(0,AV.yld 1 4,none),(1,AV.ptrT (some 1) (Row.G [AV.ptr 0 2 0 0]) 0,none),(3,AV.int .i64 q,none),(11,AV.bool false,some 1)],lv0::{ lock:=false,bs:=[(0,Blk.row (Row.G [AV.int .i64 w,slA 2 ls zs,slA 3 ld zd])),(0,Blk.row (Row.M [Seg.arr .i64 sz (mulO ls 2)])),(0,Blk.row (Row.M [Seg.one (AV.int .i64 w),Seg.one (slA 2 ls zs),Seg.one (slA 3 ld zd),Seg.one (AV.slc 0 1 0 0 2 ls (some ls)),Seg.arr .i64 kd 144])),(0,Blk.row (Row.G [AV.ptr 0 2 0 0])),(0,Blk.loop L)] } :: H)):=by kernel_rfl
section
variable (n:Nat) (pp w:Int) (ls ld:Nat) (zs zd sz kd:Nat→Int) (H:Heap) (L:ALoop)
theorem rd_i (hls:ls≤10) (q:Int) (h1:-2≤pp∧pp<ls) (h2:-2≤q∧q<ls):cd (n+4) (.round 1 1) [.int .i64 q] (gI pp w ls ld zs zd sz kd H L recI)=some (.bool true,gI pp w ls ld zs zd sz (kdS w zs sz pp q kd) H L recI):=by
 obtain ⟨fr',h2⟩:=r77i n pp w ls ld zs zd sz kd H L { recI with state:=.busy } hls q h1 h2
 have ha:exec (cxR (n+3) 77 94 2 1) (part Try.f77 [1,1,1,0,1,0,1,0,1,0,0]) [(3,.ptr 4 3 0 0),(7,.ptr 2 0 0 0),(55,AV.fn (Fn.func 109) [] [AV.ptrT (some 2) (Row.G [AV.ptr 2 2 0 0]) 0]),(56,.int .i64 q)] (hT pp w ls ld zs zd sz kd H L recI)=some (.normal,frI q,hT pp w ls ld zs zd sz kd H L recI):=by
  have:=execT_ok (cx:=cxR (n+3) 77 94 2 1) (il_no0 (n+3)) (part Try.f77 [1,1,1,0,1,0,1,0,1,0,0]) (noBT_ok _ _) (noRT_ok _ _) (hints [(3,.ptr 4 3 0 0),(7,.ptr 2 0 0 0),(55,AV.fn (Fn.func 109) [] [AV.ptrT (some 2) (Row.G [AV.ptr 2 2 0 0]) 0]),(56,.int .i64 q)]) (hT pp w ls ld zs zd sz kd H L recI) (.normal,hints (frI q),hT pp w ls ld zs zd sz kd H L recI) (by rw[t77a];rfl)
  exact this
 exact round_of (n:=n+3) (l:=recI) (l1:=recI) (l2:={ recI with state:=.busy }) rfl rfl rfl rfl ha rfl rfl h2 rfl
theorem l109i (hls:ls≤10) (h1:-2≤pp∧pp<ls):exec (cxD (n+4) 109 18) (.block 0 (.loop (part Try.f109 [1,0,0]))) (frL 0) (gI pp w ls ld zs zd sz kd H L recI)=some (.normal,frL (ls+2)++[(11,.bool false)],gI pp w ls ld zs zd sz (kdI w zs sz pp kd (ls+2)) H L recI):=by
 refine forE 0 frL (fun j=>gI pp w ls ld zs zd sz (kdI w zs sz pp kd j) H L recI) (ls+2) (.exit 0,hints (frL (ls+2))++[(11,.bool false,some 1)],gI pp w ls ld zs zd sz (kdI w zs sz pp kd (ls+2)) H L recI) (by omega) (fun j hj=>?_) ⟨?_,rfl⟩
 · have hr:=rd_i n pp w ls ld zs zd sz (kdI w zs sz pp kd j) H L hls ((j:Int)-2) h1 ⟨by omega,by omega⟩
   refine ⟨frL (j+1),gI pp w ls ld zs zd sz (kdI w zs sz pp kd (j+1)) H L recI,ex_of (t109i (n+4) pp w ls ld zs zd sz (kdI w zs sz pp kd j) (kdI w zs sz pp kd (j+1)) H L recI ((j:Int)-2)) (rdE_ok (il_no0 (n+4)) (fun x hx=>?_)) (noBT_ok _ _) (noRT_ok _ _) (x:=(.normal,hints (frL (j+1)),gI pp w ls ld zs zd sz (kdI w zs sz pp kd (j+1)) H L recI)) ?_,rfl,rfl⟩
   · rw[← Tr.ok_some hx];exact hr
   · rw[Tr.run_ite,ltI_eq,decide_eq_true (by simp;omega),cond_true,Tr.run_reqP ⟨rfl,rfl⟩,Tr.run_ite,notB_eq,Bool.not_true,cond_false,Tr.run_ok,addI_eq,show Int.ofNat 1=1 from rfl,wrap_p j (by omega)]
     rfl
 · refine ex_of (t109x (n+4) pp w ls ld zs zd sz (kdI w zs sz pp kd (ls+2)) H L recI (((ls+2:Nat):Int)-2)) (il_no0 (n+4)) (noBT_ok _ _) (noRT_ok _ _) ?_
   rw[Tr.run_ite,ltI_eq,decide_eq_false (by show ¬ ((ls+2:Nat):Int)-2<((ls:Nat):Int);omega),cond_false]
   rfl
theorem c109i (hls:ls≤10) (h1:-2≤pp∧pp<ls):cd (n+5) (.fn 109) [.yld 0 1,.ptrT (some 0) (.G [.ptr 2 2 0 0]) 0] (lvP pp [(0,.loop recI)]::lv0::lvT w ls ld zs zd sz kd [(0,.loop L)]::H)=some (.tup [],lvP pp [(0,.loop recI)]::lv0::lvT w ls ld zs zd sz (kdI w zs sz pp kd (ls+2)) [(0,.loop L)]::H):=by
 have hl:=l109i n pp w ls ld zs zd sz kd H L hls h1
 have e:((ls+2:Nat):Int)-2=Int.ofNat ls:=by show _=((ls:Nat):Int);omega
 unfold frL at hl
 rw[e] at hl
 exact fn_of (n:=n+4) Try.func109 rfl rfl rfl (u109i (n+4) pp w ls ld zs zd sz kd (kdI w zs sz pp kd (ls+2)) H L recI) (il_no0 (n+4)) (blkE_ok (noBT_ok _ _) b109 (fun x hx=>by rw[← Tr.ok_some hx];exact hl)) (noRT_ok _ _) (y:=((.tup [],none),lvP pp [(0,.loop recI)]::lv0::lvT w ls ld zs zd sz (kdI w zs sz pp kd (ls+2)) [(0,.loop L)]::H)) (Tr.run_reqP ⟨rfl,rfl⟩)
theorem rg_i (hls:ls≤10) (h1:-2≤pp∧pp<ls):exec (cxR (n+5) 77 94 2 4) (.rangeFunc (.tmp 55) #[56] (part Try.f77 [1,1,1,0,1,0,1,0,1,0,0]) (part Try.f77 [1,1,1,0,1,0,1,0,1,0,1])) [(3,.ptr 2 3 0 0),(7,.ptr 0 0 0 0),(55,AV.fn (Fn.func 109) [] [AV.ptrT (some 0) (Row.G [AV.ptr 2 2 0 0]) 0])] (lvP pp []::lv0::lvT w ls ld zs zd sz kd [(0,.loop L)]::H) =
 some (.normal,[(3,.ptr 2 3 0 0),(7,.ptr 0 0 0 0),(55,AV.fn (Fn.func 109) [] [AV.ptrT (some 0) (Row.G [AV.ptr 2 2 0 0]) 0])],lvP pp [(0,.dead)]::lv0::lvT w ls ld zs zd sz (kdI w zs sz pp kd (ls+2)) [(0,.loop L)]::H) :=
 range_of (cx:=cxR (n+5) 77 94 2 4) (l:=recI) (f:=.tmp 55) (ps:=#[56]) (fr:=[(3,.ptr 2 3 0 0),(7,.ptr 0 0 0 0),(55,AV.fn (Fn.func 109) [] [AV.ptrT (some 0) (Row.G [AV.ptr 2 2 0 0]) 0])]) (H:=lvP pp []::lv0::lvT w ls ld zs zd sz kd [(0,.loop L)]::H) (g:=109) (a:=[]) (b:=[AV.ptrT (some 0) (Row.G [AV.ptr 2 2 0 0]) 0]) rfl rfl rfl (c109i n pp w ls ld zs zd sz kd H L hls h1) rfl rfl rfl
end
end Go.Eng
end
