/- Lay: turns, hands, early cells. -/
import Derived.Test.YtoomemfhcbajoaaV6Lb15x2
section
namespace Go.Eng
open Go.Proofs
set_option linter.unusedVariables false
set_option linter.unusedSimpArgs false
set_option maxRecDepth 100000
noncomputable def g56c (args:List AV) (H:Heap):Tr (AV×Heap) :=
 match args with
 | [.int .i64 lo,.int .i64 hi,.slc 0 2 0 0 1 1 (some 1)]=>match H with
   | ⟨false,[b0,b1,(0,.row (.I .i64 [x]))]⟩::r=>.ite (ltI x lo) (.ok (.bool false,H)) (.ite (ltI hi x) (.ok (.bool false,H)) (.ok (.bool true,H)))
   | _=>.bad
 | _=>.bad
noncomputable def lv36 (l:Nat) (t:Nat→Int) (k:Nat) (d g:Nat→Int):Lvl:=⟨false,[bxS l t k d,(0,.row (.G [tbA 0 l t k d g]))]⟩
noncomputable def lv39 (l:Nat) (t:Nat→Int) (k:Nat) (d g:Nat→Int) (c:Int) (b2:Nat×Blk):Lvl:=⟨false,[bxS l t k d,cel c,b2,(0,.row (.G [tbA 0 l t k d g]))]⟩
theorem u56c (n:Nat) (b0 b1:Nat×Blk) (x lo hi:Int) (H:Heap):bodyT Try.prog (cd (n+5)) 100000 56 Try.f56 (KtL.kt 56) (il noCt n 5) noBT noRT [(.int .i64 lo,none),(.int .i64 hi,none),(.slc 0 2 0 0 1 1 (some 1),none)] (⟨false,[b0,b1,(0,.row (.I .i64 [x]))]⟩::H) =
 (fun (Z0:Lvl)=>Tr.ite (ltI (Int.ofNat 0) (Int.ofNat 1)) (Tr.req (inI (Int.ofNat 0) 1) (Tr.ite (ltI x lo) (Tr.ok ((AV.bool false,some 1),Z0::H)) (Tr.ite (ltI hi x) (Tr.ok ((AV.bool false,some 1),Z0::H)) (Tr.ite (ltI (Int.ofNat 1) (Int.ofNat 1)) (Tr.req (inI (Int.ofNat 1) 1) Tr.bad) (Tr.ok ((AV.bool true,some 1),Z0::H)))))) (Tr.ok ((AV.bool true,some 1),Z0::H))) { lock:=false,bs:=[b0,b1,(0,Blk.row (Row.I .i64 [x]))] }:=by kernel_rfl
theorem u36 (n l k:Nat) (t d g:Nat→Int) (H:Heap) (h r:Int):bodyT Try.prog (cd n) 100000 36 Try.f36 (KtL.kt 36) (il (ctE (tX noCt 61 [shA l t k d,.int .i64 h,.int .i64 0] (.tup [tbA 0 l t k d g,.int .i64 0])) 72 [tbA 0 l t k d g,.int .i64 h,.fn (.func 73) [] [.ptr 0 1 0 0]] (lv36 l t k d g::H) (.ok (.int .i64 r,lv36 l t k d g::H))) n 0) noBT noRT [(shA l t k d,none),(.int .i64 h,none)] H =
 (fun (Z0:Row)=>((fun (Z1:Row)=>((fun (Z2:Lvl)=>Tr.reqP ([AV.agg Z1,AV.int .i64 h,AV.int .i64 (Int.ofNat 0)]=[AV.agg Z1,AV.int .i64 h,AV.int .i64 (Int.ofNat 0)]) (Tr.ite (notB (eqI (Int.ofNat 0) (Int.ofNat 0))) (Tr.ok ((AV.tup [AV.int .i64 (Int.ofNat 0),AV.int .i64 (Int.ofNat 0)],none),H)) (Tr.reqP ([AV.ptrT (some 0) Z0 0,AV.int .i64 h,AV.fn (Fn.func 73) [] [AV.ptr 0 1 0 0]]=[AV.ptrT (some 0) Z0 0,AV.int .i64 h,AV.fn (Fn.func 73) [] [AV.ptr 0 1 0 0]]∧Z2::H=Z2::H) (Tr.ok ((AV.tup [AV.int .i64 r,AV.int .i64 (Int.ofNat 0)],none),H))))) { lock:=false,bs:=[(0,Blk.row Z1),(0,Blk.row (Row.G [AV.ptrT (some 0) Z0 0]))] })) (Row.G [AV.slcT none (Row.M [Seg.arr .i64 t l]) 1 l false,AV.slcT none (Row.M [Seg.arr .i64 d k]) 1 k false]))) (Row.M [Seg.one (AV.slcT none (Row.M [Seg.arr .i64 t l]) 1 l false),Seg.one (AV.slcT none (Row.M [Seg.arr .i64 d k]) 1 k false),Seg.arr .i64 g 30]):=by kernel_rfl
theorem u36s (n l k:Nat) (t d:Nat→Int) (H:Heap) (h e:Int):bodyT Try.prog (cd n) 100000 36 Try.f36 (KtL.kt 36) (il (tX noCt 61 [shA l t k d,.int .i64 h,.int .i64 0] (.tup [.nilp,.int .i64 e])) n 0) noBT noRT [(shA l t k d,none),(.int .i64 h,none)] H =
 (fun (Z0:List AV)=>Tr.reqP (Z0=Z0) (Tr.ite (notB (eqI e (Int.ofNat 0))) (Tr.ok ((AV.tup [AV.int .i64 (Int.ofNat 0),AV.int .i64 e],none),H)) Tr.bad)) [AV.agg (Row.G [AV.slcT none (Row.M [Seg.arr .i64 t l]) 1 l false,AV.slcT none (Row.M [Seg.arr .i64 d k]) 1 k false]),AV.int .i64 h,AV.int .i64 (Int.ofNat 0)]:=by kernel_rfl
theorem u39 (n l k:Nat) (t d g:Nat→Int) (H:Heap) (h c a r:Int):bodyT Try.prog (cd n) 100000 39 Try.f39 (KtL.kt 39) (il (addCt (ctE (tX noCt 61 [shA l t k d,.int .i64 h,.int .i64 a] (.tup [tbA 0 l t k d g,.int .i64 0])) 72 [tbA 0 l t k d g,.int .i64 h,.fn (.func 76) [] [.ptr 0 3 0 0,.ptr 0 1 0 0]] (lv39 l t k d g c (0,.row (.I .i64 [c]))::H) (.ok (.int .i64 r,lv39 l t k d g c (0,.row (.I .i64 [c]))::H))) 56 g56c) n 0) noBT noRT [(shA l t k d,none),(.int .i64 h,none),(.int .i64 c,none)] H =
 (fun (Z0:Lvl)=>((fun (Z1:List AV)=>((fun (Z2:Row)=>((fun (Z3:AV×Option Nat)=>((fun (Z4:AV×Option Nat)=>((fun (Z5:List AV)=>((fun (Z6:List AV)=>((fun (Z7:List AV)=>Tr.ite (ltI c (Int.ofNat 0)) (Tr.ite (notB false) (Tr.reqP (Z6=Z5) (Tr.ite (notB (eqI (Int.ofNat 0) (Int.ofNat 0))) (Tr.ok (Z3,H)) (Tr.reqP (Z1=Z1∧Z0::H=Z0::H) (Tr.ok (Z4,H))))) (Tr.reqP (Z7=Z5) (Tr.ite (notB (eqI (Int.ofNat 0) (Int.ofNat 0))) (Tr.ok (Z3,H)) (Tr.reqP (Z1=Z1∧Z0::H=Z0::H) (Tr.ok (Z4,H)))))) (Tr.ite (ltI (subI .i64 (Int.ofNat l) (Int.ofNat 1)) c) (Tr.ite (notB false) (Tr.reqP (Z6=Z5) (Tr.ite (notB (eqI (Int.ofNat 0) (Int.ofNat 0))) (Tr.ok (Z3,H)) (Tr.reqP (Z1=Z1∧Z0::H=Z0::H) (Tr.ok (Z4,H))))) (Tr.reqP (Z7=Z5) (Tr.ite (notB (eqI (Int.ofNat 0) (Int.ofNat 0))) (Tr.ok (Z3,H)) (Tr.reqP (Z1=Z1∧Z0::H=Z0::H) (Tr.ok (Z4,H)))))) (Tr.ite (notB true) (Tr.reqP (Z6=Z5) (Tr.ite (notB (eqI (Int.ofNat 0) (Int.ofNat 0))) (Tr.ok (Z3,H)) (Tr.reqP (Z1=Z1∧Z0::H=Z0::H) (Tr.ok (Z4,H))))) (Tr.reqP (Z7=Z5) (Tr.ite (notB (eqI (Int.ofNat 0) (Int.ofNat 0))) (Tr.ok (Z3,H)) (Tr.reqP (Z1=Z1∧Z0::H=Z0::H) (Tr.ok (Z4,H)))))))) [AV.agg Z2,AV.int .i64 h,AV.int .i64 (Int.ofNat 0)])) [AV.agg Z2,AV.int .i64 h,AV.int .i64 (Int.ofNat 3)])) [AV.agg Z2,AV.int .i64 h,AV.int .i64 a])) (AV.tup [AV.int .i64 r,AV.int .i64 (Int.ofNat 0)],none))) (AV.tup [AV.int .i64 (Int.ofNat 0),AV.int .i64 (Int.ofNat 0)],none))) (Row.G [AV.slcT none (Row.M [Seg.arr .i64 t l]) 1 l false,AV.slcT none (Row.M [Seg.arr .i64 d k]) 1 k false]))) [AV.ptrT (some 0) (Row.M [Seg.one (AV.slcT none (Row.M [Seg.arr .i64 t l]) 1 l false),Seg.one (AV.slcT none (Row.M [Seg.arr .i64 d k]) 1 k false),Seg.arr .i64 g 30]) 0,AV.int .i64 h,AV.fn (Fn.func 76) [] [AV.ptr 0 3 0 0,AV.ptr 0 1 0 0]])) { lock:=false,bs:=[(0,Blk.row (Row.G [AV.slcT none (Row.M [Seg.arr .i64 t l]) 1 l false,AV.slcT none (Row.M [Seg.arr .i64 d k]) 1 k false])),(0,Blk.row (Row.I .i64 [c])),(0,Blk.row (Row.I .i64 [c])),(0,Blk.row (Row.G [AV.ptrT (some 0) (Row.M [Seg.one (AV.slcT none (Row.M [Seg.arr .i64 t l]) 1 l false),Seg.one (AV.slcT none (Row.M [Seg.arr .i64 d k]) 1 k false),Seg.arr .i64 g 30]) 0]))] }:=by kernel_rfl
theorem u39s (n l k:Nat) (t d:Nat→Int) (H:Heap) (h c a e:Int):bodyT Try.prog (cd n) 100000 39 Try.f39 (KtL.kt 39) (il (addCt (tX noCt 61 [shA l t k d,.int .i64 h,.int .i64 a] (.tup [.nilp,.int .i64 e])) 56 g56c) n 0) noBT noRT [(shA l t k d,none),(.int .i64 h,none),(.int .i64 c,none)] H =
 (fun (Z0:Row)=>((fun (Z1:AV×Option Nat)=>((fun (Z2:List AV)=>((fun (Z3:List AV)=>((fun (Z4:List AV)=>Tr.ite (ltI c (Int.ofNat 0)) (Tr.ite (notB false) (Tr.reqP (Z3=Z2) (Tr.ite (notB (eqI e (Int.ofNat 0))) (Tr.ok (Z1,H)) Tr.bad)) (Tr.reqP (Z4=Z2) (Tr.ite (notB (eqI e (Int.ofNat 0))) (Tr.ok (Z1,H)) Tr.bad))) (Tr.ite (ltI (subI .i64 (Int.ofNat l) (Int.ofNat 1)) c) (Tr.ite (notB false) (Tr.reqP (Z3=Z2) (Tr.ite (notB (eqI e (Int.ofNat 0))) (Tr.ok (Z1,H)) Tr.bad)) (Tr.reqP (Z4=Z2) (Tr.ite (notB (eqI e (Int.ofNat 0))) (Tr.ok (Z1,H)) Tr.bad))) (Tr.ite (notB true) (Tr.reqP (Z3=Z2) (Tr.ite (notB (eqI e (Int.ofNat 0))) (Tr.ok (Z1,H)) Tr.bad)) (Tr.reqP (Z4=Z2) (Tr.ite (notB (eqI e (Int.ofNat 0))) (Tr.ok (Z1,H)) Tr.bad))))) [AV.agg Z0,AV.int .i64 h,AV.int .i64 (Int.ofNat 0)])) [AV.agg Z0,AV.int .i64 h,AV.int .i64 (Int.ofNat 3)])) [AV.agg Z0,AV.int .i64 h,AV.int .i64 a])) (AV.tup [AV.int .i64 (Int.ofNat 0),AV.int .i64 e],none))) (Row.G [AV.slcT none (Row.M [Seg.arr .i64 t l]) 1 l false,AV.slcT none (Row.M [Seg.arr .i64 d k]) 1 k false]):=by kernel_rfl
theorem g56c_ok {c:Nat} {t:Ctr} (ht:t.Ok (cd (c+6))):(addCt t 56 g56c).Ok (cd (c+6)):=by
 refine addCt_ok ht (fun args H x hx=>?_)
 unfold g56c at hx
 split at hx
 · split at hx
   · rename_i lo hi _ b0 b1 y r
     have hv:cd (c+6) (.fn 56) [.int .i64 lo,.int .i64 hi,.slc 0 2 0 0 1 1 (some 1)] ((⟨false,[b0,b1,(0,.row (.I .i64 [y]))]⟩:Lvl)::r)=some (.bool (!outB lo hi y),(⟨false,[b0,b1,(0,.row (.I .i64 [y]))]⟩:Lvl)::r):=by
      refine fn_all (n:=c+5) Try.func56 rfl rfl rfl (u56c c b0 b1 y lo hi r) (il_no c 5) (noBT_ok _ _) (noRT_ok _ _) ?_
      have ho:outB lo hi y=(decide (y<lo) || decide (hi<y)):=rfl
      rw[ho]
      by_cases h1:y<lo
      · rw[decide_eq_true h1]
        repeat' first | (refine Tr.all_ite (fun hc=>?_) (fun hc=>?_)<;>(try simp (disch:=omega) only[nV,nW] at hc)<;>try omega) | (refine Tr.all_req ?_ ?_;· (try simp (disch:=omega) only[nV,nW]);try omega) | (refine Tr.all_reqP ?_ ?_;· first | exact trivial | rfl | exact ⟨rfl,rfl⟩ | exact ⟨rfl,rfl,rfl⟩ | (simp (disch:=omega) only[nV,nW];done) | ((try simp (disch:=omega) only[nV,nW]);omega)) | fail
        all_goals first
         | exact Tr.all_ok ⟨rfl,rfl⟩
         | fail
      · by_cases h2:hi<y
        · rw[decide_eq_false h1,decide_eq_true h2]
          repeat' first | (refine Tr.all_ite (fun hc=>?_) (fun hc=>?_)<;>(try simp (disch:=omega) only[nV,nW] at hc)<;>try omega) | (refine Tr.all_req ?_ ?_;· (try simp (disch:=omega) only[nV,nW]);try omega) | (refine Tr.all_reqP ?_ ?_;· first | exact trivial | rfl | exact ⟨rfl,rfl⟩ | exact ⟨rfl,rfl,rfl⟩ | (simp (disch:=omega) only[nV,nW];done) | ((try simp (disch:=omega) only[nV,nW]);omega)) | fail
          all_goals first
           | exact Tr.all_ok ⟨rfl,rfl⟩
           | fail
        · rw[decide_eq_false h1,decide_eq_false h2]
          repeat' first | (refine Tr.all_ite (fun hc=>?_) (fun hc=>?_)<;>(try simp (disch:=omega) only[nV,nW] at hc)<;>try omega) | (refine Tr.all_req ?_ ?_;· (try simp (disch:=omega) only[nV,nW]);try omega) | (refine Tr.all_reqP ?_ ?_;· first | exact trivial | rfl | exact ⟨rfl,rfl⟩ | exact ⟨rfl,rfl,rfl⟩ | (simp (disch:=omega) only[nV,nW];done) | ((try simp (disch:=omega) only[nV,nW]);omega)) | fail
          all_goals first
           | exact Tr.all_ok ⟨rfl,rfl⟩
           | fail
     rw[hv]
     have ho:outB lo hi y=(decide (y<lo) || decide (hi<y)):=rfl
     rw[ho]
     rcases Tr.ite_some hx with ⟨h1,hx⟩ | ⟨h1,hx⟩
     · rw[ltI_eq] at h1;rw[← Tr.ok_some hx,h1];rfl
     · rw[ltI_eq] at h1
       rcases Tr.ite_some hx with ⟨h2,hx⟩ | ⟨h2,hx⟩
       · rw[ltI_eq] at h2;rw[← Tr.ok_some hx,h1,h2];rfl
       · rw[ltI_eq] at h2;rw[← Tr.ok_some hx,h1,h2];rfl
   · exact (Tr.bad_some hx).elim
 · exact (Tr.bad_some hx).elim
def trV (l:Nat) (t:Nat→Int) (d:Nat→Int) (h:Int):Nat:=leaN (fun T=>canB l t (fun i=>min (d i) (T:Nat)) h)
def eaV (l:Nat) (t:Nat→Int) (d:Nat→Int) (h c:Int):Nat:=leaN (fun T=>canB l t (fun i=>if (i:Int)=c then min (d i) (T:Nat) else d i) h)
def eaE (l:Nat) (t:Nat→Int) (k:Nat) (d:Nat→Int) (h c:Int):Int:=if askE l t k d h=0 then (if c<0∨(l:Int)-1<c then 3 else if canB l t d h=true then 0 else 13) else askE l t k d h
section
variable (n l k:Nat) (t d:Nat→Int) (H:Heap) (h:Int)
theorem c61y (e:needE l k t d h=0):cd (n+11) (.fn 61) [shA l t k d,.int .i64 h,.int .i64 0] H=some (.tup [tbS 0 l t k d,.int .i64 0],H):=by
 obtain ⟨e1,e2⟩:=need_of e
 rw[c61 n l k t d H h 0 e1,if_pos rfl,if_pos e2]
theorem c61n (e:needE l k t d h≠0):cd (n+11) (.fn 61) [shA l t k d,.int .i64 h,.int .i64 0] H=some (.tup [.nilp,.int .i64 (needE l k t d h)],H):=by
 by_cases c:askE l t k d h=0
 · rw[c61 n l k t d H h 0 c,if_pos rfl]
   have:needE l k t d h=if canB l t d h=true then 0 else 13:=by unfold needE;rw[if_pos c]
   rw[this] at e ⊢
   by_cases c2:canB l t d h=true
   · rw[if_pos c2] at e;exact absurd rfl e
   · rw[if_neg c2,if_neg c2]
 · rw[c61e n l k t d H h 0 c]
   have:needE l k t d h=askE l t k d h:=by unfold needE;rw[if_neg c]
   rw[this]
theorem bd_min {l:Nat} {d:Nat→Int} (hb:Bd l d) (T:Int) (hT:0≤T):Bd l (fun i=>min (d i) T):=fun j hj=>by
 have:=hb j hj
 show -900≤min (d j) T∧min (d j) T≤900
 omega
theorem bd_fa {l k:Nat} {z:Nat→Int} (hk:k=l) (hb:Bd l z):Bd l (lstO (faN z k)):=fun j hj=>by
 subst hk;rw[faN_at _ hj];exact hb j hj
theorem can_fa {l k:Nat} {t z:Nat→Int} (h:Fw l t) (hk:k=l) (hh:Int):canB l t (lstO (faN z k)) hh=canB l t z hh :=
 can_congr h (fun j hj=>by subst hk;exact faN_at z hj) hh
noncomputable def trA:AV:=if needE l k t d h=0 then .tup [.int .i64 (trV l t d h:Nat),.int .i64 0] else .tup [.int .i64 0,.int .i64 (needE l k t d h)]
theorem c36:cd (n+12) (.fn 36) [shA l t k d,.int .i64 h] H=some (trA l k t d h,H):=by
 unfold trA
 by_cases e:needE l k t d h=0
 · rw[if_pos e]
   obtain ⟨e1,e2⟩:=need_of e
   obtain ⟨hs,h1,h2⟩:=ask_of e1
   have hl1:=hs.l1
   have hl2:=hs.l30
   have hkl:=hs.kl
   have h72:cd (n+11) (.fn 72) [tbA 0 l t k d (ldF t l),.int .i64 h,.fn (.func 73) [] [.ptr 0 1 0 0]] (lv36 l t k d (ldF t l)::H)=some (.int .i64 (trV l t d h:Nat),lv36 l t k d (ldF t l)::H):=by
    have:=c72A (n+6) 0 l k 1 t d (ldF t l) (lv36 l t k d (ldF t l)::H) h (fun T=>lstO (faN (fun i=>min (d i) (T:Nat)) k)) hs.l30 hs.kl hs.tl hs.cyc (fun T _ _=>bd_fa hs.kl (bd_min hs.bd _ (by omega))) (by omega) (fun T _ _=>c73 (n+7) H l k t d (ldF t l) _ (T:Nat) (by omega) (by omega))
    rw[lea_congr (q:=fun T=>canB l t (fun i=>min (d i) (T:Nat)) h) (fun T _ _=>can_fa hs.fw hs.kl h)] at this
    exact this
   refine fn_all (n:=n+11) Try.func36 rfl rfl rfl (u36 (n+11) l k t d (ldF t l) H h (trV l t d h:Nat)) (il_ok0 _ (n+11) (ctE_ok (tX_ok (noCt_ok _) (fun H=>c61y n l k t d H h e)) (fun x hy=>by rw[← Tr.ok_some hy];exact h72))) (noBT_ok _ _) (noRT_ok _ _) ?_
   generalize ldF t l=g at *
   repeat' first | (refine Tr.all_ite (fun hc=>?_) (fun hc=>?_)<;>(try simp (disch:=omega) only[nV,nW] at hc)<;>try omega) | (refine Tr.all_req ?_ ?_;· (try simp (disch:=omega) only[nV,nW]);try omega) | (refine Tr.all_reqP ?_ ?_;· first | exact trivial | rfl | exact ⟨rfl,rfl⟩ | exact ⟨rfl,rfl,rfl⟩ | (simp (disch:=omega) only[nV,nW];done) | ((try simp (disch:=omega) only[nV,nW]);omega)) | fail
   all_goals first
    | exact Tr.all_ok ⟨rfl,rfl⟩
    | fail
 · rw[if_neg e]
   refine fn_all (n:=n+11) Try.func36 rfl rfl rfl (u36s (n+11) l k t d H h (needE l k t d h)) (il_ok0 _ (n+11) (tX_ok (noCt_ok _) (fun H=>c61n n l k t d H h e))) (noBT_ok _ _) (noRT_ok _ _) ?_
   generalize needE l k t d h=E at *
   repeat' first | (refine Tr.all_ite (fun hc=>?_) (fun hc=>?_)<;>(try simp (disch:=omega) only[nV,nW] at hc)<;>try omega) | (refine Tr.all_req ?_ ?_;· (try simp (disch:=omega) only[nV,nW]);try omega) | (refine Tr.all_reqP ?_ ?_;· first | exact trivial | rfl | exact ⟨rfl,rfl⟩ | exact ⟨rfl,rfl,rfl⟩ | (simp (disch:=omega) only[nV,nW];done) | ((try simp (disch:=omega) only[nV,nW]);omega)) | fail
   all_goals first
    | exact Tr.all_ok ⟨rfl,rfl⟩
    | fail
theorem lea_of {p:Nat→Bool}:(exN (fun j=>p (j+1)) 39=true→(leaN p=fN (fun j=>p (j+1)) 39 0+1))∧(exN (fun j=>p (j+1)) 39=false→leaN p=40):=by
 unfold leaN
 constructor
 · intro h;rw[if_pos h]
 · intro h;rw[if_neg (by rw[h];decide)]
noncomputable def eaA (c:Int):AV:=if eaE l t k d h c=0 then .tup [.int .i64 (eaV l t d h c:Nat),.int .i64 0] else .tup [.int .i64 0,.int .i64 (eaE l t k d h c)]
theorem bd_eq {l:Nat} {d:Nat→Int} (hb:Bd l d) (T:Int) (hT:0≤T) (c:Int):Bd l (fun i=>if (i:Int)=c then min (d i) T else d i):=fun j hj=>by
 have:=hb j hj
 show -900≤(if (j:Int)=c then min (d j) T else d j)∧(if (j:Int)=c then min (d j) T else d j)≤900
 split<;>omega
theorem c39 (c:Int) (hl:l≤1000):cd (n+12) (.fn 39) [shA l t k d,.int .i64 h,.int .i64 c] H=some (eaA l k t d h c,H):=by
 have e1:subI .i64 (Int.ofNat l) (Int.ofNat 1)=(l:Int)-1:=by rw[show Int.ofNat 1=1 from rfl];exact sb64 (by show _≤(l:Int)-1;omega) (by show (l:Int)-1≤_;omega)
 unfold eaA
 by_cases ha:askE l t k d h=0
 · obtain ⟨hs,h1,h2⟩:=ask_of ha
   have hl1:=hs.l1
   have hl2:=hs.l30
   have hkl:=hs.kl
   have hE:eaE l t k d h c=if c<0∨(l:Int)-1<c then 3 else if canB l t d h=true then 0 else 13:=by unfold eaE;rw[if_pos ha]
   by_cases hc:c<0∨(l:Int)-1<c
   · rw[hE,if_pos hc,if_neg (by omega)]
     have h61:∀ H,cd (n+11) (.fn 61) [shA l t k d,.int .i64 h,.int .i64 3] H=some (.tup [.nilp,.int .i64 3],H):=fun H=>by rw[c61 n l k t d H h 3 ha,if_neg (by omega)]
     refine fn_all (n:=n+11) Try.func39 rfl rfl rfl (u39s (n+11) l k t d H h c 3 3) (il_ok0 _ (n+11) (g56c_ok (c:=n+5) (tX_ok (noCt_ok _) h61))) (noBT_ok _ _) (noRT_ok _ _) ?_
     rw[e1]
     repeat' first | (refine Tr.all_ite (fun hc=>?_) (fun hc=>?_)<;>(try simp (disch:=omega) only[nV,nW] at hc)<;>try omega) | (refine Tr.all_req ?_ ?_;· (try simp (disch:=omega) only[nV,nW]);try omega) | (refine Tr.all_reqP ?_ ?_;· first | exact trivial | rfl | exact ⟨rfl,rfl⟩ | exact ⟨rfl,rfl,rfl⟩ | (simp (disch:=omega) only[nV,nW];done) | ((try simp (disch:=omega) only[nV,nW]);omega)) | fail
     all_goals first
      | exact Tr.all_ok ⟨rfl,rfl⟩
      | fail
   · by_cases hB:canB l t d h=true
     · rw[hE,if_neg hc,if_pos hB,if_pos rfl]
       have h72:cd (n+11) (.fn 72) [tbA 0 l t k d (ldF t l),.int .i64 h,.fn (.func 76) [] [.ptr 0 3 0 0,.ptr 0 1 0 0]] (lv39 l t k d (ldF t l) c (0,.row (.I .i64 [c]))::H)=some (.int .i64 (eaV l t d h c:Nat),lv39 l t k d (ldF t l) c (0,.row (.I .i64 [c]))::H):=by
        have:=c72B (n+6) 0 l k 3 1 t d (ldF t l) (lv39 l t k d (ldF t l) c (0,.row (.I .i64 [c]))::H) h (fun T=>lstO (faN (fun i=>if (i:Int)=c then min (d i) (T:Nat) else d i) k)) hs.l30 hs.kl hs.tl hs.cyc (fun T _ _=>bd_fa hs.kl (bd_eq hs.bd _ (by omega) c)) (by omega) (fun T _ _=>c76 (n+7) H l k t d (ldF t l) _ _ (T:Nat) c (by omega) (by omega))
        rw[lea_congr (q:=fun T=>canB l t (fun i=>if (i:Int)=c then min (d i) (T:Nat) else d i) h) (fun T _ _=>can_fa hs.fw hs.kl h)] at this
        exact this
       have h61:∀ H,cd (n+11) (.fn 61) [shA l t k d,.int .i64 h,.int .i64 0] H=some (.tup [tbS 0 l t k d,.int .i64 0],H):=fun H=>by rw[c61 n l k t d H h 0 ha,if_pos rfl,if_pos hB]
       refine fn_all (n:=n+11) Try.func39 rfl rfl rfl (u39 (n+11) l k t d (ldF t l) H h c 0 (eaV l t d h c:Nat)) (il_ok0 _ (n+11) (g56c_ok (c:=n+5) (ctE_ok (tX_ok (noCt_ok _) h61) (fun x hy=>by rw[← Tr.ok_some hy];exact h72)))) (noBT_ok _ _) (noRT_ok _ _) ?_
       rw[e1]
       generalize ldF t l=g at *
       repeat' first | (refine Tr.all_ite (fun hc=>?_) (fun hc=>?_)<;>(try simp (disch:=omega) only[nV,nW] at hc)<;>try omega) | (refine Tr.all_req ?_ ?_;· (try simp (disch:=omega) only[nV,nW]);try omega) | (refine Tr.all_reqP ?_ ?_;· first | exact trivial | rfl | exact ⟨rfl,rfl⟩ | exact ⟨rfl,rfl,rfl⟩ | (simp (disch:=omega) only[nV,nW];done) | ((try simp (disch:=omega) only[nV,nW]);omega)) | fail
       all_goals first
        | exact Tr.all_ok ⟨rfl,rfl⟩
        | fail
     · rw[hE,if_neg hc,if_neg hB,if_neg (by omega)]
       have h61:∀ H,cd (n+11) (.fn 61) [shA l t k d,.int .i64 h,.int .i64 0] H=some (.tup [.nilp,.int .i64 13],H):=fun H=>by rw[c61 n l k t d H h 0 ha,if_pos rfl,if_neg hB]
       refine fn_all (n:=n+11) Try.func39 rfl rfl rfl (u39s (n+11) l k t d H h c 0 13) (il_ok0 _ (n+11) (g56c_ok (c:=n+5) (tX_ok (noCt_ok _) h61))) (noBT_ok _ _) (noRT_ok _ _) ?_
       rw[e1]
       repeat' first | (refine Tr.all_ite (fun hc=>?_) (fun hc=>?_)<;>(try simp (disch:=omega) only[nV,nW] at hc)<;>try omega) | (refine Tr.all_req ?_ ?_;· (try simp (disch:=omega) only[nV,nW]);try omega) | (refine Tr.all_reqP ?_ ?_;· first | exact trivial | rfl | exact ⟨rfl,rfl⟩ | exact ⟨rfl,rfl,rfl⟩ | (simp (disch:=omega) only[nV,nW];done) | ((try simp (disch:=omega) only[nV,nW]);omega)) | fail
       all_goals first
        | exact Tr.all_ok ⟨rfl,rfl⟩
        | fail
 · have hE:eaE l t k d h c=askE l t k d h:=by unfold eaE;rw[if_neg ha]
   rw[hE,if_neg ha]
   by_cases hc:c<0∨(l:Int)-1<c
   · refine fn_all (n:=n+11) Try.func39 rfl rfl rfl (u39s (n+11) l k t d H h c 3 (askE l t k d h)) (il_ok0 _ (n+11) (g56c_ok (c:=n+5) (tX_ok (noCt_ok _) (fun H=>c61e n l k t d H h 3 ha)))) (noBT_ok _ _) (noRT_ok _ _) ?_
     rw[e1]
     generalize askE l t k d h=E at *
     repeat' first | (refine Tr.all_ite (fun hc=>?_) (fun hc=>?_)<;>(try simp (disch:=omega) only[nV,nW] at hc)<;>try omega) | (refine Tr.all_req ?_ ?_;· (try simp (disch:=omega) only[nV,nW]);try omega) | (refine Tr.all_reqP ?_ ?_;· first | exact trivial | rfl | exact ⟨rfl,rfl⟩ | exact ⟨rfl,rfl,rfl⟩ | (simp (disch:=omega) only[nV,nW];done) | ((try simp (disch:=omega) only[nV,nW]);omega)) | fail
     all_goals first
      | exact Tr.all_ok ⟨rfl,rfl⟩
      | fail
   · refine fn_all (n:=n+11) Try.func39 rfl rfl rfl (u39s (n+11) l k t d H h c 0 (askE l t k d h)) (il_ok0 _ (n+11) (g56c_ok (c:=n+5) (tX_ok (noCt_ok _) (fun H=>c61e n l k t d H h 0 ha)))) (noBT_ok _ _) (noRT_ok _ _) ?_
     rw[e1]
     generalize askE l t k d h=E at *
     repeat' first | (refine Tr.all_ite (fun hc=>?_) (fun hc=>?_)<;>(try simp (disch:=omega) only[nV,nW] at hc)<;>try omega) | (refine Tr.all_req ?_ ?_;· (try simp (disch:=omega) only[nV,nW]);try omega) | (refine Tr.all_reqP ?_ ?_;· first | exact trivial | rfl | exact ⟨rfl,rfl⟩ | exact ⟨rfl,rfl,rfl⟩ | (simp (disch:=omega) only[nV,nW];done) | ((try simp (disch:=omega) only[nV,nW]);omega)) | fail
     all_goals first
      | exact Tr.all_ok ⟨rfl,rfl⟩
      | fail
end
end Go.Eng
end
section
namespace Go.Eng
set_option linter.unusedVariables false
set_option linter.unusedSimpArgs false
theorem lea_mono {p q:Nat→Bool} (h:∀ T,1≤T→T<40→p T=true→q T=true):leaN q≤leaN p:=by
 obtain ⟨p1,p2⟩:=lea_of (p:=p)
 obtain ⟨q1,q2⟩:=lea_of (p:=q)
 cases hp:exN (fun j=>p (j+1)) 39 with
 | false=>rw[p2 hp];exact (leaN_bd q).2
 | true =>
   rw[p1 hp]
   have hlt:=exN_true hp
   have hpt:=(fN_spec (fun j=>p (j+1)) 39 0).2.2.2 (by omega)
   have hqt:=h _ (by omega) (by omega) hpt
   have hq:exN (fun j=>q (j+1)) 39=true:=(exN_iff _ _).2 ⟨_,hlt,hqt⟩
   rw[q1 hq]
   have:=(fN_spec (fun j=>q (j+1)) 39 0).2.2.1
   apply Nat.succ_le_succ
   apply Classical.byContradiction
   intro hc
   have:=this (fN (fun j=>p (j+1)) 39 0) (Nat.zero_le _) (by omega)
   try dsimp only at this hqt
   rw[hqt] at this;cases this
theorem cn_mono {p q:Nat→Bool}:∀ {n:Nat},(∀ j,j<n→p j=true→q j=true)→cn p n≤cn q n
 | 0,_=>Nat.le_refl _
 | n+1,h=>by
   have ih:=cn_mono (n:=n) (fun j hj=>h j (by omega))
   have hn:=h n (by omega)
   show cn p n+(p n).toNat≤cn q n+(q n).toNat
   cases hp:p n with
   | false=>simp;omega
   | true=>rw[hn hp];omega
theorem can_mono {l:Nat} {t t' e e':Nat→Int} {h h':Int} (hla:∀ i,i<l→laV l t e i≤laV l t' e' i) (hh:h≤h') (hc:canB l t e h=true):canB l t' e' h'=true:=by
 rw[can_iff] at hc ⊢
 intro T hT
 have h1:=hc T hT
 have h2:crN l t' e' T≤crN l t e T:=cn_mono (fun i hi hp=>by
  have:=hla i hi
  simp only[decide_eq_true_eq] at hp ⊢
  omega)
 have h3:h*(T:Int)≤h'*T:=Int.mul_le_mul_of_nonneg_right hh (by omega)
 omega
theorem lsV_mono {t e e':Nat→Int} {i l:Nat} (he:∀ j,j<l→e j≤e' j) (ht:∀ j,j<l→t j<l) (hi:i<l):∀ m,(∀ q,q<m→0≤stp t q (i:Int))→lsV t e i m≤lsV t e' i m
 | 0,_=>he i hi
 | m+1,hp=>by
   have h1:=hp m (by omega)
   have h2:=stp_lt ht (show (i:Int)<l by omega) m
   have h3:=lsV_mono he ht hi m (fun q hq=>hp q (by omega))
   have h4:=he (stp t m (i:Int)).toNat (by omega)
   show min (lsV t e i m) _≤min (lsV t e' i m) _
   omega
theorem la_mono {l:Nat} {t e e':Nat→Int} (h:Fw l t) (he:∀ j,j<l→e j≤e' j) {i:Nat} (hi:i<l):laV l t e i≤laV l t e' i :=
 lsV_mono he h.tl hi _ (cyc_lv h.cyc i hi).2.1
theorem lsV_anti (t e:Nat→Int) (i:Nat) {m q:Nat} (h:m≤q):lsV t e i q≤lsV t e i m:=by
 induction q with
 | zero =>
   have e:m=0:=Nat.le_zero.1 h
   rw[e];exact Int.le_refl _
 | succ q ih =>
   by_cases c:m=q+1
   · subst c;exact Int.le_refl _
   · have:=ih (by omega)
     show min (lsV t e i q) _≤_
     omega
def cuT (t:Nat→Int) (k:Nat):Nat→Int:=fun i=>if i=k then -1 else t i
theorem cut_stp {t:Nat→Int} {k:Nat} {x:Int}:∀ m,0≤stp (cuT t k) m x→stp (cuT t k) m x=stp t m x
 | 0,_=>rfl
 | m+1,h=>by
   have h0:0≤stp (cuT t k) m x:=stp_mono (Nat.le_succ m) h
   have ih:=cut_stp m h0
   have e1:=stp_suc h0
   have e2:=stp_suc (t:=t) (m:=m) (x:=x) (by rw[← ih];exact h0)
   rw[e1] at h ⊢
   rw[e2,← ih]
   unfold cuT at h ⊢
   by_cases c:(stp (fun i=>if i=k then -1 else t i) m x).toNat=k
   · rw[if_pos c] at h;omega
   · rw[if_neg c]
theorem cut_fw {l:Nat} {t:Nat→Int} (h:Fw l t) (k:Nat):Fw l (cuT t k):=by
 refine ⟨h.l30,fun j hj=>?_,exN_no (fun i hi=>?_)⟩
 · have:=h.tl j hj
   unfold cuT
   split<;>omega
 · rw[decide_eq_false_iff_not]
   intro hc
   have h1:=cut_stp l hc
   have h2:=exN_not h.cyc i hi
   rw[decide_eq_false_iff_not] at h2
   rw[h1] at hc;exact h2 hc
theorem cut_la {l:Nat} {t e:Nat→Int} (h:Fw l t) (k:Nat) {i:Nat} (hi:i<l):laV l t e i≤laV l (cuT t k) e i:=by
 obtain ⟨a1,a2,a3⟩:=cyc_lv h.cyc i hi
 obtain ⟨b1,b2,b3⟩:=cyc_lv (cut_fw h k).cyc i hi
 have hle:lvN l (cuT t k) i≤lvN l t i:=by
  apply Classical.byContradiction
  intro hc
  have:=b2 (lvN l t i) (by omega)
  rw[cut_stp _ this] at this
  omega
 have he:∀ m,m≤lvN l (cuT t k) i→lsV (cuT t k) e i m=lsV t e i m:=by
  intro m
  induction m with
  | zero=>intro _;rfl
  | succ m ih =>
    intro hm
    show min (lsV (cuT t k) e i m) _=min (lsV t e i m) _
    rw[ih (by omega),cut_stp m (b2 m (by omega))]
 unfold laV
 rw[he _ (Nat.le_refl _)]
 exact lsV_anti t e i hle
def mF (l:Nat) (t:Nat→Int) (k:Nat) (d:Nat→Int) (h:Int):Int:=if canB l t d h=true then (trV l t d h:Nat) else 100
def mE1 (l:Nat) (t:Nat→Int) (k:Nat) (d:Nat→Int) (h c:Int):Int:=if canB l t d h=true then (eaV l t d h c:Nat) else 0
def mE2 (l:Nat) (t:Nat→Int) (k:Nat) (d:Nat→Int) (h c:Int):Int:=if canB l t d h=true then 0 else 13
theorem more_of {l k:Nat} {t t' d d':Nat→Int} {h h' c:Int} (hf:Fw l t) (hle:∀ (e:Nat→Int) i,i<l→laV l t e i≤laV l t' e i) (hd:∀ j,j<l→d j≤d' j) (hh:h≤h') :
 mF l t' k d' h'≤mF l t k d h∧(mF l t k d h<100→mE2 l t' k d' h' c=0∧mE1 l t' k d' h' c≤mE1 l t k d h c):=by
 have key:∀ e e':Nat→Int,(∀ j,j<l→e j≤e' j)→canB l t e h=true→canB l t' e' h'=true:=fun e e' he hc =>
  can_mono (fun i hi=>Int.le_trans (la_mono hf he hi) (hle e' i hi)) hh hc
 unfold mF mE1 mE2
 by_cases c1:canB l t d h=true
 · have c2:=key d d' hd c1
   have a1:trV l t' d' h'≤trV l t d h:=lea_mono (fun T _ _=>key _ _ (fun j hj=>by have:=hd j hj;show min (d j) (T:Int)≤min (d' j) (T:Int);omega))
   have a2:eaV l t' d' h' c≤eaV l t d h c:=lea_mono (fun T _ _=>key _ _ (fun j hj=>by
    have:=hd j hj
    show (if (j:Int)=c then min (d j) (T:Int) else d j)≤(if (j:Int)=c then min (d' j) (T:Int) else d' j)
    split<;>omega))
   rw[if_pos c1,if_pos c1,if_pos c2,if_pos c2,if_pos c2]
   exact ⟨by omega,fun _=>⟨rfl,by omega⟩⟩
 · rw[if_neg c1,if_neg c1]
   refine ⟨?_,fun hx=>by omega⟩
   split
   · have:=(leaN_bd (fun T=>canB l t' (fun i=>min (d' i) (T:Nat)) h')).2
     show ((trV l t' d' h':Nat):Int)≤100
     unfold trV;omega
   · omega
theorem more_eq (l:Nat) (t:Nat→Int) (k:Nat) (d:Nat→Int) (h c:Int):(mE2 l t k d h c=0↔mF l t k d h<100):=by
 unfold mF mE2
 by_cases c1:canB l t d h=true
 · rw[if_pos c1,if_pos c1]
   have:=(leaN_bd (fun T=>canB l t (fun i=>min (d i) (T:Nat)) h)).2
   have e:trV l t d h=leaN (fun T=>canB l t (fun i=>min (d i) (T:Nat)) h):=rfl
   constructor
   · intro _;omega
   · intro _;rfl
 · rw[if_neg c1,if_neg c1]
   constructor<;>intro hx<;>omega
end Go.Eng
end
section
namespace Go.Eng
open Go.Proofs
set_option linter.unusedVariables false
set_option linter.unusedSimpArgs false
set_option maxRecDepth 100000
section
variable (n l k:Nat) (t d:Nat→Int) (H:Heap) (h:Int)
end
end Go.Eng
end
section
namespace Go.Eng
open Go.Proofs
set_option linter.unusedVariables false
set_option linter.unusedSimpArgs false
set_option maxRecDepth 100000
section
variable (n l k:Nat) (t d:Nat→Int) (H:Heap) (h c:Int)
end
end Go.Eng
end
