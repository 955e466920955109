/- Lay: law LaySheets. -/
import Derived.Test.YtoomemfhcbajoaaV3Lb11
import Derived.Test.YtoomemfhcbajoaaV3EngRn4x5
import Derived.Test.YtoomemfhcbajoaaV3EngTix5
import Derived.Test.YtoomemfhcbajoaaProg
import Derived.KernelRfl
import Derived.Test.YtoomemfhcbajoaaChecked
section
namespace Go.Eng
open Go.Proofs
set_option linter.unusedVariables false
set_option linter.unusedSimpArgs false
set_option maxRecDepth 100000
noncomputable def fr23 (l:Nat) (x:Nat→Int) (u:Bool) (k:Nat) (y:Nat→Int) (v:Bool) (j:Int):Frm:=[(0,sl1 l x u),(1,sl1 k y v),(5,.int .i64 j)]
noncomputable def g23 (I:Nat→(Nat→Int)→Nat→(Nat→Int)→Bool):List AV→Option (Prop×AV)
 | [.nils,.nils]=>some (True,.bool true)
 | [.slcT none (.M [.arr .i64 x m]) 1 m' u,.slcT none (.M [.arr .i64 y q]) 1 q' v]=>some ((m=m'∧q=q')∧m≤1000,.bool (I m x q y))
 | _=>none
theorem t23 (n l k:Nat) (x y:Nat→Int) (u v:Bool) (H:Heap) (j:Int):execT (cxD n 23 26) (il noCt n 0) noBT noRT (part Try.f23 [1,1,0,1,0,0]) (hints (fr23 l x u k y v j)) (lvE::H) =
 Tr.ite (ltI j (Int.ofNat l)) (Tr.req (inI j l) (Tr.req (ltN (idO 0 j 1) l) (Tr.req (inI j k) (Tr.req (ltN (idO 0 j 1) k) (Tr.ite (notB (eqI (x (idO 0 j 1)) (y (idO 0 j 1)))) (Tr.ok (Ex.ret,[(4,AV.bool false,some 1)],lvE::H)) (Tr.ok (Ex.normal,[(0,AV.slcT none (Row.M [Seg.arr .i64 x l]) 1 l u,none),(1,AV.slcT none (Row.M [Seg.arr .i64 y k]) 1 k v,none),(5,AV.int .i64 (addI .i64 j (Int.ofNat 1)),none)],lvE::H))))))) (Tr.ok (Ex.exit 0,[(0,AV.slcT none (Row.M [Seg.arr .i64 x l]) 1 l u,none),(1,AV.slcT none (Row.M [Seg.arr .i64 y k]) 1 k v,none),(5,AV.int .i64 j,none),(14,AV.bool false,some 1)],lvE::H)):=by kernel_rfl
theorem u23 (n l k:Nat) (x y:Nat→Int) (u v b:Bool) (H:Heap):bodyT Try.prog (cd n) 100000 23 Try.f23 (KtL.kt 23) (il noCt n 0) (blkE noBT 0 (fr23 l x u k y v 0) (lvE::H) (.ite b (.ok (.ret,[(4,.bool false,some 1)],lvE::H)) (.ok (.normal,hints (fr23 l x u k y v (Int.ofNat l)++[(14,.bool false)]),lvE::H)))) noRT [(sl1 l x u,none),(sl1 k y v,none)] H =
 (fun (Z0:Frm)=>Tr.ite (notB (eqI (Int.ofNat l) (Int.ofNat k))) (Tr.ok ((AV.bool false,some 1),H)) (Tr.reqP (Z0=Z0∧lvE::H=lvE::H) (Tr.ite b (Tr.ok ((AV.bool false,some 1),H)) (Tr.ok ((AV.bool true,some 1),H))))) [(0,AV.slcT none (Row.M [Seg.arr .i64 x l]) 1 l u),(1,AV.slcT none (Row.M [Seg.arr .i64 y k]) 1 k v),(5,AV.int .i64 (Int.ofNat 0))]:=by kernel_rfl
theorem u23s (n l k:Nat) (x y:Nat→Int) (u v:Bool) (H:Heap):bodyT Try.prog (cd n) 100000 23 Try.f23 (KtL.kt 23) (il noCt n 0) (stopB noBT 0) noRT [(sl1 l x u,none),(sl1 k y v,none)] H =
 Tr.ite (notB (eqI (Int.ofNat l) (Int.ofNat k))) (Tr.ok ((AV.bool false,some 1),H)) Tr.bad:=by kernel_rfl
theorem u23n (n:Nat) (H:Heap):bodyT Try.prog (cd n) 100000 23 Try.f23 (KtL.kt 23) (il noCt n 0) noBT noRT [(.nils,none),(.nils,none)] H =
 Tr.ok ((AV.bool true,some 1),H):=by kernel_rfl
theorem u3s (n l k:Nat) (t d:Nat→Int) (H:Heap):bodyT Try.prog (cd (n+1)) 100000 3 Try.f3 (KtL.kt 3) (il (ctG noCt 16 g16) n 1) noBT noRT [(shA l t k d,none)] H =
 Tr.ite (ltI (Int.ofNat 40) (Int.ofNat l)) (Tr.reqP True (Tr.ok ((AV.bool true,none),H))) (Tr.ite (ltI (Int.ofNat 40) (Int.ofNat k)) (Tr.reqP True (Tr.ok ((AV.bool true,none),H))) Tr.bad):=by kernel_rfl
theorem u3 (n l k q:Nat) (t d a b x y:Nat→Int) (I:Nat→(Nat→Int)→Nat→(Nat→Int)→Bool) (H:Heap):bodyT Try.prog (cd (n+1)) 100000 3 Try.f3 (KtL.kt 3) (il (ctG (ctG (tX (tX (tX (tX (tX (tX noCt 17 [shA l t k d] (.tup [sl1 (q+1) a false,.int .i64 0])) 18 [shA l t k d] (.tup [sl1 (q+1) b false,.int .i64 0])) 19 [shA l t k d] (.tup [sl1 (q+1) x false,.int .i64 0])) 20 [shA l t k d] (.tup [sl1 (q+1) y false,.int .i64 0])) 21 [shA l t k d] (.int .i64 0)) 22 [shA l t k d] (.int .i64 0)) 23 (g23 I)) 16 g16) n 1) noBT noRT [(shA l t k d,none)] H =
 (fun (Z0:List AV)=>Tr.ite (ltI (Int.ofNat 40) (Int.ofNat l)) (Tr.reqP True (Tr.ok ((AV.bool true,none),H))) (Tr.ite (ltI (Int.ofNat 40) (Int.ofNat k)) (Tr.reqP True (Tr.ok ((AV.bool true,none),H))) (Tr.reqP (Z0=Z0) (Tr.reqP (Z0=Z0) (Tr.reqP (Z0=Z0) (Tr.reqP (Z0=Z0) (Tr.reqP (Z0=Z0) (Tr.reqP (Z0=Z0) (Tr.ite (eqI (Int.ofNat 0) (Int.ofNat 0)) (Tr.reqP ((Nat.succ q=Nat.succ q∧Nat.succ q=Nat.succ q)∧Nat.le (q+1) 1000) (Tr.ite (I (Nat.succ q) a (Nat.succ q) b) (Tr.ite (eqI (Int.ofNat 0) (Int.ofNat 0)) (Tr.reqP ((Nat.succ q=Nat.succ q∧Nat.succ q=Nat.succ q)∧Nat.le (q+1) 1000) (Tr.ite (I (Nat.succ q) x (Nat.succ q) y) (Tr.ite (eqI (Int.ofNat 0) (Int.ofNat 0)) (Tr.reqP True (Tr.ok ((AV.bool true,none),H))) (Tr.ok ((AV.bool false,some 1),H))) (Tr.ok ((AV.bool false,some 1),H)))) (Tr.ok ((AV.bool false,some 1),H))) (Tr.ok ((AV.bool false,some 1),H)))) (Tr.ok ((AV.bool false,some 1),H))))))))))) [AV.agg (Row.G [AV.slcT none (Row.M [Seg.arr .i64 t l]) 1 l false,AV.slcT none (Row.M [Seg.arr .i64 d k]) 1 k false])]:=by kernel_rfl
theorem u3e (n l k:Nat) (t d:Nat→Int) (e:Int) (I:Nat→(Nat→Int)→Nat→(Nat→Int)→Bool) (H:Heap):bodyT Try.prog (cd (n+1)) 100000 3 Try.f3 (KtL.kt 3) (il (ctG (ctG (tX (tX (tX (tX (tX (tX noCt 17 [shA l t k d] (.tup [.nils,.int .i64 e])) 18 [shA l t k d] (.tup [.nils,.int .i64 e])) 19 [shA l t k d] (.tup [.nils,.int .i64 e])) 20 [shA l t k d] (.tup [.nils,.int .i64 e])) 21 [shA l t k d] (.int .i64 e)) 22 [shA l t k d] (.int .i64 e)) 23 (g23 I)) 16 g16) n 1) noBT noRT [(shA l t k d,none)] H =
 (fun (Z0:List AV)=>Tr.ite (ltI (Int.ofNat 40) (Int.ofNat l)) (Tr.reqP True (Tr.ok ((AV.bool true,none),H))) (Tr.ite (ltI (Int.ofNat 40) (Int.ofNat k)) (Tr.reqP True (Tr.ok ((AV.bool true,none),H))) (Tr.reqP (Z0=Z0) (Tr.reqP (Z0=Z0) (Tr.reqP (Z0=Z0) (Tr.reqP (Z0=Z0) (Tr.reqP (Z0=Z0) (Tr.reqP (Z0=Z0) (Tr.ite (eqI e e) (Tr.reqP True (Tr.ite true (Tr.ite (eqI e e) (Tr.reqP True (Tr.ite true (Tr.ite (eqI e e) (Tr.reqP True (Tr.ok ((AV.bool true,none),H))) (Tr.ok ((AV.bool false,some 1),H))) (Tr.ok ((AV.bool false,some 1),H)))) (Tr.ok ((AV.bool false,some 1),H))) (Tr.ok ((AV.bool false,some 1),H)))) (Tr.ok ((AV.bool false,some 1),H))))))))))) [AV.agg (Row.G [AV.slcT none (Row.M [Seg.arr .i64 t l]) 1 l false,AV.slcT none (Row.M [Seg.arr .i64 d k]) 1 k false])]:=by kernel_rfl
theorem b23:∀ b,(0,b) ∈ blocksOf (bodyOf Try.f23)→b=.loop (part Try.f23 [1,1,0,1,0,0]):=by
 have:((blocksOf (bodyOf Try.f23)).filter fun x=>Nat.beq x.1 0)=[(0,.loop (part Try.f23 [1,1,0,1,0,0]))]:=by kernel_rfl
 intro b hb
 have hm:(0,b) ∈ ((blocksOf (bodyOf Try.f23)).filter fun x=>Nat.beq x.1 0):=List.mem_filter.2 ⟨hb,rfl⟩
 rw[this] at hm;simpa using hm
def inB (m:Nat) (x:Nat→Int) (k:Nat) (y:Nat→Int):Bool:=decide (m=k) && !exN (fun j=>decide (x j≠y j)) m
theorem inB_iff (m k:Nat) (x y:Nat→Int):inB m x k y=true↔m=k∧∀ j,j<m→x j=y j:=by
 unfold inB
 rw[Bool.and_eq_true,decide_eq_true_eq,Bool.not_eq_true']
 constructor
 · rintro ⟨h1,h2⟩
   exact ⟨h1,fun j hj=>by have:=exN_not h2 j hj;simpa using this⟩
 · rintro ⟨h1,h2⟩
   exact ⟨h1,exN_no (fun j hj=>by simpa using h2 j hj)⟩
section
variable (n:Nat) (H:Heap)
theorem c23 (l k:Nat) (x y:Nat→Int) (u v:Bool) (hl:l≤1000):cd (n+1) (.fn 23) [sl1 l x u,sl1 k y v] H=some (.bool (inB l x k y),H):=by
 by_cases hk:l=k
 · subst hk
   have hx:=findX (n:=n) (f:=23) (nt:=26) (c:=part Try.f23 [1,1,0,1,0,0]) 0 (fun j=>fr23 l x u l y v (j:Nat)) (fun _=>lvE::H) l (fun j=>decide (x j≠y j)) (fun j=>([(4,.bool false)],lvE::H)) (fr23 l x u l y v (Int.ofNat l)++[(14,.bool false)],lvE::H) (by omega) (fun j hj=>?_) ?_
   · refine fn_all (n:=n) Try.func23 rfl rfl rfl (u23 n l l x y u v (exN (fun j=>decide (x j≠y j)) l) H) (il_no0 _) (blkE_ok (noBT_ok _ _) b23 (fun x hy=>blk_ite hy hx)) (noRT_ok _ _) ?_
     unfold inB
     rw[decide_eq_true rfl,Bool.true_and]
     generalize exN (fun j=>decide (x j≠y j)) l=B at *
     cases B
     all_goals
      repeat' first | (refine Tr.all_ite (fun hc=>?_) (fun hc=>?_)<;>(try simp (disch:=omega) only[nV,nW] at hc)<;>try omega) | (refine Tr.all_req ?_ ?_;· (try simp (disch:=omega) only[nV,nW]);try omega) | (refine Tr.all_reqP ?_ ?_;· first | exact trivial | rfl | exact ⟨rfl,rfl⟩ | exact ⟨rfl,rfl,rfl⟩ | (simp (disch:=omega) only[nV,nW];done) | ((try simp (disch:=omega) only[nV,nW]);omega)) | fail
      all_goals first
       | exact Tr.all_ok ⟨rfl,rfl⟩
       | fail
   · refine ex_all (t23 n l l x y u v H (j:Nat)) (il_no0 n) (noBT_ok _ _) (noRT_ok _ _) ?_
     show Tr.all _ (fun r=>if decide (x j≠y j)=true then _ else _)
     rw[cs64 (j:=j) (by omega)]
     simp only[id1]
     generalize x j=p at *
     generalize y j=q at *
     by_cases c:p=q
     · simp only[c,ne_eq,not_true,decide_false,Bool.false_eq_true,if_false]
       repeat' first | (refine Tr.all_ite (fun hc=>?_) (fun hc=>?_)<;>(try simp (disch:=omega) only[nV,nW] at hc)<;>try omega) | (refine Tr.all_req ?_ ?_;· (try simp (disch:=omega) only[nV,nW]);try omega) | (refine Tr.all_reqP ?_ ?_;· first | exact trivial | rfl | exact ⟨rfl,rfl⟩ | exact ⟨rfl,rfl,rfl⟩ | (simp (disch:=omega) only[nV,nW];done) | ((try simp (disch:=omega) only[nV,nW]);omega)) | fail
       all_goals first
        | exact Tr.all_ok ⟨rfl,rfl⟩
        | fail
     · simp only[ne_eq,c,not_false_eq_true,decide_true,if_true]
       repeat' first | (refine Tr.all_ite (fun hc=>?_) (fun hc=>?_)<;>(try simp (disch:=omega) only[nV,nW] at hc)<;>try omega) | (refine Tr.all_req ?_ ?_;· (try simp (disch:=omega) only[nV,nW]);try omega) | (refine Tr.all_reqP ?_ ?_;· first | exact trivial | rfl | exact ⟨rfl,rfl⟩ | exact ⟨rfl,rfl,rfl⟩ | (simp (disch:=omega) only[nV,nW];done) | ((try simp (disch:=omega) only[nV,nW]);omega)) | fail
       all_goals first
        | exact Tr.all_ok rfl
        | fail
   · obtain ⟨r,h1,rfl⟩:=ex_all (Q:=fun r=>r=(.exit 0,fr23 l x u l y v (Int.ofNat l)++[(14,.bool false)],lvE::H)) (t23 n l l x y u v H (Int.ofNat l)) (il_no0 n) (noBT_ok _ _) (noRT_ok _ _) (by
      refine Tr.all_ite (fun hc=>?_) (fun hc=>Tr.all_ok rfl)
      simp (disch:=omega) only[nV,nW] at hc;omega)
     exact h1
 · have hi:inB l x k y=false:=by unfold inB;rw[decide_eq_false hk];rfl
   rw[hi]
   refine fn_all (n:=n) Try.func23 rfl rfl rfl (u23s n l k x y u v H) (il_no0 _) (stopB_ok (noBT_ok _ _) 0) (noRT_ok _ _) ?_
   repeat' first | (refine Tr.all_ite (fun hc=>?_) (fun hc=>?_)<;>(try simp (disch:=omega) only[nV,nW] at hc)<;>try omega) | (refine Tr.all_req ?_ ?_;· (try simp (disch:=omega) only[nV,nW]);try omega) | (refine Tr.all_reqP ?_ ?_;· first | exact trivial | rfl | exact ⟨rfl,rfl⟩ | exact ⟨rfl,rfl,rfl⟩ | (simp (disch:=omega) only[nV,nW];done) | ((try simp (disch:=omega) only[nV,nW]);omega)) | fail
   all_goals first
    | exact Tr.all_ok ⟨rfl,rfl⟩
    | fail
theorem c23n:cd (n+1) (.fn 23) [.nils,.nils] H=some (.bool true,H):=by
 refine fn_all (n:=n) Try.func23 rfl rfl rfl (u23n n H) (il_no0 _) (noBT_ok _ _) (noRT_ok _ _) ?_
 repeat' first | (refine Tr.all_ite (fun hc=>?_) (fun hc=>?_)<;>(try simp (disch:=omega) only[nV,nW] at hc)<;>try omega) | (refine Tr.all_req ?_ ?_;· (try simp (disch:=omega) only[nV,nW]);try omega) | (refine Tr.all_reqP ?_ ?_;· first | exact trivial | rfl | exact ⟨rfl,rfl⟩ | exact ⟨rfl,rfl,rfl⟩ | (simp (disch:=omega) only[nV,nW];done) | ((try simp (disch:=omega) only[nV,nW]);omega)) | fail
 all_goals first
  | exact Tr.all_ok ⟨rfl,rfl⟩
  | fail
theorem g23_ok {c:Nat} {t:Ctr} (ht:t.Ok (cd (c+1))):(ctG t 23 (g23 inB)).Ok (cd (c+1)):=by
 refine ctG_ok ht (fun args p v hg hp H=>?_)
 unfold g23 at hg
 split at hg
 · simp only[nP] at hg
   obtain ⟨_,rfl⟩:=hg
   exact c23n c H
 · simp only[nP] at hg
   obtain ⟨rfl,rfl⟩:=hg
   obtain ⟨⟨rfl,rfl⟩,hm⟩:=hp
   exact c23 c H _ _ _ _ _ _ hm
 · cases hg
variable (l k:Nat) (t d:Nat→Int)
theorem c18 (h:Sh l t k d):cd (n+3) (.fn 18) [shA l t k d] H=some (.tup [sl1 l (lstO (faN (fun i=>(lvN l t i:Int)) l)) false,.int .i64 0],H):=by
 have hl1:=h.l1
 have h22:∀ H,cd (n+2) (.fn 22) [shA l t k d] H=some (.int .i64 0,H):=fun H=>by rw[c22,sh_to h]
 have h46:∀ H,cd (n+2) (.fn 46) [shA l t k d] H=some (sl1 l (lstO (faN (fun i=>(lvN l t i:Int)) l)) false,H):=fun H=>c46 (n+1) l k t d H h.fw (by omega)
 obtain ⟨q,rfl⟩:∃ q,l=q+1:=⟨l-1,by omega⟩
 refine fn_all (n:=n+2) Try.func18 rfl rfl rfl (u18 (n+2) (q+1) k q t d (lstO (faN (fun i=>(lvN (q+1) t i:Int)) (q+1))) H) (il_ok0 _ (n+2) (tX_ok (tX_ok (noCt_ok _) h22) h46)) (noBT_ok _ _) (noRT_ok _ _) ?_
 generalize lstO (faN (fun i=>(lvN (q+1) t i:Int)) (q+1))=Y at *
 repeat' first | (refine Tr.all_ite (fun hc=>?_) (fun hc=>?_)<;>(try simp (disch:=omega) only[nV,nW] at hc)<;>try omega) | (refine Tr.all_req ?_ ?_;· (try simp (disch:=omega) only[nV,nW]);try omega) | (refine Tr.all_reqP ?_ ?_;· first | exact trivial | rfl | exact ⟨rfl,rfl⟩ | exact ⟨rfl,rfl,rfl⟩ | (simp (disch:=omega) only[nV,nW];done) | ((try simp (disch:=omega) only[nV,nW]);omega)) | fail
 all_goals first
  | exact Tr.all_ok ⟨rfl,rfl⟩
  | fail
theorem c20 (h:Sh l t k d):cd (n+3) (.fn 20) [shA l t k d] H=some (.tup [sl1 l (lstO (faN (fun i=>laV l t d i) l)) false,.int .i64 0],H):=by
 have hl1:=h.l1
 have h22:∀ H,cd (n+2) (.fn 22) [shA l t k d] H=some (.int .i64 0,H):=fun H=>by rw[c22,sh_to h]
 have h55:∀ H,cd (n+2) (.fn 55) [shA l t k d] H=some (sl1 l (lstO (faN (fun i=>laV l t d i) l)) false,H):=fun H=>c55 (n+1) l k t d H h.fw (by omega) h.kl h.bd
 obtain ⟨q,rfl⟩:∃ q,l=q+1:=⟨l-1,by omega⟩
 refine fn_all (n:=n+2) Try.func20 rfl rfl rfl (u20 (n+2) (q+1) k q t d (lstO (faN (fun i=>laV (q+1) t d i) (q+1))) H) (il_ok0 _ (n+2) (tX_ok (tX_ok (noCt_ok _) h22) h55)) (noBT_ok _ _) (noRT_ok _ _) ?_
 generalize lstO (faN (fun i=>laV (q+1) t d i) (q+1))=Y at *
 repeat' first | (refine Tr.all_ite (fun hc=>?_) (fun hc=>?_)<;>(try simp (disch:=omega) only[nV,nW] at hc)<;>try omega) | (refine Tr.all_req ?_ ?_;· (try simp (disch:=omega) only[nV,nW]);try omega) | (refine Tr.all_reqP ?_ ?_;· first | exact trivial | rfl | exact ⟨rfl,rfl⟩ | exact ⟨rfl,rfl,rfl⟩ | (simp (disch:=omega) only[nV,nW];done) | ((try simp (disch:=omega) only[nV,nW]);omega)) | fail
 all_goals first
  | exact Tr.all_ok ⟨rfl,rfl⟩
  | fail
theorem c18e (h:shE l t k d≠0):cd (n+3) (.fn 18) [shA l t k d] H=some (.tup [.nils,.int .i64 (shE l t k d)],H):=by
 refine fn_all (n:=n+2) Try.func18 rfl rfl rfl (u18s (n+2) l k t d (shE l t k d) H) (il_ok0 _ (n+2) (tX_ok (noCt_ok _) (fun H=>c22 n l k t d H))) (noBT_ok _ _) (noRT_ok _ _) ?_
 generalize shE l t k d=e at *
 repeat' first | (refine Tr.all_ite (fun hc=>?_) (fun hc=>?_)<;>(try simp (disch:=omega) only[nV,nW] at hc)<;>try omega) | (refine Tr.all_req ?_ ?_;· (try simp (disch:=omega) only[nV,nW]);try omega) | (refine Tr.all_reqP ?_ ?_;· first | exact trivial | rfl | exact ⟨rfl,rfl⟩ | exact ⟨rfl,rfl,rfl⟩ | (simp (disch:=omega) only[nV,nW];done) | ((try simp (disch:=omega) only[nV,nW]);omega)) | fail
 all_goals first
  | exact Tr.all_ok ⟨rfl,rfl⟩
  | fail
theorem c20e (h:shE l t k d≠0):cd (n+3) (.fn 20) [shA l t k d] H=some (.tup [.nils,.int .i64 (shE l t k d)],H):=by
 refine fn_all (n:=n+2) Try.func20 rfl rfl rfl (u20s (n+2) l k t d (shE l t k d) H) (il_ok0 _ (n+2) (tX_ok (noCt_ok _) (fun H=>c22 n l k t d H))) (noBT_ok _ _) (noRT_ok _ _) ?_
 generalize shE l t k d=e at *
 repeat' first | (refine Tr.all_ite (fun hc=>?_) (fun hc=>?_)<;>(try simp (disch:=omega) only[nV,nW] at hc)<;>try omega) | (refine Tr.all_req ?_ ?_;· (try simp (disch:=omega) only[nV,nW]);try omega) | (refine Tr.all_reqP ?_ ?_;· first | exact trivial | rfl | exact ⟨rfl,rfl⟩ | exact ⟨rfl,rfl,rfl⟩ | (simp (disch:=omega) only[nV,nW];done) | ((try simp (disch:=omega) only[nV,nW]);omega)) | fail
 all_goals first
  | exact Tr.all_ok ⟨rfl,rfl⟩
  | fail
theorem lt_at {l:Nat} {t d:Nat→Int} {i:Nat} (hl:l≤30) (hi:i<l):cp30 (cp30 (lcJ l t d l)) i=laV l t d i:=by
 rw[cp30_lc (l:=l) (by omega),lcJ_at hi]
theorem c3 : cd (n+11) (.fn 3) [shA l t k d] H=some (.bool true,H):=by
 by_cases hg:40<l∨40<k
 · refine fn_all (n:=n+10) Try.func3 rfl rfl rfl (u3s (n+9) l k t d H) (il_ok _ (n+9) 1 (fun q=>ctW (by omega) (noCt_ok _))) (noBT_ok _ _) (noRT_ok _ _) ?_
   repeat' first | (refine Tr.all_ite (fun hc=>?_) (fun hc=>?_)<;>(try simp (disch:=omega) only[nV,nW] at hc)<;>try omega) | (refine Tr.all_req ?_ ?_;· (try simp (disch:=omega) only[nV,nW]);try omega) | (refine Tr.all_reqP ?_ ?_;· first | exact trivial | rfl | exact ⟨rfl,rfl⟩ | exact ⟨rfl,rfl,rfl⟩ | (simp (disch:=omega) only[nV,nW];done) | ((try simp (disch:=omega) only[nV,nW]);omega)) | fail
   all_goals first
    | exact Tr.all_ok ⟨rfl,rfl⟩
    | fail
 · by_cases he:shE l t k d=0
   · have h:=sh_of he
     have hl1:=h.l1
     have hl2:=h.l30
     obtain ⟨q,rfl⟩:∃ q,l=q+1:=⟨l-1,by omega⟩
     have h17:∀ p H,cd (n+9+p) (.fn 17) [shA (q+1) t k d] H=some (.tup [sl1 (q+1) (lstO (lsN (q+1) t (q+1))) false,.int .i64 0],H):=fun p H=>by
      rw[show n+9+p=(n+p)+9 by omega,c17];unfold lvA;rw[if_pos he,dA_sl _ q (lsN_len _ _ _)]
     have h18:∀ p H,cd (n+9+p) (.fn 18) [shA (q+1) t k d] H=some (.tup [sl1 (q+1) (lstO (faN (fun i=>(lvN (q+1) t i:Int)) (q+1))) false,.int .i64 0],H):=fun p H=>by
      rw[show n+9+p=(n+p+6)+3 by omega];exact c18 _ H _ _ _ _ h
     have h19:∀ p H,cd (n+9+p) (.fn 19) [shA (q+1) t k d] H=some (.tup [sl1 (q+1) (cp30 (cp30 (lcJ (q+1) t d (q+1)))) false,.int .i64 0],H):=fun p H=>by
      rw[show n+9+p=(n+p)+9 by omega,c19];unfold ltA;rw[if_pos he]
     have h20:∀ p H,cd (n+9+p) (.fn 20) [shA (q+1) t k d] H=some (.tup [sl1 (q+1) (lstO (faN (fun i=>laV (q+1) t d i) (q+1))) false,.int .i64 0],H):=fun p H=>by
      rw[show n+9+p=(n+p+6)+3 by omega];exact c20 _ H _ _ _ _ h
     have h21:∀ p H,cd (n+9+p) (.fn 21) [shA (q+1) t k d] H=some (.int .i64 0,H):=fun p H=>by
      rw[show n+9+p=(n+p+2)+7 by omega,c21,he]
     have h22:∀ p H,cd (n+9+p) (.fn 22) [shA (q+1) t k d] H=some (.int .i64 0,H):=fun p H=>by
      rw[show n+9+p=(n+p+7)+2 by omega,c22,he]
     refine fn_all (n:=n+10) Try.func3 rfl rfl rfl (u3 (n+9) (q+1) k q t d (lstO (lsN (q+1) t (q+1))) (lstO (faN (fun i=>(lvN (q+1) t i:Int)) (q+1))) (cp30 (cp30 (lcJ (q+1) t d (q+1)))) (lstO (faN (fun i=>laV (q+1) t d i) (q+1))) inB H) (il_ok _ (n+9) 1 (fun p=>ctW (by omega) (by
      rw[show n+9+p=(n+8+p)+1 by omega]
      exact g23_ok (by
       rw[show (n+8+p)+1=n+9+p by omega]
       exact tX_ok (tX_ok (tX_ok (tX_ok (tX_ok (tX_ok (noCt_ok _) (h17 p)) (h18 p)) (h19 p)) (h20 p)) (h21 p)) (h22 p))))) (noBT_ok _ _) (noRT_ok _ _) ?_
     have i1:inB (q+1) (lstO (lsN (q+1) t (q+1))) (q+1) (lstO (faN (fun i=>(lvN (q+1) t i:Int)) (q+1)))=true:=(inB_iff _ _ _ _).2 ⟨rfl,fun j hj=>rfl⟩
     have i2:inB (q+1) (cp30 (cp30 (lcJ (q+1) t d (q+1)))) (q+1) (lstO (faN (fun i=>laV (q+1) t d i) (q+1)))=true:=(inB_iff _ _ _ _).2 ⟨rfl,fun j hj=>by rw[lt_at hl2 hj,faN_at _ hj]⟩
     rw[show Nat.succ q=q+1 from rfl,i1,i2]
     repeat' first | (refine Tr.all_ite (fun hc=>?_) (fun hc=>?_)<;>(try simp (disch:=omega) only[nV,nW] at hc)<;>try omega) | (refine Tr.all_req ?_ ?_;· (try simp (disch:=omega) only[nV,nW]);try omega) | (refine Tr.all_reqP ?_ ?_;· first | exact trivial | rfl | exact ⟨rfl,rfl⟩ | exact ⟨rfl,rfl,rfl⟩ | (simp (disch:=omega) only[nV,nW];done) | ((try simp (disch:=omega) only[nV,nW]);omega)) | fail
     all_goals first
      | exact Tr.all_ok ⟨rfl,rfl⟩
      | (refine Tr.all_reqP ⟨⟨rfl,rfl⟩,(by omega:q+1≤1000)⟩ ?_
         repeat' first | (refine Tr.all_ite (fun hc=>?_) (fun hc=>?_)<;>(try simp (disch:=omega) only[nV,nW] at hc)<;>try omega) | (refine Tr.all_req ?_ ?_;· (try simp (disch:=omega) only[nV,nW]);try omega) | (refine Tr.all_reqP ?_ ?_;· first | exact trivial | rfl | exact ⟨rfl,rfl⟩ | exact ⟨rfl,rfl,rfl⟩ | (simp (disch:=omega) only[nV,nW];done) | ((try simp (disch:=omega) only[nV,nW]);omega)) | fail
         all_goals first
          | exact Tr.all_ok ⟨rfl,rfl⟩
          | (refine Tr.all_reqP ⟨⟨rfl,rfl⟩,(by omega:q+1≤1000)⟩ ?_
             repeat' first | (refine Tr.all_ite (fun hc=>?_) (fun hc=>?_)<;>(try simp (disch:=omega) only[nV,nW] at hc)<;>try omega) | (refine Tr.all_req ?_ ?_;· (try simp (disch:=omega) only[nV,nW]);try omega) | (refine Tr.all_reqP ?_ ?_;· first | exact trivial | rfl | exact ⟨rfl,rfl⟩ | exact ⟨rfl,rfl,rfl⟩ | (simp (disch:=omega) only[nV,nW];done) | ((try simp (disch:=omega) only[nV,nW]);omega)) | fail
             all_goals first
              | exact Tr.all_ok ⟨rfl,rfl⟩
              | fail)
          | fail)
      | fail
   · have h17:∀ p H,cd (n+9+p) (.fn 17) [shA l t k d] H=some (.tup [.nils,.int .i64 (shE l t k d)],H):=fun p H=>by
      rw[show n+9+p=(n+p)+9 by omega,c17];unfold lvA;rw[if_neg he]
     have h18:∀ p H,cd (n+9+p) (.fn 18) [shA l t k d] H=some (.tup [.nils,.int .i64 (shE l t k d)],H):=fun p H=>by
      rw[show n+9+p=(n+p+6)+3 by omega];exact c18e _ H _ _ _ _ he
     have h19:∀ p H,cd (n+9+p) (.fn 19) [shA l t k d] H=some (.tup [.nils,.int .i64 (shE l t k d)],H):=fun p H=>by
      rw[show n+9+p=(n+p)+9 by omega,c19];unfold ltA;rw[if_neg he]
     have h20:∀ p H,cd (n+9+p) (.fn 20) [shA l t k d] H=some (.tup [.nils,.int .i64 (shE l t k d)],H):=fun p H=>by
      rw[show n+9+p=(n+p+6)+3 by omega];exact c20e _ H _ _ _ _ he
     have h21:∀ p H,cd (n+9+p) (.fn 21) [shA l t k d] H=some (.int .i64 (shE l t k d),H):=fun p H=>by
      rw[show n+9+p=(n+p+2)+7 by omega,c21]
     have h22:∀ p H,cd (n+9+p) (.fn 22) [shA l t k d] H=some (.int .i64 (shE l t k d),H):=fun p H=>by
      rw[show n+9+p=(n+p+7)+2 by omega,c22]
     refine fn_all (n:=n+10) Try.func3 rfl rfl rfl (u3e (n+9) l k t d (shE l t k d) inB H) (il_ok _ (n+9) 1 (fun p=>ctW (by omega) (by
      rw[show n+9+p=(n+8+p)+1 by omega]
      exact g23_ok (by
       rw[show (n+8+p)+1=n+9+p by omega]
       exact tX_ok (tX_ok (tX_ok (tX_ok (tX_ok (tX_ok (noCt_ok _) (h17 p)) (h18 p)) (h19 p)) (h20 p)) (h21 p)) (h22 p))))) (noBT_ok _ _) (noRT_ok _ _) ?_
     generalize shE l t k d=e at *
     repeat' first | (refine Tr.all_ite (fun hc=>?_) (fun hc=>?_)<;>(try simp (disch:=omega) only[nV,nW] at hc)<;>try omega) | (refine Tr.all_req ?_ ?_;· (try simp (disch:=omega) only[nV,nW]);try omega) | (refine Tr.all_reqP ?_ ?_;· first | exact trivial | rfl | exact ⟨rfl,rfl⟩ | exact ⟨rfl,rfl,rfl⟩ | (simp (disch:=omega) only[nV,nW];done) | ((try simp (disch:=omega) only[nV,nW]);omega)) | fail
     all_goals first
      | exact Tr.all_ok ⟨rfl,rfl⟩
      | fail
end
end Go.Eng
end
section
namespace Go.Proofs.Ytoomemfhcbajoaa.Known
open Go.Eng Go.Proofs
set_option maxRecDepth 100000
theorem named:Named Try.prog:=by
 have h:(Try.prog.funcs.toList.all fun fn=>fn.body.isNone || !(fn.name == "runtime.NumGoroutine"))=true:=by kernel_rfl
 intro f fn hf hb
 have:=List.all_eq_true.1 h fn (by simpa using Array.mem_of_getElem? hf)
 rw[hb] at this
 simpa using this
theorem mixed:Try.prog.follows .mixedOrders=true:=by kernel_rfl
theorem none_ok:∀ e ∈ ([]:List Ora),OneOk Try.prog e:=fun e h=>by cases h
theorem cons_ok {e:Ora} {t:List Ora} (h:OneOk Try.prog e) (k:∀ x ∈ t,OneOk Try.prog x):∀ x ∈ e::t,OneOk Try.prog x:=fun x hx=>by
 rcases List.mem_cons.1 hx with rfl | hx
 · exact h
 · exact k x hx
def tab0:List Ora:=[]
theorem tab0_ok:∀ e ∈ tab0,OneOk Try.prog e:=none_ok
def navB:List Nat→Code→Code
 | [],c=>c
 | x :: p,c=>match c with
   | .seq a b=>match x with
     | 0=>navB p a
     | _=>navB p b
   | .cond _ a b=>match x with
     | 0=>navB p a
     | _=>navB p b
   | .block _ b=>navB p b
   | .loop b=>navB p b
   | .scope b=>navB p b
   | .rangeFunc _ _ a b=>match x with
     | 0=>navB p a
     | _=>navB p b
   | c=>c
def opsB:Code→Array Oper
 | .region _ ops _=>ops
 | _=>#[]
noncomputable def bd90:Code:=Try.f90.body.getD .skip
def hdO (l:List Oper):Oper:=l.headD { dst:=none,op:=.move (.tmp 0),type:=0,pos := "",after:=#[],guard:=none }
noncomputable def pickS:RStart:={ id0:=3,ops0:=opsB (navB [1,1,1,0,0] bd90),pre:=(opsB (navB [1,1,1,0,0] bd90)).toList.take 1,ro:=hdO ((opsB (navB [1,1,1,0,0] bd90)).toList.drop 1),m:=9,ty:=95 }
noncomputable def pickL:RLoop:={ out:=0,id1:=4,id2:=5,nxt:=1,ops1:=opsB (navB [1,1,1,0,1,0,0,0] bd90),ops2:=opsB (navB [1,1,1,0,1,0,0,1,1,0,0] bd90),no:=hdO (opsB (navB [1,1,1,0,1,0,0,0] bd90)).toList,eo:=hdO (opsB (navB [1,1,1,0,1,0,0,1,1,0,0] bd90)).toList,t1:=(opsB (navB [1,1,1,0,1,0,0,0] bd90)).toList.tail,t2:=(opsB (navB [1,1,1,0,1,0,0,1,1,0,0] bd90)).toList.tail,it:=10,nx:=11,mo:=12,en:=13,rest:=navB [1,1,1,0,1,0,0,1,1,0,1] bd90,km:=16775424 }
noncomputable def pick:RFun:={ f:=90,pre:=[navB [0] bd90,navB [1,0] bd90,navB [1,1,0] bd90],S:=pickS,L:=pickL,suf:=navB [1,1,1,1] bd90 }
theorem pick_b:Try.f90.body=some (assemble pick.pre (pickS.code pickL) pick.suf):=by kernel_rfl
theorem pick_l0:pickS.ops0.toList=pickS.pre++[pickS.ro]:=by kernel_rfl
theorem pick_o0:pickS.ro.op=.range pickS.ty (.tmp pickS.m):=by kernel_rfl
theorem pick_d0:pickS.ro.dst=some pickL.it:=by kernel_rfl
theorem pick_g0:pickS.ro.guard=none:=by kernel_rfl
theorem pick_l1:pickL.ops1.toList=pickL.no::pickL.t1:=by kernel_rfl
theorem pick_o1:pickL.no.op=.next (.tmp pickL.it) false:=by kernel_rfl
theorem pick_d1:pickL.no.dst=some pickL.nx:=by kernel_rfl
theorem pick_g1:pickL.no.guard=none:=by kernel_rfl
theorem pick_l2:pickL.ops2.toList=pickL.eo::pickL.t2:=by kernel_rfl
theorem pick_o2:pickL.eo.op=.entry (.tmp pickL.it):=by kernel_rfl
theorem pick_d2:pickL.eo.dst=some pickL.en:=by kernel_rfl
theorem pick_g2:pickL.eo.guard=none:=by kernel_rfl
theorem pick_ok:pick.Ok Try.prog:=⟨⟨Try.f90,Try.func90,pick_b⟩,⟨pick_l0,pick_o0,pick_d0,pick_g0,⟨_,_,Try.underlying95⟩⟩,⟨pick_l1,pick_o1,pick_d1,pick_g1,pick_l2,pick_o2,pick_d2,pick_g2⟩⟩
noncomputable def rs:List RFun:=[pick]
theorem rs_ok:∀ r ∈ rs,r.Ok Try.prog:=fun r h=>by
 rcases List.mem_cons.1 h with rfl | h
 · exact pick_ok
 · cases h
end Go.Proofs.Ytoomemfhcbajoaa.Known
end
section
namespace Go.Proofs.Ytoomemfhcbajoaa.Known
open Go.Eng Go.Proofs
set_option maxRecDepth 100000
noncomputable def E1:Ora:=⟨50,[.int .i64 5],.agg (.G [.slcT none (.I .i64 [2,2,6,5,5,6,-1]) 1 7 true,.slcT none (.I .i64 [5,5,5,5,5,5,5]) 1 7 true])⟩
theorem ok1:OneOk Try.prog E1:=one_ofO named mixed tab0_ok rs_ok [54,95] KtL.kt 100000 40 (H':=[⟨true,[]⟩]) (by kernel_rfl) (by kernel_rfl)
noncomputable def tab1:List Ora:=E1::tab0
theorem tab1_ok:∀ e ∈ tab1,OneOk Try.prog e:=cons_ok ok1 tab0_ok
noncomputable def E2:Ora:=⟨50,[.int .i64 4],.agg (.G [.slcT none (.I .i64 [2,2,6,5,5,6,-1]) 1 7 true,.slcT none (.I .i64 [4,4,4,4,4,4,4]) 1 7 true])⟩
theorem ok2:OneOk Try.prog E2:=one_ofO named mixed tab1_ok rs_ok [54,95] KtL.kt 100000 40 (H':=[⟨true,[]⟩]) (by kernel_rfl) (by kernel_rfl)
noncomputable def tab2:List Ora:=E2::tab1
theorem tab2_ok:∀ e ∈ tab2,OneOk Try.prog e:=cons_ok ok2 tab1_ok
end Go.Proofs.Ytoomemfhcbajoaa.Known
end
section
namespace Go.Proofs.Ytoomemfhcbajoaa.Known
open Go.Eng Go.Proofs
set_option maxRecDepth 100000
noncomputable def E3:Ora:=⟨50,[.int .i64 3],.agg (.G [.slcT none (.I .i64 [2,2,6,5,5,6,-1]) 1 7 true,.slcT none (.I .i64 [3,3,3,3,3,3,3]) 1 7 true])⟩
theorem ok3:OneOk Try.prog E3:=one_ofO named mixed tab2_ok rs_ok [54,95] KtL.kt 100000 40 (H':=[⟨true,[]⟩]) (by kernel_rfl) (by kernel_rfl)
noncomputable def tab3:List Ora:=E3::tab2
theorem tab3_ok:∀ e ∈ tab3,OneOk Try.prog e:=cons_ok ok3 tab2_ok
noncomputable def E4:Ora:=⟨21,[.agg (.G [.slcT none (.I .i64 [2,2,6,5,5,6,-1]) 1 7 true,.slcT none (.I .i64 [5,5,5,5,5,5,5]) 1 7 true])],.int .i64 0⟩
theorem ok4:OneOk Try.prog E4:=one_ofO named mixed tab3_ok rs_ok [54,95] KtL.kt 100000 40 (H':=[⟨true,[]⟩]) (by kernel_rfl) (by kernel_rfl)
noncomputable def tab4:List Ora:=E4::tab3
theorem tab4_ok:∀ e ∈ tab4,OneOk Try.prog e:=cons_ok ok4 tab3_ok
end Go.Proofs.Ytoomemfhcbajoaa.Known
end
section
namespace Go.Proofs.Ytoomemfhcbajoaa.Known
open Go.Eng Go.Proofs
set_option maxRecDepth 100000
noncomputable def E5:Ora:=⟨17,[.agg (.G [.slcT none (.I .i64 [2,2,6,5,5,6,-1]) 1 7 true,.slcT none (.I .i64 [5,5,5,5,5,5,5]) 1 7 true])],.tup [.slcT none (.I .i64 [3,3,2,3,3,2,1]) 1 7 false,.int .i64 0]⟩
theorem ok5:OneOk Try.prog E5:=one_ofO named mixed tab4_ok rs_ok [54,95] KtL.kt 100000 40 (H':=[⟨true,[]⟩]) (by kernel_rfl) (by kernel_rfl)
noncomputable def tab5:List Ora:=E5::tab4
theorem tab5_ok:∀ e ∈ tab5,OneOk Try.prog e:=cons_ok ok5 tab4_ok
noncomputable def E6:Ora:=⟨19,[.agg (.G [.slcT none (.I .i64 [2,2,6,5,5,6,-1]) 1 7 true,.slcT none (.I .i64 [5,5,5,5,5,5,5]) 1 7 true])],.tup [.slcT none (.I .i64 [3,3,4,3,3,4,5]) 1 7 false,.int .i64 0]⟩
theorem ok6:OneOk Try.prog E6:=one_ofO named mixed tab5_ok rs_ok [54,95] KtL.kt 100000 40 (H':=[⟨true,[]⟩]) (by kernel_rfl) (by kernel_rfl)
noncomputable def tab6:List Ora:=E6::tab5
theorem tab6_ok:∀ e ∈ tab6,OneOk Try.prog e:=cons_ok ok6 tab5_ok
end Go.Proofs.Ytoomemfhcbajoaa.Known
end
section
namespace Go.Proofs.Ytoomemfhcbajoaa.Known
open Go.Eng Go.Proofs
set_option maxRecDepth 100000
noncomputable def E7:Ora:=⟨21,[.agg (.G [.slcT none (.I .i64 [2,2,6,5,5,6,-1]) 1 7 true,.slcT none (.I .i64 [4,4,4,4,4,4,4]) 1 7 true])],.int .i64 0⟩
theorem ok7:OneOk Try.prog E7:=one_ofO named mixed tab6_ok rs_ok [54,95] KtL.kt 100000 40 (H':=[⟨true,[]⟩]) (by kernel_rfl) (by kernel_rfl)
noncomputable def tab7:List Ora:=E7::tab6
theorem tab7_ok:∀ e ∈ tab7,OneOk Try.prog e:=cons_ok ok7 tab6_ok
noncomputable def E8:Ora:=⟨21,[.agg (.G [.slcT none (.I .i64 [2,2,6,5,5,6,-1]) 1 7 true,.slcT none (.I .i64 [3,3,3,3,3,3,3]) 1 7 true])],.int .i64 0⟩
theorem ok8:OneOk Try.prog E8:=one_ofO named mixed tab7_ok rs_ok [54,95] KtL.kt 100000 40 (H':=[⟨true,[]⟩]) (by kernel_rfl) (by kernel_rfl)
noncomputable def tab8:List Ora:=E8::tab7
theorem tab8_ok:∀ e ∈ tab8,OneOk Try.prog e:=cons_ok ok8 tab7_ok
end Go.Proofs.Ytoomemfhcbajoaa.Known
end
section
namespace Go.Proofs.Ytoomemfhcbajoaa.Known
open Go.Eng Go.Proofs
set_option maxRecDepth 100000
noncomputable def E9:Ora:=⟨32,[.agg (.G [.slcT none (.I .i64 [2,2,6,5,5,6,-1]) 1 7 true,.slcT none (.I .i64 [3,3,3,3,3,3,3]) 1 7 true]),.int .i64 2],.tup [.int .i64 1,.int .i64 0]⟩
theorem ok9:OneOk Try.prog E9:=one_ofO named mixed tab8_ok rs_ok [54,95] KtL.kt 100000 40 (H':=[⟨true,[]⟩]) (by kernel_rfl) (by kernel_rfl)
noncomputable def tab9:List Ora:=E9::tab8
theorem tab9_ok:∀ e ∈ tab9,OneOk Try.prog e:=cons_ok ok9 tab8_ok
noncomputable def E10:Ora:=⟨32,[.agg (.G [.slcT none (.I .i64 [2,2,6,5,5,6,-1]) 1 7 true,.slcT none (.I .i64 [4,4,4,4,4,4,4]) 1 7 true]),.int .i64 2],.tup [.int .i64 0,.int .i64 5]⟩
theorem ok10:OneOk Try.prog E10:=one_ofO named mixed tab9_ok rs_ok [54,95] KtL.kt 100000 40 (H':=[⟨true,[]⟩]) (by kernel_rfl) (by kernel_rfl)
noncomputable def tab10:List Ora:=E10::tab9
theorem tab10_ok:∀ e ∈ tab10,OneOk Try.prog e:=cons_ok ok10 tab9_ok
end Go.Proofs.Ytoomemfhcbajoaa.Known
end
section
namespace Go.Proofs.Ytoomemfhcbajoaa.Known
open Go.Eng Go.Proofs
set_option maxRecDepth 100000
noncomputable def E11:Ora:=⟨34,[.agg (.G [.slcT none (.I .i64 [2,2,6,5,5,6,-1]) 1 7 true,.slcT none (.I .i64 [3,3,3,3,3,3,3]) 1 7 true])],.tup [.int .i64 4,.int .i64 0]⟩
theorem ok11:OneOk Try.prog E11:=one_ofO named mixed tab10_ok rs_ok [54,95] KtL.kt 100000 40 (H':=[⟨true,[]⟩]) (by kernel_rfl) (by kernel_rfl)
noncomputable def tab11:List Ora:=E11::tab10
theorem tab11_ok:∀ e ∈ tab11,OneOk Try.prog e:=cons_ok ok11 tab10_ok
noncomputable def E12:Ora:=⟨36,[.agg (.G [.slcT none (.I .i64 [2,2,6,5,5,6,-1]) 1 7 true,.slcT none (.I .i64 [5,5,5,5,5,5,5]) 1 7 true]),.int .i64 4],.tup [.int .i64 3,.int .i64 0]⟩
theorem ok12:OneOk Try.prog E12:=one_ofO named mixed tab11_ok rs_ok [54,95] KtL.kt 100000 40 (H':=[⟨true,[]⟩]) (by kernel_rfl) (by kernel_rfl)
noncomputable def tab12:List Ora:=E12::tab11
theorem tab12_ok:∀ e ∈ tab12,OneOk Try.prog e:=cons_ok ok12 tab11_ok
end Go.Proofs.Ytoomemfhcbajoaa.Known
end
section
namespace Go.Proofs.Ytoomemfhcbajoaa.Known
open Go.Eng Go.Proofs
set_option maxRecDepth 100000
noncomputable def E13:Ora:=⟨39,[.agg (.G [.slcT none (.I .i64 [2,2,6,5,5,6,-1]) 1 7 true,.slcT none (.I .i64 [4,4,4,4,4,4,4]) 1 7 true]),.int .i64 2,.int .i64 5],.tup [.int .i64 3,.int .i64 0]⟩
theorem ok13:OneOk Try.prog E13:=one_ofO named mixed tab12_ok rs_ok [54,95] KtL.kt 100000 40 (H':=[⟨true,[]⟩]) (by kernel_rfl) (by kernel_rfl)
noncomputable def tab13:List Ora:=E13::tab12
theorem tab13_ok:∀ e ∈ tab13,OneOk Try.prog e:=cons_ok ok13 tab12_ok
noncomputable def E14:Ora:=⟨41,[.agg (.G [.slcT none (.I .i64 [2,2,6,5,5,6,-1]) 1 7 true,.slcT none (.I .i64 [5,5,5,5,5,5,5]) 1 7 true]),.int .i64 2],.tup [.slcT none (.I .i64 [1,2,3,4,5]) 1 5 false,.int .i64 0]⟩
theorem ok14:OneOk Try.prog E14:=one_ofO named mixed tab13_ok rs_ok [54,95] KtL.kt 100000 40 (H':=[⟨true,[]⟩]) (by kernel_rfl) (by kernel_rfl)
noncomputable def tab14:List Ora:=E14::tab13
theorem tab14_ok:∀ e ∈ tab14,OneOk Try.prog e:=cons_ok ok14 tab13_ok
end Go.Proofs.Ytoomemfhcbajoaa.Known
end
section
namespace Go.Proofs.Ytoomemfhcbajoaa.Known
open Go.Eng Go.Proofs
set_option maxRecDepth 100000
noncomputable def E15:Ora:=⟨37,[.agg (.G [.slcT none (.I .i64 [2,2,6,5,5,6,-1]) 1 7 true,.slcT none (.I .i64 [3,3,3,3,3,3,3]) 1 7 true]),.int .i64 2,.int .i64 1],.int .i64 0⟩
theorem ok15:OneOk Try.prog E15:=one_ofO named mixed tab14_ok rs_ok [54,95] KtL.kt 100000 40 (H':=[⟨true,[]⟩]) (by kernel_rfl) (by kernel_rfl)
noncomputable def tab15:List Ora:=E15::tab14
theorem tab15_ok:∀ e ∈ tab15,OneOk Try.prog e:=cons_ok ok15 tab14_ok
noncomputable def E16:Ora:=⟨37,[.agg (.G [.slcT none (.I .i64 [2,2,6,5,5,6,-1]) 1 7 true,.slcT none (.I .i64 [4,4,4,4,4,4,4]) 1 7 true]),.int .i64 2,.int .i64 1],.int .i64 14⟩
theorem ok16:OneOk Try.prog E16:=one_ofO named mixed tab15_ok rs_ok [54,95] KtL.kt 100000 40 (H':=[⟨true,[]⟩]) (by kernel_rfl) (by kernel_rfl)
noncomputable def tab16:List Ora:=E16::tab15
theorem tab16_ok:∀ e ∈ tab16,OneOk Try.prog e:=cons_ok ok16 tab15_ok
end Go.Proofs.Ytoomemfhcbajoaa.Known
end
section
namespace Go.Proofs.Ytoomemfhcbajoaa.Known
open Go.Eng Go.Proofs
set_option maxRecDepth 100000
noncomputable def E17:Ora:=⟨34,[.agg (.G [.slcT none (.I .i64 [2,2,6,5,5,6,-1]) 1 7 true,.slcT none (.I .i64 [5,5,5,5,5,5,5]) 1 7 true])],.tup [.int .i64 2,.int .i64 0]⟩
theorem ok17:OneOk Try.prog E17:=one_ofO named mixed tab16_ok rs_ok [54,95] KtL.kt 100000 40 (H':=[⟨true,[]⟩]) (by kernel_rfl) (by kernel_rfl)
noncomputable def tab17:List Ora:=E17::tab16
theorem tab17_ok:∀ e ∈ tab17,OneOk Try.prog e:=cons_ok ok17 tab16_ok
noncomputable def E18:Ora:=⟨34,[.agg (.G [.slcT none (.I .i64 [2,2,6,5,5,6,-1]) 1 7 true,.slcT none (.I .i64 [4,4,4,4,4,4,4]) 1 7 true])],.tup [.int .i64 2,.int .i64 0]⟩
theorem ok18:OneOk Try.prog E18:=one_ofO named mixed tab17_ok rs_ok [54,95] KtL.kt 100000 40 (H':=[⟨true,[]⟩]) (by kernel_rfl) (by kernel_rfl)
noncomputable def tab18:List Ora:=E18::tab17
theorem tab18_ok:∀ e ∈ tab18,OneOk Try.prog e:=cons_ok ok18 tab17_ok
end Go.Proofs.Ytoomemfhcbajoaa.Known
end
section
namespace Go.Proofs.Ytoomemfhcbajoaa.Known
open Go.Eng Go.Proofs
set_option maxRecDepth 100000
noncomputable def E19:Ora:=⟨36,[.agg (.G [.slcT none (.I .i64 [2,2,6,5,5,6,-1]) 1 7 true,.slcT none (.I .i64 [5,5,5,5,5,5,5]) 1 7 true]),.int .i64 2],.tup [.int .i64 4,.int .i64 0]⟩
theorem ok19:OneOk Try.prog E19:=one_ofO named mixed tab18_ok rs_ok [54,95] KtL.kt 100000 40 (H':=[⟨true,[]⟩]) (by kernel_rfl) (by kernel_rfl)
noncomputable def tab19:List Ora:=E19::tab18
theorem tab19_ok:∀ e ∈ tab19,OneOk Try.prog e:=cons_ok ok19 tab18_ok
noncomputable def E20:Ora:=⟨36,[.agg (.G [.slcT none (.I .i64 [2,2,6,5,5,6,-1]) 1 7 true,.slcT none (.I .i64 [5,5,5,5,5,5,5]) 1 7 true]),.int .i64 3],.tup [.int .i64 4,.int .i64 0]⟩
theorem ok20:OneOk Try.prog E20:=one_ofO named mixed tab19_ok rs_ok [54,95] KtL.kt 100000 40 (H':=[⟨true,[]⟩]) (by kernel_rfl) (by kernel_rfl)
noncomputable def tab20:List Ora:=E20::tab19
theorem tab20_ok:∀ e ∈ tab20,OneOk Try.prog e:=cons_ok ok20 tab19_ok
end Go.Proofs.Ytoomemfhcbajoaa.Known
end
section
namespace Go.Proofs.Ytoomemfhcbajoaa.Known
open Go.Eng Go.Proofs
set_option maxRecDepth 100000
noncomputable def E21:Ora:=⟨39,[.agg (.G [.slcT none (.I .i64 [2,2,6,5,5,6,-1]) 1 7 true,.slcT none (.I .i64 [5,5,5,5,5,5,5]) 1 7 true]),.int .i64 2,.int .i64 5],.tup [.int .i64 2,.int .i64 0]⟩
theorem ok21:OneOk Try.prog E21:=one_ofO named mixed tab20_ok rs_ok [54,95] KtL.kt 100000 40 (H':=[⟨true,[]⟩]) (by kernel_rfl) (by kernel_rfl)
noncomputable def tab21:List Ora:=E21::tab20
theorem tab21_ok:∀ e ∈ tab21,OneOk Try.prog e:=cons_ok ok21 tab20_ok
noncomputable def E22:Ora:=⟨41,[.agg (.G [.slcT none (.I .i64 [2,2,6,5,5,6,-1]) 1 7 true,.slcT none (.I .i64 [4,4,4,4,4,4,4]) 1 7 true]),.int .i64 2],.tup [.nils,.int .i64 0]⟩
theorem ok22:OneOk Try.prog E22:=one_ofO named mixed tab21_ok rs_ok [54,95] KtL.kt 100000 40 (H':=[⟨true,[]⟩]) (by kernel_rfl) (by kernel_rfl)
noncomputable def tab22:List Ora:=E22::tab21
theorem tab22_ok:∀ e ∈ tab22,OneOk Try.prog e:=cons_ok ok22 tab21_ok
end Go.Proofs.Ytoomemfhcbajoaa.Known
end
section
namespace Go.Proofs.Ytoomemfhcbajoaa.Known
open Go.Eng Go.Proofs
set_option maxRecDepth 100000
noncomputable def EW:Ora:=⟨16,[],.bool true⟩
theorem okW:OneOk Try.prog EW:=one_ofO named mixed tab22_ok rs_ok [54,95] KtL.kt 100000 40 (H':=[⟨true,[]⟩]) (by kernel_rfl) (by kernel_rfl)
end Go.Proofs.Ytoomemfhcbajoaa.Known
end
