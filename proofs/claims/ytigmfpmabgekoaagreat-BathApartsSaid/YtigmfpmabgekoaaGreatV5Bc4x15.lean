/- Bath: Best of the program, and as it is defined. -/
import Derived.Test.YtigmfpmabgekoaaGreatV5Bc1x3
import Derived.Test.YtigmfpmabgekoaaGreatV5Ba3x9
section
namespace Go.Eng
open Go.Proofs
set_option linter.unusedVariables false
set_option linter.unusedSimpArgs false
set_option maxRecDepth 100000
noncomputable def fr65 (l:Nat) (z:Nat→Int) (j:Int):Frm:=[(0,slA 5 l z),(3,.int .i64 j)]
noncomputable def gB (b:Bool) (A:AV):List AV→Option (Prop×AV):=fun x=>some (x=[A],.bool b)
theorem t65 (n l:Nat) (z:Nat→Int) (H:Heap) (j:Int):execT (cxD (n+1) 65 19) (il noCt n 1) noBT noRT (part Tryz.f65 [1,0,1,0,0]) (hints (fr65 l z j)) (lvE::H) =
 Tr.ite (ltI j (Int.ofNat l)) (Tr.req (inI j l) (Tr.req (ltN (idO 0 j 5) (mulO l 5)) (Tr.req (ltN (addO (idO 0 j 5) 1) (mulO l 5)) (Tr.req (ltN (addO (idO 0 j 5) 2) (mulO l 5)) (Tr.req (ltN (addO (idO 0 j 5) 3) (mulO l 5)) (Tr.req (ltN (addO (idO 0 j 5) 4) (mulO l 5)) (Tr.req (inI j l) (Tr.req (ltN (idO 0 j 5) (mulO l 5)) (Tr.req (ltN (addO (idO 0 j 5) 1) (mulO l 5)) (Tr.req (ltN (addO (idO 0 j 5) 2) (mulO l 5)) (Tr.req (ltN (addO (idO 0 j 5) 3) (mulO l 5)) (Tr.req (ltN (addO (idO 0 j 5) 4) (mulO l 5)) (Tr.ite (ltI (subI .i64 (z (idO 0 j 5)) (z (addO (idO 0 j 5) 2))) (subI .i64 (z (addO (idO 0 j 5) 1)) (z (addO (idO 0 j 5) 3)))) (Tr.ok (Ex.ret,[(2,AV.bool false,some 1)],lvE::H)) (Tr.ok (Ex.normal,[(0,slA 5 l z,none),(3,AV.int .i64 (addI .i64 j (Int.ofNat 1)),none)],lvE::H))))))))))))))) (Tr.ok (Ex.exit 0,[(0,slA 5 l z,none),(3,AV.int .i64 j,none),(7,AV.bool false,some 1)],lvE::H)):=by kernel_rfl
theorem u65 (n l:Nat) (z:Nat→Int) (H:Heap) (x:Bool):bodyT Tryz.prog (cd n) 100000 65 Tryz.f65 (KtB.kt 65) (il noCt n 0) (blkE noBT 0 (fr65 l z 0) (lvE::H) (.ite x (.ok (.ret,hints [(2,.bool false)],lvE::H)) (.ok (.normal,hints (fr65 l z (Int.ofNat l)++[(7,.bool false)]),lvE::H)))) noRT [(slA 5 l z,none)] H =
 Tr.reqP ([(0,slA 5 l z),(3,AV.int .i64 (Int.ofNat 0))]=[(0,slA 5 l z),(3,AV.int .i64 (Int.ofNat 0))]∧lvE::H=lvE::H) (Tr.ite x (Tr.ok ((AV.bool false,none),H)) (Tr.ok ((AV.bool true,some 1),H))):=by kernel_rfl
theorem u24x (n l:Nat) (z:Nat→Int) (H:Heap) (e:Int):bodyT Tryz.prog (cd n) 100000 24 Tryz.f24 (KtB.kt 24) (il (ctG noCt 21 (gO (slA 5 l z) (.int .i64 e))) n 0) noBT noRT [(slA 5 l z,none)] H =
 Tr.reqP (slA 5 l z=slA 5 l z) (Tr.ite (notB (eqI e (Int.ofNat 0))) (Tr.reqP (slA 5 l z=slA 5 l z) (Tr.ok ((AV.tup [AV.nils,AV.int .i64 e],none),H))) Tr.bad):=by kernel_rfl
theorem u24y (n l:Nat) (z:Nat→Int) (H:Heap):bodyT Tryz.prog (cd n) 100000 24 Tryz.f24 (KtB.kt 24) (il (ctG (ctG noCt 21 (gO (slA 5 l z) (.int .i64 0))) 65 (gB false (slA 5 l z))) n 0) noBT noRT [(slA 5 l z,none)] H =
 Tr.reqP (slA 5 l z=slA 5 l z) (Tr.ite (notB (eqI (Int.ofNat 0) (Int.ofNat 0))) (Tr.reqP (slA 5 l z=slA 5 l z) (Tr.ok ((AV.tup [AV.nils,AV.int .i64 (Int.ofNat 0)],none),H))) (Tr.reqP ([slA 5 l z]=[slA 5 l z]) (Tr.ite (notB false) (Tr.ok ((AV.tup [AV.nils,AV.int .i64 (Int.ofNat 22)],none),H)) Tr.bad))):=by kernel_rfl
theorem u24 (n l:Nat) (z:Nat→Int) (H:Heap) (e:Int) (s:Bool) (k:Nat) (b:Nat→Int):bodyT Tryz.prog (cd n) 100000 24 Tryz.f24 (KtB.kt 24) (il (ctG (ctG (ctG noCt 21 (gO (slA 5 l z) (.int .i64 e))) 65 (gB s (slA 5 l z))) 66 (gO (slA 5 l z) (sl1 k b false))) n 0) noBT noRT [(slA 5 l z,none)] H =
 Tr.reqP (slA 5 l z=slA 5 l z) (Tr.ite (notB (eqI e (Int.ofNat 0))) (Tr.reqP (slA 5 l z=slA 5 l z) (Tr.ok ((AV.tup [AV.nils,AV.int .i64 e],none),H))) (Tr.reqP ([slA 5 l z]=[slA 5 l z]) (Tr.ite (notB s) (Tr.ok ((AV.tup [AV.nils,AV.int .i64 (Int.ofNat 22)],none),H)) (Tr.reqP (slA 5 l z=slA 5 l z) (Tr.ok ((AV.tup [AV.slcT none (Row.M [Seg.arr .i64 b k]) 1 k false,AV.int .i64 (Int.ofNat 0)],none),H)))))):=by kernel_rfl
theorem b65:∀ b,(0,b) ∈ blocksOf (bodyOf Tryz.f65)→b=.loop (part Tryz.f65 [1,0,1,0,0]):=by
 have:((blocksOf (bodyOf Tryz.f65)).filter fun x=>Nat.beq x.1 0)=[(0,.loop (part Tryz.f65 [1,0,1,0,0]))]:=by kernel_rfl
 intro b hb
 have hm:(0,b) ∈ ((blocksOf (bodyOf Tryz.f65)).filter fun x=>Nat.beq x.1 0):=List.mem_filter.2 ⟨hb,rfl⟩
 rw[this] at hm;simpa using hm
theorem ctV2 {f k:Nat} {t:Ctr} {A:AV} {b:Bool} (ht:t.Ok (cd k)) (h:∀ H,cd k (.fn f) [A] H=some (.bool b,H)):(ctG t f (gB b A)).Ok (cd k):=by
 refine ctG_ok ht (fun args p v hg hp H=>?_)
 unfold gB at hg
 simp only[nP] at hg
 obtain ⟨rfl,rfl⟩:=hg
 rw[hp];exact h H
def noB (z:Nat→Int) (j:Nat):Bool:=decide (bHi z j<bLo z j)
section
variable (n l:Nat) (z:Nat→Int) (H:Heap)
theorem l65 (h:chkO l z=0):exec (cxD (n+1) 65 19) (.block 0 (.loop (part Tryz.f65 [1,0,1,0,0]))) (fr65 l z 0) (lvE::H)=some (cond (exN (noB z) l) (.ret,[(2,.bool false)],lvE::H) (.normal,fr65 l z (Int.ofNat l)++[(7,.bool false)],lvE::H)):=by
 obtain ⟨hl,hb⟩:=chk_odd h
 refine findX 0 (fun j=>fr65 l z (j:Int)) (fun _=>lvE::H) l (noB z) (fun j=>([(2,.bool false)],lvE::H)) (fr65 l z (Int.ofNat l)++[(7,.bool false)],lvE::H) (by omega) (fun j hj=>?_) ?_
 · have b:=hb j hj
   have ej:addI .i64 (j:Int) (Int.ofNat 1)=((j+1:Nat):Int):=by rw[addI_eq,show Int.ofNat 1=1 from rfl];exact wr_64 (by omega) (by omega)
   have e5:idO 0 (j:Int) 5=j*5:=by rw[idO_eq];omega
   have s1:subI .i64 (z (j*5+1)) (z (j*5+3))=bLo z j:=by rw[subI_eq];exact wr_64 (by omega) (by omega)
   have s2:subI .i64 (z (j*5)) (z (j*5+2))=bHi z j:=by rw[subI_eq];exact wr_64 (by omega) (by omega)
   have hn:noB z j=decide (bHi z j<bLo z j):=rfl
   refine ex_all (t65 n l z H (j:Int)) (il_no n 1) (noBT_ok _ _) (noRT_ok _ _) ?_
   simp only[addO_eq]
   rw[e5,ej,s1,s2]
   generalize noB z j=nb at *
   clear s1 s2
   generalize bLo z j=lo at *
   generalize bHi z j=hi at *
   by_cases h1:hi<lo
   · rw[decide_eq_true h1] at hn
     subst hn
     simp only[if_true]
     repeat' first | (refine Tr.all_ite (fun hc=>?_) (fun hc=>?_)<;>(try simp (disch:=omega) only[nV,nW] at hc)<;>try omega) | (refine Tr.all_req ?_ ?_;· (try simp (disch:=omega) only[nV,nW]);try omega) | (refine Tr.all_reqP ?_ ?_;· first | exact trivial | rfl | exact ⟨rfl,rfl⟩ | exact ⟨rfl,rfl,rfl⟩ | (simp (disch:=omega) only[nV,nW];done) | ((try simp (disch:=omega) only[nV,nW]);omega)) | fail
     all_goals first
      | exact Tr.all_ok rfl
      | fail
   · rw[decide_eq_false h1] at hn
     subst hn
     simp only[Bool.false_eq_true,if_false]
     repeat' first | (refine Tr.all_ite (fun hc=>?_) (fun hc=>?_)<;>(try simp (disch:=omega) only[nV,nW] at hc)<;>try omega) | (refine Tr.all_req ?_ ?_;· (try simp (disch:=omega) only[nV,nW]);try omega) | (refine Tr.all_reqP ?_ ?_;· first | exact trivial | rfl | exact ⟨rfl,rfl⟩ | exact ⟨rfl,rfl,rfl⟩ | (simp (disch:=omega) only[nV,nW];done) | ((try simp (disch:=omega) only[nV,nW]);omega)) | fail
     all_goals first
      | exact Tr.all_ok ⟨rfl,rfl⟩
      | fail
 · obtain ⟨x,h1,rfl⟩:=ex_all (Q:=fun x=>x=(.exit 0,fr65 l z (Int.ofNat l)++[(7,.bool false)],lvE::H)) (t65 n l z H (Int.ofNat l)) (il_no n 1) (noBT_ok _ _) (noRT_ok _ _) (by
    refine Tr.all_ite (fun hc=>?_) (fun hc=>Tr.all_ok rfl)
    simp (disch:=omega) only[nV,nW] at hc;omega)
   exact h1
theorem c65 (h:chkO l z=0):cd (n+2) (.fn 65) [slA 5 l z] H=some (.bool (!exN (noB z) l),H):=by
 have hx:=l65 n l z H h
 refine fn_all (n:=n+1) Tryz.func65 rfl rfl rfl (u65 (n+1) l z H (exN (noB z) l)) (il_no0 _) (blkE_ok (noBT_ok _ _) b65 (fun x h1=>by
  refine Eq.trans hx ?_
  rcases Tr.ite_some h1 with ⟨hc,h1⟩ | ⟨hc,h1⟩
  · rw[hc,← Tr.ok_some h1];rfl
  · rw[hc,← Tr.ok_some h1];simp only[cond_false,Res.st,hints_eq])) (noRT_ok _ _) ?_
 refine Tr.all_reqP ⟨rfl,rfl⟩ (Tr.all_ite (fun hc=>Tr.all_ok ⟨?_,rfl⟩) (fun hc=>Tr.all_ok ⟨?_,rfl⟩))
 · rw[hc];rfl
 · rw[hc];rfl
theorem no_all:exN (noB z) l=false↔∀ i,i<l→bLo z i≤bHi z i:=by
 constructor
 · intro h i hi
   apply Int.not_lt.1
   intro hc
   have:exN (noB z) l=true:=(exN_iff _ _).2 ⟨i,hi,by unfold noB;rw[decide_eq_true hc]⟩
   rw[h] at this;cases this
 · intro h
   cases hx:exN (noB z) l with
   | false=>rfl
   | true =>
     obtain ⟨i,h1,h2⟩:=(exN_iff _ _).1 hx
     unfold noB at h2
     have:=h i h1
     rw[decide_eq_true_eq] at h2
     omega
theorem dl_lt {m:Nat→Int} {j i:Nat} (hi:i<j) (h:m i≠1):(dl m j).length<j:=by
 induction j with
 | zero=>omega
 | succ j ih =>
   show (if m j=1 then dl m j++[(j:Int)] else dl m j).length < _
   have:=dl_len m j
   by_cases e:i<j
   · have:=ih e
     split
     · rw[List.length_append];simp only[List.length_cons,List.length_nil];omega
     · omega
   · have:i=j:=by omega
     subst this
     rw[if_neg h];omega
theorem who_eq:whoE l z=if chkO l z≠0 then chkO l z else if exN (noB z) l=true then 22 else 0:=by
 unfold whoE
 by_cases h:chkO l z≠0
 · rw[if_pos h,if_pos h]
 · rw[if_neg h,if_neg h]
   by_cases h2:exN (noB z) l=true
   · rw[if_pos h2]
     obtain ⟨i,h3,h4⟩:=(exN_iff _ _).1 h2
     unfold noB at h4
     rw[decide_eq_true_eq] at h4
     rw[if_pos (dl_lt h3 (by unfold smM;rw[if_neg (by omega)];decide))]
   · have h3:=(no_all l z).1 (by simpa using h2)
     rw[if_neg h2,if_neg]
     rw[dl_all (fun i hi=>by unfold smM;rw[if_pos (h3 i hi)])]
     omega
theorem who_ok (h:whoE l z=0):chkO l z=0∧∀ i,i<l→bLo z i≤bHi z i:=by
 rw[who_eq] at h
 by_cases h1:chkO l z≠0
 · rw[if_pos h1] at h;exact absurd h h1
 · rw[if_neg h1] at h
   refine ⟨by simpa using h1,(no_all l z).1 ?_⟩
   cases h2:exN (noB z) l with
   | false=>rfl
   | true=>rw[h2,if_pos rfl] at h;cases h
theorem sm_nd (h:whoE l z=0):dl (smM z) l=dl (ndM z []) l:=by
 obtain ⟨_,h2⟩:=who_ok l z h
 refine dl_congr (fun i hi=>?_)
 unfold smM ndM
 rw[if_pos (h2 i hi),nd_nil];simp
noncomputable def fwB (l:Nat) (z:Nat→Int):List Int:=(fwP z (dl (ndM z []) l)).map (·.1)
noncomputable def fwA (l:Nat) (z:Nat→Int):List Int:=(fwP z (dl (ndM z []) l)).map (·.2)
noncomputable def bsRV (l:Nat) (z:Nat→Int):AV:=if whoE l z=0 then .tup [dA (fwB l z),.int .i64 0] else .tup [.nils,.int .i64 (whoE l z)]
theorem c24:cd (n+8) (.fn 24) [slA 5 l z] H=some (bsRV l z,H):=by
 have hc:∀ k H,cd (n+7+k) (.fn 21) [slA 5 l z] H=some (.int .i64 (chkO l z),H):=fun k H=>by rw[show n+7+k=n+4+k+3 by omega];exact c21 _ l z H
 unfold bsRV
 have hw:=who_eq l z
 by_cases h:chkO l z=0
 · have h65:∀ k H,cd (n+7+k) (.fn 65) [slA 5 l z] H=some (.bool (!exN (noB z) l),H):=fun k H=>by rw[show n+7+k=n+5+k+2 by omega];exact c65 _ l z H h
   rw[h] at hc
   rw[if_neg (fun x=>x h)] at hw
   cases hs:exN (noB z) l with
   | true =>
     rw[hs] at hw h65
     rw[if_pos rfl] at hw
     rw[hw,if_neg (by decide)]
     refine fn_all (n:=n+7) Tryz.func24 rfl rfl rfl (u24y (n+7) l z H) (il_ok _ (n+7) 0 (fun k=>ctV2 (ctV1 (noCt_ok _) (hc k)) (h65 k))) (noBT_ok _ _) (noRT_ok _ _) ?_
     repeat' first | (refine Tr.all_ite (fun hc=>?_) (fun hc=>?_)<;>(try simp (disch:=omega) only[nV,nW] at hc)<;>try omega) | (refine Tr.all_req ?_ ?_;· (try simp (disch:=omega) only[nV,nW]);try omega) | (refine Tr.all_reqP ?_ ?_;· first | exact trivial | rfl | exact ⟨rfl,rfl⟩ | exact ⟨rfl,rfl,rfl⟩ | (simp (disch:=omega) only[nV,nW];done) | ((try simp (disch:=omega) only[nV,nW]);omega)) | fail
     all_goals first
      | exact Tr.all_ok ⟨rfl,rfl⟩
      | fail
   | false =>
     rw[hs] at hw h65
     rw[if_neg (by decide)] at hw
     rw[hw,if_pos rfl]
     have h66:∀ k H,cd (n+7+k) (.fn 66) [slA 5 l z] H=some (dA (fwB l z),H):=fun k H=>by rw[show n+7+k=n+1+k+6 by omega];exact c66 _ l z H h ((no_all l z).1 hs)
     have hne:∃ a r,fwB l z=a::r:=by
      obtain ⟨hl,_⟩:=chk_odd h
      have hN:(dl (ndM z []) l).length=l:=dl_all (fun i _=>by unfold ndM;rw[nd_nil];rfl)
      unfold fwB fwP
      cases e:dl (ndM z []) l with
      | nil=>rw[e] at hN;simp at hN;omega
      | cons a r=>exact ⟨_,_,rfl⟩
     obtain ⟨a,r,e⟩:=hne
     rw[e] at h66 ⊢
     refine fn_all (n:=n+7) Tryz.func24 rfl rfl rfl (u24 (n+7) l z H 0 true (r.length+1) (lstO (a::r))) (il_ok _ (n+7) 0 (fun k=>ctV1 (ctV2 (ctV1 (noCt_ok _) (hc k)) (h65 k)) (h66 k))) (noBT_ok _ _) (noRT_ok _ _) ?_
     repeat' first | (refine Tr.all_ite (fun hc=>?_) (fun hc=>?_)<;>(try simp (disch:=omega) only[nV,nW] at hc)<;>try omega) | (refine Tr.all_req ?_ ?_;· (try simp (disch:=omega) only[nV,nW]);try omega) | (refine Tr.all_reqP ?_ ?_;· first | exact trivial | rfl | exact ⟨rfl,rfl⟩ | exact ⟨rfl,rfl,rfl⟩ | (simp (disch:=omega) only[nV,nW];done) | ((try simp (disch:=omega) only[nV,nW]);omega)) | fail
     all_goals first
      | exact Tr.all_ok ⟨rfl,rfl⟩
      | fail
 · rw[if_pos h] at hw
   rw[hw,if_neg h]
   refine fn_all (n:=n+7) Tryz.func24 rfl rfl rfl (u24x (n+7) l z H (chkO l z)) (il_ok _ (n+7) 0 (fun k=>ctV1 (noCt_ok _) (hc k))) (noBT_ok _ _) (noRT_ok _ _) ?_
   repeat' first | (refine Tr.all_ite (fun hc=>?_) (fun hc=>?_)<;>(try simp (disch:=omega) only[nV,nW] at hc)<;>try omega) | (refine Tr.all_req ?_ ?_;· (try simp (disch:=omega) only[nV,nW]);try omega) | (refine Tr.all_reqP ?_ ?_;· first | exact trivial | rfl | exact ⟨rfl,rfl⟩ | exact ⟨rfl,rfl,rfl⟩ | (simp (disch:=omega) only[nV,nW];done) | ((try simp (disch:=omega) only[nV,nW]);omega)) | fail
   all_goals first
    | exact Tr.all_ok ⟨rfl,rfl⟩
    | fail
end
end Go.Eng
end
section
namespace Go.Eng
open Go.Proofs
set_option linter.unusedVariables false
set_option linter.unusedSimpArgs false
set_option maxRecDepth 100000
section
variable (n l:Nat) (z:Nat→Int) (H:Heap)
theorem whoV_ok (h:whoE l z=0):whoV l z=.tup [.ptrT (some 0) (.G [slA 7 l (oY z l)]) 0,.int .i64 0]:=by unfold whoV;rw[if_pos h];rfl
theorem bs_len (z:Nat→Int):∀ (k:Nat) (L:List Int),(bsS z k L).length≤k
 | 0,_=>Nat.zero_le _
 | k+1,[]=>Nat.zero_le _
 | k+1,a::r=>by
   show (bsS z k _).length+1≤_
   have:=bs_len z k (kpt (pB z (bHi z (lsZ z (lstO (a::r)) r.length).toNat)) (lstO (a::r)) (r.length+1))
   omega
theorem fw_len:(fwP z (dl (ndM z []) l)).length≤l:=by
 have h1:=bs_len z (dl (ndM z []) l).length (dl (ndM z []) l)
 have h2:=dl_len (ndM z []) l
 unfold fwP;omega
end
end Go.Eng
end
section
namespace Go.Eng
open Go.Proofs
set_option linter.unusedVariables false
set_option linter.unusedSimpArgs false
set_option maxRecDepth 100000
end Go.Eng
end
section
namespace Go.Eng
open Go.Proofs
set_option linter.unusedVariables false
set_option linter.unusedSimpArgs false
set_option maxRecDepth 100000
section
variable (n:Nat) (m:Nat) (g:Nat→Int) (H:Heap) (j:Int) (hm:m≤1000)
include hm
end
theorem dA_sl (L:List Int) (k:Nat) (h:L.length=k+1):dA L=sl1 (k+1) (lstO L) false:=by
 cases L with
 | nil=>simp at h
 | cons a r =>
   simp only[List.length_cons] at h
   have:r.length=k:=by omega
   subst this;rfl
section
variable (n l:Nat) (z:Nat→Int) (m:Nat) (g:Nat→Int) (H:Heap) (j:Nat) (kb:Nat) (hb:Nat→Int) (hl:l≤14) (hm:1≤m∧m≤1000) (hg:∀ j,j<m→okE l z (g j)) (hj:j<l)
include hg in
end
end Go.Eng
end
section
namespace Go.Eng
open Go.Proofs
set_option linter.unusedVariables false
set_option linter.unusedSimpArgs false
set_option maxRecDepth 100000
noncomputable def alL (l:Nat) (z:Nat→Int):List Int:=dl (ndM z []) l
section
variable (n l:Nat) (z:Nat→Int) (H:Heap)
theorem al_len:(alL l z).length=l:=dl_all (fun i _=>by unfold ndM;rw[nd_nil];rfl)
end
end Go.Eng
end
section
namespace Go.Eng
open Go.Proofs
set_option linter.unusedVariables false
set_option linter.unusedSimpArgs false
set_option maxRecDepth 100000
end Go.Eng
end
section
namespace Go.Eng
open Go.Proofs
set_option linter.unusedVariables false
set_option linter.unusedSimpArgs false
set_option maxRecDepth 100000
section
variable (z z':Nat→Int) (φ:Int→Int)
end
end Go.Eng
end
section
namespace Go.Eng
open Go.Proofs
set_option linter.unusedVariables false
set_option linter.unusedSimpArgs false
set_option maxRecDepth 100000
section
variable (n l:Nat) (z:Nat→Int) (H:Heap)
noncomputable def P66 (k:Nat) (f:Nat→Int):Nat:=(fwP f (alL k f)).length
theorem fw_ne {l:Nat} {z:Nat→Int} (h:1≤l):∃ k,(fwP z (alL l z)).length=k+1:=by
 have:=al_len l z
 cases e:alL l z with
 | nil=>rw[e] at this;simp at this;omega
 | cons a r=>exact ⟨_,rfl⟩
end
end Go.Eng
end
section
namespace Go.Eng
open Go.Proofs
set_option linter.unusedVariables false
set_option linter.unusedSimpArgs false
set_option maxRecDepth 100000
theorem blk_ite {cx:Cx} {id:Nat} {B:Code} {fr:Frm} {H:Heap} {e:Bool} {X Y x:Res} (h:(Tr.ite e (Tr.ok X) (Tr.ok Y)).run=some x) (hx:exec cx (.block id B) fr H=some (cond e X.st Y.st)):exec cx (.block id B) fr H=some x.st:=by
 rw[hx]
 rcases Tr.ite_some h with ⟨hc,h⟩ | ⟨hc,h⟩
 · rw[hc,← Tr.ok_some h];rfl
 · rw[hc,← Tr.ok_some h];rfl
theorem cs64 {j:Nat} (h:j<2 ^ 31):addI .i64 (j:Int) (Int.ofNat 1)=((j+1:Nat):Int):=by rw[addI_eq,show Int.ofNat 1=1 from rfl];exact wr_64 (by omega) (by omega)
theorem id1 (j:Nat):idO 0 (j:Int) 1=j:=by rw[idO_eq];omega
section
variable (n k:Nat) (b:Nat→Int) (full:Bool) (H:Heap)
theorem ix_leI (p:Nat→Bool) (k:Nat):leI (Int.ofNat 0) (ixF p k)=exN p k:=by
 rw[leI_eq];unfold ixF
 cases h:exN p k with
 | true =>
   rw[if_pos rfl]
   simp only[Int.ofNat_eq_natCast,decide_eq_true_eq];omega
 | false=>rw[if_neg (by decide)];rfl
end
end Go.Eng
end
section
namespace Go.Eng
open Go.Proofs
set_option linter.unusedVariables false
set_option linter.unusedSimpArgs false
set_option maxRecDepth 100000
end Go.Eng
end
section
namespace Go.Eng
open Go.Proofs
set_option linter.unusedVariables false
set_option linter.unusedSimpArgs false
set_option maxRecDepth 100000
section
variable (n l k:Nat) (z b:Nat→Int) (full:Bool) (H:Heap)
end
end Go.Eng
end
section
namespace Go.Eng
open Go.Proofs
set_option linter.unusedVariables false
set_option linter.unusedSimpArgs false
set_option maxRecDepth 100000
section
variable (n l k:Nat) (z b:Nat→Int) (full:Bool) (H:Heap)
end
end Go.Eng
end
section
namespace Go.Eng
open Go.Proofs
set_option linter.unusedVariables false
set_option linter.unusedSimpArgs false
set_option maxRecDepth 100000
noncomputable def gX (A:List AV) (V:AV):List AV→Option (Prop×AV):=fun x=>some (x=A,V)
noncomputable def tX (t:Ctr) (f:FuncId) (A:List AV) (V:AV):Ctr:=ctG t f (gX A V)
theorem tX_ok {c f:Nat} {t:Ctr} {A:List AV} {V:AV} (ht:t.Ok (cd c)) (h:∀ H,cd c (.fn f) A H=some (V,H)):(tX t f A V).Ok (cd c):=by
 refine ctG_ok ht (fun args p v hg hp H=>?_)
 unfold gX at hg
 simp only[nP] at hg
 obtain ⟨rfl,rfl⟩:=hg
 rw[hp];exact h H
theorem ctW {c:Nat} {t:Ctr} (h:0<c) (ht:t.Ok (cd c)):(ctG t 15 g15).Ok (cd c):=by
 obtain ⟨m,rfl⟩:∃ m,c=m+1:=⟨c-1,by omega⟩
 exact ctWk ht
section
variable (n l k:Nat) (z b:Nat→Int) (full:Bool) (H:Heap)
end
end Go.Eng
end
section
namespace Go.Eng
open Go.Proofs
set_option linter.unusedVariables false
set_option linter.unusedSimpArgs false
set_option maxRecDepth 100000
noncomputable def ct32 (l m k mb:Nat) (z y g b a a2:Nat→Int) (H:Heap):Ctr:=ctE (ctE (tX (tX noCt 62 [slA 5 l z] (.tup [.ptrT (some 0) (.G [slA 7 l y]) 0,.int .i64 0])) 64 [.ptrT (some 0) (.G [slA 7 l y]) 0] (sl1 m g false)) 63 [.ptrT (some 0) (.G [slA 7 l y]) 0,sl1 m g false] (lvE::H) (.ok (.tup [.slcT none (.M [.arr .i64 b mb]) 1 k false,.slc 0 0 0 0 1 k none],lvO 0 k a::H))) 74 [.slc 0 0 0 0 1 k none] (lvO 0 k a::H) (.ok (.tup [],lvO 0 k a2::H))
theorem t63w (n l m p k k2 v2:Nat) (y b a g g2:Nat→Int) (H:Heap):execT (cxD n 63 44) (il noCt n 0) (blkE noBT 0 (fr63 (sl1 m g false) .nils .nils) (l063 l y::lvE::H) (.ok (.normal,hints (fr63 (sl1 p g2 false) (.slc 0 2 v2 0 1 k none) (.slc 0 1 k2 0 1 k none)++[(12,.bool false)]),l163 l k k2 v2 y b a::lvE::H))) noRT (bodyOf Tryz.f63) (hints [(0,.ptrT (some 1) (.G [slA 7 l y]) 0),(1,sl1 m g false)]) (lvE::lvE::H) =
 (fun (Z0:Nat×Blk)=>((fun (Z1:Frm)=>Tr.reqP (Z1=Z1∧{ lock:=false,bs:=[Z0] } :: lvE::H={ lock:=false,bs:=[Z0] } :: lvE::H) (Tr.ok (Ex.ret,[(4,AV.slc 0 2 v2 0 1 k none,none),(5,AV.slc 0 1 k2 0 1 k none,none)],{ lock:=false,bs:=[Z0,(k2,Blk.row (Row.M [Seg.arr .i64 a k])),(v2,Blk.row (Row.M [Seg.arr .i64 b k]))] } :: lvE::H))) [(1,AV.slcT none (Row.M [Seg.arr .i64 g m]) 1 m false),(2,AV.ptr 0 0 0 0),(6,AV.nils),(7,AV.nils)])) (0,Blk.row (Row.G [AV.ptrT (some 1) (Row.G [slA 7 l y]) 0])):=by kernel_rfl
theorem u32 (n l m k mb:Nat) (z y g b a a2:Nat→Int) (H:Heap):bodyT Tryz.prog (withO2 Tryz.prog KtB.kt 100000 63 (cd n)) 100000 32 Tryz.f32 (KtB.kt 32) (il (ct32 l m k mb z y g b a a2 H) n 0) noBT noRT [(slA 5 l z,none)] H =
 (fun (Z0:List AV)=>Tr.reqP ([slA 5 l z]=[slA 5 l z]) (Tr.ite (notB (eqI (Int.ofNat 0) (Int.ofNat 0))) (Tr.ok ((AV.tup [AV.nils,AV.int .i64 (Int.ofNat 0)],none),H)) (Tr.reqP ([AV.ptrT (some 0) (Row.G [slA 7 l y]) 0]=[AV.ptrT (some 0) (Row.G [slA 7 l y]) 0]) (Tr.reqP (Z0=Z0∧lvE::H=lvE::H) (Tr.reqP ([AV.slc 0 0 0 0 1 k none]=[AV.slc 0 0 0 0 1 k none]∧{ lock:=false,bs:=[(0,Blk.row (Row.M [Seg.arr .i64 a k]))] } :: H={ lock:=false,bs:=[(0,Blk.row (Row.M [Seg.arr .i64 a k]))] } :: H) (Tr.req (eqN 0 0) (Tr.req (inO 0 k 0 k) (Tr.ok ((AV.tup [AV.slcT none (Row.M [Seg.arr .i64 (shO a2 0) k]) 1 k false,AV.int .i64 (Int.ofNat 0)],none),H))))))))) [AV.ptrT (some 0) (Row.G [slA 7 l y]) 0,AV.slcT none (Row.M [Seg.arr .i64 g m]) 1 m false]:=by kernel_rfl
theorem u32x (n l:Nat) (z:Nat→Int) (H:Heap) (e:Int):bodyT Tryz.prog (withO2 Tryz.prog KtB.kt 100000 63 (cd n)) 100000 32 Tryz.f32 (KtB.kt 32) (il (tX noCt 62 [slA 5 l z] (.tup [.nilp,.int .i64 e])) n 0) noBT noRT [(slA 5 l z,none)] H =
 Tr.reqP ([slA 5 l z]=[slA 5 l z]) (Tr.ite (notB (eqI e (Int.ofNat 0))) (Tr.ok ((AV.tup [AV.nils,AV.int .i64 e],none),H)) Tr.bad):=by kernel_rfl
end Go.Eng
end
section
namespace Go.Eng
open Go.Proofs
set_option linter.unusedVariables false
set_option linter.unusedSimpArgs false
set_option maxRecDepth 100000
theorem o63 (n l:Nat) (z:Nat→Int) (H:Heap) (h:whoE l z=0) (k:Nat) (hk:(fwP z (alL l z)).length=k+1):∃ b mb,oCall2 Tryz.prog KtB.kt 100000 63 (cd (n+4)) [bookV l z,sl1 l (lstO (alL l z)) false] (lvE::H)=some (.tup [.slcT none (.M [.arr .i64 b mb]) 1 (k+1) false,.slc 0 0 0 0 1 (k+1) none],lvO 0 (k+1) (lstO (fwA l z))::H):=by
 obtain ⟨h1,h2⟩:=who_ok l z h
 obtain ⟨hl,_⟩:=chk_odd h1
 have hm:∀ x ∈ alL l z,okE l z x:=fun x hx=>by
  obtain ⟨i,rfl,h5,_⟩:=(dl_mem _ _ _).1 hx
  exact ⟨by omega,by omega,by rw[Int.toNat_natCast];exact h2 i h5⟩
 have hal:=al_len l z
 obtain ⟨y,hx,g',rfl⟩:=l63 n l z (lvE::H) hl.2 (alL l z) (lstO (alL l z)) (by omega) (fun _ _=>rfl) hm
 rw[show bsS z (alL l z).length (alL l z)=fwP z (alL l z) from rfl,hal] at hx
 have eB:fwB l z=(fwP z (alL l z)).map (·.1):=rfl
 have eA:fwA l z=(fwP z (alL l z)).map (·.2):=rfl
 rw[eA]
 generalize fwP z (alL l z)=S at *
 cases S with
 | nil=>simp at hk
 | cons a r =>
   have hr:r.length=k:=by simpa using hk
   subst hr
   have hx:exec (cxD (n+4) 63 44) (.block 0 (.loop (part Tryz.f63 [1,1,1,0,0,0]))) (fr63 (sl1 l (lstO (alL l z)) false) .nils .nils) (l063 l (oY z l)::lvE::H)=some (.normal,fr63 (sl1 0 g' false) (.slc 0 2 0 0 1 (r.length+1) none) (.slc 0 1 r.length 0 1 (r.length+1) none)++[(12,.bool false)],l163 l (r.length+1) r.length 0 (oY z l) (lstO ((a::r).map (·.1))) (lstO ((a::r).map (·.2)))::lvE::H):=hx
   obtain ⟨x,hb,rfl⟩:=ex_all (Q:=fun x=>x=(.ret,[(4,.slc 0 2 0 0 1 (r.length+1) none),(5,.slc 0 1 r.length 0 1 (r.length+1) none)],l163 l (r.length+1) r.length 0 (oY z l) (lstO ((a::r).map (·.1))) (lstO ((a::r).map (·.2)))::lvE::H)) (fr:=[(0,.ptrT (some 1) (.G [slA 7 l (oY z l)]) 0),(1,sl1 l (lstO (alL l z)) false)]) (t63w (n+4) l l 0 (r.length+1) r.length 0 (oY z l) (lstO ((a::r).map (·.1))) (lstO ((a::r).map (·.2))) (lstO (alL l z)) g' H) (il_no0 _) (blkE_ok (noBT_ok _ _) b63 (fun x h=>by rw[← Tr.ok_some h];simp only[Res.st,hints_eq];exact hx)) (noRT_ok _ _) (by
    repeat' first | (refine Tr.all_ite (fun hc=>?_) (fun hc=>?_)<;>(try simp (disch:=omega) only[nV,nW] at hc)<;>try omega) | (refine Tr.all_req ?_ ?_;· (try simp (disch:=omega) only[nV,nW]);try omega) | (refine Tr.all_reqP ?_ ?_;· first | exact trivial | rfl | exact ⟨rfl,rfl⟩ | exact ⟨rfl,rfl,rfl⟩ | (simp (disch:=omega) only[nV,nW];done) | ((try simp (disch:=omega) only[nV,nW]);omega)) | fail
    all_goals first
     | exact Tr.all_ok rfl
     | fail)
   have e44:Tryz.f63.ntmps=44:=by kernel_rfl
   have eb:Tryz.f63.body=some (bodyOf Tryz.f63):=by kernel_rfl
   have er:Tryz.f63.results.toList=[.tmp 4,.tmp 5]:=by kernel_rfl
   unfold oCall2
   rw[Tryz.func63];dsimp only
   rw[eb];dsimp only
   rw[if_pos (by rw[e44];rfl),execX_eq,e44]
   rw[show exec (⟨Tryz.prog,cd (n+4),100000,63,44,KtB.kt 63,none⟩:Cx) (bodyOf Tryz.f63) (argFrm 0 [bookV l z,sl1 l (lstO (alL l z)) false]) (⟨false,[]⟩::lvE::H)=_ from hb]
   dsimp only
   rw[er]
   have hq:hRow (l163 l (r.length+1) r.length 0 (oY z l) (lstO ((a::r).map (fun x:Int×Int=>x.1))) (lstO ((a::r).map (fun x:Int×Int=>x.2)))::lvE::H) 0 1 r.length=some (.M [.arr .i64 (lstO ((a::r).map (fun x:Int×Int=>x.2))) (r.length+1)]):=by
    unfold l163;simp[hRow,hGet,nthBlk]
   refine ⟨fun j=>lstO ((a::r).map (fun x:Int×Int=>x.1)) (0+j),(r.length+1)*1,?_⟩
   show (match hRow (l163 l (r.length+1) r.length 0 (oY z l) (lstO ((a::r).map (fun x:Int×Int=>x.1))) (lstO ((a::r).map (fun x:Int×Int=>x.2)))::lvE::H) 0 1 r.length with
    | some q=>if false=true then none else some (frzV (setBlk (l163 l (r.length+1) r.length 0 (oY z l) (lstO ((a::r).map (fun x:Int×Int=>x.1))) (lstO ((a::r).map (fun x:Int×Int=>x.2)))).bs 1 ((hGet (l163 l (r.length+1) r.length 0 (oY z l) (lstO ((a::r).map (fun x:Int×Int=>x.1))) (lstO ((a::r).map (fun x:Int×Int=>x.2)))::lvE::H) 0 1).1,.dead)) 5 (.tup [.slc 0 2 0 0 1 (r.length+1) none,.slc 1 0 0 0 1 (r.length+1) none]),hPushAt (lvE::H) 0 (.row (dnR 1 q)))
    | none=>none)=_
   rw[hq]
   dsimp only
   rw[if_neg (by decide)]
   congr 2
   simp[frzV,nthBlk,setBlk,l163,Row.sub,Row.len,lenM,segLen,arrs]
theorem map_lst (A:List Int):((List.range A.length).map fun q=>lstO A (0+q))=A:=by
 apply List.ext_getElem (by simp)
 intro i h1 h2
 simp only[List.getElem_map,List.getElem_range,Nat.zero_add,lst_at,List.getD_eq_getElem?_getD,List.getElem?_eq_getElem h2,Option.getD_some]
theorem rw_srt (A:List Int):rwZ srtG (lstO A) 0 A.length=lstO (srtG A):=by
 funext x
 have hl:(srtG A).length=A.length:=List.length_mergeSort A
 unfold rwZ
 rw[map_lst,lst_at,lst_at]
 by_cases h:x<A.length
 · rw[if_pos (by omega),Nat.sub_zero]
 · rw[if_neg (by omega),List.getD_eq_getElem?_getD,List.getD_eq_getElem?_getD,List.getElem?_eq_none (by omega),List.getElem?_eq_none (by omega)]
theorem c74 (n k:Nat) (a:Nat→Int) (H:Heap) (h1:0<k) (h2:k<4611686018427387904):cd (n+1) (.fn 74) [.slc 0 0 0 0 1 k none] (lvO 0 k a::H)=some (.tup [],lvO 0 k (rwZ srtG a 0 k)::H):=by
 have:oraD (cd n) 74 [.slc 0 0 0 0 1 k none] (lvO 0 k a::H)=some (.tup [],lvO 0 k (rwZ srtG a 0 k)::H):=by
  show rowC srtG [.slc 0 0 0 0 1 k none] (lvO 0 k a::H)=_
  rw[show rowC srtG [.slc 0 0 0 0 1 k none] (lvO 0 k a::H)=(if hLock (lvO 0 k a::H) 0=false∧0<k∧k<4611686018427387904∧0+k≤k then some (.tup [],hSet (lvO 0 k a::H) 0 0 (0,.row (.M [.arr .i64 (rwZ srtG a 0 k) k]))) else none) from rfl]
  rw[if_pos ⟨rfl,h1,h2,by omega⟩]
  rfl
 unfold cd
 rw[show callN Tryz.prog oraD KtB.kt 100000 (n+1) (.fn 74) [.slc 0 0 0 0 1 k none] (lvO 0 k a::H)=(match oraD (cd n) 74 [.slc 0 0 0 0 1 k none] (lvO 0 k a::H) with
  | some r=>some r
  | none=>_) from rfl,this]
noncomputable def wO (n:Nat):CallT:=withO2 Tryz.prog KtB.kt 100000 63 (cd n)
theorem il_w0 (tab:Ctr) (n:Nat) (ht:tab.Ok (wO n)):(il tab n 0).Ok (wO n) :=
 ⟨by obtain ⟨x,hx⟩:=oraD_mode n;exact ⟨x,hx⟩,fun tgt args H x h=>by
   unfold il inlT at h
   split at h
   · split at h
     · rename_i c hc
       exact ht _ _ hc _ _ _ h
     · exact (Tr.bad_some h).elim
   · exact (Tr.bad_some h).elim⟩
theorem tW_ok {c:CallT} {f:Nat} {t:Ctr} {A:List AV} {V:AV} (ht:t.Ok c) (h:∀ H,c (.fn f) A H=some (V,H)):(tX t f A V).Ok c:=by
 refine ctG_ok ht (fun args p v hg hp H=>?_)
 unfold gX at hg
 simp only[nP] at hg
 obtain ⟨rfl,rfl⟩:=hg
 rw[hp];exact h H
theorem c32_of {n:Nat} {args:List AV} {H:Heap} {r:AV×Heap} (h:runC Tryz.prog KtB.kt 100000 32 (wO n) args H=some r):cd (n+1) (.fn 32) args H=some r:=by
 have:oraD (cd n) 32 args H=some r:=h
 unfold cd
 rw[show callN Tryz.prog oraD KtB.kt 100000 (n+1) (.fn 32) args H=(match oraD (cd n) 32 args H with
  | some r=>some r
  | none=>_) from rfl,this]
theorem c32_all {n:Nat} {callR:CallTr} {args:List HV} {H H':Heap} {v:AV} {T:Tr (HV×Heap)} (e:bodyT Tryz.prog (wO n) 100000 32 Tryz.f32 (KtB.kt 32) callR noBT noRT args H=T) (hle:Nat.ble args.length Tryz.f32.ntmps=true) (hC:callR.Ok (wO n)) (h:T.all fun y=>y.1.1=v∧y.2=H'):cd (n+1) (.fn 32) (avs args) H=some (v,H'):=by
 obtain ⟨y,h1,h2,h3⟩:=h
 refine c32_of ?_
 rw[runC_T (fn:=Tryz.f32) Tryz.func32 rfl hle hC (noBT_ok _ _) (noRT_ok _ _) (by rw[e];exact h1),h2,h3]
noncomputable def apPV (l:Nat) (z:Nat→Int):AV:=if whoE l z=0 then .tup [dA (srtG (fwA l z)),.int .i64 0] else .tup [.nils,.int .i64 (whoE l z)]
theorem srt_len (L:List Int):(srtG L).length=L.length:=List.length_mergeSort L
theorem c32 (n l:Nat) (z:Nat→Int) (H:Heap):cd (n+13) (.fn 32) [slA 5 l z] H=some (apPV l z,H):=by
 have hc:∀ H,wO (n+12) (.fn 62) [slA 5 l z] H=some (whoV l z,H):=fun H=>c62 n l z H
 unfold apPV
 by_cases h:whoE l z=0
 · rw[if_pos h]
   rw[whoV_ok l z h] at hc
   obtain ⟨h1,h2⟩:=who_ok l z h
   obtain ⟨hl,_⟩:=chk_odd h1
   have hal:=al_len l z
   have hA:dA (dl (smM z) l)=sl1 l (lstO (alL l z)) false:=by
    rw[sm_nd l z h]
    have:=dA_sl (dl (ndM z []) l) (l-1) (by rw[show (dl (ndM z []) l).length=l from al_len l z];omega)
    rw[this,show l-1+1=l by omega];rfl
   have hd:∀ H,wO (n+12) (.fn 64) [.ptrT (some 0) (.G [slA 7 l (oY z l)]) 0] H=some (sl1 l (lstO (alL l z)) false,H):=fun H=>by rw[← hA];exact c64 (n+8) l z H h1
   obtain ⟨k,hk⟩:=fw_ne (z:=z) hl.1
   have hlen:=fw_len l z
   have hk2:k+1≤l:=by rw[← hk];exact hlen
   obtain ⟨b,mb,ho⟩:=o63 (n+8) l z H h k hk
   have ho:wO (n+12) (.fn 63) [.ptrT (some 0) (.G [slA 7 l (oY z l)]) 0,sl1 l (lstO (alL l z)) false] (lvE::H)=some (.tup [.slcT none (.M [.arr .i64 b mb]) 1 (k+1) false,.slc 0 0 0 0 1 (k+1) none],lvO 0 (k+1) (lstO (fwA l z))::H):=ho
   have hAl:(fwA l z).length=k+1:=by unfold fwA;rw[List.length_map];exact hk
   have h74:wO (n+12) (.fn 74) [.slc 0 0 0 0 1 (k+1) none] (lvO 0 (k+1) (lstO (fwA l z))::H)=some (.tup [],lvO 0 (k+1) (lstO (srtG (fwA l z)))::H):=by
    have:=c74 (n+11) (k+1) (lstO (fwA l z)) H (by omega) (by omega)
    rw[← hAl,rw_srt,hAl] at this
    rw[← hAl] at this ⊢
    exact this
   rw[dA_sl _ k (by rw[srt_len];exact hAl)]
   refine c32_all (u32 (n+12) l l (k+1) mb z (oY z l) (lstO (alL l z)) b (lstO (fwA l z)) (lstO (srtG (fwA l z))) H) rfl (il_w0 _ (n+12) (ctE_ok (ctE_ok (tW_ok (tW_ok (noCt_ok _) hc) hd) (fun x hx=>by rw[← Tr.ok_some hx];exact ho)) (fun x hx=>by rw[← Tr.ok_some hx];exact h74))) ?_
   rw[shO_zero]
   repeat' first | (refine Tr.all_ite (fun hc=>?_) (fun hc=>?_)<;>(try simp (disch:=omega) only[nV,nW] at hc)<;>try omega) | (refine Tr.all_req ?_ ?_;· (try simp (disch:=omega) only[nV,nW]);try omega) | (refine Tr.all_reqP ?_ ?_;· first | exact trivial | rfl | exact ⟨rfl,rfl⟩ | exact ⟨rfl,rfl,rfl⟩ | (simp (disch:=omega) only[nV,nW];done) | ((try simp (disch:=omega) only[nV,nW]);omega)) | fail
   all_goals first
    | exact Tr.all_ok ⟨rfl,rfl⟩
    | fail
 · rw[if_neg h]
   have hv:whoV l z=.tup [.nilp,.int .i64 (whoE l z)]:=by unfold whoV;rw[if_neg h]
   rw[hv] at hc
   refine c32_all (u32x (n+12) l z H (whoE l z)) rfl (il_w0 _ (n+12) (tW_ok (noCt_ok _) hc)) ?_
   repeat' first | (refine Tr.all_ite (fun hc=>?_) (fun hc=>?_)<;>(try simp (disch:=omega) only[nV,nW] at hc)<;>try omega) | (refine Tr.all_req ?_ ?_;· (try simp (disch:=omega) only[nV,nW]);try omega) | (refine Tr.all_reqP ?_ ?_;· first | exact trivial | rfl | exact ⟨rfl,rfl⟩ | exact ⟨rfl,rfl,rfl⟩ | (simp (disch:=omega) only[nV,nW];done) | ((try simp (disch:=omega) only[nV,nW]);omega)) | fail
   all_goals first
    | exact Tr.all_ok ⟨rfl,rfl⟩
    | fail
end Go.Eng
end
