/- Bath: the fewest baths as they are defined. -/
import Derived.Test.YtigmfpmabgekoaaGreatV10Bb4x4
section
namespace Go.Eng
open Go.Proofs
set_option linter.unusedVariables false
set_option linter.unusedSimpArgs false
set_option maxRecDepth 100000
noncomputable def doB (z:Nat→Int) (B:List Int) (i:Nat):Bool:=dnN z (lstO B) B.length i
theorem lst_at (L:List Int) (j:Nat):lstO L j=L.getD j 0:=congrFun (lstO_eq L) j
theorem doB_iff (z:Nat→Int) (B:List Int) (i:Nat):doB z B i=true↔∃ b,b ∈ B∧dnB z b i=true:=by
 unfold doB dnN
 rw[exN_iff]
 constructor
 · rintro ⟨j,h1,h2⟩;exact ⟨_,lst_get B j h1,h2⟩
 · rintro ⟨b,h1,h2⟩
   obtain ⟨j,hj,rfl⟩:=List.getElem_of_mem h1
   refine ⟨j,hj,?_⟩
   rw[lst_at,List.getD_eq_getElem?_getD,List.getElem?_eq_getElem hj]
   exact h2
noncomputable def ndM (z:Nat→Int) (B:List Int) (i:Nat):Int:=if doB z B i=true then 0 else 1
theorem dl_congr {m p:Nat→Int} {j:Nat} (h:∀ i,i<j→(m i=1↔p i=1)):dl m j=dl p j:=by
 induction j with
 | zero=>rfl
 | succ j ih =>
   show (if m j=1 then dl m j++[(j:Int)] else dl m j)=(if p j=1 then dl p j++[(j:Int)] else dl p j)
   rw[ih (fun i hi=>h i (by omega))]
   have:=h j (by omega)
   by_cases e:m j=1
   · rw[if_pos e,if_pos (this.1 e)]
   · rw[if_neg e,if_neg (fun x=>e (this.2 x))]
theorem dl_mem (m:Nat→Int) (j:Nat) (x:Int):x ∈ dl m j↔∃ i:Nat,x=i∧i<j∧m i=1:=by
 induction j with
 | zero=>simp[dl]
 | succ j ih =>
   show x ∈ (if m j=1 then dl m j++[(j:Int)] else dl m j)↔_
   constructor
   · intro h
     split at h
     · rename_i e
       rcases List.mem_append.1 h with h | h
       · obtain ⟨i,h1,h2,h3⟩:=ih.1 h
         exact ⟨i,h1,by omega,h3⟩
       · rw[List.mem_singleton] at h;exact ⟨j,h,by omega,e⟩
     · obtain ⟨i,h1,h2,h3⟩:=ih.1 h
       exact ⟨i,h1,by omega,h3⟩
   · rintro ⟨i,h1,h2,h3⟩
     by_cases e:i<j
     · have:=ih.2 ⟨i,h1,e,h3⟩
       split
       · exact List.mem_append_left _ this
       · exact this
     · have:i=j:=by omega
       subst this
       rw[if_pos h3,h1];simp
theorem lst_pre (L:List Int) (x:Int) (j:Nat) (h:j<L.length):lstO (L++[x]) j=lstO L j:=by
 rw[lst_at,lst_at,List.getD_eq_getElem?_getD,List.getD_eq_getElem?_getD,List.getElem?_append_left h]
theorem lst_end (L:List Int) (x:Int):lstO (L++[x]) L.length=x:=by
 rw[lst_at,List.getD_eq_getElem?_getD,List.getElem?_append_right (Nat.le_refl _)];simp
theorem kp_app (P:Int→Bool) (L:List Int) (x:Int):kpt P (lstO (L++[x])) (L.length+1)=if P x=true then kpt P (lstO L) L.length else kpt P (lstO L) L.length++[x]:=by
 show (if P (lstO (L++[x]) L.length)=true then kpt P (lstO (L++[x])) L.length else kpt P (lstO (L++[x])) L.length++[lstO (L++[x]) L.length])=_
 rw[lst_end,kp_congr P (lstO (L++[x])) (lstO L) L.length (fun j hj=>lst_pre L x j hj)]
theorem kp_dl (P:Int→Bool) (m:Nat→Int) (j:Nat):kpt P (lstO (dl m j)) (dl m j).length=dl (fun i=>if m i=1∧P i=false then 1 else 0) j:=by
 induction j with
 | zero=>rfl
 | succ j ih =>
   show kpt P (lstO (if m j=1 then dl m j++[(j:Int)] else dl m j)) (if m j=1 then dl m j++[(j:Int)] else dl m j).length=(if (if m j=1∧P (j:Int)=false then (1:Int) else 0)=1 then dl (fun i=>if m i=1∧P i=false then 1 else 0) j++[(j:Int)] else dl (fun i=>if m i=1∧P i=false then 1 else 0) j)
   by_cases e:m j=1
   · rw[if_pos e,List.length_append]
     simp only[List.length_cons,List.length_nil,Nat.zero_add]
     rw[kp_app,ih]
     cases hp:P (j:Int)<;>simp[e]
   · rw[if_neg e,ih];simp[e]
end Go.Eng
end
section
namespace Go.Eng
open Go.Proofs
set_option linter.unusedVariables false
set_option linter.unusedSimpArgs false
set_option maxRecDepth 100000
section
variable (n l k:Nat) (z y:Nat→Int) (H:Heap)
end
theorem dl_all {m:Nat→Int} {j:Nat} (h:∀ i,i<j→m i=1):(dl m j).length=j:=by
 induction j with
 | zero=>rfl
 | succ j ih =>
   show (if m j=1 then dl m j++[(j:Int)] else dl m j).length=_
   rw[if_pos (h j (by omega)),List.length_append,ih (fun i hi=>h i (by omega))];rfl
theorem nd_nil (z:Nat→Int) (i:Nat):doB z [] i=false:=by
 cases h:doB z [] i with
 | false=>rfl
 | true=>obtain ⟨b,h1,_⟩:=(doB_iff z [] i).1 h;cases h1
noncomputable def fwP (z:Nat→Int) (L:List Int):List (Int×Int):=bsS z L.length L
section
variable (n l:Nat) (z:Nat→Int) (H:Heap)
end
end Go.Eng
end
section
namespace Go.Eng
open Go.Proofs
set_option linter.unusedVariables false
set_option linter.unusedSimpArgs false
set_option maxRecDepth 100000
noncomputable def g63 (l m k:Nat) (y g b a:Nat→Int):List AV→Option (Prop×AV):=fun x=>some (x=[.ptrT (some 0) (.G [slA 7 l y]) 0,sl1 m g false],.tup [sl1 k b false,sl1 k a false])
theorem u23x (n l:Nat) (z:Nat→Int) (H:Heap) (e:Int):bodyT Tryz.prog (cd n) 100000 23 Tryz.f23 (KtB.kt 23) (il (ctG noCt 62 (gO (slA 5 l z) (.tup [.nilp,.int .i64 e]))) n 0) noBT noRT [(slA 5 l z,none)] H =
 Tr.reqP (slA 5 l z=slA 5 l z) (Tr.ite (notB (eqI e (Int.ofNat 0))) (Tr.ok ((AV.tup [AV.nils,AV.int .i64 e],none),H)) Tr.bad):=by kernel_rfl
theorem u23 (n l m k:Nat) (z y g b a:Nat→Int) (H:Heap):bodyT Tryz.prog (cd n) 100000 23 Tryz.f23 (KtB.kt 23) (il (ctG (ctG (ctG noCt 62 (gO (slA 5 l z) (.tup [.ptrT (some 0) (.G [slA 7 l y]) 0,.int .i64 0]))) 64 (gO (.ptrT (some 0) (.G [slA 7 l y]) 0) (sl1 m g false))) 63 (g63 l m k y g b a)) n 0) noBT noRT [(slA 5 l z,none)] H =
 (fun (Z0:List AV)=>Tr.reqP (slA 5 l z=slA 5 l z) (Tr.ite (notB (eqI (Int.ofNat 0) (Int.ofNat 0))) (Tr.ok ((AV.tup [AV.nils,AV.int .i64 (Int.ofNat 0)],none),H)) (Tr.reqP (AV.ptrT (some 0) (Row.G [slA 7 l y]) 0=AV.ptrT (some 0) (Row.G [slA 7 l y]) 0) (Tr.reqP (Z0=Z0) (Tr.req (mkO (Int.ofNat k) (Int.ofNat k) 8) (Tr.req (leN (minN k (toN (Int.ofNat k))) k) (Tr.req (leN (addO 0 (minN k (toN (Int.ofNat k)))) k) (Tr.req (eqN 0 0) (Tr.req (inO 0 (minN k (toN (Int.ofNat k))) 0 (toN (Int.ofNat k))) (Tr.req (eqN 0 0) (Tr.req (inO 0 (toN (Int.ofNat k)) 0 (toN (Int.ofNat k))) (Tr.ok ((AV.tup [AV.slcT none (Row.M [Seg.arr .i64 (shO (copO (fun x=>Int.ofNat 0) 0 b (minN k (toN (Int.ofNat k)))) 0) (toN (Int.ofNat k))]) 1 (toN (Int.ofNat k)) (eqN (toN (Int.ofNat k)) (toN (Int.ofNat k))),AV.int .i64 (Int.ofNat 0)],none),H))))))))))))) [AV.ptrT (some 0) (Row.G [slA 7 l y]) 0,AV.slcT none (Row.M [Seg.arr .i64 g m]) 1 m false]:=by kernel_rfl
def noB (z:Nat→Int) (j:Nat):Bool:=decide (bHi z j<bLo z j)
section
variable (n l:Nat) (z:Nat→Int) (H:Heap)
theorem no_all:exN (noB z) l=false↔∀ i,i<l→bLo z i≤bHi z i:=by
 constructor
 · intro h i hi
   apply Int.not_lt.1
   intro hc
   have:exN (noB z) l=true:=(exN_iff _ _).2 ⟨i,hi,by unfold noB;rw[decide_eq_true hc]⟩
   rw[h] at this;cases this
 · intro h
   cases hx:exN (noB z) l with
   | false=>rfl
   | true =>
     obtain ⟨i,h1,h2⟩:=(exN_iff _ _).1 hx
     unfold noB at h2
     have:=h i h1
     rw[decide_eq_true_eq] at h2
     omega
theorem dl_lt {m:Nat→Int} {j i:Nat} (hi:i<j) (h:m i≠1):(dl m j).length<j:=by
 induction j with
 | zero=>omega
 | succ j ih =>
   show (if m j=1 then dl m j++[(j:Int)] else dl m j).length < _
   have:=dl_len m j
   by_cases e:i<j
   · have:=ih e
     split
     · rw[List.length_append];simp only[List.length_cons,List.length_nil];omega
     · omega
   · have:i=j:=by omega
     subst this
     rw[if_neg h];omega
theorem who_eq:whoE l z=if chkO l z≠0 then chkO l z else if exN (noB z) l=true then 22 else 0:=by
 unfold whoE
 by_cases h:chkO l z≠0
 · rw[if_pos h,if_pos h]
 · rw[if_neg h,if_neg h]
   by_cases h2:exN (noB z) l=true
   · rw[if_pos h2]
     obtain ⟨i,h3,h4⟩:=(exN_iff _ _).1 h2
     unfold noB at h4
     rw[decide_eq_true_eq] at h4
     rw[if_pos (dl_lt h3 (by unfold smM;rw[if_neg (by omega)];decide))]
   · have h3:=(no_all l z).1 (by simpa using h2)
     rw[if_neg h2,if_neg]
     rw[dl_all (fun i hi=>by unfold smM;rw[if_pos (h3 i hi)])]
     omega
theorem who_ok (h:whoE l z=0):chkO l z=0∧∀ i,i<l→bLo z i≤bHi z i:=by
 rw[who_eq] at h
 by_cases h1:chkO l z≠0
 · rw[if_pos h1] at h;exact absurd h h1
 · rw[if_neg h1] at h
   refine ⟨by simpa using h1,(no_all l z).1 ?_⟩
   cases h2:exN (noB z) l with
   | false=>rfl
   | true=>rw[h2,if_pos rfl] at h;cases h
theorem sm_nd (h:whoE l z=0):dl (smM z) l=dl (ndM z []) l:=by
 obtain ⟨_,h2⟩:=who_ok l z h
 refine dl_congr (fun i hi=>?_)
 unfold smM ndM
 rw[if_pos (h2 i hi),nd_nil];simp
noncomputable def fwB (l:Nat) (z:Nat→Int):List Int:=(fwP z (dl (ndM z []) l)).map (·.1)
noncomputable def fwA (l:Nat) (z:Nat→Int):List Int:=(fwP z (dl (ndM z []) l)).map (·.2)
end
end Go.Eng
end
section
namespace Go.Eng
open Go.Proofs
set_option linter.unusedVariables false
set_option linter.unusedSimpArgs false
set_option maxRecDepth 100000
theorem ct63_ok {l m k':Nat} {k:Nat} {t:Ctr} {y g b a:Nat→Int} (ht:t.Ok (cd k)) (h:∀ H,cd k (.fn 63) [.ptrT (some 0) (.G [slA 7 l y]) 0,sl1 m g false] H=some (.tup [sl1 k' b false,sl1 k' a false],H)):(ctG t 63 (g63 l m k' y g b a)).Ok (cd k):=by
 refine ctG_ok ht (fun args p v hg hp H=>?_)
 unfold g63 at hg
 simp only[nP] at hg
 obtain ⟨rfl,rfl⟩:=hg
 rw[hp];exact h H
noncomputable def cpZ (B:List Int):Nat→Int:=copO (fun x=>Int.ofNat 0) 0 (lstO B) B.length
theorem cp_at (B:List Int) (j:Nat) (h:j<B.length):cpZ B j=lstO B j:=by
 unfold cpZ;rw[copO_eq];unfold copZ;rw[if_pos (by omega)];simp
noncomputable def bsPV (l:Nat) (z:Nat→Int):AV:=if whoE l z=0 then .tup [sl1 (fwB l z).length (cpZ (fwB l z)) true,.int .i64 0] else .tup [.nils,.int .i64 (whoE l z)]
section
variable (n l:Nat) (z:Nat→Int) (H:Heap)
theorem whoV_ok (h:whoE l z=0):whoV l z=.tup [.ptrT (some 0) (.G [slA 7 l (oY z l)]) 0,.int .i64 0]:=by unfold whoV;rw[if_pos h];rfl
theorem c63w (h:whoE l z=0):cd (n+5) (.fn 63) [bookV l z,dA (dl (smM z) l)] H=some (.tup [dA (fwB l z),dA (fwA l z)],H):=by
 obtain ⟨h1,h2⟩:=who_ok l z h
 obtain ⟨hl,_⟩:=chk_odd h1
 have e:=sm_nd l z h
 have hN:(dl (ndM z []) l).length=l:=dl_all (fun i _=>by unfold ndM;rw[nd_nil];rfl)
 have hm:∀ x ∈ dl (ndM z []) l,okE l z x:=fun x hx=>by
  obtain ⟨i,rfl,h5,_⟩:=(dl_mem _ _ _).1 hx
  exact ⟨by omega,by omega,by rw[Int.toNat_natCast];exact h2 i h5⟩
 have:=c63 n l z H (by omega) (dl (ndM z []) l) (lstO (dl (ndM z []) l)) (by omega) (fun _ _=>rfl) hm
 rw[e]
 cases hL:dl (ndM z []) l with
 | nil=>rw[hL] at hN;simp at hN;omega
 | cons a r=>rw[hL] at this;unfold fwB fwA fwP;rw[hL];exact this
theorem fw_cons (h:whoE l z=0):∃ a r,fwP z (dl (ndM z []) l)=a::r:=by
 obtain ⟨h1,h2⟩:=who_ok l z h
 obtain ⟨hl,_⟩:=chk_odd h1
 have hN:(dl (ndM z []) l).length=l:=dl_all (fun i _=>by unfold ndM;rw[nd_nil];rfl)
 unfold fwP
 cases e:dl (ndM z []) l with
 | nil=>rw[e] at hN;simp at hN;omega
 | cons a r=>exact ⟨_,_,rfl⟩
theorem bs_len (z:Nat→Int):∀ (k:Nat) (L:List Int),(bsS z k L).length≤k
 | 0,_=>Nat.zero_le _
 | k+1,[]=>Nat.zero_le _
 | k+1,a::r=>by
   show (bsS z k _).length+1≤_
   have:=bs_len z k (kpt (pB z (bHi z (lsZ z (lstO (a::r)) r.length).toNat)) (lstO (a::r)) (r.length+1))
   omega
theorem fw_len:(fwP z (dl (ndM z []) l)).length≤l:=by
 have h1:=bs_len z (dl (ndM z []) l).length (dl (ndM z []) l)
 have h2:=dl_len (ndM z []) l
 unfold fwP;omega
theorem c23:cd (n+13) (.fn 23) [slA 5 l z] H=some (bsPV l z,H):=by
 have hc:∀ k H,cd (n+12+k) (.fn 62) [slA 5 l z] H=some (whoV l z,H):=fun k H=>by rw[show n+12+k=n+k+12 by omega];exact c62 _ l z H
 unfold bsPV
 by_cases h:whoE l z=0
 · rw [if_pos h]
   rw[whoV_ok l z h] at hc
   obtain ⟨h1,h2⟩:=who_ok l z h
   obtain ⟨hl,_⟩:=chk_odd h1
   have h63:=fun k H=>c63w (n+7+k) l z H h
   have hd:∀ k H,cd (n+12+k) (.fn 64) [.ptrT (some 0) (.G [slA 7 l (oY z l)]) 0] H=some (dA (dl (smM z) l),H):=fun k H=>by rw[show n+12+k=n+8+k+4 by omega];exact c64 _ l z H h1
   have hlen:=fw_len l z
   obtain ⟨p,q,e⟩:=fw_cons l z h
   have hN:(dl (smM z) l).length=l:=by rw[sm_nd l z h];exact dl_all (fun i _=>by unfold ndM;rw[nd_nil];rfl)
   have eB:fwB l z=p.1::q.map (·.1):=by unfold fwB;rw[e];rfl
   have eA:fwA l z=p.2::q.map (·.2):=by unfold fwA;rw[e];rfl
   have lA:(q.map (·.2)).length=q.length:=by simp
   have lB:(q.map (·.1)).length=q.length:=by simp
   rw[e] at hlen
   simp only[List.length_cons] at hlen
   cases e2:dl (smM z) l with
   | nil=>rw[e2] at hN;simp at hN;omega
   | cons a r =>
     rw[e2] at hd h63 hN
     simp only[List.length_cons] at hN
     rw[eB,eA] at h63
     rw[eB]
     generalize hC:p.1::q.map (·.1)=B at *
     have hk:B.length=q.length+1:=by rw[← hC];simp
     have hdB:dA B=sl1 (q.length+1) (lstO B) false:=by rw[← hC];show AV.slcT none (.M [.arr .i64 _ ((q.map (·.1)).length+1)]) 1 ((q.map (·.1)).length+1) false=_;rw[lB]
     have hdA:dA (p.2::q.map (·.2))=sl1 (q.length+1) (lstO (p.2::q.map (·.2))) false:=by show AV.slcT none (.M [.arr .i64 _ ((q.map (·.2)).length+1)]) 1 ((q.map (·.2)).length+1) false=_;rw[lA]
     rw[hdB,hdA] at h63
     refine fn_all (n:=n+12) Tryz.func23 rfl rfl rfl (u23 (n+12) l (r.length+1) (q.length+1) z (oY z l) (lstO (a::r)) (lstO B) (lstO (p.2::q.map (·.2))) H) (il_ok _ (n+12) 0 (fun k=>ct63_ok (ctV1 (ctV1 (noCt_ok _) (hc k)) (hd k)) (fun H=>by rw[show n+12+k=n+7+k+5 by omega];exact h63 k H))) (noBT_ok _ _) (noRT_ok _ _) ?_
     have t1:toN (Int.ofNat (q.length+1))=q.length+1:=toN_eq _
     have t2:minN (q.length+1) (q.length+1)=q.length+1:=by rw[minN_eq];omega
     rw[t1,t2,shO_zero]
     repeat' first | (refine Tr.all_ite (fun hc=>?_) (fun hc=>?_)<;>(try simp (disch:=omega) only[nV,nW] at hc)<;>try omega) | (refine Tr.all_req ?_ ?_;· (try simp (disch:=omega) only[nV,nW]);try omega) | (refine Tr.all_reqP ?_ ?_;· first | exact trivial | rfl | exact ⟨rfl,rfl⟩ | exact ⟨rfl,rfl,rfl⟩ | (simp (disch:=omega) only[nV,nW];done) | ((try simp (disch:=omega) only[nV,nW]);omega)) | fail
     all_goals first
      | (refine Tr.all_ok ⟨?_,rfl⟩
         show AV.tup [.slcT none (.M [.arr .i64 _ (q.length+1)]) 1 (q.length+1) (eqN (q.length+1) (q.length+1)),_]=_
         unfold cpZ
         rw[hk,beqN_self];rfl)
      | fail
 · rw[if_neg h]
   have hv:whoV l z=.tup [.nilp,.int .i64 (whoE l z)]:=by unfold whoV;rw[if_neg h]
   rw[hv] at hc
   refine fn_all (n:=n+12) Tryz.func23 rfl rfl rfl (u23x (n+12) l z H (whoE l z)) (il_ok _ (n+12) 0 (fun k=>ctV1 (noCt_ok _) (hc k))) (noBT_ok _ _) (noRT_ok _ _) ?_
   repeat' first | (refine Tr.all_ite (fun hc=>?_) (fun hc=>?_)<;>(try simp (disch:=omega) only[nV,nW] at hc)<;>try omega) | (refine Tr.all_req ?_ ?_;· (try simp (disch:=omega) only[nV,nW]);try omega) | (refine Tr.all_reqP ?_ ?_;· first | exact trivial | rfl | exact ⟨rfl,rfl⟩ | exact ⟨rfl,rfl,rfl⟩ | (simp (disch:=omega) only[nV,nW];done) | ((try simp (disch:=omega) only[nV,nW]);omega)) | fail
   all_goals first
    | exact Tr.all_ok ⟨rfl,rfl⟩
    | fail
end
end Go.Eng
end
section
namespace Go.Eng
open Go.Proofs
set_option linter.unusedVariables false
set_option linter.unusedSimpArgs false
set_option maxRecDepth 100000
noncomputable def fr25 (l:Nat) (y:Nat→Int) (A B L:AV) (j:Int):Frm:=[(4,.ptrT (some 0) (.G [slA 7 l y]) 0),(6,A),(7,B),(9,L),(31,.int .i64 (Int.ofNat l)),(32,.int .i64 j)]
noncomputable def ct25 (c K m p:Nat) (g:Nat→Int) (L1 L2:Lvl) (H:Heap) (g63:List AV→Option (Prop×AV)):Ctr:=ctG (ctE (addCt noCt 68 (ct68 m g)) 67 [.slc 0 K 0 0 1 m none,.fn (.func 69) [] [.ptr 0 c 0 0]] (L1::H) (.ok (.slc 0 K 0 0 1 p none,L2::H))) 63 g63
noncomputable def g63n (l m:Nat) (y g:Nat→Int):List AV→Option (Prop×AV):=fun x=>some (x=[.ptrT (some 0) (.G [slA 7 l y]) 0,sl1 m g false],.tup [.nils,.nils])
theorem t25a (n l m p k kb:Nat) (y g g2 b a hb:Nat→Int) (H:Heap) (j:Int):execT (cxD n 25 56) (il (ct25 0 1 m p g (lvc (0,.row (.I .i64 [j])) m g) (lvc (0,.row (.I .i64 [j])) m g2) H (g63 l p k y (shO g2 0) b a)) n 0) noBT noRT (part Tryz.f25 [1,1,1,1,1,1,0,1,0,0]) (hints (fr25 l y (sl1 m g false) (sl1 kb hb false) .nils j)) (lvE::H) =
 (fun (Z0:Nat×AV×Option Nat)=>((fun (Z1:Nat×AV×Option Nat)=>((fun (Z2:Lvl)=>((fun (Z3:List AV)=>Tr.ite (ltI j (Int.ofNat l)) (Tr.reqP ([AV.slcT none (Row.M [Seg.arr .i64 g m]) 1 m false]=[AV.slcT none (Row.M [Seg.arr .i64 g m]) 1 m false]) (Tr.reqP ([AV.slc 0 1 0 0 1 m none,AV.fn (Fn.func 69) [] [AV.ptr 0 0 0 0]]=[AV.slc 0 1 0 0 1 m none,AV.fn (Fn.func 69) [] [AV.ptr 0 0 0 0]]∧Z2::H=Z2::H) (Tr.req (eqN 0 0) (Tr.req (inO 0 p 0 m) (Tr.reqP (Z3=Z3) (Tr.ite (ltI (Int.ofNat k) (Int.ofNat kb)) (Tr.req (roomO 0 1 8) (Tr.req (eqN 0 0) (Tr.req (leN 1 1) (Tr.ok (Ex.normal,[(4,AV.ptrT (some 0) (Row.G [slA 7 l y]) 0,none),Z1,Z0,(9,AV.slc 0 3 0 0 1 1 none,none),(31,AV.int .i64 (Int.ofNat l),none),(32,AV.int .i64 (addI .i64 j (Int.ofNat 1)),none)],{ lock:=false,bs:=[(0,Blk.row (Row.I .i64 [j])),(0,Blk.dead),(0,Blk.row (Row.I .i64 [j])),(0,Blk.row (Row.M [Seg.arr .i64 (lstO [j]) 1]))] } :: H))))) (Tr.ok (Ex.normal,[(4,AV.ptrT (some 0) (Row.G [slA 7 l y]) 0,none),Z1,Z0,(9,AV.nils,none),(31,AV.int .i64 (Int.ofNat l),none),(32,AV.int .i64 (addI .i64 j (Int.ofNat 1)),none)],{ lock:=false,bs:=[(0,Blk.row (Row.I .i64 [j])),(0,Blk.dead)] } :: H)))))))) (Tr.ok (Ex.exit 0,[(4,AV.ptrT (some 0) (Row.G [slA 7 l y]) 0,none),Z1,Z0,(9,AV.nils,none),(31,AV.int .i64 (Int.ofNat l),none),(32,AV.int .i64 j,none),(33,AV.bool false,some 1)],lvE::H))) [AV.ptrT (some 0) (Row.G [slA 7 l y]) 0,AV.slcT none (Row.M [Seg.arr .i64 (shO g2 0) p]) 1 p false])) { lock:=false,bs:=[(0,Blk.row (Row.I .i64 [j])),(0,Blk.row (Row.M [Seg.arr .i64 g m]))] })) (6,AV.slcT none (Row.M [Seg.arr .i64 g m]) 1 m false,none))) (7,AV.slcT none (Row.M [Seg.arr .i64 hb kb]) 1 kb false,none):=by kernel_rfl
theorem t25z (n l m p kb:Nat) (y g g2 hb:Nat→Int) (H:Heap) (j:Int):execT (cxD n 25 56) (il (ct25 0 1 m p g (lvc (0,.row (.I .i64 [j])) m g) (lvc (0,.row (.I .i64 [j])) m g2) H (g63n l p y (shO g2 0))) n 0) noBT noRT (part Tryz.f25 [1,1,1,1,1,1,0,1,0,0]) (hints (fr25 l y (sl1 m g false) (sl1 kb hb false) .nils j)) (lvE::H) =
 (fun (Z0:Nat×AV×Option Nat)=>((fun (Z1:Nat×AV×Option Nat)=>((fun (Z2:Lvl)=>((fun (Z3:List AV)=>Tr.ite (ltI j (Int.ofNat l)) (Tr.reqP ([AV.slcT none (Row.M [Seg.arr .i64 g m]) 1 m false]=[AV.slcT none (Row.M [Seg.arr .i64 g m]) 1 m false]) (Tr.reqP ([AV.slc 0 1 0 0 1 m none,AV.fn (Fn.func 69) [] [AV.ptr 0 0 0 0]]=[AV.slc 0 1 0 0 1 m none,AV.fn (Fn.func 69) [] [AV.ptr 0 0 0 0]]∧Z2::H=Z2::H) (Tr.req (eqN 0 0) (Tr.req (inO 0 p 0 m) (Tr.reqP (Z3=Z3) (Tr.ite (ltI (Int.ofNat 0) (Int.ofNat kb)) (Tr.req (roomO 0 1 8) (Tr.req (eqN 0 0) (Tr.req (leN 1 1) (Tr.ok (Ex.normal,[(4,AV.ptrT (some 0) (Row.G [slA 7 l y]) 0,none),Z1,Z0,(9,AV.slc 0 3 0 0 1 1 none,none),(31,AV.int .i64 (Int.ofNat l),none),(32,AV.int .i64 (addI .i64 j (Int.ofNat 1)),none)],{ lock:=false,bs:=[(0,Blk.row (Row.I .i64 [j])),(0,Blk.dead),(0,Blk.row (Row.I .i64 [j])),(0,Blk.row (Row.M [Seg.arr .i64 (lstO [j]) 1]))] } :: H))))) (Tr.ok (Ex.normal,[(4,AV.ptrT (some 0) (Row.G [slA 7 l y]) 0,none),Z1,Z0,(9,AV.nils,none),(31,AV.int .i64 (Int.ofNat l),none),(32,AV.int .i64 (addI .i64 j (Int.ofNat 1)),none)],{ lock:=false,bs:=[(0,Blk.row (Row.I .i64 [j])),(0,Blk.dead)] } :: H)))))))) (Tr.ok (Ex.exit 0,[(4,AV.ptrT (some 0) (Row.G [slA 7 l y]) 0,none),Z1,Z0,(9,AV.nils,none),(31,AV.int .i64 (Int.ofNat l),none),(32,AV.int .i64 j,none),(33,AV.bool false,some 1)],lvE::H))) [AV.ptrT (some 0) (Row.G [slA 7 l y]) 0,AV.slcT none (Row.M [Seg.arr .i64 (shO g2 0) p]) 1 p false])) { lock:=false,bs:=[(0,Blk.row (Row.I .i64 [j])),(0,Blk.row (Row.M [Seg.arr .i64 g m]))] })) (6,AV.slcT none (Row.M [Seg.arr .i64 g m]) 1 m false,none))) (7,AV.slcT none (Row.M [Seg.arr .i64 hb kb]) 1 kb false,none):=by kernel_rfl
theorem t25b (n l m p k kb v q:Nat) (y g g2 b a hb o:Nat→Int) (H:Heap) (j:Int):execT (cxD n 25 56) (il (ct25 1 2 m p g (lvd (v,.row (.M [.arr .i64 o q])) (0,.row (.I .i64 [j])) m g) (lvd (v,.row (.M [.arr .i64 o q])) (0,.row (.I .i64 [j])) m g2) H (g63 l p k y (shO g2 0) b a)) n 0) noBT noRT (part Tryz.f25 [1,1,1,1,1,1,0,1,0,0]) (hints (fr25 l y (sl1 m g false) (sl1 kb hb false) (.slc 0 0 v 0 1 q none) j)) (lvO v q o::H) =
 (fun (Z0:Lvl)=>((fun (Z1:Nat×AV×Option Nat)=>((fun (Z2:Nat×AV×Option Nat)=>((fun (Z3:List AV)=>Tr.ite (ltI j (Int.ofNat l)) (Tr.reqP ([AV.slcT none (Row.M [Seg.arr .i64 g m]) 1 m false]=[AV.slcT none (Row.M [Seg.arr .i64 g m]) 1 m false]) (Tr.reqP ([AV.slc 0 2 0 0 1 m none,AV.fn (Fn.func 69) [] [AV.ptr 0 1 0 0]]=[AV.slc 0 2 0 0 1 m none,AV.fn (Fn.func 69) [] [AV.ptr 0 1 0 0]]∧Z0::H=Z0::H) (Tr.req (eqN 0 0) (Tr.req (inO 0 p 0 m) (Tr.reqP (Z3=Z3) (Tr.ite (ltI (Int.ofNat k) (Int.ofNat kb)) (Tr.req (roomO q 1 8) (Tr.req (eqN 0 0) (Tr.req (leN 1 1) (Tr.req (eqN v v) (Tr.req (eqN (addO 0 q) q) (Tr.ok (Ex.normal,[(4,AV.ptrT (some 0) (Row.G [slA 7 l y]) 0,none),Z2,Z1,(9,AV.slc 0 0 (Nat.succ v) 0 1 (addO q 1) none,none),(31,AV.int .i64 (Int.ofNat l),none),(32,AV.int .i64 (addI .i64 j (Int.ofNat 1)),none)],{ lock:=false,bs:=[(Nat.succ v,Blk.row (Row.M [Seg.arr .i64 (appO (shO o 0) q (lstO [j])) (addO q 1)])),(0,Blk.row (Row.I .i64 [j])),(0,Blk.dead),(0,Blk.row (Row.I .i64 [j]))] } :: H))))))) (Tr.ok (Ex.normal,[(4,AV.ptrT (some 0) (Row.G [slA 7 l y]) 0,none),Z2,Z1,(9,AV.slc 0 0 v 0 1 q none,none),(31,AV.int .i64 (Int.ofNat l),none),(32,AV.int .i64 (addI .i64 j (Int.ofNat 1)),none)],{ lock:=false,bs:=[(v,Blk.row (Row.M [Seg.arr .i64 o q])),(0,Blk.row (Row.I .i64 [j])),(0,Blk.dead)] } :: H)))))))) (Tr.ok (Ex.exit 0,[(4,AV.ptrT (some 0) (Row.G [slA 7 l y]) 0,none),Z2,Z1,(9,AV.slc 0 0 v 0 1 q none,none),(31,AV.int .i64 (Int.ofNat l),none),(32,AV.int .i64 j,none),(33,AV.bool false,some 1)],{ lock:=false,bs:=[(v,Blk.row (Row.M [Seg.arr .i64 o q]))] } :: H))) [AV.ptrT (some 0) (Row.G [slA 7 l y]) 0,AV.slcT none (Row.M [Seg.arr .i64 (shO g2 0) p]) 1 p false])) (6,AV.slcT none (Row.M [Seg.arr .i64 g m]) 1 m false,none))) (7,AV.slcT none (Row.M [Seg.arr .i64 hb kb]) 1 kb false,none))) { lock:=false,bs:=[(v,Blk.row (Row.M [Seg.arr .i64 o q])),(0,Blk.row (Row.I .i64 [j])),(0,Blk.row (Row.M [Seg.arr .i64 g m]))] }:=by kernel_rfl
theorem u69c1 (n m:Nat) (g:Nat→Int) (H:Heap) (j x:Int):bodyT Tryz.prog (cd n) 100000 69 Tryz.f69 (KtB.kt 69) (il noCt n 0) noBT noRT [(.int .i64 x,none),(.ptr 1 0 0 0,none)] (lvE::lvc (0,.row (.I .i64 [j])) m g::H) =
 Tr.ok ((AV.bool (eqI x j),none),lvE::{ lock:=false,bs:=[(0,Blk.row (Row.I .i64 [j])),(0,Blk.row (Row.M [Seg.arr .i64 g m]))] } :: H):=by kernel_rfl
theorem u69c2 (n m:Nat) (g:Nat→Int) (H:Heap) (j x:Int):bodyT Tryz.prog (cd n) 100000 69 Tryz.f69 (KtB.kt 69) (il noCt n 0) noBT noRT [(.int .i64 x,none),(.ptr 2 0 0 0,none)] (lvE::lvE::lvc (0,.row (.I .i64 [j])) m g::H) =
 Tr.ok ((AV.bool (eqI x j),none),lvE::lvE::{ lock:=false,bs:=[(0,Blk.row (Row.I .i64 [j])),(0,Blk.row (Row.M [Seg.arr .i64 g m]))] } :: H):=by kernel_rfl
theorem u69d1 (n m:Nat) (b0:Nat×Blk) (g:Nat→Int) (H:Heap) (j x:Int):bodyT Tryz.prog (cd n) 100000 69 Tryz.f69 (KtB.kt 69) (il noCt n 0) noBT noRT [(.int .i64 x,none),(.ptr 1 1 0 0,none)] (lvE::lvd b0 (0,.row (.I .i64 [j])) m g::H) =
 Tr.ok ((AV.bool (eqI x j),none),lvE::{ lock:=false,bs:=[b0,(0,Blk.row (Row.I .i64 [j])),(0,Blk.row (Row.M [Seg.arr .i64 g m]))] } :: H):=by kernel_rfl
theorem u69d2 (n m:Nat) (b0:Nat×Blk) (g:Nat→Int) (H:Heap) (j x:Int):bodyT Tryz.prog (cd n) 100000 69 Tryz.f69 (KtB.kt 69) (il noCt n 0) noBT noRT [(.int .i64 x,none),(.ptr 2 1 0 0,none)] (lvE::lvE::lvd b0 (0,.row (.I .i64 [j])) m g::H) =
 Tr.ok ((AV.bool (eqI x j),none),lvE::lvE::{ lock:=false,bs:=[b0,(0,Blk.row (Row.I .i64 [j])),(0,Blk.row (Row.M [Seg.arr .i64 g m]))] } :: H):=by kernel_rfl
theorem u25x (n l:Nat) (z:Nat→Int) (H:Heap) (e:Int):bodyT Tryz.prog (cd n) 100000 25 Tryz.f25 (KtB.kt 25) (il (ctG noCt 62 (gO (slA 5 l z) (.tup [.nilp,.int .i64 e]))) n 0) (stopB noBT 0) noRT [(slA 5 l z,none)] H =
 Tr.reqP (slA 5 l z=slA 5 l z) (Tr.ite (notB (eqI e (Int.ofNat 0))) (Tr.ok ((AV.tup [AV.nils,AV.int .i64 e],none),H)) Tr.bad):=by kernel_rfl
theorem u25n (n l m k:Nat) (z y g b a:Nat→Int) (H:Heap):bodyT Tryz.prog (cd n) 100000 25 Tryz.f25 (KtB.kt 25) (il (ctG (ctG (ctG noCt 62 (gO (slA 5 l z) (.tup [.ptrT (some 0) (.G [slA 7 l y]) 0,.int .i64 0]))) 64 (gO (.ptrT (some 0) (.G [slA 7 l y]) 0) (sl1 m g false))) 63 (g63 l m k y g b a)) n 0) (blkE noBT 0 (fr25 l y (sl1 m g false) (sl1 k b false) .nils 0) (lvE::H) (.ok (.normal,hints (fr25 l y (sl1 m g false) (sl1 k b false) .nils (Int.ofNat l)++[(33,.bool false)]),lvE::H))) noRT [(slA 5 l z,none)] H =
 (fun (Z0:Frm)=>((fun (Z1:List AV)=>Tr.reqP (slA 5 l z=slA 5 l z) (Tr.ite (notB (eqI (Int.ofNat 0) (Int.ofNat 0))) (Tr.ok ((AV.tup [AV.nils,AV.int .i64 (Int.ofNat 0)],none),H)) (Tr.reqP (AV.ptrT (some 0) (Row.G [slA 7 l y]) 0=AV.ptrT (some 0) (Row.G [slA 7 l y]) 0) (Tr.reqP (Z1=Z1) (Tr.reqP (Z0=Z0∧lvE::H=lvE::H) (Tr.ok ((AV.tup [AV.nils,AV.int .i64 (Int.ofNat 0)],none),H))))))) [AV.ptrT (some 0) (Row.G [slA 7 l y]) 0,AV.slcT none (Row.M [Seg.arr .i64 g m]) 1 m false])) [(4,AV.ptrT (some 0) (Row.G [slA 7 l y]) 0),(6,AV.slcT none (Row.M [Seg.arr .i64 g m]) 1 m false),(7,AV.slcT none (Row.M [Seg.arr .i64 b k]) 1 k false),(9,AV.nils),(31,AV.int .i64 (Int.ofNat l)),(32,AV.int .i64 (Int.ofNat 0))]:=by kernel_rfl
theorem u25o (n l m k v q:Nat) (z y g b a o:Nat→Int) (H:Heap):bodyT Tryz.prog (cd n) 100000 25 Tryz.f25 (KtB.kt 25) (il (ctG (ctG (ctG noCt 62 (gO (slA 5 l z) (.tup [.ptrT (some 0) (.G [slA 7 l y]) 0,.int .i64 0]))) 64 (gO (.ptrT (some 0) (.G [slA 7 l y]) 0) (sl1 m g false))) 63 (g63 l m k y g b a)) n 0) (blkE noBT 0 (fr25 l y (sl1 m g false) (sl1 k b false) .nils 0) (lvE::H) (.ok (.normal,hints (fr25 l y (sl1 m g false) (sl1 k b false) (.slc 0 0 v 0 1 q none) (Int.ofNat l)++[(33,.bool false)]),lvO v q o::H))) noRT [(slA 5 l z,none)] H =
 (fun (Z0:Frm)=>((fun (Z1:List AV)=>Tr.reqP (slA 5 l z=slA 5 l z) (Tr.ite (notB (eqI (Int.ofNat 0) (Int.ofNat 0))) (Tr.ok ((AV.tup [AV.nils,AV.int .i64 (Int.ofNat 0)],none),H)) (Tr.reqP (AV.ptrT (some 0) (Row.G [slA 7 l y]) 0=AV.ptrT (some 0) (Row.G [slA 7 l y]) 0) (Tr.reqP (Z1=Z1) (Tr.reqP (Z0=Z0∧lvE::H=lvE::H) (Tr.req (eqN v v) (Tr.req (inO 0 q 0 q) (Tr.ok ((AV.tup [AV.slcT none (Row.M [Seg.arr .i64 (shO o 0) q]) 1 q false,AV.int .i64 (Int.ofNat 0)],none),H))))))))) [AV.ptrT (some 0) (Row.G [slA 7 l y]) 0,AV.slcT none (Row.M [Seg.arr .i64 g m]) 1 m false])) [(4,AV.ptrT (some 0) (Row.G [slA 7 l y]) 0),(6,AV.slcT none (Row.M [Seg.arr .i64 g m]) 1 m false),(7,AV.slcT none (Row.M [Seg.arr .i64 b k]) 1 k false),(9,AV.nils),(31,AV.int .i64 (Int.ofNat l)),(32,AV.int .i64 (Int.ofNat 0))]:=by kernel_rfl
theorem t25x (n l m kb:Nat) (y g hb:Nat→Int) (H:Heap) (j:Int):execT (cxD n 25 56) (il noCt n 0) noBT noRT (part Tryz.f25 [1,1,1,1,1,1,0,1,0,0]) (hints (fr25 l y (sl1 m g false) (sl1 kb hb false) .nils j)) (lvE::H) =
 Tr.ite (ltI j (Int.ofNat l)) Tr.bad (Tr.ok (Ex.exit 0,[(4,AV.ptrT (some 0) (Row.G [slA 7 l y]) 0,none),(6,AV.slcT none (Row.M [Seg.arr .i64 g m]) 1 m false,none),(7,AV.slcT none (Row.M [Seg.arr .i64 hb kb]) 1 kb false,none),(9,AV.nils,none),(31,AV.int .i64 (Int.ofNat l),none),(32,AV.int .i64 j,none),(33,AV.bool false,some 1)],lvE::H)):=by kernel_rfl
theorem t25y (n l m kb v q:Nat) (y g hb o:Nat→Int) (H:Heap) (j:Int):execT (cxD n 25 56) (il noCt n 0) noBT noRT (part Tryz.f25 [1,1,1,1,1,1,0,1,0,0]) (hints (fr25 l y (sl1 m g false) (sl1 kb hb false) (.slc 0 0 v 0 1 q none) j)) (lvO v q o::H) =
 Tr.ite (ltI j (Int.ofNat l)) Tr.bad (Tr.ok (Ex.exit 0,[(4,AV.ptrT (some 0) (Row.G [slA 7 l y]) 0,none),(6,AV.slcT none (Row.M [Seg.arr .i64 g m]) 1 m false,none),(7,AV.slcT none (Row.M [Seg.arr .i64 hb kb]) 1 kb false,none),(9,AV.slc 0 0 v 0 1 q none,none),(31,AV.int .i64 (Int.ofNat l),none),(32,AV.int .i64 j,none),(33,AV.bool false,some 1)],{ lock:=false,bs:=[(v,Blk.row (Row.M [Seg.arr .i64 o q]))] } :: H)):=by kernel_rfl
theorem b25:∀ b,(0,b) ∈ blocksOf (bodyOf Tryz.f25)→b=.loop (part Tryz.f25 [1,1,1,1,1,1,0,1,0,0]):=by
 have:((blocksOf (bodyOf Tryz.f25)).filter fun x=>Nat.beq x.1 0)=[(0,.loop (part Tryz.f25 [1,1,1,1,1,1,0,1,0,0]))]:=by kernel_rfl
 intro b hb
 have hm:(0,b) ∈ ((blocksOf (bodyOf Tryz.f25)).filter fun x=>Nat.beq x.1 0):=List.mem_filter.2 ⟨hb,rfl⟩
 rw[this] at hm;simpa using hm
end Go.Eng
end
section
namespace Go.Eng
open Go.Proofs
set_option linter.unusedVariables false
set_option linter.unusedSimpArgs false
set_option maxRecDepth 100000
def eqP (j x:Int):Bool:=decide (x=j)
section
variable (n:Nat) (m:Nat) (g:Nat→Int) (H:Heap) (j:Int) (hm:m≤1000)
include hm
theorem del25c:∃ g',cd (n+3) (.fn 67) [.slc 0 1 0 0 1 m none,.fn (.func 69) [] [.ptr 0 0 0 0]] (lvc (0,.row (.I .i64 [j])) m g::H)=some (.slc 0 1 0 0 1 (kpt (eqP j) g m).length none,lvc (0,.row (.I .i64 [j])) m g'::H)∧∀ x,x<(kpt (eqP j) g m).length→g' x=(kpt (eqP j) g m).getD x 0:=by
 refine c67c (n+1) (eqP j) (fun x C H'=>((C=[.ptr 1 0 0 0]∧∃ g,H'=lvE::lvc (0,.row (.I .i64 [j])) m g::H)∨(C=[.ptr 2 0 0 0]∧∃ g,H'=lvE::lvE::lvc (0,.row (.I .i64 [j])) m g::H))) _ m g H ?_ hm (fun j g' hj=>.inl ⟨rfl,g',rfl⟩) (fun j hj=>.inr ⟨rfl,g,rfl⟩)
 rintro k x C H' h
 have e:eqP j x=eqI x j:=by unfold eqP;rw[eqI_eq];rfl
 rw[show n+1+k=n+k+1 by omega,e]
 rcases h with ⟨rfl,g,rfl⟩ | ⟨rfl,g,rfl⟩
 · exact fn_all (n:=n+k) Tryz.func69 rfl rfl rfl (u69c1 (n+k) m g H j x) (il_no0 _) (noBT_ok _ _) (noRT_ok _ _) (Tr.all_ok ⟨rfl,rfl⟩)
 · exact fn_all (n:=n+k) Tryz.func69 rfl rfl rfl (u69c2 (n+k) m g H j x) (il_no0 _) (noBT_ok _ _) (noRT_ok _ _) (Tr.all_ok ⟨rfl,rfl⟩)
theorem del25d (b0:Nat×Blk):∃ g',cd (n+3) (.fn 67) [.slc 0 2 0 0 1 m none,.fn (.func 69) [] [.ptr 0 1 0 0]] (lvd b0 (0,.row (.I .i64 [j])) m g::H)=some (.slc 0 2 0 0 1 (kpt (eqP j) g m).length none,lvd b0 (0,.row (.I .i64 [j])) m g'::H)∧∀ x,x<(kpt (eqP j) g m).length→g' x=(kpt (eqP j) g m).getD x 0:=by
 refine c67d (n+1) (eqP j) (fun x C H'=>((C=[.ptr 1 1 0 0]∧∃ g,H'=lvE::lvd b0 (0,.row (.I .i64 [j])) m g::H)∨(C=[.ptr 2 1 0 0]∧∃ g,H'=lvE::lvE::lvd b0 (0,.row (.I .i64 [j])) m g::H))) _ _ m g H ?_ hm (fun j g' hj=>.inl ⟨rfl,g',rfl⟩) (fun j hj=>.inr ⟨rfl,g,rfl⟩)
 rintro k x C H' h
 have e:eqP j x=eqI x j:=by unfold eqP;rw[eqI_eq];rfl
 rw[show n+1+k=n+k+1 by omega,e]
 rcases h with ⟨rfl,g,rfl⟩ | ⟨rfl,g,rfl⟩
 · exact fn_all (n:=n+k) Tryz.func69 rfl rfl rfl (u69d1 (n+k) m b0 g H j x) (il_no0 _) (noBT_ok _ _) (noRT_ok _ _) (Tr.all_ok ⟨rfl,rfl⟩)
 · exact fn_all (n:=n+k) Tryz.func69 rfl rfl rfl (u69d2 (n+k) m b0 g H j x) (il_no0 _) (noBT_ok _ _) (noRT_ok _ _) (Tr.all_ok ⟨rfl,rfl⟩)
end
theorem dA_sl (L:List Int) (k:Nat) (h:L.length=k+1):dA L=sl1 (k+1) (lstO L) false:=by
 cases L with
 | nil=>simp at h
 | cons a r =>
   simp only[List.length_cons] at h
   have:r.length=k:=by omega
   subst this;rfl
theorem g63n_ok {l m:Nat} {k:Nat} {t:Ctr} {y g:Nat→Int} (ht:t.Ok (cd k)) (h:∀ H,cd k (.fn 63) [.ptrT (some 0) (.G [slA 7 l y]) 0,sl1 m g false] H=some (.tup [.nils,.nils],H)):(ctG t 63 (g63n l m y g)).Ok (cd k):=by
 refine ctG_ok ht (fun args p v hg hp H=>?_)
 unfold g63n at hg
 simp only[nP] at hg
 obtain ⟨rfl,rfl⟩:=hg
 rw[hp];exact h H
section
variable (n l:Nat) (z:Nat→Int) (m:Nat) (g:Nat→Int) (H:Heap) (j:Nat) (kb:Nat) (hb:Nat→Int) (hl:l≤14) (hm:1≤m∧m≤1000) (hg:∀ j,j<m→okE l z (g j)) (hj:j<l)
include hg in
theorem rest_ok:∀ x ∈ kpt (eqP j) g m,okE l z x:=fun x hx=>by
 obtain ⟨i,h1,h2,_⟩:=(kp_mem _ _ _ x).1 hx
 rw[← h2];exact hg i h1
include hl hm hg in
theorem rest63 (g2:Nat→Int) (h2:∀ x,x<(kpt (eqP j) g m).length→g2 x=(kpt (eqP j) g m).getD x 0) (H':Heap):cd (n+5) (.fn 63) [bookV l z,sl1 (kpt (eqP j) g m).length (shO g2 0) false] H'=some (.tup [dA ((fwP z (kpt (eqP j) g m)).map (·.1)),dA ((fwP z (kpt (eqP j) g m)).map (·.2))],H'):=by
 refine c63 n l z H' hl (kpt (eqP j) g m) (shO g2 0) ?_ (fun x hx=>by rw[shO_zero,h2 x hx];exact (lst_at _ _).symm) (rest_ok l z m g j hg)
 have:=kp_len (eqP j) g m
 omega
include hl hm hg hj in
theorem r25a (hne:kpt (eqP j) g m≠[]):∃ x,exec (cxD (n+5) 25 56) (part Tryz.f25 [1,1,1,1,1,1,0,1,0,0]) (fr25 l (oY z l) (sl1 m g false) (sl1 kb hb false) .nils (j:Int)) (lvE::H)=some x∧x.1=.normal∧tidy 0 x.2.1 x.2.2=(fr25 l (oY z l) (sl1 m g false) (sl1 kb hb false) (dW (if (fwP z (kpt (eqP j) g m)).length<kb then [(j:Int)] else [])) ((j+1:Nat):Int),dLw (if (fwP z (kpt (eqP j) g m)).length<kb then [(j:Int)] else [])::H):=by
 obtain ⟨g2,h1,h2⟩:=del25c (n+2) m g H j hm.2
 have h3:=rest63 n l z m g j hl hm hg g2 h2
 have hlen:=kp_len (eqP j) g m
 have hN:∃ k,(fwP z (kpt (eqP j) g m)).length=k+1:=by
  cases e:kpt (eqP j) g m with
  | nil=>exact absurd e hne
  | cons a r=>exact ⟨_,rfl⟩
 obtain ⟨k,hk⟩:=hN
 rw[dA_sl _ k (by rw[List.length_map,hk]),dA_sl _ k (by rw[List.length_map,hk])] at h3
 rw[hk]
 generalize lstO (List.map (fun x=>x.1) (fwP z (kpt (eqP j) g m)))=b at *
 generalize lstO (List.map (fun x=>x.2) (fwP z (kpt (eqP j) g m)))=a at *
 generalize (kpt (eqP j) g m).length=p at *
 have ej:addI .i64 (j:Int) (Int.ofNat 1)=((j+1:Nat):Int):=by rw[addI_eq,show Int.ofNat 1=1 from rfl];exact wr_64 (by omega) (by omega)
 refine ex_all (t25a (n+5) l m p (k+1) kb (oY z l) g g2 b a hb H (j:Int)) (il_ok0 _ (n+5) (ct63_ok (ctE_ok (ct68_ok (k:=n+4) hm.1 hm.2 (noCt_ok _)) (fun x hx=>by rw[← Tr.ok_some hx];exact h1)) (fun H=>h3 H))) (noBT_ok _ _) (noRT_ok _ _) ?_
 rw[ej]
 by_cases hc:k+1<kb
 · rw[if_pos hc]
   repeat' first | (refine Tr.all_ite (fun hc=>?_) (fun hc=>?_)<;>(try simp (disch:=omega) only[nV,nW] at hc)<;>try omega) | (refine Tr.all_req ?_ ?_;· (try simp (disch:=omega) only[nV,nW]);try omega) | (refine Tr.all_reqP ?_ ?_;· first | exact trivial | rfl | exact ⟨rfl,rfl⟩ | exact ⟨rfl,rfl,rfl⟩ | (simp (disch:=omega) only[nV,nW];done) | ((try simp (disch:=omega) only[nV,nW]);omega)) | fail
   all_goals first
    | exact Tr.all_ok ⟨rfl,by kernel_rfl⟩
    | fail
 · rw[if_neg hc]
   repeat' first | (refine Tr.all_ite (fun hc=>?_) (fun hc=>?_)<;>(try simp (disch:=omega) only[nV,nW] at hc)<;>try omega) | (refine Tr.all_req ?_ ?_;· (try simp (disch:=omega) only[nV,nW]);try omega) | (refine Tr.all_reqP ?_ ?_;· first | exact trivial | rfl | exact ⟨rfl,rfl⟩ | exact ⟨rfl,rfl,rfl⟩ | (simp (disch:=omega) only[nV,nW];done) | ((try simp (disch:=omega) only[nV,nW]);omega)) | fail
   all_goals first
    | exact Tr.all_ok ⟨rfl,by kernel_rfl⟩
    | fail
include hl hm hg hj in
theorem r25z (hne:kpt (eqP j) g m=[]):∃ x,exec (cxD (n+5) 25 56) (part Tryz.f25 [1,1,1,1,1,1,0,1,0,0]) (fr25 l (oY z l) (sl1 m g false) (sl1 kb hb false) .nils (j:Int)) (lvE::H)=some x∧x.1=.normal∧tidy 0 x.2.1 x.2.2=(fr25 l (oY z l) (sl1 m g false) (sl1 kb hb false) (dW (if (fwP z (kpt (eqP j) g m)).length<kb then [(j:Int)] else [])) ((j+1:Nat):Int),dLw (if (fwP z (kpt (eqP j) g m)).length<kb then [(j:Int)] else [])::H):=by
 obtain ⟨g2,h1,h2⟩:=del25c (n+2) m g H j hm.2
 have h3:=rest63 n l z m g j hl hm hg g2 h2
 rw[hne] at h1 h3
 rw[hne,show (fwP z []).length=0 from rfl]
 have ej:addI .i64 (j:Int) (Int.ofNat 1)=((j+1:Nat):Int):=by rw[addI_eq,show Int.ofNat 1=1 from rfl];exact wr_64 (by omega) (by omega)
 refine ex_all (t25z (n+5) l m 0 kb (oY z l) g g2 hb H (j:Int)) (il_ok0 _ (n+5) (g63n_ok (ctE_ok (ct68_ok (k:=n+4) hm.1 hm.2 (noCt_ok _)) (fun x hx=>by rw[← Tr.ok_some hx];exact h1)) (fun H=>h3 H))) (noBT_ok _ _) (noRT_ok _ _) ?_
 rw[ej]
 by_cases hc:0<kb
 · rw[if_pos hc]
   repeat' first | (refine Tr.all_ite (fun hc=>?_) (fun hc=>?_)<;>(try simp (disch:=omega) only[nV,nW] at hc)<;>try omega) | (refine Tr.all_req ?_ ?_;· (try simp (disch:=omega) only[nV,nW]);try omega) | (refine Tr.all_reqP ?_ ?_;· first | exact trivial | rfl | exact ⟨rfl,rfl⟩ | exact ⟨rfl,rfl,rfl⟩ | (simp (disch:=omega) only[nV,nW];done) | ((try simp (disch:=omega) only[nV,nW]);omega)) | fail
   all_goals first
    | exact Tr.all_ok ⟨rfl,by kernel_rfl⟩
    | fail
 · rw[if_neg hc]
   repeat' first | (refine Tr.all_ite (fun hc=>?_) (fun hc=>?_)<;>(try simp (disch:=omega) only[nV,nW] at hc)<;>try omega) | (refine Tr.all_req ?_ ?_;· (try simp (disch:=omega) only[nV,nW]);try omega) | (refine Tr.all_reqP ?_ ?_;· first | exact trivial | rfl | exact ⟨rfl,rfl⟩ | exact ⟨rfl,rfl,rfl⟩ | (simp (disch:=omega) only[nV,nW];done) | ((try simp (disch:=omega) only[nV,nW]);omega)) | fail
   all_goals first
    | exact Tr.all_ok ⟨rfl,by kernel_rfl⟩
    | fail
include hl hm hg hj in
theorem r25b (hne:kpt (eqP j) g m≠[]) (q:Nat) (hq:q≤1000) (D:List Int) (hD:D.length=q+1):∃ x,exec (cxD (n+5) 25 56) (part Tryz.f25 [1,1,1,1,1,1,0,1,0,0]) (fr25 l (oY z l) (sl1 m g false) (sl1 kb hb false) (.slc 0 0 q 0 1 (q+1) none) (j:Int)) (lvO q (q+1) (lstO D)::H)=some x∧x.1=.normal∧tidy 0 x.2.1 x.2.2=(fr25 l (oY z l) (sl1 m g false) (sl1 kb hb false) (if (fwP z (kpt (eqP j) g m)).length<kb then .slc 0 0 (q+1) 0 1 (q+2) none else .slc 0 0 q 0 1 (q+1) none) ((j+1:Nat):Int),(if (fwP z (kpt (eqP j) g m)).length<kb then lvO (q+1) (q+2) (lstO (D++[(j:Int)])) else lvO q (q+1) (lstO D))::H):=by
 obtain ⟨g2,h1,h2⟩:=del25d (n+2) m g H j hm.2 (q,.row (.M [.arr .i64 (lstO D) (q+1)]))
 have h3:=rest63 n l z m g j hl hm hg g2 h2
 have hlen:=kp_len (eqP j) g m
 have hN:∃ k,(fwP z (kpt (eqP j) g m)).length=k+1:=by
  cases e:kpt (eqP j) g m with
  | nil=>exact absurd e hne
  | cons a r=>exact ⟨_,rfl⟩
 obtain ⟨k,hk⟩:=hN
 rw[dA_sl _ k (by rw[List.length_map,hk]),dA_sl _ k (by rw[List.length_map,hk])] at h3
 rw[hk]
 generalize lstO (List.map (fun x=>x.1) (fwP z (kpt (eqP j) g m)))=b at *
 generalize lstO (List.map (fun x=>x.2) (fwP z (kpt (eqP j) g m)))=a at *
 generalize (kpt (eqP j) g m).length=p at *
 have ej:addI .i64 (j:Int) (Int.ofNat 1)=((j+1:Nat):Int):=by rw[addI_eq,show Int.ofNat 1=1 from rfl];exact wr_64 (by omega) (by omega)
 have a1:=lst_app D j
 rw[hD] at a1
 have a2:addO (q+1) 1=q+2:=by rw[addO_eq]
 refine ex_all (t25b (n+5) l m p (k+1) kb q (q+1) (oY z l) g g2 b a hb (lstO D) H (j:Int)) (il_ok0 _ (n+5) (ct63_ok (ctE_ok (ct68_ok (k:=n+4) hm.1 hm.2 (noCt_ok _)) (fun x hx=>by rw[← Tr.ok_some hx];exact h1)) (fun H=>h3 H))) (noBT_ok _ _) (noRT_ok _ _) ?_
 rw[ej,a1,a2]
 by_cases hc:k+1<kb
 · rw[if_pos hc,if_pos hc]
   repeat' first | (refine Tr.all_ite (fun hc=>?_) (fun hc=>?_)<;>(try simp (disch:=omega) only[nV,nW] at hc)<;>try omega) | (refine Tr.all_req ?_ ?_;· (try simp (disch:=omega) only[nV,nW]);try omega) | (refine Tr.all_reqP ?_ ?_;· first | exact trivial | rfl | exact ⟨rfl,rfl⟩ | exact ⟨rfl,rfl,rfl⟩ | (simp (disch:=omega) only[nV,nW];done) | ((try simp (disch:=omega) only[nV,nW]);omega)) | fail
   all_goals first
    | exact Tr.all_ok ⟨rfl,by kernel_rfl⟩
    | fail
 · rw[if_neg hc,if_neg hc]
   repeat' first | (refine Tr.all_ite (fun hc=>?_) (fun hc=>?_)<;>(try simp (disch:=omega) only[nV,nW] at hc)<;>try omega) | (refine Tr.all_req ?_ ?_;· (try simp (disch:=omega) only[nV,nW]);try omega) | (refine Tr.all_reqP ?_ ?_;· first | exact trivial | rfl | exact ⟨rfl,rfl⟩ | exact ⟨rfl,rfl,rfl⟩ | (simp (disch:=omega) only[nV,nW];done) | ((try simp (disch:=omega) only[nV,nW]);omega)) | fail
   all_goals first
    | exact Tr.all_ok ⟨rfl,by kernel_rfl⟩
    | fail
end
end Go.Eng
end
